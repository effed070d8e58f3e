/- Calls and operations told by the heap alone. No condition. -/
import Derived.Test.YtbfejkmnkkpkhaaHxA
import Derived.Laws.Slices
import Derived.Laws.Cells
namespace Go.Hx

abbrev Heap := Array Obj

def cellH (h : Heap) (a : Addr) : Option Value :=
  match h[a.block]? with
  | some (.cells c _ _) => if a.spot.isSome then none else c[a.off]?
  | _ => none

theorem cell_eq (w : World) (a : Addr) : w.cell? a = cellH w.heap a := rfl

/-- Two worlds that are alike but for the heap and the draws. -/
structure Same (w w' : World) : Prop where
  tape : w'.tape = w.tape
  os : w'.os = w.os
  output : w'.output = w.output
  drawn : w.drawn ≤ w'.drawn

theorem Same.refl (w : World) : Same w w := ⟨rfl, rfl, rfl, Nat.le_refl _⟩
theorem Same.trans {a b c : World} (h : Same a b) (k : Same b c) : Same a c :=
  ⟨k.tape.trans h.tape, k.os.trans h.os, k.output.trans h.output, Nat.le_trans h.drawn k.drawn⟩

/-- A call, told by the heap alone: it returns, and R holds of its value and of the heap behind it. -/
def CallsH (P : Program) (f : FuncId) (args : Array Value) (h : Heap) (R : Value → Heap → Prop) : Prop :=
  ∀ w : World, w.heap = h → Calls P f args w fun e w' => ∃ v, e = .returned v ∧ Same w w' ∧ R v w'.heap

theorem CallsH.mono {P : Program} {f : FuncId} {args : Array Value} {h : Heap} {R R' : Value → Heap → Prop}
    (hc : CallsH P f args h R) (hr : ∀ v h', R v h' → R' v h') : CallsH P f args h R' :=
  fun w hw => (hc w hw).mono fun _ _ ⟨v, he, hs, h⟩ => ⟨v, he, hs, hr _ _ h⟩

/-- What an operation comes to, told by the heap alone. -/
def EffH (P : Program) (e : Sem Next) (h : Heap) (K : Value → Heap → Prop) : Prop :=
  ∀ w : World, w.heap = h → match e.run P w with
    | .ok (.value v) w' => Same w w' ∧ K v w'.heap
    | .ok .skip w' => Same w w' ∧ K undef w'.heap
    | .ok (.enter f args) w' => Same w w' ∧ CallsH P f args w'.heap K
    | _ => False

/-- The same for a term of another type. -/
def SemH (P : Program) {α : Type} (e : Sem α) (h : Heap) (K : α → Heap → Prop) : Prop :=
  ∀ w : World, w.heap = h → ∃ v w', e.run P w = .ok v w' ∧ Same w w' ∧ K v w'.heap

section
variable {P : Program} {α β : Type} {h : Heap}

theorem SemH.ret {v : α} {K : α → Heap → Prop} (hk : K v h) : SemH P (Pure.pure v : Sem α) h K :=
  fun w hw => ⟨v, w, rfl, .refl _, hw ▸ hk⟩
theorem SemH.bind {e : Sem α} {f : α → Sem β} {K : β → Heap → Prop} (hk : SemH P e h fun v h' => SemH P (f v) h' K) : SemH P (e >>= f) h K := by
  intro w hw
  obtain ⟨v, w1, h1, s1, k1⟩ := hk w hw
  obtain ⟨u, w2, h2, s2, k2⟩ := k1 w1 rfl
  exact ⟨u, w2, by rw [Sem.run_bind, h1]; exact h2, s1.trans s2, k2⟩
theorem SemH.mono {e : Sem α} {K K' : α → Heap → Prop} (hk : SemH P e h K) (hr : ∀ v h', K v h' → K' v h') : SemH P e h K' :=
  fun w hw => let ⟨v, w', h1, s, k⟩ := hk w hw; ⟨v, w', h1, s, hr _ _ k⟩
/-- A term that looks at no world. -/
def PureS (P : Program) (e : Sem α) (v : α) : Prop := ∀ w, e.run P w = .ok v w
theorem PureS.ret (v : α) : PureS P (Pure.pure v : Sem α) v := fun _ => rfl
theorem PureS.bind {e : Sem α} {f : α → Sem β} {v : α} {u : β} (h1 : PureS P e v) (h2 : PureS P (f v) u) : PureS P (e >>= f) u :=
  fun w => by rw [Sem.run_bind, h1 w]; exact h2 w
theorem PureS.semH {e : Sem α} {v : α} (h1 : PureS P e v) {K : α → Heap → Prop} (hk : K v h) : SemH P e h K :=
  fun w hw => ⟨v, w, h1 w, .refl _, hw ▸ hk⟩
theorem PureS.underlying {t : TypeId} {d : TypeDesc} (ht : P.underlying t = some d) : PureS P (underlying t) d := fun w => run_underlying ht w
theorem PureS.typeInfo {t : TypeId} {i : TypeInfo} (ht : P.info? t = some i) : PureS P (typeInfo t) i := fun w => by
  unfold Go.typeInfo
  simp [ht]
theorem PureS.sizeOf {t : TypeId} {i : TypeInfo} (ht : P.info? t = some i) : PureS P (sizeOf t) i.size := fun w => by
  unfold Go.sizeOf
  simp [(PureS.typeInfo ht) w]
theorem PureS.zeroValue {t : TypeId} {i : TypeInfo} {z : Value} (ht : P.info? t = some i) (hz : i.zero = some z) : PureS P (zeroValue t) z := fun w => by
  unfold Go.zeroValue
  simp [(PureS.typeInfo ht) w, hz]
end

/-- A term of Next that is a value's. -/
theorem EffH.of_sem {P : Program} {e : Sem Value} {h : Heap} {K : Value → Heap → Prop} (hk : SemH P e h K) : EffH P (do pure (.value (← e))) h K := by
  intro w hw
  obtain ⟨v, w', h1, s, k⟩ := hk w hw
  simp [h1]
  exact ⟨s, k⟩
theorem EffH.of_unit {P : Program} {e : Sem Unit} {h : Heap} {K : Value → Heap → Prop} (hk : SemH P e h fun _ h' => K undef h') : EffH P (do e; pure .skip) h K := by
  intro w hw
  obtain ⟨v, w', h1, s, k⟩ := hk w hw
  simp [h1]
  exact ⟨s, k⟩

theorem EffH.mono {P : Program} {e : Sem Next} {h : Heap} {K K' : Value → Heap → Prop} (hk : EffH P e h K) (hr : ∀ v h', K v h' → K' v h') : EffH P e h K' := by
  intro w hw
  have h1 := hk w hw
  generalize e.run P w = r at *
  cases r with
  | ok n w' =>
    cases n <;> simp only at h1 ⊢
    case value v => exact ⟨h1.1, hr _ _ h1.2⟩
    case skip => exact ⟨h1.1, hr _ _ h1.2⟩
    case enter f args => exact ⟨h1.1, h1.2.mono hr⟩
  | halt x w' => exact h1

/-! ### What is known of a frame -/
abbrev SF := List (Nat × Value)
def SF.at : SF → Nat → Option Value
  | [], _ => none
  | (n, v) :: r, t => match n == t with
    | true => some v
    | false => SF.at r t
def SF.put (s : SF) (dst : Option Tmp) (v : Value) : SF :=
  match dst with
  | some d => (d, v) :: s
  | none => s
def SF.ev (s : SF) : Operand → Option Value
  | .tmp t => s.at t
  | .const v => some v
  | .global g => some (.pointer (some ⟨g, 0, none⟩))
  | .func f => some (.func (.func f) #[] #[])

structure Knows (N : Nat) (a : Act) (s : SF) : Prop where
  size : a.tmps.size = N
  defers : a.defers = []
  at_ : ∀ t v, s.at t = some v → a.tmps[t]? = some v

theorem Knows.ev {N : Nat} {a : Act} {s : SF} (hk : Knows N a s) {x : Operand} {v : Value} (h : s.ev x = some v) : a.eval x = v := by
  cases x with
  | tmp t =>
    have := hk.at_ t v h
    simp [Act.eval, this]
  | const u => simpa [SF.ev, Act.eval] using h
  | global g => simpa [SF.ev, Act.eval] using h
  | func f => simpa [SF.ev, Act.eval] using h

theorem Knows.put {N : Nat} {a : Act} {s : SF} (hk : Knows N a s) {dst : Option Tmp} (hd : ∀ d, dst = some d → d < N) (v : Value) : Knows N (a.put dst v) (s.put dst v) := by
  cases dst with
  | none => exact hk
  | some d =>
    have hlt : d < a.tmps.size := by rw [hk.size]; exact hd d rfl
    refine ⟨by simp [Act.put, hk.size], hk.defers, fun t u h => ?_⟩
    simp only [SF.put, SF.at] at h
    cases hdt : d == t with
    | true =>
      simp only [hdt] at h
      obtain rfl := Option.some.inj h
      obtain rfl : d = t := by simpa using hdt
      simp [Act.put, hlt]
    | false =>
      simp only [hdt] at h
      have hne : d ≠ t := by simpa using hdt
      simp only [Act.put]
      rw [Array.getElem?_setIfInBounds_ne hne]
      exact hk.at_ t u h

/-- Less is known. -/
theorem Knows.less {N : Nat} {a : Act} {s s' : SF} (hk : Knows N a s) (h : ∀ t v, s'.at t = some v → s.at t = some v) : Knows N a s' :=
  ⟨hk.size, hk.defers, fun t v h' => hk.at_ t v (h t v h')⟩

/-! ### Operands by their kinds -/
def get (s : SF) (x : Operand) (K : Value → Prop) : Prop := match s.ev x with | some v => K v | none => False
def getI (k : IntKind) (s : SF) (x : Operand) (K : Int → Prop) : Prop :=
  match s.ev x with | some (.int k' n) => (match k' == k with | true => K n | false => False) | _ => False
def getZ (s : SF) (x : Operand) (K : Int → Prop) : Prop := match s.ev x with | some (.int _ n) => K n | _ => False
def getB (s : SF) (x : Operand) (K : Bool → Prop) : Prop := match s.ev x with | some (.bool n) => K n | _ => False
def getS (s : SF) (x : Operand) (K : ByteArray → Prop) : Prop := match s.ev x with | some (.string n) => K n | _ => False
def getSl (s : SF) (x : Operand) (K : Option Addr → Nat → Nat → Prop) : Prop := match s.ev x with | some (.slice a n c) => K a n c | _ => False
def getP (s : SF) (x : Operand) (K : Option Addr → Prop) : Prop := match s.ev x with | some (.pointer a) => K a | _ => False
def getM (s : SF) (x : Operand) (K : Option Nat → Prop) : Prop := match s.ev x with | some (.map a) => K a | _ => False
def getA (s : SF) (x : Operand) (K : Array Value → Prop) : Prop := match s.ev x with | some (.agg a) => K a | _ => False
def getT (s : SF) (x : Operand) (K : Array Value → Prop) : Prop := match s.ev x with | some (.tuple a) => K a | _ => False
def getAll (s : SF) (xs : List Operand) (K : List Value → Prop) : Prop :=
  match xs with
  | [] => K []
  | x :: r => get s x fun v => getAll s r fun vs => K (v :: vs)

/-- At a pointer that is not nil. -/
def AtP (p : Option Addr) (K : Addr → Prop) : Prop := match p with | some a => K a | none => False
theorem AtP.mk {p : Option Addr} {K : Addr → Prop} {a : Addr} (h : p = some a) (hk : K a) : AtP p K := by subst h; exact hk
/-- By a Bool. -/
def BIf (b : Bool) (A B : Prop) : Prop := match b with | true => A | false => B
theorem BIf.mk {b : Bool} {A B : Prop} (h1 : b = true → A) (h2 : b = false → B) : BIf b A B := by cases b; exact h2 rfl; exact h1 rfl
/-- By a test. -/
abbrev PIf (p : Prop) (A B : Prop) : Prop := (p → A) ∧ (¬ p → B)

/-! ### The kinds of values -/
inductive Shp where
  | int (k : IntKind) | bool | str | slice | ptr | map | any
def ExV (s : Shp) (K : Value → Prop) : Prop :=
  match s with
  | .int k => ∃ n : Int, K (.int k n)
  | .bool => ∃ b : Bool, K (.bool b)
  | .str => ∃ b : ByteArray, K (.string b)
  | .slice => ∃ (a : Option Addr) (n c : Nat), K (.slice a n c)
  | .ptr => ∃ a : Option Addr, K (.pointer a)
  | .map => ∃ a : Option Nat, K (.map a)
  | .any => ∃ v : Value, K v
theorem ExV.out {s : Shp} {K : Value → Prop} (h : ExV s K) : ∃ v, K v := by
  cases s <;> simp only [ExV] at h
  case slice => obtain ⟨a, n, c, h⟩ := h; exact ⟨_, h⟩
  all_goals (obtain ⟨n, h⟩ := h; exact ⟨_, h⟩)
def ExVs (l : List Shp) (K : List Value → Prop) : Prop :=
  match l with
  | [] => K []
  | s :: r => ExV s fun v => ExVs r fun vs => K (v :: vs)
theorem ExVs.out {l : List Shp} : ∀ {K : List Value → Prop}, ExVs l K → ∃ v, K v := by
  induction l with
  | nil => intro K h; exact ⟨_, h⟩
  | cons s r ih => intro K h; obtain ⟨v, h⟩ := ExV.out (show ExV s _ from h); obtain ⟨vs, h⟩ := ih h; exact ⟨_, h⟩
/-- A type's values: one cell, or several. -/
inductive TShp where
  | one (s : Shp) | agg (l : List Shp)
def ExT (s : TShp) (K : Value → Prop) : Prop :=
  match s with
  | .one s => ExV s K
  | .agg l => ExVs l fun vs => K (.agg vs.toArray)
theorem ExT.out {s : TShp} {K : Value → Prop} (h : ExT s K) : ∃ v, K v := by
  cases s with
  | one s => exact ExV.out h
  | agg l => obtain ⟨vs, h⟩ := ExVs.out h; exact ⟨_, h⟩
def ExTs (l : List TShp) (K : List Value → Prop) : Prop :=
  match l with
  | [] => K []
  | s :: r => ExT s fun v => ExTs r fun vs => K (v :: vs)
theorem ExTs.out {l : List TShp} : ∀ {K : List Value → Prop}, ExTs l K → ∃ v, K v := by
  induction l with
  | nil => intro K h; exact ⟨_, h⟩
  | cons s r ih => intro K h; obtain ⟨v, h⟩ := ExT.out (show ExT s _ from h); obtain ⟨vs, h⟩ := ih h; exact ⟨_, h⟩
/-- A result's. -/
inductive RShp where
  | val (s : TShp) | tup (l : List TShp)
def ExR (s : RShp) (K : Value → Prop) : Prop :=
  match s with
  | .val s => ExT s K
  | .tup l => ExTs l fun vs => K (.tuple vs.toArray)
theorem ExR.out {s : RShp} {K : Value → Prop} (h : ExR s K) : ∃ v, K v := by
  cases s with
  | val s => exact ExT.out h
  | tup l => obtain ⟨vs, h⟩ := ExTs.out h; exact ⟨_, h⟩

def shpOf : Value → Shp
  | .int k _ => .int k
  | .bool _ => .bool
  | .string _ => .str
  | .slice _ _ _ => .slice
  | .pointer _ => .ptr
  | .map _ => .map
  | _ => .any
def tshpOf : Value → TShp
  | .agg l => .agg (l.toList.map shpOf)
  | v => .one (shpOf v)
def rshpOf : Value → RShp
  | .tuple l => .tup (l.toList.map tshpOf)
  | v => .val (tshpOf v)

/-- Loops' states. -/
abbrev Shp.den : Shp → Type
  | .int _ => Int
  | .bool => Bool
  | .str => ByteArray
  | .slice => Option Addr × Nat × Nat
  | .ptr => Option Addr
  | .map => Option Nat
  | .any => Value
def Shp.val : (s : Shp) → s.den → Value
  | .int k, n => .int k n
  | .bool, b => .bool b
  | .str, b => .string b
  | .slice, x => .slice x.1 x.2.1 x.2.2
  | .ptr, a => .pointer a
  | .map, a => .map a
  | .any, v => v
def Shp.get : (s : Shp) → Value → Option s.den
  | .int k, .int k' n => match k' == k with | true => some n | false => none
  | .bool, .bool b => some b
  | .str, .string b => some b
  | .slice, .slice a n c => some (a, n, c)
  | .ptr, .pointer a => some a
  | .map, .map a => some a
  | .any, v => some v
  | _, _ => none
theorem Shp.get_val {s : Shp} {v : Value} {x : s.den} (h : s.get v = some x) : s.val x = v := by
  cases s <;> cases v <;> simp [Shp.get] at h <;> (try subst h) <;> (try rfl)
  rename_i k k' n
  cases hk : k' == k with
  | false => simp [hk] at h
  | true =>
    simp only [hk, Option.some.injEq] at h
    obtain rfl : k' = k := by simpa using hk
    subst h
    rfl
abbrev Den : List Shp → Type
  | [] => Unit
  | [s] => s.den
  | s :: t :: r => s.den × Den (t :: r)
def vals : (l : List Shp) → Den l → List Value
  | [], _ => []
  | [s], x => [s.val x]
  | s :: t :: r, x => s.val x.1 :: vals (t :: r) x.2
def gets : (l : List Shp) → List Value → Option (Den l)
  | [], [] => some ()
  | [s], [v] => s.get v
  | s :: t :: r, v :: vs => match s.get v, gets (t :: r) vs with
    | some x, some y => some (x, y)
    | _, _ => none
  | _, _ => none
theorem gets_vals : ∀ {l : List Shp} {vs : List Value} {x : Den l}, gets l vs = some x → vals l x = vs
  | [], [], _, _ => rfl
  | [s], [v], x, h => by
    have := Shp.get_val (s := s) (v := v) (x := x) h
    simp [vals, this]
  | s :: t :: r, v :: vs, x, h => by
    simp only [gets] at h
    cases h1 : s.get v with
    | none => simp [h1] at h
    | some y =>
      cases h2 : gets (t :: r) vs with
      | none => simp [h1, h2] at h
      | some z =>
        simp only [h1, h2, Option.some.injEq] at h
        subst h
        simp only [vals]
        rw [Shp.get_val h1, gets_vals h2]
  | [], _ :: _, _, h => by simp [gets] at h
  | [_], [], _, h => by simp [gets] at h
  | [_], _ :: _ :: _, _, h => by simp [gets] at h
  | _ :: _ :: _, [], _, h => by simp [gets] at h
end Go.Hx
