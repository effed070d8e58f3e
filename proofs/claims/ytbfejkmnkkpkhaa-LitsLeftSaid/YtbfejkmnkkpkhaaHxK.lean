/- Words and facts that the claim's proof leans on. No condition. -/
import Derived.Test.YtbfejkmnkkpkhaaHxJ
namespace Go.Hx

/-! ### Words of the printed conditions -/
def AppS (h : Heap) (a : Option Addr) (n c : Nat) (e : TypeId) (bytes sz : Nat) (z : Array Value) (ys : List Value) (m : Nat) (K : Option Addr → Nat → Nat → Heap → Prop) : Prop :=
  (n + m ≤ c → match a with
    | none => K none (n + m) c h
    | some ad => StoreH h (ad.add (n * sz)) ys fun h' => K (some ad) (n + m) c h') ∧
  (c < n + m → (n + m) * bytes ≤ 140737488355328 ∧ ∃ xs, ReadL h a xs ∧ xs.length = n * sz ∧
    ∀ cap, n + m ≤ cap → K (some ⟨h.size, 0, none⟩) (n + m) cap (h.push (.cells (xs ++ ys ++ zeroRow z ((cap - (n + m)) * sz)).toArray e)))
def CpyH (h : Heap) (a : Option Addr) (ys : List Value) (K : Heap → Prop) : Prop :=
  match a with
  | none => K h
  | some ad => StoreH h ad ys K
theorem CpyH.some {h : Heap} {ad : Addr} {ys : List Value} {K : Heap → Prop} (hs : StoreH h ad ys K) : CpyH h (some ad) ys K := hs
def CallV (P : Program) (f : Value) (vs : List Value) (h : Heap) (K : Value → Heap → Prop) : Prop :=
  match f with
  | .func (.func g) first cap => callOkP P g ∧ CallsH P g (first ++ vs.toArray ++ cap) h K
  | _ => False
def MapLook (d : TypeDesc) (kv : Value) (h : Heap) (r n0 : Option Nat) (A : Prop) (B : Value → Prop) : Prop :=
  match r with
  | none => A
  | some b => oldC n0 b (∃ es clock, h[b]? = some (.map es clock) ∧ ∃ r, Instr.findNow d kv es.toList 0 = some r ∧ (match r with
    | none => A
    | some (_, u) => B u))
def MapPut (d : TypeDesc) (kv u : Value) (h : Heap) (r : Option Nat) (K : Heap → Prop) : Prop :=
  match r with
  | none => False
  | some b => ∃ es clock, h[b]? = some (.map es clock) ∧ ∃ r, Instr.findNow d kv es.toList 0 = some r ∧ (match r with
    | none => K (h.setIfInBounds b (.map (es.push { key := kv, val := u, born := clock }) (clock + 1)))
    | some (j, _) => Instr.sameBits 10000 (((es[j]?).map (·.key)).getD kv) kv = true ∧ K (h.setIfInBounds b (.map (es.modify j fun e => { e with key := kv, val := u }) clock)))
def MapRange (h : Heap) (r : Option Nat) (K : Heap → Prop) : Prop :=
  match r with
  | none => K (h.push (.mapIter none 0 #[] 0))
  | some b => ∃ es clock, h[b]? = some (.map es clock) ∧ K (h.push (.mapIter (some b) clock #[] clock))
end Go.Hx
