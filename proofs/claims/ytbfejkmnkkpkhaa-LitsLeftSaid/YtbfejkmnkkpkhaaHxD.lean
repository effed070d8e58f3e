/- Code with its types looked up. No condition. -/
import Derived.Test.YtbfejkmnkkpkhaaHxC
namespace Go.Hx

structure SOper where
  dst : Option Nat
  op : SOp
  guard : Option (Nat × Bool)

inductive SCode where
  | skip
  | seq (a b : SCode)
  | region (x : Bool) (l : List SOper)
  | cond (c : Operand) (a b : SCode)
  | block (id : Nat) (c : SCode)
  | loop (live : List (Nat × Shp)) (wr : List Nat) (c : SCode)
  | exit (id : Nat)
  | ret

def clsP (P : Program) (x : Bool) (o : Oper) : Cls := match cop P o with | some s => s.cls x | none => .eff
/-- In which way a region is taken: none: not at all. -/
def modeOf (P : Program) (ops : Array Oper) (draw : Bool) : Option Bool :=
  match draw with
  | false => some false
  | true => match orderOk (clsP P false) ops (Region.before ops).toList, orderOk (clsP P true) ops (Region.before ops).toList with
    | true, _ => some false
    | false, true => some true
    | false, false => none

/-- The shape of what is taken out of a tuple. -/
def takenT (P : Program) (d i : Nat) : List Oper → TShp
  | [] => .one .any
  | o :: r => match o.op with
    | .extract (.tmp t) j => match t == d && j == i, zeroOf P o.type with
      | true, some z => tshpOf z
      | _, _ => takenT P d i r
    | _ => takenT P d i r
/-- An entry's key and element, in the shapes in which they are taken. -/
def retype (P : Program) (ops : Array Oper) (dst : Option Nat) (s : SOp) : SOp :=
  match s, dst with
  | .mentry (.one .any) (.one .any) it, some d => .mentry (takenT P d 0 ops.toList) (takenT P d 1 ops.toList) it
  | s, _ => s

def compOp (P : Program) (N : Nat) (ops : Array Oper) (o : Oper) : Option SOper :=
  match cop P o, (match o.dst with | some d => decide (d < N) | none => true) with
  | some s, true => match o.guard with
    | none => some ⟨o.dst, retype P ops o.dst s, none⟩
    | some (g, b) => match (ops[g]?).bind (·.dst) with
      | some t => some ⟨o.dst, retype P ops o.dst s, some (t, b)⟩
      | none => none
  | _, _ => none

def compOps (P : Program) (N : Nat) (ops : Array Oper) : List Oper → Option (List SOper)
  | [] => some []
  | o :: r => match compOp P N ops o, compOps P N ops r with
    | some x, some l => some (x :: l)
    | _, _ => none

def dsts : Code → List Nat
  | .seq a b => dsts a ++ dsts b
  | .region _ ops _ => ops.toList.filterMap (·.dst)
  | .cond _ a b => dsts a ++ dsts b
  | .block _ c => dsts c
  | .loop c => dsts c
  | .scope c => dsts c
  | _ => []

/-- The code with its types looked up; 'L': of each loop (in the text's order) what is told of its frame at its head. -/
def comp (P : Program) (N : Nat) : Code → List (List (Nat × Shp)) → Option (SCode × List (List (Nat × Shp)))
  | .skip, L => some (.skip, L)
  | .seq a b, L => match comp P N a L with
    | some (x, L) => match comp P N b L with
      | some (y, L) => some (.seq x y, L)
      | none => none
    | none => none
  | .region _ ops draw, L => match modeOf P ops draw, compOps P N ops ops.toList with
    | some x, some l => some (.region x l, L)
    | _, _ => none
  | .cond c a b, L => match comp P N a L with
    | some (x, L) => match comp P N b L with
      | some (y, L) => some (.cond c x y, L)
      | none => none
    | none => none
  | .block id c, L => match comp P N c L with
    | some (x, L) => some (.block id x, L)
    | none => none
  | .loop c, live :: L => match comp P N c L with
    | some (x, L) => some (.loop live (dsts c) x, L)
    | none => none
  | .exit id, L => some (.exit id, L)
  | .ret, L => some (.ret, L)
  | _, _ => none

end Go.Hx
