/- Words and facts that the claim's proof leans on. No condition. -/
import Derived.Test.YtdpbdjdgdmheiaaGreatCR
set_option linter.unusedVariables false
set_option linter.unusedSimpArgs false
namespace Go.Proofs.YtdpbdjdgdmheiaaGreat
open Go.Hx
def gate1 (C:Circ) (x y:Int):Circ:={ C with mx:=C.mx+1,ands:=C.ands++[⟨2*(C.mx+1),max x y,min x y⟩] }
structure Bx (h0 h:Heap) (k:Addr) (v:CV) (C:Circ) (rows:List Rw):Prop where
 mx:v.mx=C.mx
 just:rows.map Rw.l=C.just
 mem:Mem h0 h (⟨1,some k,11,11,v.cs⟩::itemsC v C rows)
theorem Bx.box {h0 h:Heap} {k:Addr} {v:CV} {C:Circ} {rows:List Rw} (b:Bx h0 h k v C rows):Fr h0 1 h (some k) 11 11 v.cs:=b.mem.get 0 rfl
theorem Bx.ext {h0 h h':Heap} {k:Addr} {v:CV} {C:Circ} {rows:List Rw} (b:Bx h0 h k v C rows) (u:Ext h h'):Bx h0 h' k v C rows:=⟨b.mx,b.just,b.mem.ext' u⟩
theorem Bx.fld {h0 h:Heap} {k:Addr} {v:CV} {C:Circ} {rows:List Rw} (b:Bx h0 h k v C rows) (i:Nat) {x:Value} (hx:v.cs[i]?=some x):cellH h ((k.add 0).add i)=some x:=by rw [add0_add];exact b.box.rd.fld i hx
theorem Bx.st {h0 h:Heap} {k:Addr} {v:CV} {C:Circ} {rows:List Rw} (b:Bx h0 h k v C rows) (i:Nat) (hi:i<11) {x:Value} (h1:x.oneCell'=true) {K:Heap->Prop} (hK:∀ h',Mem h0 h' (⟨1,some k,11,11,v.cs.set i x⟩::itemsC v C rows)->Upd (fun b=>b=k.block) h h'->K h') :
  StoreH h ((k.add 0).add i) [x] K:=by
 rw [add0_add]
 exact b.box.cellAt i hi h1 fun h' u f=>hK h' (b.mem.setAt 0 (t':=⟨1,some k,11,11,_⟩) rfl f u (.inl rfl)) (u.mono fun b _ ⟨ad,ha,e⟩=>by cases ha;exact e)
end Go.Proofs.YtdpbdjdgdmheiaaGreat
namespace Go.Proofs.YtdpbdjdgdmheiaaGreat
open Go.Hx
theorem Sy.one1 (s:Sy):∀ v∈s.cs,v.oneCell'=true:=by simp [Sy.cs,Value.oneCell']
end Go.Proofs.YtdpbdjdgdmheiaaGreat
