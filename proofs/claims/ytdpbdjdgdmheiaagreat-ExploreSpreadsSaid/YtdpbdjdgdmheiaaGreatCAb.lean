/- Words and facts that the claim's proof leans on. No condition. -/
import Derived.Test.YtdpbdjdgdmheiaaGreatHxV
import Derived.Test.YtdpbdjdgdmheiaaGreatChecked
set_option maxRecDepth 100000
set_option linter.unusedVariables false
namespace Go.Proofs.YtdpbdjdgdmheiaaGreat
open Go.Hx
def loops8:List (List (Nat×Shp)):=[]
noncomputable def code8:SCode:=((compF Tryz.prog Tryz.f8 loops8).elim .skip fun x=>x.2.2)
def ret8:List RV:=[.cellN 2 [.int .i64,.slice,.slice,.slice,.slice,.slice,.slice,.slice,.slice,.slice,.slice]]
theorem comp8:compF Tryz.prog Tryz.f8 loops8=some (47,ret8,code8):=by kernel_rfl
def VC8 (P:Program) (c:CV) (R:Value->Heap->Prop) (h:Heap):Prop:=
 let h_:Heap:=(h).push (.cells (Value.cells c.v) 29);let h_1:Heap:=(h_).push (.cells CV.zero.cs.toArray 29);LdC h_1 ⟨h.size,0,none⟩ fun t=>CallsH P 40 #[t.v] h_1 fun v h_2=>
 ExCi fun t1=>v=t1.v/\let h_3:Heap:=(h_2).push (.cells CV.zero.cs.toArray 29);StoreH h_3 ⟨h_2.size,0,none⟩ t1.cs fun h_4=>(Addr.block (Addr.add ⟨h.size,0,none⟩ 1))<(h_4).size/\∃ (A20:Option Addr) (N20 C20:Nat),cellH h_4 (Addr.add ⟨h.size,0,none⟩ 1)=some (.slice A20 N20 C20)/\CallsH P 9 #[.slice A20 N20 C20] h_4 fun v1 h_5=>
 ∃ (A21:Option Addr) (N21 C21:Nat),v1=(.slice A21 N21 C21)/\AgreeH (h_4).size h_4 h_5/\(Addr.block (Addr.add ⟨h.size,0,none⟩ 3))<(h_4).size/\∃ (A22:Option Addr) (N22 C22:Nat),cellH h_5 (Addr.add ⟨h.size,0,none⟩ 3)=some (.slice A22 N22 C22)/\CallsH P 9 #[.slice A22 N22 C22] h_5 fun v2 h_6=>
 ∃ (A23:Option Addr) (N23 C23:Nat),v2=(.slice A23 N23 C23)/\AgreeH (h_4).size h_5 h_6/\(Addr.block (Addr.add ⟨h.size,0,none⟩ 4))<(h_4).size/\∃ (A24:Option Addr) (N24 C24:Nat),cellH h_6 (Addr.add ⟨h.size,0,none⟩ 4)=some (.slice A24 N24 C24)/\CallsH P 9 #[.slice A24 N24 C24] h_6 fun v3 h_7=>
 ∃ (A25:Option Addr) (N25 C25:Nat),v3=(.slice A25 N25 C25)/\AgreeH (h_4).size h_6 h_7/\StoreH h_7 (Addr.add ⟨h_2.size,0,none⟩ 1) [.slice A21 N21 C21] fun h_8=>StoreH h_8 (Addr.add ⟨h_2.size,0,none⟩ 3) [.slice A23 N23 C23] fun h_9=>StoreH h_9 (Addr.add ⟨h_2.size,0,none⟩ 4) [.slice A25 N25 C25] fun h_10=>(Addr.block (Addr.add ⟨h.size,0,none⟩ 5))<(h_10).size/\∃ (A26:Option Addr) (N26 C26:Nat),cellH h_10 (Addr.add ⟨h.size,0,none⟩ 5)=some (.slice A26 N26 C26)/\CallsH P 9 #[.slice A26 N26 C26] h_10 fun v4 h_11=>
 ∃ (A27:Option Addr) (N27 C27:Nat),v4=(.slice A27 N27 C27)/\AgreeH (h_10).size h_10 h_11/\(Addr.block (Addr.add ⟨h.size,0,none⟩ 7))<(h_10).size/\∃ (A28:Option Addr) (N28 C28:Nat),cellH h_11 (Addr.add ⟨h.size,0,none⟩ 7)=some (.slice A28 N28 C28)/\CallsH P 9 #[.slice A28 N28 C28] h_11 fun v5 h_12=>
 ∃ (A29:Option Addr) (N29 C29:Nat),v5=(.slice A29 N29 C29)/\AgreeH (h_10).size h_11 h_12/\StoreH h_12 (Addr.add ⟨h_2.size,0,none⟩ 5) [.slice A27 N27 C27] fun h_13=>StoreH h_13 (Addr.add ⟨h_2.size,0,none⟩ 7) [.slice A29 N29 C29] fun h_14=>∃ zn:Zone,Zone.hasL zn h_14 (Addr.add ⟨h_2.size,0,none⟩ 2)/\∃ (A30:Option Addr) (N30 C30:Nat),cellH h_14 (Addr.add ⟨h_2.size,0,none⟩ 2)=some (.slice A30 N30 C30)/\let h_15:Heap:=(h_14).push (.cells #[(.int .i64 (-77)),.int .i64 0,.int .i64 0] 65);Zone.r zn h_14 h_15/\∃ ys:List Value,ReadL h_15 (some ⟨h_14.size,0,none⟩) ys/\ys.length=1*3/\AppS h_15 A30 N30 C30 65 24 3 #[.int .i64 0,.int .i64 0,.int .i64 0] ys 1 fun apA apN apC h_16=>Zone.r zn h_15 h_16/\Zone.hasL zn h_16 (Addr.add ⟨h.size,0,none⟩ 2)/\∃ (A31:Option Addr) (N31 C31:Nat),cellH h_16 (Addr.add ⟨h.size,0,none⟩ 2)=some (.slice A31 N31 C31)/\0≤(0:Int)/\(0:Int)≤((N31:Nat):Int)/\(((N31:Nat):Int):Int)≤(apC:Nat)/\StoreH h_16 (Addr.add ⟨h_2.size,0,none⟩ 2) [(.slice (cutA 3 apA apC (Int.toNat 0)) (Int.toNat ((N31:Nat):Int)-Int.toNat 0) (apC-Int.toNat 0))] fun h_17=>∃ zn1:Zone,Zone.hasL zn1 h_17 (Addr.add ⟨h_2.size,0,none⟩ 8)/\∃ (A32:Option Addr) (N32 C32:Nat),cellH h_17 (Addr.add ⟨h_2.size,0,none⟩ 8)=some (.slice A32 N32 C32)/\let h_18:Heap:=(h_17).push (.cells #[(.int .i64 (-77)),.int .i64 0,.int .i64 0] 67);Zone.r zn1 h_17 h_18/\∃ ys1:List Value,ReadL h_18 (some ⟨h_17.size,0,none⟩) ys1/\ys1.length=1*3/\AppS h_18 A32 N32 C32 67 24 3 #[.int .i64 0,.int .i64 0,.int .i64 0] ys1 1 fun apA1 apN1 apC1 h_19=>Zone.r zn1 h_18 h_19/\Zone.hasL zn1 h_19 (Addr.add ⟨h.size,0,none⟩ 8)/\∃ (A33:Option Addr) (N33 C33:Nat),cellH h_19 (Addr.add ⟨h.size,0,none⟩ 8)=some (.slice A33 N33 C33)/\0≤(0:Int)/\(0:Int)≤((N33:Nat):Int)/\(((N33:Nat):Int):Int)≤(apC1:Nat)/\StoreH h_19 (Addr.add ⟨h_2.size,0,none⟩ 8) [(.slice (cutA 3 apA1 apC1 (Int.toNat 0)) (Int.toNat ((N33:Nat):Int)-Int.toNat 0) (apC1-Int.toNat 0))] fun h_20=>LdC h_20 ⟨h_2.size,0,none⟩ fun t2=>StoreH h_20 ⟨h_.size,0,none⟩ t2.cs fun h_21=>LdC h_21 ⟨h_.size,0,none⟩ fun t3=>R t3.v h_21
theorem run8 (c:CV) (R:Value->Heap->Prop) (h:Heap) (hv:VC8 Tryz.prog c R h):CallsH Tryz.prog 8 #[c.v] h R:=calls_of_fnC (Checked.mixed Tryz.checked) Tryz.func8 comp8 (Nat.le_of_ble_eq_true rfl) (Eq.mp (by kernel_rfl) hv)
def loops12:List (List (Nat×Shp)):=[]
noncomputable def code12:SCode:=((compF Tryz.prog Tryz.f12 loops12).elim .skip fun x=>x.2.2)
def ret12:List RV:=[.tmp 4]
theorem comp12:compF Tryz.prog Tryz.f12 loops12=some (77,ret12,code12):=by kernel_rfl
def VC12 (P:Program) (c was:CV) (R:Value->Heap->Prop) (h:Heap):Prop:=
 let h_:Heap:=(h).push (.cells (Value.cells c.v) 29);let h_1:Heap:=(h_).push (.cells (Value.cells was.v) 29);∃ (A:Option Addr) (N C:Nat),cellH h_1 (Addr.add ⟨h.size,0,none⟩ 1)=some (.slice A N C)/\∃ (A1:Option Addr) (N1 C1:Nat),cellH h_1 (Addr.add ⟨h_.size,0,none⟩ 1)=some (.slice A1 N1 C1)/\CallsH P 13 #[.slice A N C,.slice A1 N1 C1] h_1 fun v h_2=>
 ∃ (t:Bool),v=(.bool t)/\BIf t (∃ (A2:Option Addr) (N2 C2:Nat),cellH h_2 (Addr.add ⟨h.size,0,none⟩ 3)=some (.slice A2 N2 C2)/\∃ (A3:Option Addr) (N3 C3:Nat),cellH h_2 (Addr.add ⟨h_.size,0,none⟩ 3)=some (.slice A3 N3 C3)/\CallsH P 13 #[.slice A2 N2 C2,.slice A3 N3 C3] h_2 fun v1 h_3=>
 ∃ (t1:Bool),v1=(.bool t1)/\BIf t1 (∃ (A4:Option Addr) (N4 C4:Nat),cellH h_3 (Addr.add ⟨h.size,0,none⟩ 4)=some (.slice A4 N4 C4)/\∃ (A5:Option Addr) (N5 C5:Nat),cellH h_3 (Addr.add ⟨h_.size,0,none⟩ 4)=some (.slice A5 N5 C5)/\CallsH P 13 #[.slice A4 N4 C4,.slice A5 N5 C5] h_3 fun v2 h_4=>
 ∃ (t2:Bool),v2=(.bool t2)/\BIf t2 (∃ (A6:Option Addr) (N6 C6:Nat),cellH h_4 (Addr.add ⟨h.size,0,none⟩ 5)=some (.slice A6 N6 C6)/\∃ (A7:Option Addr) (N7 C7:Nat),cellH h_4 (Addr.add ⟨h_.size,0,none⟩ 5)=some (.slice A7 N7 C7)/\CallsH P 13 #[.slice A6 N6 C6,.slice A7 N7 C7] h_4 fun v3 h_5=>
 ∃ (t3:Bool),v3=(.bool t3)/\BIf t3 (∃ (A8:Option Addr) (N8 C8:Nat),cellH h_5 (Addr.add ⟨h.size,0,none⟩ 7)=some (.slice A8 N8 C8)/\∃ (A9:Option Addr) (N9 C9:Nat),cellH h_5 (Addr.add ⟨h_.size,0,none⟩ 7)=some (.slice A9 N9 C9)/\CallsH P 13 #[.slice A8 N8 C8,.slice A9 N9 C9] h_5 fun v4 h_6=>
 ∃ (t4:Bool),v4=(.bool t4)/\BIf t4 (LdC h_6 ⟨h.size,0,none⟩ fun t5=>LdC h_6 ⟨h_.size,0,none⟩ fun t6=>CallsH P 32 #[t5.v,t6.v] h_6 fun v5 h_7=>
 ∃ (t7:Bool),v5=(.bool t7)/\BIf t7 (∃ (A30:Option Addr) (N30 C30:Nat),cellH h_7 (Addr.add ⟨h.size,0,none⟩ 2)=some (.slice A30 N30 C30)/\∃ (A31:Option Addr) (N31 C31:Nat),cellH h_7 (Addr.add ⟨h_.size,0,none⟩ 2)=some (.slice A31 N31 C31)/\0≤(0:Int)/\(0:Int)≤(IntKind.wrap .i64 (((N31:Nat):Int)+1))/\((IntKind.wrap .i64 (((N31:Nat):Int)+1)):Int)≤(C30:Nat)/\∃ (A32:Option Addr) (N32 C32:Nat),cellH h_7 (Addr.add ⟨h_.size,0,none⟩ 2)=some (.slice A32 N32 C32)/\0≤(((N32:Nat):Int):Int)/\(((N32:Nat):Int):Int)<((Int.toNat (IntKind.wrap .i64 (((N31:Nat):Int)+1))-Int.toNat 0):Nat)/\AtP (cutA 3 A30 C30 (Int.toNat 0)) fun ad=>∃ (t8 t9 t10:Int),cellsH h_7 (Addr.add ad (Int.toNat ((N32:Nat):Int)*3)) 0 [.int .i64 t8,.int .i64 t9,.int .i64 t10]/\PIf ((#[.int .i64 t8,.int .i64 t9,.int .i64 t10]:Array Value)=#[(.int .i64 (-77)),.int .i64 0,.int .i64 0])
 (∃ (A33:Option Addr) (N33 C33:Nat),cellH h_7 (Addr.add ⟨h.size,0,none⟩ 8)=some (.slice A33 N33 C33)/\∃ (A34:Option Addr) (N34 C34:Nat),cellH h_7 (Addr.add ⟨h_.size,0,none⟩ 8)=some (.slice A34 N34 C34)/\0≤(0:Int)/\(0:Int)≤(IntKind.wrap .i64 (((N34:Nat):Int)+1))/\((IntKind.wrap .i64 (((N34:Nat):Int)+1)):Int)≤(C33:Nat)/\∃ (A35:Option Addr) (N35 C35:Nat),cellH h_7 (Addr.add ⟨h_.size,0,none⟩ 8)=some (.slice A35 N35 C35)/\0≤(((N35:Nat):Int):Int)/\(((N35:Nat):Int):Int)<((Int.toNat (IntKind.wrap .i64 (((N34:Nat):Int)+1))-Int.toNat 0):Nat)/\AtP (cutA 3 A33 C33 (Int.toNat 0)) fun ad1=>∃ (t11 t12 t13:Int),cellsH h_7 (Addr.add ad1 (Int.toNat ((N35:Nat):Int)*3)) 0 [.int .i64 t11,.int .i64 t12,.int .i64 t13]/\PIf ((#[.int .i64 t11,.int .i64 t12,.int .i64 t13]:Array Value)=#[(.int .i64 (-77)),.int .i64 0,.int .i64 0])
 (R (.bool true) h_7)
 (R (.bool false) h_7))
 (R (.bool false) h_7)) (R (.bool false) h_7)) (R (.bool false) h_6)) (R (.bool false) h_5)) (R (.bool false) h_4)) (R (.bool false) h_3)) (R (.bool false) h_2)
theorem run12 (c was:CV) (R:Value->Heap->Prop) (h:Heap) (hv:VC12 Tryz.prog c was R h):CallsH Tryz.prog 12 #[c.v,was.v] h R:=calls_of_fnC (Checked.mixed Tryz.checked) Tryz.func12 comp12 (Nat.le_of_ble_eq_true rfl) (Eq.mp (by kernel_rfl) hv)
def loops32:List (List (Nat×Shp)):=[]
noncomputable def code32:SCode:=((compF Tryz.prog Tryz.f32 loops32).elim .skip fun x=>x.2.2)
def ret32:List RV:=[.tmp 4]
theorem comp32:compF Tryz.prog Tryz.f32 loops32=some (84,ret32,code32):=by kernel_rfl
def VC32 (P:Program) (a b:CV) (R:Value->Heap->Prop) (h:Heap):Prop:=
 let h_:Heap:=(h).push (.cells (Value.cells a.v) 29);let h_1:Heap:=(h_).push (.cells (Value.cells b.v) 29);∃ (t:Int),cellH h_1 (Addr.add ⟨h.size,0,none⟩ 0)=some (.int .i64 t)/\∃ (t1:Int),cellH h_1 (Addr.add ⟨h_.size,0,none⟩ 0)=some (.int .i64 t1)/\PIf (t=t1)
 (∃ (A:Option Addr) (N C:Nat),cellH h_1 (Addr.add ⟨h.size,0,none⟩ 1)=some (.slice A N C)/\∃ (A1:Option Addr) (N1 C1:Nat),cellH h_1 (Addr.add ⟨h_.size,0,none⟩ 1)=some (.slice A1 N1 C1)/\CallsH P 22 #[.slice A N C,.slice A1 N1 C1] h_1 fun v h_2=>
 ∃ (t2:Bool),v=(.bool t2)/\BIf t2 (∃ (A2:Option Addr) (N2 C2:Nat),cellH h_2 (Addr.add ⟨h.size,0,none⟩ 2)=some (.slice A2 N2 C2)/\∃ (A3:Option Addr) (N3 C3:Nat),cellH h_2 (Addr.add ⟨h_.size,0,none⟩ 2)=some (.slice A3 N3 C3)/\CallsH P 70 #[.slice A2 N2 C2,.slice A3 N3 C3] h_2 fun v1 h_3=>
 ∃ (t3:Bool),v1=(.bool t3)/\BIf t3 (∃ (A4:Option Addr) (N4 C4:Nat),cellH h_3 (Addr.add ⟨h.size,0,none⟩ 3)=some (.slice A4 N4 C4)/\∃ (A5:Option Addr) (N5 C5:Nat),cellH h_3 (Addr.add ⟨h_.size,0,none⟩ 3)=some (.slice A5 N5 C5)/\CallsH P 22 #[.slice A4 N4 C4,.slice A5 N5 C5] h_3 fun v2 h_4=>
 ∃ (t4:Bool),v2=(.bool t4)/\BIf t4 (∃ (A6:Option Addr) (N6 C6:Nat),cellH h_4 (Addr.add ⟨h.size,0,none⟩ 4)=some (.slice A6 N6 C6)/\∃ (A7:Option Addr) (N7 C7:Nat),cellH h_4 (Addr.add ⟨h_.size,0,none⟩ 4)=some (.slice A7 N7 C7)/\CallsH P 22 #[.slice A6 N6 C6,.slice A7 N7 C7] h_4 fun v3 h_5=>
 ∃ (t5:Bool),v3=(.bool t5)/\∃ (A8:Option Addr) (N8 C8:Nat),cellH h_5 (Addr.add ⟨h.size,0,none⟩ 5)=some (.slice A8 N8 C8)/\∃ (A9:Option Addr) (N9 C9:Nat),cellH h_5 (Addr.add ⟨h_.size,0,none⟩ 5)=some (.slice A9 N9 C9)/\CallsH P 22 #[.slice A8 N8 C8,.slice A9 N9 C9] h_5 fun v4 h_6=>
 ∃ (t6:Bool),v4=(.bool t6)/\BIf t6 (∃ (A10:Option Addr) (N10 C10:Nat),cellH h_6 (Addr.add ⟨h.size,0,none⟩ 6)=some (.slice A10 N10 C10)/\∃ (A11:Option Addr) (N11 C11:Nat),cellH h_6 (Addr.add ⟨h_.size,0,none⟩ 6)=some (.slice A11 N11 C11)/\CallsH P 71 #[.slice A10 N10 C10,.slice A11 N11 C11] h_6 fun v5 h_7=>
 ∃ (t7:Bool),v5=(.bool t7)/\BIf t7 (∃ (A12:Option Addr) (N12 C12:Nat),cellH h_7 (Addr.add ⟨h.size,0,none⟩ 7)=some (.slice A12 N12 C12)/\∃ (A13:Option Addr) (N13 C13:Nat),cellH h_7 (Addr.add ⟨h_.size,0,none⟩ 7)=some (.slice A13 N13 C13)/\CallsH P 22 #[.slice A12 N12 C12,.slice A13 N13 C13] h_7 fun v6 h_8=>
 ∃ (t8:Bool),v6=(.bool t8)/\BIf t8 (∃ (A14:Option Addr) (N14 C14:Nat),cellH h_8 (Addr.add ⟨h.size,0,none⟩ 8)=some (.slice A14 N14 C14)/\∃ (A15:Option Addr) (N15 C15:Nat),cellH h_8 (Addr.add ⟨h_.size,0,none⟩ 8)=some (.slice A15 N15 C15)/\CallsH P 72 #[.slice A14 N14 C14,.slice A15 N15 C15] h_8 fun v7 h_9=>
 ∃ (t9:Bool),v7=(.bool t9)/\BIf t5 (BIf t9 (∃ (A16:Option Addr) (N16 C16:Nat),cellH h_9 (Addr.add ⟨h.size,0,none⟩ 9)=some (.slice A16 N16 C16)/\∃ (A17:Option Addr) (N17 C17:Nat),cellH h_9 (Addr.add ⟨h_.size,0,none⟩ 9)=some (.slice A17 N17 C17)/\CallsH P 73 #[.slice A16 N16 C16,.slice A17 N17 C17] h_9 fun v8 h_10=>
 ∃ (t10:Bool),v8=(.bool t10)/\BIf t10 (∃ (A18:Option Addr) (N18 C18:Nat),cellH h_10 (Addr.add ⟨h.size,0,none⟩ 10)=some (.slice A18 N18 C18)/\∃ (A19:Option Addr) (N19 C19:Nat),cellH h_10 (Addr.add ⟨h_.size,0,none⟩ 10)=some (.slice A19 N19 C19)/\CallsH P 74 #[.slice A18 N18 C18,.slice A19 N19 C19] h_10 fun v9 h_11=>
 ∃ (t11:Bool),v9=(.bool t11)/\R (.bool t11) h_11) (R (.bool false) h_10)) (R (.bool false) h_9)) (R (.bool false) h_9)) (BIf t5 (R (.bool false) h_8) (R (.bool false) h_8))) (BIf t5 (R (.bool false) h_7) (R (.bool false) h_7))) (BIf t5 (R (.bool false) h_6) (R (.bool false) h_6))) (∃ (A20:Option Addr) (N20 C20:Nat),cellH h_4 (Addr.add ⟨h.size,0,none⟩ 5)=some (.slice A20 N20 C20)/\∃ (A21:Option Addr) (N21 C21:Nat),cellH h_4 (Addr.add ⟨h_.size,0,none⟩ 5)=some (.slice A21 N21 C21)/\CallsH P 22 #[.slice A20 N20 C20,.slice A21 N21 C21] h_4 fun v10 h_12=>
 ∃ (t12:Bool),v10=(.bool t12)/\BIf t12 (∃ (A22:Option Addr) (N22 C22:Nat),cellH h_12 (Addr.add ⟨h.size,0,none⟩ 6)=some (.slice A22 N22 C22)/\∃ (A23:Option Addr) (N23 C23:Nat),cellH h_12 (Addr.add ⟨h_.size,0,none⟩ 6)=some (.slice A23 N23 C23)/\CallsH P 71 #[.slice A22 N22 C22,.slice A23 N23 C23] h_12 fun v11 h_13=>
 ∃ (t13:Bool),v11=(.bool t13)/\BIf t13 (∃ (A24:Option Addr) (N24 C24:Nat),cellH h_13 (Addr.add ⟨h.size,0,none⟩ 7)=some (.slice A24 N24 C24)/\∃ (A25:Option Addr) (N25 C25:Nat),cellH h_13 (Addr.add ⟨h_.size,0,none⟩ 7)=some (.slice A25 N25 C25)/\CallsH P 22 #[.slice A24 N24 C24,.slice A25 N25 C25] h_13 fun v12 h_14=>
 ∃ (t14:Bool),v12=(.bool t14)/\BIf t14 (∃ (A26:Option Addr) (N26 C26:Nat),cellH h_14 (Addr.add ⟨h.size,0,none⟩ 8)=some (.slice A26 N26 C26)/\∃ (A27:Option Addr) (N27 C27:Nat),cellH h_14 (Addr.add ⟨h_.size,0,none⟩ 8)=some (.slice A27 N27 C27)/\CallsH P 72 #[.slice A26 N26 C26,.slice A27 N27 C27] h_14 fun v13 h_15=>
 ∃ (t15:Bool),v13=(.bool t15)/\R (.bool false) h_15) (R (.bool false) h_14)) (R (.bool false) h_13)) (R (.bool false) h_12))) (∃ (A28:Option Addr) (N28 C28:Nat),cellH h_3 (Addr.add ⟨h.size,0,none⟩ 5)=some (.slice A28 N28 C28)/\∃ (A29:Option Addr) (N29 C29:Nat),cellH h_3 (Addr.add ⟨h_.size,0,none⟩ 5)=some (.slice A29 N29 C29)/\CallsH P 22 #[.slice A28 N28 C28,.slice A29 N29 C29] h_3 fun v14 h_16=>
 ∃ (t16:Bool),v14=(.bool t16)/\BIf t16 (∃ (A30:Option Addr) (N30 C30:Nat),cellH h_16 (Addr.add ⟨h.size,0,none⟩ 6)=some (.slice A30 N30 C30)/\∃ (A31:Option Addr) (N31 C31:Nat),cellH h_16 (Addr.add ⟨h_.size,0,none⟩ 6)=some (.slice A31 N31 C31)/\CallsH P 71 #[.slice A30 N30 C30,.slice A31 N31 C31] h_16 fun v15 h_17=>
 ∃ (t17:Bool),v15=(.bool t17)/\BIf t17 (∃ (A32:Option Addr) (N32 C32:Nat),cellH h_17 (Addr.add ⟨h.size,0,none⟩ 7)=some (.slice A32 N32 C32)/\∃ (A33:Option Addr) (N33 C33:Nat),cellH h_17 (Addr.add ⟨h_.size,0,none⟩ 7)=some (.slice A33 N33 C33)/\CallsH P 22 #[.slice A32 N32 C32,.slice A33 N33 C33] h_17 fun v16 h_18=>
 ∃ (t18:Bool),v16=(.bool t18)/\BIf t18 (∃ (A34:Option Addr) (N34 C34:Nat),cellH h_18 (Addr.add ⟨h.size,0,none⟩ 8)=some (.slice A34 N34 C34)/\∃ (A35:Option Addr) (N35 C35:Nat),cellH h_18 (Addr.add ⟨h_.size,0,none⟩ 8)=some (.slice A35 N35 C35)/\CallsH P 72 #[.slice A34 N34 C34,.slice A35 N35 C35] h_18 fun v17 h_19=>
 ∃ (t19:Bool),v17=(.bool t19)/\R (.bool false) h_19) (R (.bool false) h_18)) (R (.bool false) h_17)) (R (.bool false) h_16))) (∃ (A36:Option Addr) (N36 C36:Nat),cellH h_2 (Addr.add ⟨h.size,0,none⟩ 5)=some (.slice A36 N36 C36)/\∃ (A37:Option Addr) (N37 C37:Nat),cellH h_2 (Addr.add ⟨h_.size,0,none⟩ 5)=some (.slice A37 N37 C37)/\CallsH P 22 #[.slice A36 N36 C36,.slice A37 N37 C37] h_2 fun v18 h_20=>
 ∃ (t20:Bool),v18=(.bool t20)/\BIf t20 (∃ (A38:Option Addr) (N38 C38:Nat),cellH h_20 (Addr.add ⟨h.size,0,none⟩ 6)=some (.slice A38 N38 C38)/\∃ (A39:Option Addr) (N39 C39:Nat),cellH h_20 (Addr.add ⟨h_.size,0,none⟩ 6)=some (.slice A39 N39 C39)/\CallsH P 71 #[.slice A38 N38 C38,.slice A39 N39 C39] h_20 fun v19 h_21=>
 ∃ (t21:Bool),v19=(.bool t21)/\BIf t21 (∃ (A40:Option Addr) (N40 C40:Nat),cellH h_21 (Addr.add ⟨h.size,0,none⟩ 7)=some (.slice A40 N40 C40)/\∃ (A41:Option Addr) (N41 C41:Nat),cellH h_21 (Addr.add ⟨h_.size,0,none⟩ 7)=some (.slice A41 N41 C41)/\CallsH P 22 #[.slice A40 N40 C40,.slice A41 N41 C41] h_21 fun v20 h_22=>
 ∃ (t22:Bool),v20=(.bool t22)/\BIf t22 (∃ (A42:Option Addr) (N42 C42:Nat),cellH h_22 (Addr.add ⟨h.size,0,none⟩ 8)=some (.slice A42 N42 C42)/\∃ (A43:Option Addr) (N43 C43:Nat),cellH h_22 (Addr.add ⟨h_.size,0,none⟩ 8)=some (.slice A43 N43 C43)/\CallsH P 72 #[.slice A42 N42 C42,.slice A43 N43 C43] h_22 fun v21 h_23=>
 ∃ (t23:Bool),v21=(.bool t23)/\R (.bool false) h_23) (R (.bool false) h_22)) (R (.bool false) h_21)) (R (.bool false) h_20)))
 (∃ (A44:Option Addr) (N44 C44:Nat),cellH h_1 (Addr.add ⟨h.size,0,none⟩ 5)=some (.slice A44 N44 C44)/\∃ (A45:Option Addr) (N45 C45:Nat),cellH h_1 (Addr.add ⟨h_.size,0,none⟩ 5)=some (.slice A45 N45 C45)/\CallsH P 22 #[.slice A44 N44 C44,.slice A45 N45 C45] h_1 fun v22 h_24=>
 ∃ (t24:Bool),v22=(.bool t24)/\BIf t24 (∃ (A46:Option Addr) (N46 C46:Nat),cellH h_24 (Addr.add ⟨h.size,0,none⟩ 6)=some (.slice A46 N46 C46)/\∃ (A47:Option Addr) (N47 C47:Nat),cellH h_24 (Addr.add ⟨h_.size,0,none⟩ 6)=some (.slice A47 N47 C47)/\CallsH P 71 #[.slice A46 N46 C46,.slice A47 N47 C47] h_24 fun v23 h_25=>
 ∃ (t25:Bool),v23=(.bool t25)/\BIf t25 (∃ (A48:Option Addr) (N48 C48:Nat),cellH h_25 (Addr.add ⟨h.size,0,none⟩ 7)=some (.slice A48 N48 C48)/\∃ (A49:Option Addr) (N49 C49:Nat),cellH h_25 (Addr.add ⟨h_.size,0,none⟩ 7)=some (.slice A49 N49 C49)/\CallsH P 22 #[.slice A48 N48 C48,.slice A49 N49 C49] h_25 fun v24 h_26=>
 ∃ (t26:Bool),v24=(.bool t26)/\BIf t26 (∃ (A50:Option Addr) (N50 C50:Nat),cellH h_26 (Addr.add ⟨h.size,0,none⟩ 8)=some (.slice A50 N50 C50)/\∃ (A51:Option Addr) (N51 C51:Nat),cellH h_26 (Addr.add ⟨h_.size,0,none⟩ 8)=some (.slice A51 N51 C51)/\CallsH P 72 #[.slice A50 N50 C50,.slice A51 N51 C51] h_26 fun v25 h_27=>
 ∃ (t27:Bool),v25=(.bool t27)/\R (.bool false) h_27) (R (.bool false) h_26)) (R (.bool false) h_25)) (R (.bool false) h_24))
theorem run32 (a b:CV) (R:Value->Heap->Prop) (h:Heap) (hv:VC32 Tryz.prog a b R h):CallsH Tryz.prog 32 #[a.v,b.v] h R:=calls_of_fnC (Checked.mixed Tryz.checked) Tryz.func32 comp32 (Nat.le_of_ble_eq_true rfl) (Eq.mp (by kernel_rfl) hv)
def loops9:List (List (Nat×Shp)):=[]
noncomputable def code9:SCode:=((compF Tryz.prog Tryz.f9 loops9).elim .skip fun x=>x.2.2)
def ret9:List RV:=[.tmp 2]
theorem comp9:compF Tryz.prog Tryz.f9 loops9=some (10,ret9,code9):=by kernel_rfl
def VC9 (P:Program) (lA:Option Addr) (lN lC:Nat) (R:Value->Heap->Prop) (h:Heap):Prop:=
 CallsH P 41 #[.slice lA lN lC] h fun v h_=>
 ∃ (A:Option Addr) (N C:Nat),v=(.slice A N C)/\let h_1:Heap:=(h_).push (.cells #[(.int .i64 (-77))] 3);∃ ys:List Value,ReadL h_1 (some ⟨h_.size,0,none⟩) ys/\ys.length=1*1/\AppS h_1 A N C 3 8 1 #[.int .i64 0] ys 1 fun apA apN apC h_2=>0≤(0:Int)/\(0:Int)≤((lN:Nat):Int)/\(((lN:Nat):Int):Int)≤(apC:Nat)/\R (.slice (cutA 1 apA apC (Int.toNat 0)) (Int.toNat ((lN:Nat):Int)-Int.toNat 0) (apC-Int.toNat 0)) h_2
theorem run9 (lA:Option Addr) (lN lC:Nat) (R:Value->Heap->Prop) (h:Heap) (hv:VC9 Tryz.prog lA lN lC R h):CallsH Tryz.prog 9 #[.slice lA lN lC] h R:=calls_of_fnC (Checked.mixed Tryz.checked) Tryz.func9 comp9 (Nat.le_of_ble_eq_true rfl) (Eq.mp (by kernel_rfl) hv)
def loops22:List (List (Nat×Shp)):=[[(5,.int .i64)]]
noncomputable def code22:SCode:=((compF Tryz.prog Tryz.f22 loops22).elim .skip fun x=>x.2.2)
def ret22:List RV:=[.tmp 4]
theorem comp22:compF Tryz.prog Tryz.f22 loops22=some (26,ret22,code22):=by kernel_rfl
def J22_2  (R:Value->Heap->Prop) (aA:(Option Addr)) (aN:Nat) (bA:(Option Addr)) (bN:Nat) (i:Int) (next_:(Int->Heap->Prop)) (h_2:Heap):Prop:=
 0≤i/\i<(aN:Nat)/\AtP aA fun ad=>∃ (t:Int),cellH h_2 (Addr.add ad (Int.toNat i*1))=some (.int .i64 t)/\0≤i/\i<(bN:Nat)/\AtP bA fun ad1=>∃ (t1:Int),cellH h_2 (Addr.add ad1 (Int.toNat i*1))=some (.int .i64 t1)/\PIf (t=t1)
 (next_ (IntKind.wrap .i64 (i+1)) h_2)
 (R (.bool false) h_2)
def J22_1  (R:Value->Heap->Prop) (h_3:Heap):Prop:=
 R (.bool true) h_3
def B22_3 (R:Value->Heap->Prop) (aA:(Option Addr)) (aN:Nat) (bA:(Option Addr)) (bN:Nat) (i:Int) (h_1:Heap) (next_:Int->Heap->Prop):Prop:=
 PIf (i<((aN:Nat):Int))
 (J22_2 R aA aN bA bN i next_ h_1)
 (J22_1 R h_1)
def J22_0  (R:Value->Heap->Prop) (aA:(Option Addr)) (aN:Nat) (bA:(Option Addr)) (bN:Nat) (h_:Heap):Prop:=
 LoopT (σ:=Int) (fun st_ h_st nx_st=>B22_3 R aA aN bA bN (st_) h_st nx_st) (0) h_
def VC22 (P:Program) (aA:Option Addr) (aN aC:Nat) (bA:Option Addr) (bN bC:Nat) (R:Value->Heap->Prop) (h:Heap):Prop:=
 PIf ((((aN:Nat):Int):Int)=((bN:Nat):Int))
 (J22_0 R aA aN bA bN h)
 (R (.bool false) h)
theorem run22 (aA:Option Addr) (aN aC:Nat) (bA:Option Addr) (bN bC:Nat) (R:Value->Heap->Prop) (h:Heap) (hv:VC22 Tryz.prog aA aN aC bA bN bC R h):CallsH Tryz.prog 22 #[.slice aA aN aC,.slice bA bN bC] h R:=calls_of_fnC (Checked.mixed Tryz.checked) Tryz.func22 comp22 (Nat.le_of_ble_eq_true rfl) (Eq.mp (by kernel_rfl) hv)
def loops24:List (List (Nat×Shp)):=[[(4,.int .i64)]]
noncomputable def code24:SCode:=((compF Tryz.prog Tryz.f24 loops24).elim .skip fun x=>x.2.2)
def ret24:List RV:=[]
theorem comp24:compF Tryz.prog Tryz.f24 loops24=some (29,ret24,code24):=by kernel_rfl
def J24_0  (R:Value->Heap->Prop) (lA:(Option Addr)) (lN lC:Nat) (mark:Int) (h_2:Heap):Prop:=
 PIf ((((lN:Nat):Int):Int)<((lC:Nat):Int))
 (0≤(0:Int)/\(0:Int)≤(IntKind.wrap .i64 (((lN:Nat):Int)+1))/\((IntKind.wrap .i64 (((lN:Nat):Int)+1)):Int)≤(lC:Nat)/\0≤(((lN:Nat):Int):Int)/\(((lN:Nat):Int):Int)<((Int.toNat (IntKind.wrap .i64 (((lN:Nat):Int)+1))-Int.toNat 0):Nat)/\AtP (cutA 1 lA lC (Int.toNat 0)) fun ad1=>StoreH h_2 (Addr.add ad1 (Int.toNat ((lN:Nat):Int)*1)) [.int .i64 mark] fun h_3=>R (.tuple #[]) h_3)
 (R (.tuple #[]) h_2)
def B24_1 (R:Value->Heap->Prop) (lA:(Option Addr)) (lN lC:Nat) (mark i:Int) (h_:Heap) (next_:Int->Heap->Prop):Prop:=
 PIf (i<((lN:Nat):Int))
 (0≤i/\i<(lN:Nat)/\AtP lA fun ad=>StoreH h_ (Addr.add ad (Int.toNat i*1)) [.int .i64 mark] fun h_1=>next_ (IntKind.wrap .i64 (i+1)) h_1)
 (J24_0 R lA lN lC mark h_)
def VC24 (P:Program) (lA:Option Addr) (lN lC:Nat) (mark:Int) (R:Value->Heap->Prop) (h:Heap):Prop:=
 LoopT (σ:=Int) (fun st_ h_st nx_st=>B24_1 R lA lN lC mark (st_) h_st nx_st) (0) h
theorem run24 (lA:Option Addr) (lN lC:Nat) (mark:Int) (R:Value->Heap->Prop) (h:Heap) (hv:VC24 Tryz.prog lA lN lC mark R h):CallsH Tryz.prog 24 #[.slice lA lN lC,.int .i64 mark] h R:=calls_of_fnC (Checked.mixed Tryz.checked) Tryz.func24 comp24 (Nat.le_of_ble_eq_true rfl) (Eq.mp (by kernel_rfl) hv)
def loops13:List (List (Nat×Shp)):=[]
noncomputable def code13:SCode:=((compF Tryz.prog Tryz.f13 loops13).elim .skip fun x=>x.2.2)
def ret13:List RV:=[.tmp 4]
theorem comp13:compF Tryz.prog Tryz.f13 loops13=some (20,ret13,code13):=by kernel_rfl
def VC13 (P:Program) (lA:Option Addr) (lN lC:Nat) (wasA:Option Addr) (wasN wasC:Nat) (R:Value->Heap->Prop) (h:Heap):Prop:=
 CallsH P 22 #[.slice lA lN lC,.slice wasA wasN wasC] h fun v h_=>
 ∃ (t:Bool),v=(.bool t)/\BIf t (0≤(0:Int)/\(0:Int)≤(IntKind.wrap .i64 (((wasN:Nat):Int)+1))/\((IntKind.wrap .i64 (((wasN:Nat):Int)+1)):Int)≤(lC:Nat)/\0≤(((wasN:Nat):Int):Int)/\(((wasN:Nat):Int):Int)<((Int.toNat (IntKind.wrap .i64 (((wasN:Nat):Int)+1))-Int.toNat 0):Nat)/\AtP (cutA 1 lA lC (Int.toNat 0)) fun ad=>∃ (t1:Int),cellH h_ (Addr.add ad (Int.toNat ((wasN:Nat):Int)*1))=some (.int .i64 t1)/\PIf (t1=(-77))
 (R (.bool true) h_)
 (R (.bool false) h_)) (R (.bool false) h_)
theorem run13 (lA:Option Addr) (lN lC:Nat) (wasA:Option Addr) (wasN wasC:Nat) (R:Value->Heap->Prop) (h:Heap) (hv:VC13 Tryz.prog lA lN lC wasA wasN wasC R h):CallsH Tryz.prog 13 #[.slice lA lN lC,.slice wasA wasN wasC] h R:=calls_of_fnC (Checked.mixed Tryz.checked) Tryz.func13 comp13 (Nat.le_of_ble_eq_true rfl) (Eq.mp (by kernel_rfl) hv)
def loops40:List (List (Nat×Shp)):=[]
noncomputable def code40:SCode:=((compF Tryz.prog Tryz.f40 loops40).elim .skip fun x=>x.2.2)
def ret40:List RV:=[.cellN 2 [.int .i64,.slice,.slice,.slice,.slice,.slice,.slice,.slice,.slice,.slice,.slice]]
theorem comp40:compF Tryz.prog Tryz.f40 loops40=some (40,ret40,code40):=by kernel_rfl
def VC40 (P:Program) (c:CV) (R:Value->Heap->Prop) (h:Heap):Prop:=
 let h_:Heap:=(h).push (.cells (Value.cells c.v) 29);let h_1:Heap:=(h_).push (.cells CV.zero.cs.toArray 29);(Addr.block (Addr.add ⟨h.size,0,none⟩ 1))<(h_1).size/\∃ (A:Option Addr) (N C:Nat),cellH h_1 (Addr.add ⟨h.size,0,none⟩ 1)=some (.slice A N C)/\∀ (U:Nat->Prop) (h_2:Heap),GrowH none' h_1 U h_2->CallsH P 41 #[.slice A N C] h_2 fun v h_3=>
 ∃ (A1:Option Addr) (N1 C1:Nat),v=(.slice A1 N1 C1)/\Keeps (h_1).size U h_2 h_3/\∀ (U1:Nat->Prop) (h_4:Heap) (b:Nat),GrowH U h_3 U1 h_4->U1 b->(h_4)[b]?=some (Obj.cells #[] 65)->(Addr.block (Addr.add ⟨h.size,0,none⟩ 2))<(h_1).size/\∃ (A2:Option Addr) (N2 C2:Nat),cellH h_4 (Addr.add ⟨h.size,0,none⟩ 2)=some (.slice A2 N2 C2)/\∀ (U2:Nat->Prop) (h_5:Heap),GrowH (minus U1 b) h_4 U2 h_5->∃ ys:List Value,ReadL h_5 A2 ys/\ys.length=N2*3/\AppS h_5 (some (Addr.mk b 0 none)) 0 0 65 24 3 #[.int .i64 0,.int .i64 0,.int .i64 0] ys N2 fun apA apN apC h_6=>Keeps (h_1).size U2 h_5 h_6/\(Addr.block (Addr.add ⟨h.size,0,none⟩ 3))<(h_1).size/\∃ (A3:Option Addr) (N3 C3:Nat),cellH h_6 (Addr.add ⟨h.size,0,none⟩ 3)=some (.slice A3 N3 C3)/\∀ (U3:Nat->Prop) (h_7:Heap),GrowH U2 h_6 U3 h_7->CallsH P 41 #[.slice A3 N3 C3] h_7 fun v1 h_8=>
 ∃ (A4:Option Addr) (N4 C4:Nat),v1=(.slice A4 N4 C4)/\Keeps (h_1).size U3 h_7 h_8/\(Addr.block (Addr.add ⟨h.size,0,none⟩ 4))<(h_1).size/\∃ (A5:Option Addr) (N5 C5:Nat),cellH h_8 (Addr.add ⟨h.size,0,none⟩ 4)=some (.slice A5 N5 C5)/\∀ (U4:Nat->Prop) (h_9:Heap),GrowH U3 h_8 U4 h_9->CallsH P 41 #[.slice A5 N5 C5] h_9 fun v2 h_10=>
 ∃ (A6:Option Addr) (N6 C6:Nat),v2=(.slice A6 N6 C6)/\Keeps (h_1).size U4 h_9 h_10/\(Addr.block (Addr.add ⟨h.size,0,none⟩ 5))<(h_1).size/\∃ (A7:Option Addr) (N7 C7:Nat),cellH h_10 (Addr.add ⟨h.size,0,none⟩ 5)=some (.slice A7 N7 C7)/\∀ (U5:Nat->Prop) (h_11:Heap),GrowH U4 h_10 U5 h_11->CallsH P 41 #[.slice A7 N7 C7] h_11 fun v3 h_12=>
 ∃ (A8:Option Addr) (N8 C8:Nat),v3=(.slice A8 N8 C8)/\Keeps (h_1).size U5 h_11 h_12/\(Addr.block (Addr.add ⟨h.size,0,none⟩ 6))<(h_1).size/\∃ (A9:Option Addr) (N9 C9:Nat),cellH h_12 (Addr.add ⟨h.size,0,none⟩ 6)=some (.slice A9 N9 C9)/\∀ (U6:Nat->Prop) (h_13:Heap),GrowH U5 h_12 U6 h_13->CallsH P 86 #[.slice A9 N9 C9] h_13 fun v4 h_14=>
 ∃ (A10:Option Addr) (N10 C10:Nat),v4=(.slice A10 N10 C10)/\Keeps (h_1).size U6 h_13 h_14/\(Addr.block (Addr.add ⟨h.size,0,none⟩ 7))<(h_1).size/\∃ (A11:Option Addr) (N11 C11:Nat),cellH h_14 (Addr.add ⟨h.size,0,none⟩ 7)=some (.slice A11 N11 C11)/\∀ (U7:Nat->Prop) (h_15:Heap),GrowH U6 h_14 U7 h_15->CallsH P 41 #[.slice A11 N11 C11] h_15 fun v5 h_16=>
 ∃ (A12:Option Addr) (N12 C12:Nat),v5=(.slice A12 N12 C12)/\Keeps (h_1).size U7 h_15 h_16/\∀ (U8:Nat->Prop) (h_17:Heap) (b1:Nat),GrowH U7 h_16 U8 h_17->U8 b1->(h_17)[b1]?=some (Obj.cells #[] 67)->(Addr.block (Addr.add ⟨h.size,0,none⟩ 8))<(h_1).size/\∃ (A13:Option Addr) (N13 C13:Nat),cellH h_17 (Addr.add ⟨h.size,0,none⟩ 8)=some (.slice A13 N13 C13)/\∀ (U9:Nat->Prop) (h_18:Heap),GrowH (minus U8 b1) h_17 U9 h_18->∃ ys1:List Value,ReadL h_18 A13 ys1/\ys1.length=N13*3/\AppS h_18 (some (Addr.mk b1 0 none)) 0 0 67 24 3 #[.int .i64 0,.int .i64 0,.int .i64 0] ys1 N13 fun apA1 apN1 apC1 h_19=>Keeps (h_1).size U9 h_18 h_19/\∀ (U10:Nat->Prop) (h_20:Heap) (b2:Nat),GrowH U9 h_19 U10 h_20->U10 b2->(h_20)[b2]?=some (Obj.cells #[] 123)->(Addr.block (Addr.add ⟨h.size,0,none⟩ 9))<(h_1).size/\∃ (A14:Option Addr) (N14 C14:Nat),cellH h_20 (Addr.add ⟨h.size,0,none⟩ 9)=some (.slice A14 N14 C14)/\∀ (U11:Nat->Prop) (h_21:Heap),GrowH (minus U10 b2) h_20 U11 h_21->∃ ys2:List Value,ReadL h_21 A14 ys2/\ys2.length=N14*3/\AppS h_21 (some (Addr.mk b2 0 none)) 0 0 123 32 3 #[.int .u8 0,.int .i64 0,(.string (ByteArray.mk #[]))] ys2 N14 fun apA2 apN2 apC2 h_22=>Keeps (h_1).size U11 h_21 h_22/\∀ (U12:Nat->Prop) (h_23:Heap) (b3:Nat),GrowH U11 h_22 U12 h_23->U12 b3->(h_23)[b3]?=some (Obj.cells #[] 9)->(Addr.block (Addr.add ⟨h.size,0,none⟩ 10))<(h_1).size/\∃ (A15:Option Addr) (N15 C15:Nat),cellH h_23 (Addr.add ⟨h.size,0,none⟩ 10)=some (.slice A15 N15 C15)/\∀ (U13:Nat->Prop) (h_24:Heap),GrowH (minus U12 b3) h_23 U13 h_24->∃ ys3:List Value,ReadL h_24 A15 ys3/\ys3.length=N15*1/\AppS h_24 (some (Addr.mk b3 0 none)) 0 0 9 16 1 #[(.string (ByteArray.mk #[]))] ys3 N15 fun apA3 apN3 apC3 h_25=>Keeps (h_1).size U13 h_24 h_25/\(Addr.block (Addr.add ⟨h.size,0,none⟩ 0))<(h_1).size/\∃ (t:Int),cellH h_25 (Addr.add ⟨h.size,0,none⟩ 0)=some (.int .i64 t)/\∀ (U14:Nat->Prop) (h_26:Heap),GrowH U13 h_25 U14 h_26->StoreH h_26 ⟨h_.size,0,none⟩ [.int .i64 t,.slice A1 N1 C1,.slice apA apN apC,.slice A4 N4 C4,.slice A6 N6 C6,.slice A8 N8 C8,.slice A10 N10 C10,.slice A12 N12 C12,.slice apA1 apN1 apC1,.slice apA2 apN2 apC2,.slice apA3 apN3 apC3] fun h_27=>(h_26).size≤(h_27).size/\LdC h_27 ⟨h_.size,0,none⟩ fun t1=>R t1.v h_27
theorem run40 (c:CV) (R:Value->Heap->Prop) (h:Heap) (hv:VC40 Tryz.prog c R h):CallsH Tryz.prog 40 #[c.v] h R:=calls_of_fnC (Checked.mixed Tryz.checked) Tryz.func40 comp40 (Nat.le_of_ble_eq_true rfl) (Eq.mp (by kernel_rfl) hv)
def loops70:List (List (Nat×Shp)):=[[(5,.int .i64)]]
noncomputable def code70:SCode:=((compF Tryz.prog Tryz.f70 loops70).elim .skip fun x=>x.2.2)
def ret70:List RV:=[.tmp 4]
theorem comp70:compF Tryz.prog Tryz.f70 loops70=some (26,ret70,code70):=by kernel_rfl
def J70_2  (R:Value->Heap->Prop) (aA:(Option Addr)) (aN:Nat) (bA:(Option Addr)) (bN:Nat) (i:Int) (next_:(Int->Heap->Prop)) (h_2:Heap):Prop:=
 0≤i/\i<(aN:Nat)/\AtP aA fun ad=>∃ (t t1 t2:Int),cellsH h_2 (Addr.add ad (Int.toNat i*3)) 0 [.int .i64 t,.int .i64 t1,.int .i64 t2]/\0≤i/\i<(bN:Nat)/\AtP bA fun ad1=>∃ (t3 t4 t5:Int),cellsH h_2 (Addr.add ad1 (Int.toNat i*3)) 0 [.int .i64 t3,.int .i64 t4,.int .i64 t5]/\PIf ((#[.int .i64 t,.int .i64 t1,.int .i64 t2]:Array Value)=#[.int .i64 t3,.int .i64 t4,.int .i64 t5])
 (next_ (IntKind.wrap .i64 (i+1)) h_2)
 (R (.bool false) h_2)
def J70_1  (R:Value->Heap->Prop) (h_3:Heap):Prop:=
 R (.bool true) h_3
def B70_3 (R:Value->Heap->Prop) (aA:(Option Addr)) (aN:Nat) (bA:(Option Addr)) (bN:Nat) (i:Int) (h_1:Heap) (next_:Int->Heap->Prop):Prop:=
 PIf (i<((aN:Nat):Int))
 (J70_2 R aA aN bA bN i next_ h_1)
 (J70_1 R h_1)
def J70_0  (R:Value->Heap->Prop) (aA:(Option Addr)) (aN:Nat) (bA:(Option Addr)) (bN:Nat) (h_:Heap):Prop:=
 LoopT (σ:=Int) (fun st_ h_st nx_st=>B70_3 R aA aN bA bN (st_) h_st nx_st) (0) h_
def VC70 (P:Program) (aA:Option Addr) (aN aC:Nat) (bA:Option Addr) (bN bC:Nat) (R:Value->Heap->Prop) (h:Heap):Prop:=
 PIf ((((aN:Nat):Int):Int)=((bN:Nat):Int))
 (J70_0 R aA aN bA bN h)
 (R (.bool false) h)
theorem run70 (aA:Option Addr) (aN aC:Nat) (bA:Option Addr) (bN bC:Nat) (R:Value->Heap->Prop) (h:Heap) (hv:VC70 Tryz.prog aA aN aC bA bN bC R h):CallsH Tryz.prog 70 #[.slice aA aN aC,.slice bA bN bC] h R:=calls_of_fnC (Checked.mixed Tryz.checked) Tryz.func70 comp70 (Nat.le_of_ble_eq_true rfl) (Eq.mp (by kernel_rfl) hv)
def loops71:List (List (Nat×Shp)):=[[(5,.int .i64)]]
noncomputable def code71:SCode:=((compF Tryz.prog Tryz.f71 loops71).elim .skip fun x=>x.2.2)
def ret71:List RV:=[.tmp 4]
theorem comp71:compF Tryz.prog Tryz.f71 loops71=some (27,ret71,code71):=by kernel_rfl
def J71_2  (P:Program) (R:Value->Heap->Prop) (aA:(Option Addr)) (aN:Nat) (bA:(Option Addr)) (bN:Nat) (i:Int) (next_:(Int->Heap->Prop)) (h_2:Heap):Prop:=
 0≤i/\i<(aN:Nat)/\AtP aA fun ad=>∃ (A:Option Addr) (N C:Nat),cellH h_2 (Addr.add ad (Int.toNat i*1))=some (.slice A N C)/\0≤i/\i<(bN:Nat)/\AtP bA fun ad1=>∃ (A1:Option Addr) (N1 C1:Nat),cellH h_2 (Addr.add ad1 (Int.toNat i*1))=some (.slice A1 N1 C1)/\CallsH P 22 #[.slice A N C,.slice A1 N1 C1] h_2 fun v h_3=>
 ∃ (t:Bool),v=(.bool t)/\BIf (!t) (R (.bool false) h_3) (next_ (IntKind.wrap .i64 (i+1)) h_3)
def J71_1  (R:Value->Heap->Prop) (h_4:Heap):Prop:=
 R (.bool true) h_4
def B71_3 (P:Program) (R:Value->Heap->Prop) (aA:(Option Addr)) (aN:Nat) (bA:(Option Addr)) (bN:Nat) (i:Int) (h_1:Heap) (next_:Int->Heap->Prop):Prop:=
 PIf (i<((aN:Nat):Int))
 (J71_2 P R aA aN bA bN i next_ h_1)
 (J71_1 R h_1)
def J71_0  (P:Program) (R:Value->Heap->Prop) (aA:(Option Addr)) (aN:Nat) (bA:(Option Addr)) (bN:Nat) (h_:Heap):Prop:=
 LoopT (σ:=Int) (fun st_ h_st nx_st=>B71_3 P R aA aN bA bN (st_) h_st nx_st) (0) h_
def VC71 (P:Program) (aA:Option Addr) (aN aC:Nat) (bA:Option Addr) (bN bC:Nat) (R:Value->Heap->Prop) (h:Heap):Prop:=
 PIf ((((aN:Nat):Int):Int)=((bN:Nat):Int))
 (J71_0 P R aA aN bA bN h)
 (R (.bool false) h)
theorem run71 (aA:Option Addr) (aN aC:Nat) (bA:Option Addr) (bN bC:Nat) (R:Value->Heap->Prop) (h:Heap) (hv:VC71 Tryz.prog aA aN aC bA bN bC R h):CallsH Tryz.prog 71 #[.slice aA aN aC,.slice bA bN bC] h R:=calls_of_fnC (Checked.mixed Tryz.checked) Tryz.func71 comp71 (Nat.le_of_ble_eq_true rfl) (Eq.mp (by kernel_rfl) hv)
def loops72:List (List (Nat×Shp)):=[[(5,.int .i64)]]
noncomputable def code72:SCode:=((compF Tryz.prog Tryz.f72 loops72).elim .skip fun x=>x.2.2)
def ret72:List RV:=[.tmp 4]
theorem comp72:compF Tryz.prog Tryz.f72 loops72=some (26,ret72,code72):=by kernel_rfl
def J72_2  (R:Value->Heap->Prop) (aA:(Option Addr)) (aN:Nat) (bA:(Option Addr)) (bN:Nat) (i:Int) (next_:(Int->Heap->Prop)) (h_2:Heap):Prop:=
 0≤i/\i<(aN:Nat)/\AtP aA fun ad=>∃ (t t1 t2:Int),cellsH h_2 (Addr.add ad (Int.toNat i*3)) 0 [.int .i64 t,.int .i64 t1,.int .i64 t2]/\0≤i/\i<(bN:Nat)/\AtP bA fun ad1=>∃ (t3 t4 t5:Int),cellsH h_2 (Addr.add ad1 (Int.toNat i*3)) 0 [.int .i64 t3,.int .i64 t4,.int .i64 t5]/\PIf ((#[.int .i64 t,.int .i64 t1,.int .i64 t2]:Array Value)=#[.int .i64 t3,.int .i64 t4,.int .i64 t5])
 (next_ (IntKind.wrap .i64 (i+1)) h_2)
 (R (.bool false) h_2)
def J72_1  (R:Value->Heap->Prop) (h_3:Heap):Prop:=
 R (.bool true) h_3
def B72_3 (R:Value->Heap->Prop) (aA:(Option Addr)) (aN:Nat) (bA:(Option Addr)) (bN:Nat) (i:Int) (h_1:Heap) (next_:Int->Heap->Prop):Prop:=
 PIf (i<((aN:Nat):Int))
 (J72_2 R aA aN bA bN i next_ h_1)
 (J72_1 R h_1)
def J72_0  (R:Value->Heap->Prop) (aA:(Option Addr)) (aN:Nat) (bA:(Option Addr)) (bN:Nat) (h_:Heap):Prop:=
 LoopT (σ:=Int) (fun st_ h_st nx_st=>B72_3 R aA aN bA bN (st_) h_st nx_st) (0) h_
def VC72 (P:Program) (aA:Option Addr) (aN aC:Nat) (bA:Option Addr) (bN bC:Nat) (R:Value->Heap->Prop) (h:Heap):Prop:=
 PIf ((((aN:Nat):Int):Int)=((bN:Nat):Int))
 (J72_0 R aA aN bA bN h)
 (R (.bool false) h)
theorem run72 (aA:Option Addr) (aN aC:Nat) (bA:Option Addr) (bN bC:Nat) (R:Value->Heap->Prop) (h:Heap) (hv:VC72 Tryz.prog aA aN aC bA bN bC R h):CallsH Tryz.prog 72 #[.slice aA aN aC,.slice bA bN bC] h R:=calls_of_fnC (Checked.mixed Tryz.checked) Tryz.func72 comp72 (Nat.le_of_ble_eq_true rfl) (Eq.mp (by kernel_rfl) hv)
def loops73:List (List (Nat×Shp)):=[[(5,.int .i64)]]
noncomputable def code73:SCode:=((compF Tryz.prog Tryz.f73 loops73).elim .skip fun x=>x.2.2)
def ret73:List RV:=[.tmp 4]
theorem comp73:compF Tryz.prog Tryz.f73 loops73=some (26,ret73,code73):=by kernel_rfl
def J73_2  (R:Value->Heap->Prop) (aA:(Option Addr)) (aN:Nat) (bA:(Option Addr)) (bN:Nat) (i:Int) (next_:(Int->Heap->Prop)) (h_2:Heap):Prop:=
 0≤i/\i<(aN:Nat)/\AtP aA fun ad=>∃ (t t1:Int) (t2:ByteArray),cellsH h_2 (Addr.add ad (Int.toNat i*3)) 0 [.int .u8 t,.int .i64 t1,.string t2]/\0≤i/\i<(bN:Nat)/\AtP bA fun ad1=>∃ (t3 t4:Int) (t5:ByteArray),cellsH h_2 (Addr.add ad1 (Int.toNat i*3)) 0 [.int .u8 t3,.int .i64 t4,.string t5]/\PIf ((#[.int .u8 t,.int .i64 t1,.string t2]:Array Value)=#[.int .u8 t3,.int .i64 t4,.string t5])
 (next_ (IntKind.wrap .i64 (i+1)) h_2)
 (R (.bool false) h_2)
def J73_1  (R:Value->Heap->Prop) (h_3:Heap):Prop:=
 R (.bool true) h_3
def B73_3 (R:Value->Heap->Prop) (aA:(Option Addr)) (aN:Nat) (bA:(Option Addr)) (bN:Nat) (i:Int) (h_1:Heap) (next_:Int->Heap->Prop):Prop:=
 PIf (i<((aN:Nat):Int))
 (J73_2 R aA aN bA bN i next_ h_1)
 (J73_1 R h_1)
def J73_0  (R:Value->Heap->Prop) (aA:(Option Addr)) (aN:Nat) (bA:(Option Addr)) (bN:Nat) (h_:Heap):Prop:=
 LoopT (σ:=Int) (fun st_ h_st nx_st=>B73_3 R aA aN bA bN (st_) h_st nx_st) (0) h_
def VC73 (P:Program) (aA:Option Addr) (aN aC:Nat) (bA:Option Addr) (bN bC:Nat) (R:Value->Heap->Prop) (h:Heap):Prop:=
 PIf ((((aN:Nat):Int):Int)=((bN:Nat):Int))
 (J73_0 R aA aN bA bN h)
 (R (.bool false) h)
theorem run73 (aA:Option Addr) (aN aC:Nat) (bA:Option Addr) (bN bC:Nat) (R:Value->Heap->Prop) (h:Heap) (hv:VC73 Tryz.prog aA aN aC bA bN bC R h):CallsH Tryz.prog 73 #[.slice aA aN aC,.slice bA bN bC] h R:=calls_of_fnC (Checked.mixed Tryz.checked) Tryz.func73 comp73 (Nat.le_of_ble_eq_true rfl) (Eq.mp (by kernel_rfl) hv)
def loops74:List (List (Nat×Shp)):=[[(5,.int .i64)]]
noncomputable def code74:SCode:=((compF Tryz.prog Tryz.f74 loops74).elim .skip fun x=>x.2.2)
def ret74:List RV:=[.tmp 4]
theorem comp74:compF Tryz.prog Tryz.f74 loops74=some (26,ret74,code74):=by kernel_rfl
def J74_2  (R:Value->Heap->Prop) (aA:(Option Addr)) (aN:Nat) (bA:(Option Addr)) (bN:Nat) (i:Int) (next_:(Int->Heap->Prop)) (h_2:Heap):Prop:=
 0≤i/\i<(aN:Nat)/\AtP aA fun ad=>∃ (t:ByteArray),cellH h_2 (Addr.add ad (Int.toNat i*1))=some (.string t)/\0≤i/\i<(bN:Nat)/\AtP bA fun ad1=>∃ (t1:ByteArray),cellH h_2 (Addr.add ad1 (Int.toNat i*1))=some (.string t1)/\PIf ((t:ByteArray)=t1)
 (next_ (IntKind.wrap .i64 (i+1)) h_2)
 (R (.bool false) h_2)
def J74_1  (R:Value->Heap->Prop) (h_3:Heap):Prop:=
 R (.bool true) h_3
def B74_3 (R:Value->Heap->Prop) (aA:(Option Addr)) (aN:Nat) (bA:(Option Addr)) (bN:Nat) (i:Int) (h_1:Heap) (next_:Int->Heap->Prop):Prop:=
 PIf (i<((aN:Nat):Int))
 (J74_2 R aA aN bA bN i next_ h_1)
 (J74_1 R h_1)
def J74_0  (R:Value->Heap->Prop) (aA:(Option Addr)) (aN:Nat) (bA:(Option Addr)) (bN:Nat) (h_:Heap):Prop:=
 LoopT (σ:=Int) (fun st_ h_st nx_st=>B74_3 R aA aN bA bN (st_) h_st nx_st) (0) h_
def VC74 (P:Program) (aA:Option Addr) (aN aC:Nat) (bA:Option Addr) (bN bC:Nat) (R:Value->Heap->Prop) (h:Heap):Prop:=
 PIf ((((aN:Nat):Int):Int)=((bN:Nat):Int))
 (J74_0 R aA aN bA bN h)
 (R (.bool false) h)
theorem run74 (aA:Option Addr) (aN aC:Nat) (bA:Option Addr) (bN bC:Nat) (R:Value->Heap->Prop) (h:Heap) (hv:VC74 Tryz.prog aA aN aC bA bN bC R h):CallsH Tryz.prog 74 #[.slice aA aN aC,.slice bA bN bC] h R:=calls_of_fnC (Checked.mixed Tryz.checked) Tryz.func74 comp74 (Nat.le_of_ble_eq_true rfl) (Eq.mp (by kernel_rfl) hv)
def loops41:List (List (Nat×Shp)):=[]
noncomputable def code41:SCode:=((compF Tryz.prog Tryz.f41 loops41).elim .skip fun x=>x.2.2)
def ret41:List RV:=[.tmp 2]
theorem comp41:compF Tryz.prog Tryz.f41 loops41=some (6,ret41,code41):=by kernel_rfl
def VC41 (P:Program) (lA:Option Addr) (lN lC:Nat) (R:Value->Heap->Prop) (h:Heap):Prop:=
 let h_:Heap:=(h).push (.cells #[] 3);∃ ys:List Value,ReadL h_ lA ys/\ys.length=lN*1/\AppS h_ (some ⟨h.size,0,none⟩) 0 0 3 8 1 #[.int .i64 0] ys lN fun apA apN apC h_1=>R (.slice apA apN apC) h_1
theorem run41 (lA:Option Addr) (lN lC:Nat) (R:Value->Heap->Prop) (h:Heap) (hv:VC41 Tryz.prog lA lN lC R h):CallsH Tryz.prog 41 #[.slice lA lN lC] h R:=calls_of_fnC (Checked.mixed Tryz.checked) Tryz.func41 comp41 (Nat.le_of_ble_eq_true rfl) (Eq.mp (by kernel_rfl) hv)
def loops86:List (List (Nat×Shp)):=[[(3,.slice),(4,.int .i64)]]
noncomputable def code86:SCode:=((compF Tryz.prog Tryz.f86 loops86).elim .skip fun x=>x.2.2)
def ret86:List RV:=[.tmp 2]
theorem comp86:compF Tryz.prog Tryz.f86 loops86=some (20,ret86,code86):=by kernel_rfl
def J86_1  (P:Program) (lA:(Option Addr)) (lN:Nat) (outA:(Option Addr)) (outN outC:Nat) (i:Int) (next_:((Option Addr×Nat×Nat)×Int->Heap->Prop)) (h_1:Heap):Prop:=
 0≤i/\i<(lN:Nat)/\AtP lA fun ad=>∃ (A:Option Addr) (N C:Nat),cellH h_1 (Addr.add ad (Int.toNat i*1))=some (.slice A N C)/\CallsH P 41 #[.slice A N C] h_1 fun v h_2=>
 ∃ (A1:Option Addr) (N1 C1:Nat),v=(.slice A1 N1 C1)/\let h_3:Heap:=(h_2).push (.cells #[.slice A1 N1 C1] 22);∃ ys:List Value,ReadL h_3 (some ⟨h_2.size,0,none⟩) ys/\ys.length=1*1/\AppS h_3 outA outN outC 22 24 1 #[.slice none 0 0] ys 1 fun apA apN apC h_4=>next_ ((apA,apN,apC),(IntKind.wrap .i64 (i+1))) h_4
def J86_0  (R:Value->Heap->Prop) (outA1:Option Addr) (outN1 outC1:Nat) (h_5:Heap):Prop:=
 R (.slice outA1 outN1 outC1) h_5
def B86_2 (P:Program) (R:Value->Heap->Prop) (lA:(Option Addr)) (lN:Nat) (outA:Option Addr) (outN outC:Nat) (i:Int) (h_:Heap) (next_:(Option Addr×Nat×Nat)×Int->Heap->Prop):Prop:=
 PIf (i<((lN:Nat):Int))
 (J86_1 P lA lN outA outN outC i next_ h_)
 (J86_0 R (outA) (outN) (outC) h_)
def VC86 (P:Program) (lA:Option Addr) (lN lC:Nat) (R:Value->Heap->Prop) (h:Heap):Prop:=
 LoopT (σ:=(Option Addr×Nat×Nat)×Int) (fun st_ h_st nx_st=>B86_2 P R lA lN (st_.1.1) (st_.1.2.1) (st_.1.2.2) (st_.2) h_st nx_st) ((none,0,0),0) h
theorem run86 (lA:Option Addr) (lN lC:Nat) (R:Value->Heap->Prop) (h:Heap) (hv:VC86 Tryz.prog lA lN lC R h):CallsH Tryz.prog 86 #[.slice lA lN lC] h R:=calls_of_fnC (Checked.mixed Tryz.checked) Tryz.func86 comp86 (Nat.le_of_ble_eq_true rfl) (Eq.mp (by kernel_rfl) hv)
end Go.Proofs.YtdpbdjdgdmheiaaGreat
