/- Words and facts that the claim's proof leans on. No condition. -/
import Derived.Test.YtobageabpfkpcaaGreatDoorHxV
import Derived.Test.YtobageabpfkpcaaGreatDoorChecked
set_option maxRecDepth 100000
set_option linter.unusedVariables false
namespace Go.Proofs.YtobageabpfkpcaaGreatDoor
open Go.Hx
def loops13:List (List (Nat×Shp)):=[[(5,.bool),(6,.int .i64)],[(12,.int .i64),(13,.int .i64)]]
noncomputable def code13:SCode:=((compF Tryz.prog Tryz.f13 loops13).elim .skip fun x=>x.2.2)
def ret13:List RV:=[.cellN 2 [.int .i64,.slice],.cellN 3 [.int .i64,.int .i64]]
theorem comp13:compF Tryz.prog Tryz.f13 loops13=some (126,ret13,code13):=by kernel_rfl
def J13_3  (next_:(Bool×Int->Heap->Prop)) (t5:Int) (begun1:Bool) (h_18:Heap):Prop:=
 next_ (begun1,(IntKind.wrap .i64 (t5+1))) h_18
def J13_4  (h_5:Heap) (next_:(Bool×Int->Heap->Prop)) (t5 t7 t8:Int) (h_15:Heap):Prop:=
 StoreH h_15 (Addr.add (Addr.add ⟨h_5.size,0,none⟩ 0) 0) [.int .i64 t7] fun h_16=>StoreH h_16 (Addr.add ⟨h_5.size,0,none⟩ 2) [.int .i64 t8] fun h_17=>J13_3 next_ t5 (true) h_17
def J13_5  (P:Program) (R:Value->Heap->Prop) (h:Heap) (s:ByteArray) (h_ h_5:Heap) (t5 from_ to_:Int) (next_1:(Int×Int->Heap->Prop)) (h_22:Heap):Prop:=
 0≤from_/\from_≤to_/\to_≤(s.size:Nat)/\CallsH P 54 #[(.pointer (some ⟨h_5.size,0,none⟩)),(.string (s.extract (Int.toNat from_) (Int.toNat to_)))] h_22 fun v7 h_23=>
 ∃ (t18:Int),v7=(.int .i64 t18)/\PIf (t18=0)
 (CallsH P 53 #[.string s,.int .i64 to_,.int .i64 t5] h_23 fun v9 h_27=>
 ∃ (t24 t25:Int),v9=(.tuple #[.int .i64 t24,.int .i64 t25])/\next_1 (t24,t25) h_27)
 (CallsH P 49 #[.int .i64 from_,.int .i64 t18] h_23 fun v8 h_24=>
 ∃ (t19 t20:Int),v8=(.agg #[.int .i64 t19,.int .i64 t20])/\StoreH h_24 ⟨h.size,0,none⟩ [.int .i64 0,.slice none 0 0] fun h_25=>StoreH h_25 ⟨h_.size,0,none⟩ [.int .i64 t19,.int .i64 t20] fun h_26=>∃ (t21:Int) (A2:Option Addr) (N2 C2:Nat),cellsH h_26 ⟨h.size,0,none⟩ 0 [.int .i64 t21,.slice A2 N2 C2]/\∃ (t22 t23:Int),cellsH h_26 ⟨h_.size,0,none⟩ 0 [.int .i64 t22,.int .i64 t23]/\R (.tuple #[(.agg #[.int .i64 t21,.slice A2 N2 C2]),(.agg #[.int .i64 t22,.int .i64 t23])]) h_26)
def B13_6 (P:Program) (R:Value->Heap->Prop) (h:Heap) (s:ByteArray) (h_ h_5:Heap) (begun:Bool) (next_:(Bool×Int->Heap->Prop)) (t5 from_ to_:Int) (h_21:Heap) (next_1:Int×Int->Heap->Prop):Prop:=
 PIf (from_<to_)
 (J13_5 P R h s h_ h_5 t5 from_ to_ next_1 h_21)
 (J13_3 next_ t5 (begun) h_21)
def J13_7  (P:Program) (R:Value->Heap->Prop) (h:Heap) (s:ByteArray) (h_ h_5:Heap) (t5 from_1 to_1:Int) (next_2:(Int×Int->Heap->Prop)) (h_31:Heap):Prop:=
 0≤from_1/\from_1≤to_1/\to_1≤(s.size:Nat)/\CallsH P 54 #[(.pointer (some ⟨h_5.size,0,none⟩)),(.string (s.extract (Int.toNat from_1) (Int.toNat to_1)))] h_31 fun v12 h_32=>
 ∃ (t29:Int),v12=(.int .i64 t29)/\PIf (t29=0)
 (CallsH P 53 #[.string s,.int .i64 to_1,.int .i64 t5] h_32 fun v14 h_36=>
 ∃ (t35 t36:Int),v14=(.tuple #[.int .i64 t35,.int .i64 t36])/\next_2 (t35,t36) h_36)
 (CallsH P 49 #[.int .i64 from_1,.int .i64 t29] h_32 fun v13 h_33=>
 ∃ (t30 t31:Int),v13=(.agg #[.int .i64 t30,.int .i64 t31])/\StoreH h_33 ⟨h.size,0,none⟩ [.int .i64 0,.slice none 0 0] fun h_34=>StoreH h_34 ⟨h_.size,0,none⟩ [.int .i64 t30,.int .i64 t31] fun h_35=>∃ (t32:Int) (A3:Option Addr) (N3 C3:Nat),cellsH h_35 ⟨h.size,0,none⟩ 0 [.int .i64 t32,.slice A3 N3 C3]/\∃ (t33 t34:Int),cellsH h_35 ⟨h_.size,0,none⟩ 0 [.int .i64 t33,.int .i64 t34]/\R (.tuple #[(.agg #[.int .i64 t32,.slice A3 N3 C3]),(.agg #[.int .i64 t33,.int .i64 t34])]) h_35)
def B13_8 (P:Program) (R:Value->Heap->Prop) (h:Heap) (s:ByteArray) (h_ h_5:Heap) (begun:Bool) (next_:(Bool×Int->Heap->Prop)) (t5 from_1 to_1:Int) (h_30:Heap) (next_2:Int×Int->Heap->Prop):Prop:=
 PIf (from_1<to_1)
 (J13_7 P R h s h_ h_5 t5 from_1 to_1 next_2 h_30)
 (J13_3 next_ t5 (begun) h_30)
def J13_2  (P:Program) (R:Value->Heap->Prop) (h:Heap) (s:ByteArray) (h_ h_5:Heap) (begun:Bool) (at_:Int) (next_:(Bool×Int->Heap->Prop)) (h_8:Heap):Prop:=
 CallsH P 50 #[.string s,.int .i64 at_] h_8 fun v1 h_9=>
 ∃ (t5:Int),v1=(.int .i64 t5)/\0≤at_/\at_≤t5/\t5≤(s.size:Nat)/\CallsH P 51 #[(.string (s.extract (Int.toNat at_) (Int.toNat t5)))] h_9 fun v2 h_10=>
 ∃ (t6:Bool),v2=(.bool t6)/\BIf (!t6) (BIf (!begun) (CallsH P 52 #[(.string (s.extract (Int.toNat at_) (Int.toNat t5)))] h_10 fun v3 h_11=>
 ∃ (t7 t8:Int) (t9:Bool),v3=(.tuple #[.int .i64 t7,.int .i64 t8,.bool t9])/\BIf (!t9) (CallsH P 49 #[.int .i64 at_,.int .i64 140] h_11 fun v4 h_12=>
 ∃ (t10 t11:Int),v4=(.agg #[.int .i64 t10,.int .i64 t11])/\StoreH h_12 ⟨h.size,0,none⟩ [.int .i64 0,.slice none 0 0] fun h_13=>StoreH h_13 ⟨h_.size,0,none⟩ [.int .i64 t10,.int .i64 t11] fun h_14=>∃ (t12:Int) (A1:Option Addr) (N1 C1:Nat),cellsH h_14 ⟨h.size,0,none⟩ 0 [.int .i64 t12,.slice A1 N1 C1]/\∃ (t13 t14:Int),cellsH h_14 ⟨h_.size,0,none⟩ 0 [.int .i64 t13,.int .i64 t14]/\R (.tuple #[(.agg #[.int .i64 t12,.slice A1 N1 C1]),(.agg #[.int .i64 t13,.int .i64 t14])]) h_14) (J13_4 h_5 next_ t5 t7 t8 h_11)) (CallsH P 51 #[(.string (s.extract (Int.toNat at_) (Int.toNat t5)))] h_10 fun v5 h_19=>
 ∃ (t15:Bool),v5=(.bool t15)/\BIf (!t15) (CallsH P 53 #[.string s,.int .i64 at_,.int .i64 t5] h_19 fun v6 h_20=>
 ∃ (t16 t17:Int),v6=(.tuple #[.int .i64 t16,.int .i64 t17])/\LoopT (σ:=Int×Int) (fun st_ h_st nx_st=>B13_6 P R h s h_ h_5 begun next_ t5 (st_.1) (st_.2) h_st nx_st) (t16,t17) h_20) (J13_3 next_ t5 (begun) h_19))) (CallsH P 51 #[(.string (s.extract (Int.toNat at_) (Int.toNat t5)))] h_10 fun v10 h_28=>
 ∃ (t26:Bool),v10=(.bool t26)/\BIf (!t26) (CallsH P 53 #[.string s,.int .i64 at_,.int .i64 t5] h_28 fun v11 h_29=>
 ∃ (t27 t28:Int),v11=(.tuple #[.int .i64 t27,.int .i64 t28])/\LoopT (σ:=Int×Int) (fun st_ h_st nx_st=>B13_8 P R h s h_ h_5 begun next_ t5 (st_.1) (st_.2) h_st nx_st) (t27,t28) h_29) (J13_3 next_ t5 (begun) h_28))
def J13_10  (R:Value->Heap->Prop) (h h_ h_5 h_45:Heap):Prop:=
 ∃ (t49:Int) (A7:Option Addr) (N7 C7:Nat),cellsH h_45 (Addr.add ⟨h_5.size,0,none⟩ 0) 0 [.int .i64 t49,.slice A7 N7 C7]/\StoreH h_45 ⟨h.size,0,none⟩ [.int .i64 t49,.slice A7 N7 C7] fun h_46=>StoreH h_46 ⟨h_.size,0,none⟩ [.int .i64 0,.int .i64 0] fun h_47=>∃ (t50:Int) (A8:Option Addr) (N8 C8:Nat),cellsH h_47 ⟨h.size,0,none⟩ 0 [.int .i64 t50,.slice A8 N8 C8]/\∃ (t51 t52:Int),cellsH h_47 ⟨h_.size,0,none⟩ 0 [.int .i64 t51,.int .i64 t52]/\R (.tuple #[(.agg #[.int .i64 t50,.slice A8 N8 C8]),(.agg #[.int .i64 t51,.int .i64 t52])]) h_47
def J13_9  (P:Program) (R:Value->Heap->Prop) (h:Heap) (s:ByteArray) (h_ h_5 h_41:Heap):Prop:=
 ∃ (t42:Bool),cellH h_41 (Addr.add ⟨h_5.size,0,none⟩ 4)=some (.bool t42)/\BIf t42 (CallsH P 49 #[(.int .i64 ((s.size:Nat):Int)),.int .i64 41] h_41 fun v17 h_48=>
 ∃ (t53 t54:Int),v17=(.agg #[.int .i64 t53,.int .i64 t54])/\StoreH h_48 ⟨h.size,0,none⟩ [.int .i64 0,.slice none 0 0] fun h_49=>StoreH h_49 ⟨h_.size,0,none⟩ [.int .i64 t53,.int .i64 t54] fun h_50=>∃ (t55:Int) (A9:Option Addr) (N9 C9:Nat),cellsH h_50 ⟨h.size,0,none⟩ 0 [.int .i64 t55,.slice A9 N9 C9]/\∃ (t56 t57:Int),cellsH h_50 ⟨h_.size,0,none⟩ 0 [.int .i64 t56,.int .i64 t57]/\R (.tuple #[(.agg #[.int .i64 t55,.slice A9 N9 C9]),(.agg #[.int .i64 t56,.int .i64 t57])]) h_50) (∃ (A5:Option Addr) (N5 C5:Nat),cellH h_41 (Addr.add (Addr.add ⟨h_5.size,0,none⟩ 0) 1)=some (.slice A5 N5 C5)/\∃ (t43:Int),cellH h_41 (Addr.add ⟨h_5.size,0,none⟩ 2)=some (.int .i64 t43)/\PIf ((((N5:Nat):Int):Int)<t43)
 (CallsH P 49 #[(.int .i64 ((s.size:Nat):Int)),.int .i64 41] h_41 fun v16 h_42=>
 ∃ (t44 t45:Int),v16=(.agg #[.int .i64 t44,.int .i64 t45])/\StoreH h_42 ⟨h.size,0,none⟩ [.int .i64 0,.slice none 0 0] fun h_43=>StoreH h_43 ⟨h_.size,0,none⟩ [.int .i64 t44,.int .i64 t45] fun h_44=>∃ (t46:Int) (A6:Option Addr) (N6 C6:Nat),cellsH h_44 ⟨h.size,0,none⟩ 0 [.int .i64 t46,.slice A6 N6 C6]/\∃ (t47 t48:Int),cellsH h_44 ⟨h_.size,0,none⟩ 0 [.int .i64 t47,.int .i64 t48]/\R (.tuple #[(.agg #[.int .i64 t46,.slice A6 N6 C6]),(.agg #[.int .i64 t47,.int .i64 t48])]) h_44)
 (J13_10 R h h_ h_5 h_41))
def J13_1  (P:Program) (R:Value->Heap->Prop) (h:Heap) (s:ByteArray) (h_ h_5:Heap) (begun2:Bool) (h_37:Heap):Prop:=
 BIf (!begun2) (CallsH P 49 #[(.int .i64 ((s.size:Nat):Int)),.int .i64 140] h_37 fun v15 h_38=>
 ∃ (t37 t38:Int),v15=(.agg #[.int .i64 t37,.int .i64 t38])/\StoreH h_38 ⟨h.size,0,none⟩ [.int .i64 0,.slice none 0 0] fun h_39=>StoreH h_39 ⟨h_.size,0,none⟩ [.int .i64 t37,.int .i64 t38] fun h_40=>∃ (t39:Int) (A4:Option Addr) (N4 C4:Nat),cellsH h_40 ⟨h.size,0,none⟩ 0 [.int .i64 t39,.slice A4 N4 C4]/\∃ (t40 t41:Int),cellsH h_40 ⟨h_.size,0,none⟩ 0 [.int .i64 t40,.int .i64 t41]/\R (.tuple #[(.agg #[.int .i64 t39,.slice A4 N4 C4]),(.agg #[.int .i64 t40,.int .i64 t41])]) h_40) (J13_9 P R h s h_ h_5 h_37)
def B13_11 (P:Program) (R:Value->Heap->Prop) (h:Heap) (s:ByteArray) (h_ h_5:Heap) (begun:Bool) (at_:Int) (h_7:Heap) (next_:Bool×Int->Heap->Prop):Prop:=
 PIf (at_<((s.size:Nat):Int))
 (J13_2 P R h s h_ h_5 begun at_ next_ h_7)
 (J13_1 P R h s h_ h_5 (begun) h_7)
def J13_0  (P:Program) (R:Value->Heap->Prop) (h:Heap) (s:ByteArray) (h_ h_5:Heap):Prop:=
 let h_6:Heap:=(h_5).push (.cells (Value.cells (.agg #[.int .i64 0,.slice none 0 0,.int .i64 0,.slice none 0 0,.bool false])) 77);LoopT (σ:=Bool×Int) (fun st_ h_st nx_st=>B13_11 P R h s h_ h_5 (st_.1) (st_.2) h_st nx_st) (false,0) h_6
def VC13 (P:Program) (s:ByteArray) (R:Value->Heap->Prop) (h:Heap):Prop:=
 let h_:Heap:=(h).push (.cells #[.int .i64 0,.slice none 0 0] 24);let h_1:Heap:=(h_).push (.cells #[.int .i64 0,.int .i64 0] 27);PIf ((262144:Int)<((s.size:Nat):Int))
 (CallsH P 49 #[.int .i64 0,.int .i64 2] h_1 fun v h_2=>
 ∃ (t t1:Int),v=(.agg #[.int .i64 t,.int .i64 t1])/\StoreH h_2 ⟨h.size,0,none⟩ [.int .i64 0,.slice none 0 0] fun h_3=>StoreH h_3 ⟨h_.size,0,none⟩ [.int .i64 t,.int .i64 t1] fun h_4=>∃ (t2:Int) (A:Option Addr) (N C:Nat),cellsH h_4 ⟨h.size,0,none⟩ 0 [.int .i64 t2,.slice A N C]/\∃ (t3 t4:Int),cellsH h_4 ⟨h_.size,0,none⟩ 0 [.int .i64 t3,.int .i64 t4]/\R (.tuple #[(.agg #[.int .i64 t2,.slice A N C]),(.agg #[.int .i64 t3,.int .i64 t4])]) h_4)
 (J13_0 P R h s h_ h_1)
theorem vc13 (P:Program) (s:ByteArray) (R:Value->Heap->Prop) (h:Heap):fnC P ret13 code13 [.string s] h R=VC13 P s R h:=by kernel_rfl
theorem run13 (s:ByteArray) (R:Value->Heap->Prop) (h:Heap) (hv:VC13 Tryz.prog s R h):CallsH Tryz.prog 13 #[.string s] h R:=calls_of_fnC (Checked.mixed Tryz.checked) Tryz.func13 comp13 (Nat.le_of_ble_eq_true rfl) (by rw [vc13];exact hv)
def loops49:List (List (Nat×Shp)):=[]
noncomputable def code49:SCode:=((compF Tryz.prog Tryz.f49 loops49).elim .skip fun x=>x.2.2)
def ret49:List RV:=[.cellN 4 [.int .i64,.int .i64]]
theorem comp49:compF Tryz.prog Tryz.f49 loops49=some (8,ret49,code49):=by kernel_rfl
def VC49 (P:Program) (at_ e:Int) (R:Value->Heap->Prop) (h:Heap):Prop:=
 let h_:Heap:=(h).push (.cells #[.int .i64 0,.int .i64 0] 27);StoreH h_ ⟨h.size,0,none⟩ [.int .i64 at_,.int .i64 e] fun h_1=>∃ (t t1:Int),cellsH h_1 ⟨h.size,0,none⟩ 0 [.int .i64 t,.int .i64 t1]/\R (.agg #[.int .i64 t,.int .i64 t1]) h_1
theorem vc49 (P:Program) (at_ e:Int) (R:Value->Heap->Prop) (h:Heap):fnC P ret49 code49 [.int .i64 at_,.int .i64 e] h R=VC49 P at_ e R h:=by kernel_rfl
theorem run49 (at_ e:Int) (R:Value->Heap->Prop) (h:Heap) (hv:VC49 Tryz.prog at_ e R h):CallsH Tryz.prog 49 #[.int .i64 at_,.int .i64 e] h R:=calls_of_fnC (Checked.mixed Tryz.checked) Tryz.func49 comp49 (Nat.le_of_ble_eq_true rfl) (by rw [vc49];exact hv)
def loops50:List (List (Nat×Shp)):=[[(1,.int .i64)]]
noncomputable def code50:SCode:=((compF Tryz.prog Tryz.f50 loops50).elim .skip fun x=>x.2.2)
def ret50:List RV:=[.tmp 4]
theorem comp50:compF Tryz.prog Tryz.f50 loops50=some (18,ret50,code50):=by kernel_rfl
def J50_0  (R:Value->Heap->Prop) (at_2:Int) (h_1:Heap):Prop:=
 R (.int .i64 at_2) h_1
def B50_1 (R:Value->Heap->Prop) (s:ByteArray) (at_1:Int) (h_:Heap) (next_:Int->Heap->Prop):Prop:=
 PIf (at_1<((s.size:Nat):Int))
 (0≤at_1/\at_1<(s.size:Nat)/\PIf (((byteAt s at_1):Int)=10)
 (J50_0 R (at_1) h_)
 (next_ (IntKind.wrap .i64 (at_1+1)) h_))
 (J50_0 R (at_1) h_)
def VC50 (P:Program) (s:ByteArray) (at_:Int) (R:Value->Heap->Prop) (h:Heap):Prop:=
 LoopT (σ:=Int) (fun st_ h_st nx_st=>B50_1 R s (st_) h_st nx_st) (at_) h
theorem vc50 (P:Program) (s:ByteArray) (at_:Int) (R:Value->Heap->Prop) (h:Heap):fnC P ret50 code50 [.string s,.int .i64 at_] h R=VC50 P s at_ R h:=by kernel_rfl
theorem run50 (s:ByteArray) (at_:Int) (R:Value->Heap->Prop) (h:Heap) (hv:VC50 Tryz.prog s at_ R h):CallsH Tryz.prog 50 #[.string s,.int .i64 at_] h R:=calls_of_fnC (Checked.mixed Tryz.checked) Tryz.func50 comp50 (Nat.le_of_ble_eq_true rfl) (by rw [vc50];exact hv)
def loops51:List (List (Nat×Shp)):=[]
noncomputable def code51:SCode:=((compF Tryz.prog Tryz.f51 loops51).elim .skip fun x=>x.2.2)
def ret51:List RV:=[.tmp 2]
theorem comp51:compF Tryz.prog Tryz.f51 loops51=some (15,ret51,code51):=by kernel_rfl
def VC51 (P:Program) (l:ByteArray) (R:Value->Heap->Prop) (h:Heap):Prop:=
 PIf ((l:ByteArray)=(ByteArray.mk #[99]))
 (R (.bool true) h)
 (PIf ((1:Int)<((l.size:Nat):Int))
 (0≤(0:Int)/\(0:Int)≤2/\(2:Int)≤(l.size:Nat)/\PIf (((l.extract (Int.toNat 0) (Int.toNat 2)):ByteArray)=(ByteArray.mk #[99,32]))
 (R (.bool true) h)
 (R (.bool false) h))
 (R (.bool false) h))
theorem vc51 (P:Program) (l:ByteArray) (R:Value->Heap->Prop) (h:Heap):fnC P ret51 code51 [.string l] h R=VC51 P l R h:=by kernel_rfl
theorem run51 (l:ByteArray) (R:Value->Heap->Prop) (h:Heap) (hv:VC51 Tryz.prog l R h):CallsH Tryz.prog 51 #[.string l] h R:=calls_of_fnC (Checked.mixed Tryz.checked) Tryz.func51 comp51 (Nat.le_of_ble_eq_true rfl) (by rw [vc51];exact hv)
def loops52:List (List (Nat×Shp)):=[]
noncomputable def code52:SCode:=((compF Tryz.prog Tryz.f52 loops52).elim .skip fun x=>x.2.2)
def ret52:List RV:=[.tmp 2,.tmp 3,.tmp 4]
theorem comp52:compF Tryz.prog Tryz.f52 loops52=some (64,ret52,code52):=by kernel_rfl
def J52_1  (P:Program) (R:Value->Heap->Prop) (l:ByteArray) (t t1:Int) (h_2:Heap):Prop:=
 CallsH P 93 #[.string l,(.int .i64 (IntKind.wrap .i64 (t1+1)))] h_2 fun v1 h_3=>
 ∃ (t3 t4:Int) (t5:Bool),v1=(.tuple #[.int .i64 t3,.int .i64 t4,.bool t5])/\BIf (!t5) (R (.tuple #[.int .i64 0,.int .i64 0,.bool false]) h_3) (PIf (t4=((l.size:Nat):Int))
 (PIf ((262144:Int)<t)
 (R (.tuple #[.int .i64 0,.int .i64 0,.bool false]) h_3)
 (PIf ((524288:Int)<t3)
 (R (.tuple #[.int .i64 0,.int .i64 0,.bool false]) h_3)
 (R (.tuple #[.int .i64 t,.int .i64 t3,.bool true]) h_3)))
 (R (.tuple #[.int .i64 0,.int .i64 0,.bool false]) h_3))
def J52_0  (P:Program) (R:Value->Heap->Prop) (l:ByteArray) (h_:Heap):Prop:=
 CallsH P 93 #[.string l,.int .i64 6] h_ fun v h_1=>
 ∃ (t t1:Int) (t2:Bool),v=(.tuple #[.int .i64 t,.int .i64 t1,.bool t2])/\BIf (!t2) (R (.tuple #[.int .i64 0,.int .i64 0,.bool false]) h_1) (PIf ((((l.size:Nat):Int):Int)≤t1)
 (R (.tuple #[.int .i64 0,.int .i64 0,.bool false]) h_1)
 (0≤t1/\t1<(l.size:Nat)/\PIf (((byteAt l t1):Int)=32)
 (J52_1 P R l t t1 h_1)
 (R (.tuple #[.int .i64 0,.int .i64 0,.bool false]) h_1)))
def VC52 (P:Program) (l:ByteArray) (R:Value->Heap->Prop) (h:Heap):Prop:=
 PIf ((((l.size:Nat):Int):Int)<6)
 (R (.tuple #[.int .i64 0,.int .i64 0,.bool false]) h)
 (0≤(0:Int)/\(0:Int)≤6/\(6:Int)≤(l.size:Nat)/\PIf (((l.extract (Int.toNat 0) (Int.toNat 6)):ByteArray)=(ByteArray.mk #[112,32,99,110,102,32]))
 (J52_0 P R l h)
 (R (.tuple #[.int .i64 0,.int .i64 0,.bool false]) h))
theorem vc52 (P:Program) (l:ByteArray) (R:Value->Heap->Prop) (h:Heap):fnC P ret52 code52 [.string l] h R=VC52 P l R h:=by kernel_rfl
theorem run52 (l:ByteArray) (R:Value->Heap->Prop) (h:Heap) (hv:VC52 Tryz.prog l R h):CallsH Tryz.prog 52 #[.string l] h R:=calls_of_fnC (Checked.mixed Tryz.checked) Tryz.func52 comp52 (Nat.le_of_ble_eq_true rfl) (by rw [vc52];exact hv)
def loops53:List (List (Nat×Shp)):=[[(1,.int .i64)],[(8,.int .i64)]]
noncomputable def code53:SCode:=((compF Tryz.prog Tryz.f53 loops53).elim .skip fun x=>x.2.2)
def ret53:List RV:=[.tmp 6,.tmp 7]
theorem comp53:compF Tryz.prog Tryz.f53 loops53=some (58,ret53,code53):=by kernel_rfl
def J53_1  (R:Value->Heap->Prop) (at_2 to_1:Int) (h_3:Heap):Prop:=
 R (.tuple #[.int .i64 at_2,.int .i64 to_1]) h_3
def B53_2 (R:Value->Heap->Prop) (s:ByteArray) (end_ at_2 to_:Int) (h_2:Heap) (next_1:Int->Heap->Prop):Prop:=
 PIf (to_<end_)
 (0≤to_/\to_<(s.size:Nat)/\PIf (((byteAt s to_):Int)=32)
 (J53_1 R at_2 (to_) h_2)
 (0≤to_/\to_<(s.size:Nat)/\PIf (((byteAt s to_):Int)=9)
 (J53_1 R at_2 (to_) h_2)
 (0≤to_/\to_<(s.size:Nat)/\PIf (((byteAt s to_):Int)=13)
 (J53_1 R at_2 (to_) h_2)
 (next_1 (IntKind.wrap .i64 (to_+1)) h_2))))
 (J53_1 R at_2 (to_) h_2)
def J53_0  (R:Value->Heap->Prop) (s:ByteArray) (end_ at_2:Int) (h_1:Heap):Prop:=
 LoopT (σ:=Int) (fun st_ h_st nx_st=>B53_2 R s end_ at_2 (st_) h_st nx_st) (at_2) h_1
def B53_3 (R:Value->Heap->Prop) (s:ByteArray) (end_ at_1:Int) (h_:Heap) (next_:Int->Heap->Prop):Prop:=
 PIf (at_1<end_)
 (0≤at_1/\at_1<(s.size:Nat)/\PIf (((byteAt s at_1):Int)=32)
 (next_ (IntKind.wrap .i64 (at_1+1)) h_)
 (0≤at_1/\at_1<(s.size:Nat)/\PIf (((byteAt s at_1):Int)=9)
 (next_ (IntKind.wrap .i64 (at_1+1)) h_)
 (0≤at_1/\at_1<(s.size:Nat)/\PIf (((byteAt s at_1):Int)=13)
 (next_ (IntKind.wrap .i64 (at_1+1)) h_)
 (J53_0 R s end_ (at_1) h_))))
 (J53_0 R s end_ (at_1) h_)
def VC53 (P:Program) (s:ByteArray) (at_ end_:Int) (R:Value->Heap->Prop) (h:Heap):Prop:=
 LoopT (σ:=Int) (fun st_ h_st nx_st=>B53_3 R s end_ (st_) h_st nx_st) (at_) h
theorem vc53 (P:Program) (s:ByteArray) (at_ end_:Int) (R:Value->Heap->Prop) (h:Heap):fnC P ret53 code53 [.string s,.int .i64 at_,.int .i64 end_] h R=VC53 P s at_ end_ R h:=by kernel_rfl
theorem run53 (s:ByteArray) (at_ end_:Int) (R:Value->Heap->Prop) (h:Heap) (hv:VC53 Tryz.prog s at_ end_ R h):CallsH Tryz.prog 53 #[.string s,.int .i64 at_,.int .i64 end_] h R:=calls_of_fnC (Checked.mixed Tryz.checked) Tryz.func53 comp53 (Nat.le_of_ble_eq_true rfl) (by rw [vc53];exact hv)
def loops54:List (List (Nat×Shp)):=[]
noncomputable def code54:SCode:=((compF Tryz.prog Tryz.f54 loops54).elim .skip fun x=>x.2.2)
def ret54:List RV:=[.tmp 4]
theorem comp54:compF Tryz.prog Tryz.f54 loops54=some (96,ret54,code54):=by kernel_rfl
def J54_0  (R:Value->Heap->Prop) (r:(Option Addr)) (t:Int) (h_6:Heap):Prop:=
 AtP r fun ad11=>∃ (A4:Option Addr) (N4 C4:Nat),cellH h_6 (Addr.add ad11 3)=some (.slice A4 N4 C4)/\let h_7:Heap:=(h_6).push (.cells #[.int .i64 t] 3);∃ ys1:List Value,ReadL h_7 (some ⟨h_6.size,0,none⟩) ys1/\ys1.length=1*1/\AppS h_7 A4 N4 C4 3 8 1 #[.int .i64 0] ys1 1 fun apA1 apN1 apC1 h_8=>AtP r fun ad12=>StoreH h_8 (Addr.add ad12 3) [.slice apA1 apN1 apC1] fun h_9=>AtP r fun ad13=>StoreH h_9 (Addr.add ad13 4) [.bool true] fun h_10=>R (.int .i64 0) h_10
def VC54 (P:Program) (r:Option Addr) (w:ByteArray) (R:Value->Heap->Prop) (h:Heap):Prop:=
 CallsH P 94 #[.string w] h fun v h_=>
 ∃ (t:Int) (t1:Bool),v=(.tuple #[.int .i64 t,.bool t1])/\BIf (!t1) (R (.int .i64 3) h_) (AtP r fun ad=>∃ (t2:Int),cellH h_ (Addr.add (Addr.add ad 0) 0)=some (.int .i64 t2)/\PIf (t2<t)
 (R (.int .i64 141) h_)
 (AtP r fun ad1=>∃ (t3:Int),cellH h_ (Addr.add (Addr.add ad1 0) 0)=some (.int .i64 t3)/\PIf (t<(IntKind.wrap .i64 (0-t3)))
 (R (.int .i64 141) h_)
 (AtP r fun ad2=>∃ (t4:Bool),cellH h_ (Addr.add ad2 4)=some (.bool t4)/\BIf (!t4) (AtP r fun ad3=>∃ (A:Option Addr) (N C:Nat),cellH h_ (Addr.add (Addr.add ad3 0) 1)=some (.slice A N C)/\AtP r fun ad4=>∃ (t5:Int),cellH h_ (Addr.add ad4 2)=some (.int .i64 t5)/\PIf ((((N:Nat):Int):Int)=t5)
 (R (.int .i64 41) h_)
 (PIf (t=0)
 (AtP r fun ad5=>(Addr.block (Addr.add (Addr.add ad5 0) 1))<(h_).size/\∃ (A1:Option Addr) (N1 C1:Nat),cellH h_ (Addr.add (Addr.add ad5 0) 1)=some (.slice A1 N1 C1)/\AtP r fun ad6=>(Addr.block (Addr.add ad6 3))<(h_).size/\∃ (A2:Option Addr) (N2 C2:Nat),cellH h_ (Addr.add ad6 3)=some (.slice A2 N2 C2)/\let h_1:Heap:=(h_).push (.cells #[.slice A2 N2 C2] 65);AgreeH (h_).size h_ h_1/\∃ ys:List Value,ReadL h_1 (some ⟨h_.size,0,none⟩) ys/\ys.length=1*1/\AppS h_1 A1 N1 C1 65 24 1 #[.slice none 0 0] ys 1 fun apA apN apC h_2=>AtP r fun ad7=>StoreH h_2 (Addr.add (Addr.add ad7 0) 1) [.slice apA apN apC] fun h_3=>AtP r fun ad8=>StoreH h_3 (Addr.add ad8 3) [.slice none 0 0] fun h_4=>AtP r fun ad9=>StoreH h_4 (Addr.add ad9 4) [.bool false] fun h_5=>R (.int .i64 0) h_5)
 (AtP r fun ad10=>∃ (A3:Option Addr) (N3 C3:Nat),cellH h_ (Addr.add ad10 3)=some (.slice A3 N3 C3)/\PIf ((((N3:Nat):Int):Int)=16384)
 (R (.int .i64 2) h_)
 (J54_0 R r t h_)))) (PIf (t=0)
 (AtP r fun ad14=>(Addr.block (Addr.add (Addr.add ad14 0) 1))<(h_).size/\∃ (A5:Option Addr) (N5 C5:Nat),cellH h_ (Addr.add (Addr.add ad14 0) 1)=some (.slice A5 N5 C5)/\AtP r fun ad15=>(Addr.block (Addr.add ad15 3))<(h_).size/\∃ (A6:Option Addr) (N6 C6:Nat),cellH h_ (Addr.add ad15 3)=some (.slice A6 N6 C6)/\let h_11:Heap:=(h_).push (.cells #[.slice A6 N6 C6] 65);AgreeH (h_).size h_ h_11/\∃ ys2:List Value,ReadL h_11 (some ⟨h_.size,0,none⟩) ys2/\ys2.length=1*1/\AppS h_11 A5 N5 C5 65 24 1 #[.slice none 0 0] ys2 1 fun apA2 apN2 apC2 h_12=>AtP r fun ad16=>StoreH h_12 (Addr.add (Addr.add ad16 0) 1) [.slice apA2 apN2 apC2] fun h_13=>AtP r fun ad17=>StoreH h_13 (Addr.add ad17 3) [.slice none 0 0] fun h_14=>AtP r fun ad18=>StoreH h_14 (Addr.add ad18 4) [.bool false] fun h_15=>R (.int .i64 0) h_15)
 (AtP r fun ad19=>∃ (A7:Option Addr) (N7 C7:Nat),cellH h_ (Addr.add ad19 3)=some (.slice A7 N7 C7)/\PIf ((((N7:Nat):Int):Int)=16384)
 (R (.int .i64 2) h_)
 (J54_0 R r t h_))))))
theorem vc54 (P:Program) (r:Option Addr) (w:ByteArray) (R:Value->Heap->Prop) (h:Heap):fnC P ret54 code54 [.pointer r,.string w] h R=VC54 P r w R h:=by kernel_rfl
theorem run54 (r:Option Addr) (w:ByteArray) (R:Value->Heap->Prop) (h:Heap) (hv:VC54 Tryz.prog r w R h):CallsH Tryz.prog 54 #[.pointer r,.string w] h R:=calls_of_fnC (Checked.mixed Tryz.checked) Tryz.func54 comp54 (Nat.le_of_ble_eq_true rfl) (by rw [vc54];exact hv)
def loops93:List (List (Nat×Shp)):=[[(7,.int .i64),(8,.int .i64)]]
noncomputable def code93:SCode:=((compF Tryz.prog Tryz.f93 loops93).elim .skip fun x=>x.2.2)
def ret93:List RV:=[.tmp 4,.tmp 5,.tmp 6]
theorem comp93:compF Tryz.prog Tryz.f93 loops93=some (43,ret93,code93):=by kernel_rfl
def J93_2  (R:Value->Heap->Prop) (s:ByteArray) (n i:Int) (next_:(Int×Int->Heap->Prop)) (h_5:Heap):Prop:=
 0≤i/\i<(s.size:Nat)/\PIf ((2147483647:Int)<(IntKind.wrap .i64 ((IntKind.wrap .i64 (n*10))+(IntKind.wrap .i64 (IntKind.wrap .u8 ((byteAt s i)-48))))))
 (R (.tuple #[.int .i64 0,.int .i64 0,.bool false]) h_5)
 (next_ ((IntKind.wrap .i64 ((IntKind.wrap .i64 (n*10))+(IntKind.wrap .i64 (IntKind.wrap .u8 ((byteAt s i)-48))))),(IntKind.wrap .i64 (i+1))) h_5)
def J93_1  (R:Value->Heap->Prop) (n1 i1:Int) (h_6:Heap):Prop:=
 R (.tuple #[.int .i64 n1,.int .i64 i1,.bool true]) h_6
def B93_3 (P:Program) (R:Value->Heap->Prop) (s:ByteArray) (n i:Int) (h_3:Heap) (next_:Int×Int->Heap->Prop):Prop:=
 CallsH P 120 #[.string s,.int .i64 i] h_3 fun v2 h_4=>
 ∃ (t2:Bool),v2=(.bool t2)/\BIf t2 (J93_2 R s n i next_ h_4) (J93_1 R (n) (i) h_4)
def J93_0  (P:Program) (R:Value->Heap->Prop) (s:ByteArray) (at_:Int) (h_2:Heap):Prop:=
 LoopT (σ:=Int×Int) (fun st_ h_st nx_st=>B93_3 P R s (st_.1) (st_.2) h_st nx_st) (0,at_) h_2
def VC93 (P:Program) (s:ByteArray) (at_:Int) (R:Value->Heap->Prop) (h:Heap):Prop:=
 CallsH P 120 #[.string s,.int .i64 at_] h fun v h_=>
 ∃ (t:Bool),v=(.bool t)/\BIf (!t) (R (.tuple #[.int .i64 0,.int .i64 0,.bool false]) h_) (0≤at_/\at_<(s.size:Nat)/\PIf (((byteAt s at_):Int)=48)
 (CallsH P 120 #[.string s,(.int .i64 (IntKind.wrap .i64 (at_+1)))] h_ fun v1 h_1=>
 ∃ (t1:Bool),v1=(.bool t1)/\BIf t1 (R (.tuple #[.int .i64 0,.int .i64 0,.bool false]) h_1) (J93_0 P R s at_ h_1))
 (J93_0 P R s at_ h_))
theorem vc93 (P:Program) (s:ByteArray) (at_:Int) (R:Value->Heap->Prop) (h:Heap):fnC P ret93 code93 [.string s,.int .i64 at_] h R=VC93 P s at_ R h:=by kernel_rfl
theorem run93 (s:ByteArray) (at_:Int) (R:Value->Heap->Prop) (h:Heap) (hv:VC93 Tryz.prog s at_ R h):CallsH Tryz.prog 93 #[.string s,.int .i64 at_] h R:=calls_of_fnC (Checked.mixed Tryz.checked) Tryz.func93 comp93 (Nat.le_of_ble_eq_true rfl) (by rw [vc93];exact hv)
def loops94:List (List (Nat×Shp)):=[[(5,.int .i64),(6,.int .i64)]]
noncomputable def code94:SCode:=((compF Tryz.prog Tryz.f94 loops94).elim .skip fun x=>x.2.2)
def ret94:List RV:=[.tmp 2,.tmp 3]
theorem comp94:compF Tryz.prog Tryz.f94 loops94=some (65,ret94,code94):=by kernel_rfl
def J94_4  (d:ByteArray) (n i:Int) (next_:(Int×Int->Heap->Prop)) (h_4:Heap):Prop:=
 0≤i/\i<(d.size:Nat)/\next_ ((min ((IntKind.wrap .i64 ((IntKind.wrap .i64 (n*10))+(IntKind.wrap .i64 (IntKind.wrap .u8 ((byteAt d i)-48))))):Int) 1099511627776),(IntKind.wrap .i64 (i+1))) h_4
def J94_3  (R:Value->Heap->Prop) (d:ByteArray) (n i:Int) (next_:(Int×Int->Heap->Prop)) (h_3:Heap):Prop:=
 0≤i/\i<(d.size:Nat)/\PIf (((byteAt d i):Int)<48)
 (R (.tuple #[.int .i64 0,.bool false]) h_3)
 (0≤i/\i<(d.size:Nat)/\PIf ((57:Int)<(byteAt d i))
 (R (.tuple #[.int .i64 0,.bool false]) h_3)
 (J94_4 d n i next_ h_3))
def J94_2  (R:Value->Heap->Prop) (w d:ByteArray) (n1:Int) (h_5:Heap):Prop:=
 PIf ((d:ByteArray)=w)
 (R (.tuple #[.int .i64 n1,.bool true]) h_5)
 (R (.tuple #[(.int .i64 (IntKind.wrap .i64 (0-n1))),.bool true]) h_5)
def B94_5 (R:Value->Heap->Prop) (w d:ByteArray) (n i:Int) (h_2:Heap) (next_:Int×Int->Heap->Prop):Prop:=
 PIf (i<((d.size:Nat):Int))
 (J94_3 R d n i next_ h_2)
 (J94_2 R w d (n) h_2)
def J94_1  (R:Value->Heap->Prop) (w d:ByteArray) (h_1:Heap):Prop:=
 LoopT (σ:=Int×Int) (fun st_ h_st nx_st=>B94_5 R w d (st_.1) (st_.2) h_st nx_st) (0,0) h_1
def J94_0  (R:Value->Heap->Prop) (w d:ByteArray) (h_:Heap):Prop:=
 PIf ((d:ByteArray)=(ByteArray.mk #[]))
 (R (.tuple #[.int .i64 0,.bool false]) h_)
 (0≤(0:Int)/\(0:Int)<(d.size:Nat)/\PIf (((byteAt d 0):Int)=48)
 (PIf ((1:Int)<((d.size:Nat):Int))
 (R (.tuple #[.int .i64 0,.bool false]) h_)
 (PIf ((d:ByteArray)=w)
 (J94_1 R w d h_)
 (R (.tuple #[.int .i64 0,.bool false]) h_)))
 (J94_1 R w d h_))
def VC94 (P:Program) (w:ByteArray) (R:Value->Heap->Prop) (h:Heap):Prop:=
 PIf ((w:ByteArray)=(ByteArray.mk #[]))
 (J94_0 R w (w) h)
 (0≤(0:Int)/\(0:Int)<(w.size:Nat)/\PIf (((byteAt w 0):Int)=45)
 (0≤(1:Int)/\(1:Int)≤((w.size:Nat):Int)/\(((w.size:Nat):Int):Int)≤(w.size:Nat)/\J94_0 R w ((w.extract (Int.toNat 1) (Int.toNat ((w.size:Nat):Int)))) h)
 (J94_0 R w (w) h))
theorem vc94 (P:Program) (w:ByteArray) (R:Value->Heap->Prop) (h:Heap):fnC P ret94 code94 [.string w] h R=VC94 P w R h:=by kernel_rfl
theorem run94 (w:ByteArray) (R:Value->Heap->Prop) (h:Heap) (hv:VC94 Tryz.prog w R h):CallsH Tryz.prog 94 #[.string w] h R:=calls_of_fnC (Checked.mixed Tryz.checked) Tryz.func94 comp94 (Nat.le_of_ble_eq_true rfl) (by rw [vc94];exact hv)
def loops120:List (List (Nat×Shp)):=[]
noncomputable def code120:SCode:=((compF Tryz.prog Tryz.f120 loops120).elim .skip fun x=>x.2.2)
def ret120:List RV:=[.tmp 4]
theorem comp120:compF Tryz.prog Tryz.f120 loops120=some (25,ret120,code120):=by kernel_rfl
def VC120 (P:Program) (s:ByteArray) (at_:Int) (R:Value->Heap->Prop) (h:Heap):Prop:=
 PIf ((0:Int)≤at_)
 (PIf (at_<((s.size:Nat):Int))
 (0≤at_/\at_<(s.size:Nat)/\PIf ((48:Int)≤(byteAt s at_))
 (0≤at_/\at_<(s.size:Nat)/\PIf (((byteAt s at_):Int)≤57)
 (R (.bool true) h)
 (R (.bool false) h))
 (R (.bool false) h))
 (R (.bool false) h))
 (R (.bool false) h)
theorem vc120 (P:Program) (s:ByteArray) (at_:Int) (R:Value->Heap->Prop) (h:Heap):fnC P ret120 code120 [.string s,.int .i64 at_] h R=VC120 P s at_ R h:=by kernel_rfl
theorem run120 (s:ByteArray) (at_:Int) (R:Value->Heap->Prop) (h:Heap) (hv:VC120 Tryz.prog s at_ R h):CallsH Tryz.prog 120 #[.string s,.int .i64 at_] h R:=calls_of_fnC (Checked.mixed Tryz.checked) Tryz.func120 comp120 (Nat.le_of_ble_eq_true rfl) (by rw [vc120];exact hv)
end Go.Proofs.YtobageabpfkpcaaGreatDoor
