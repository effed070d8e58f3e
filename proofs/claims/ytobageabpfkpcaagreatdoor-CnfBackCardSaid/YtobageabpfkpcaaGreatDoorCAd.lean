/- Words and facts that the claim's proof leans on. No condition. -/
import Derived.Test.YtobageabpfkpcaaGreatDoorHxV
import Derived.Test.YtobageabpfkpcaaGreatDoorChecked
set_option maxRecDepth 100000
set_option linter.unusedVariables false
namespace Go.Proofs.YtobageabpfkpcaaGreatDoor
open Go.Hx
def loops12:List (List (Nat×Shp)):=[[(5,.bool),(6,.int .i64)]]
noncomputable def code12:SCode:=((compF Tryz.prog Tryz.f12 loops12).elim .skip fun x=>x.2.2)
def ret12:List RV:=[.cellN 2 [.int .i64,.slice],.cellN 3 [.int .i64,.int .i64]]
theorem comp12:compF Tryz.prog Tryz.f12 loops12=some (106,ret12,code12):=by kernel_rfl
def J12_2  (P:Program) (R:Value->Heap->Prop) (h:Heap) (s:ByteArray) (h_ h_4:Heap) (begun:Bool) (at_:Int) (next_:(Bool×Int->Heap->Prop)) (h_7:Heap):Prop:=
 0≤at_/\at_≤((s.size:Nat):Int)/\(((s.size:Nat):Int):Int)≤(s.size:Nat)/\CallsH P 45 #[(.string (s.extract (Int.toNat at_) (Int.toNat ((s.size:Nat):Int)))),(.string (ByteArray.mk #[10]))] h_7 fun v h_8=>
 ∃ (t3 t4:ByteArray) (t5:Bool),v=(.tuple #[.string t3,.string t4,.bool t5])/\PIf ((t3:ByteArray)=(ByteArray.mk #[99]))
 (next_ (begun,(IntKind.wrap .i64 (at_+(IntKind.wrap .i64 (((t3.size:Nat):Int)+1))))) h_8)
 (CallsH P 46 #[.string t3,(.string (ByteArray.mk #[99,32]))] h_8 fun v1 h_9=>
 ∃ (t6:Bool),v1=(.bool t6)/\BIf t6 (next_ (begun,(IntKind.wrap .i64 (at_+(IntKind.wrap .i64 (((t3.size:Nat):Int)+1))))) h_9) (BIf begun (CallsH P 47 #[(.pointer (some ⟨h_4.size,0,none⟩)),.string t3,.int .i64 at_] h_9 fun v2 h_10=>
 ∃ (t7 t8:Int),v2=(.agg #[.int .i64 t7,.int .i64 t8])/\let h_11:Heap:=(h_10).push (.cells #[.int .i64 0,.int .i64 0] 27);StoreH h_11 ⟨h_10.size,0,none⟩ [.int .i64 t7,.int .i64 t8] fun h_12=>∃ (t9 t10:Int),cellsH h_12 ⟨h_10.size,0,none⟩ 0 [.int .i64 t9,.int .i64 t10]/\PIf ((#[.int .i64 t9,.int .i64 t10]:Array Value)=#[.int .i64 0,.int .i64 0])
 (next_ (begun,(IntKind.wrap .i64 (at_+(IntKind.wrap .i64 (((t3.size:Nat):Int)+1))))) h_12)
 (∃ zn:Zone,Zone.has zn h_12 (Addr.block ⟨h_10.size,0,none⟩)/\∃ (t11 t12:Int),cellsH h_12 ⟨h_10.size,0,none⟩ 0 [.int .i64 t11,.int .i64 t12]/\StoreH h_12 ⟨h.size,0,none⟩ [.int .i64 0,.slice none 0 0] fun h_13=>Zone.r zn h_12 h_13/\StoreH h_13 ⟨h_.size,0,none⟩ [.int .i64 t11,.int .i64 t12] fun h_14=>Zone.r zn h_13 h_14/\∃ (t13:Int) (A1:Option Addr) (N1 C1:Nat),cellsH h_14 ⟨h.size,0,none⟩ 0 [.int .i64 t13,.slice A1 N1 C1]/\∃ (t14 t15:Int),cellsH h_14 ⟨h_.size,0,none⟩ 0 [.int .i64 t14,.int .i64 t15]/\R (.tuple #[(.agg #[.int .i64 t13,.slice A1 N1 C1]),(.agg #[.int .i64 t14,.int .i64 t15])]) h_14)) (CallsH P 48 #[.string t3] h_9 fun v3 h_15=>
 ∃ (t16 t17:Int) (t18:Bool),v3=(.tuple #[.int .i64 t16,.int .i64 t17,.bool t18])/\StoreH h_15 (Addr.add (Addr.add ⟨h_4.size,0,none⟩ 0) 0) [.int .i64 t16] fun h_16=>StoreH h_16 (Addr.add ⟨h_4.size,0,none⟩ 2) [.int .i64 t17] fun h_17=>BIf (!t18) (StoreH h_17 ⟨h.size,0,none⟩ [.int .i64 0,.slice none 0 0] fun h_18=>StoreH h_18 ⟨h_.size,0,none⟩ [.int .i64 at_,.int .i64 140] fun h_19=>∃ (t19:Int) (A2:Option Addr) (N2 C2:Nat),cellsH h_19 ⟨h.size,0,none⟩ 0 [.int .i64 t19,.slice A2 N2 C2]/\∃ (t20 t21:Int),cellsH h_19 ⟨h_.size,0,none⟩ 0 [.int .i64 t20,.int .i64 t21]/\R (.tuple #[(.agg #[.int .i64 t19,.slice A2 N2 C2]),(.agg #[.int .i64 t20,.int .i64 t21])]) h_19) (next_ (true,(IntKind.wrap .i64 (at_+(IntKind.wrap .i64 (((t3.size:Nat):Int)+1))))) h_17))))
def J12_3  (R:Value->Heap->Prop) (h h_ h_4 h_25:Heap):Prop:=
 ∃ (t30:Int) (A6:Option Addr) (N6 C6:Nat),cellsH h_25 (Addr.add ⟨h_4.size,0,none⟩ 0) 0 [.int .i64 t30,.slice A6 N6 C6]/\StoreH h_25 ⟨h.size,0,none⟩ [.int .i64 t30,.slice A6 N6 C6] fun h_26=>StoreH h_26 ⟨h_.size,0,none⟩ [.int .i64 0,.int .i64 0] fun h_27=>∃ (t31:Int) (A7:Option Addr) (N7 C7:Nat),cellsH h_27 ⟨h.size,0,none⟩ 0 [.int .i64 t31,.slice A7 N7 C7]/\∃ (t32 t33:Int),cellsH h_27 ⟨h_.size,0,none⟩ 0 [.int .i64 t32,.int .i64 t33]/\R (.tuple #[(.agg #[.int .i64 t31,.slice A7 N7 C7]),(.agg #[.int .i64 t32,.int .i64 t33])]) h_27
def J12_1  (R:Value->Heap->Prop) (h:Heap) (s:ByteArray) (h_ h_4:Heap) (begun1:Bool) (h_20:Heap):Prop:=
 BIf (!begun1) (StoreH h_20 ⟨h.size,0,none⟩ [.int .i64 0,.slice none 0 0] fun h_21=>StoreH h_21 ⟨h_.size,0,none⟩ [(.int .i64 ((s.size:Nat):Int)),.int .i64 140] fun h_22=>∃ (t22:Int) (A3:Option Addr) (N3 C3:Nat),cellsH h_22 ⟨h.size,0,none⟩ 0 [.int .i64 t22,.slice A3 N3 C3]/\∃ (t23 t24:Int),cellsH h_22 ⟨h_.size,0,none⟩ 0 [.int .i64 t23,.int .i64 t24]/\R (.tuple #[(.agg #[.int .i64 t22,.slice A3 N3 C3]),(.agg #[.int .i64 t23,.int .i64 t24])]) h_22) (∃ (t25:Bool),cellH h_20 (Addr.add ⟨h_4.size,0,none⟩ 4)=some (.bool t25)/\BIf t25 (StoreH h_20 ⟨h.size,0,none⟩ [.int .i64 0,.slice none 0 0] fun h_28=>StoreH h_28 ⟨h_.size,0,none⟩ [(.int .i64 ((s.size:Nat):Int)),.int .i64 41] fun h_29=>∃ (t34:Int) (A8:Option Addr) (N8 C8:Nat),cellsH h_29 ⟨h.size,0,none⟩ 0 [.int .i64 t34,.slice A8 N8 C8]/\∃ (t35 t36:Int),cellsH h_29 ⟨h_.size,0,none⟩ 0 [.int .i64 t35,.int .i64 t36]/\R (.tuple #[(.agg #[.int .i64 t34,.slice A8 N8 C8]),(.agg #[.int .i64 t35,.int .i64 t36])]) h_29) (∃ (A4:Option Addr) (N4 C4:Nat),cellH h_20 (Addr.add (Addr.add ⟨h_4.size,0,none⟩ 0) 1)=some (.slice A4 N4 C4)/\∃ (t26:Int),cellH h_20 (Addr.add ⟨h_4.size,0,none⟩ 2)=some (.int .i64 t26)/\PIf ((((N4:Nat):Int):Int)<t26)
 (StoreH h_20 ⟨h.size,0,none⟩ [.int .i64 0,.slice none 0 0] fun h_23=>StoreH h_23 ⟨h_.size,0,none⟩ [(.int .i64 ((s.size:Nat):Int)),.int .i64 41] fun h_24=>∃ (t27:Int) (A5:Option Addr) (N5 C5:Nat),cellsH h_24 ⟨h.size,0,none⟩ 0 [.int .i64 t27,.slice A5 N5 C5]/\∃ (t28 t29:Int),cellsH h_24 ⟨h_.size,0,none⟩ 0 [.int .i64 t28,.int .i64 t29]/\R (.tuple #[(.agg #[.int .i64 t27,.slice A5 N5 C5]),(.agg #[.int .i64 t28,.int .i64 t29])]) h_24)
 (J12_3 R h h_ h_4 h_20)))
def B12_4 (P:Program) (R:Value->Heap->Prop) (h:Heap) (s:ByteArray) (h_ h_4:Heap) (begun:Bool) (at_:Int) (h_6:Heap) (next_:Bool×Int->Heap->Prop):Prop:=
 PIf (at_<((s.size:Nat):Int))
 (J12_2 P R h s h_ h_4 begun at_ next_ h_6)
 (J12_1 R h s h_ h_4 (begun) h_6)
def J12_0  (P:Program) (R:Value->Heap->Prop) (h:Heap) (s:ByteArray) (h_ h_4:Heap):Prop:=
 let h_5:Heap:=(h_4).push (.cells (Value.cells (.agg #[.int .i64 0,.slice none 0 0,.int .i64 0,.slice none 0 0,.bool false])) 67);LoopT (σ:=Bool×Int) (fun st_ h_st nx_st=>B12_4 P R h s h_ h_4 (st_.1) (st_.2) h_st nx_st) (false,0) h_5
def VC12 (P:Program) (s:ByteArray) (R:Value->Heap->Prop) (h:Heap):Prop:=
 let h_:Heap:=(h).push (.cells #[.int .i64 0,.slice none 0 0] 24);let h_1:Heap:=(h_).push (.cells #[.int .i64 0,.int .i64 0] 27);PIf ((262144:Int)<((s.size:Nat):Int))
 (StoreH h_1 ⟨h.size,0,none⟩ [.int .i64 0,.slice none 0 0] fun h_2=>StoreH h_2 ⟨h_.size,0,none⟩ [.int .i64 0,.int .i64 2] fun h_3=>∃ (t:Int) (A:Option Addr) (N C:Nat),cellsH h_3 ⟨h.size,0,none⟩ 0 [.int .i64 t,.slice A N C]/\∃ (t1 t2:Int),cellsH h_3 ⟨h_.size,0,none⟩ 0 [.int .i64 t1,.int .i64 t2]/\R (.tuple #[(.agg #[.int .i64 t,.slice A N C]),(.agg #[.int .i64 t1,.int .i64 t2])]) h_3)
 (J12_0 P R h s h_ h_1)
theorem vc12 (P:Program) (s:ByteArray) (R:Value->Heap->Prop) (h:Heap):fnC P ret12 code12 [.string s] h R=VC12 P s R h:=by kernel_rfl
theorem run12 (s:ByteArray) (R:Value->Heap->Prop) (h:Heap) (hv:VC12 Tryz.prog s R h):CallsH Tryz.prog 12 #[.string s] h R:=calls_of_fnC (Checked.mixed Tryz.checked) Tryz.func12 comp12 (Nat.le_of_ble_eq_true rfl) (by rw [vc12];exact hv)
def loops47:List (List (Nat×Shp)):=[[(7,.int .i64)],[(8,.int .i64)]]
noncomputable def code47:SCode:=((compF Tryz.prog Tryz.f47 loops47).elim .skip fun x=>x.2.2)
def ret47:List RV:=[.cellN 6 [.int .i64,.int .i64]]
theorem comp47:compF Tryz.prog Tryz.f47 loops47=some (49,ret47,code47):=by kernel_rfl
def J47_3  (P:Program) (R:Value->Heap->Prop) (h:Heap) (r:(Option Addr)) (l:ByteArray) (at_:Int) (next_:(Int->Heap->Prop)) (i1 end_1:Int) (h_7:Heap):Prop:=
 0≤i1/\i1≤end_1/\end_1≤(l.size:Nat)/\CallsH P 90 #[.pointer r,(.string (l.extract (Int.toNat i1) (Int.toNat end_1)))] h_7 fun v2 h_8=>
 ∃ (t2:Int),v2=(.int .i64 t2)/\PIf (t2=0)
 (next_ (end_1) h_8)
 (StoreH h_8 ⟨h.size,0,none⟩ [(.int .i64 (IntKind.wrap .i64 (at_+i1))),.int .i64 t2] fun h_9=>∃ (t3 t4:Int),cellsH h_9 ⟨h.size,0,none⟩ 0 [.int .i64 t3,.int .i64 t4]/\R (.agg #[.int .i64 t3,.int .i64 t4]) h_9)
def B47_4 (P:Program) (R:Value->Heap->Prop) (h:Heap) (r:(Option Addr)) (l:ByteArray) (at_:Int) (next_:(Int->Heap->Prop)) (i1 end_:Int) (h_5:Heap) (next_1:Int->Heap->Prop):Prop:=
 PIf (end_<((l.size:Nat):Int))
 (0≤end_/\end_<(l.size:Nat)/\CallsH P 89 #[(.int .u8 (byteAt l end_))] h_5 fun v1 h_6=>
 ∃ (t1:Bool),v1=(.bool t1)/\BIf (!t1) (next_1 (IntKind.wrap .i64 (end_+1)) h_6) (J47_3 P R h r l at_ next_ i1 (end_) h_6))
 (J47_3 P R h r l at_ next_ i1 (end_) h_5)
def J47_2  (P:Program) (R:Value->Heap->Prop) (h:Heap) (r:(Option Addr)) (l:ByteArray) (at_:Int) (next_:(Int->Heap->Prop)) (i1:Int) (h_4:Heap):Prop:=
 LoopT (σ:=Int) (fun st_ h_st nx_st=>B47_4 P R h r l at_ next_ i1 (st_) h_st nx_st) (i1) h_4
def J47_1  (P:Program) (R:Value->Heap->Prop) (h:Heap) (r:(Option Addr)) (l:ByteArray) (at_ i:Int) (next_:(Int->Heap->Prop)) (h_2:Heap):Prop:=
 0≤i/\i<(l.size:Nat)/\CallsH P 89 #[(.int .u8 (byteAt l i))] h_2 fun v h_3=>
 ∃ (t:Bool),v=(.bool t)/\BIf t (next_ (IntKind.wrap .i64 (i+1)) h_3) (J47_2 P R h r l at_ next_ (i) h_3)
def J47_0  (R:Value->Heap->Prop) (h h_10:Heap):Prop:=
 StoreH h_10 ⟨h.size,0,none⟩ [.int .i64 0,.int .i64 0] fun h_11=>∃ (t5 t6:Int),cellsH h_11 ⟨h.size,0,none⟩ 0 [.int .i64 t5,.int .i64 t6]/\R (.agg #[.int .i64 t5,.int .i64 t6]) h_11
def B47_5 (P:Program) (R:Value->Heap->Prop) (h:Heap) (r:(Option Addr)) (l:ByteArray) (at_ i:Int) (h_1:Heap) (next_:Int->Heap->Prop):Prop:=
 PIf (i<((l.size:Nat):Int))
 (J47_1 P R h r l at_ i next_ h_1)
 (J47_0 R h h_1)
def VC47 (P:Program) (r:Option Addr) (l:ByteArray) (at_:Int) (R:Value->Heap->Prop) (h:Heap):Prop:=
 let h_:Heap:=(h).push (.cells #[.int .i64 0,.int .i64 0] 27);LoopT (σ:=Int) (fun st_ h_st nx_st=>B47_5 P R h r l at_ (st_) h_st nx_st) (0) h_
theorem vc47 (P:Program) (r:Option Addr) (l:ByteArray) (at_:Int) (R:Value->Heap->Prop) (h:Heap):fnC P ret47 code47 [.pointer r,.string l,.int .i64 at_] h R=VC47 P r l at_ R h:=by kernel_rfl
theorem run47 (r:Option Addr) (l:ByteArray) (at_:Int) (R:Value->Heap->Prop) (h:Heap) (hv:VC47 Tryz.prog r l at_ R h):CallsH Tryz.prog 47 #[.pointer r,.string l,.int .i64 at_] h R:=calls_of_fnC (Checked.mixed Tryz.checked) Tryz.func47 comp47 (Nat.le_of_ble_eq_true rfl) (by rw [vc47];exact hv)
def loops48:List (List (Nat×Shp)):=[]
noncomputable def code48:SCode:=((compF Tryz.prog Tryz.f48 loops48).elim .skip fun x=>x.2.2)
def ret48:List RV:=[.tmp 2,.tmp 3,.tmp 4]
theorem comp48:compF Tryz.prog Tryz.f48 loops48=some (42,ret48,code48):=by kernel_rfl
def J48_1  (P:Program) (R:Value->Heap->Prop) (A:(Option Addr)) (N:Nat) (vars:Int) (h_3:Heap):Prop:=
 0≤(3:Int)/\(3:Int)<(N:Nat)/\AtP A fun ad3=>∃ (t5:ByteArray),cellH h_3 (Addr.add ad3 (Int.toNat 3*1))=some (.string t5)/\CallsH P 92 #[.string t5,.int .i64 524288] h_3 fun v2 h_4=>
 ∃ (t6:Int) (t7:Bool),v2=(.tuple #[.int .i64 t6,.bool t7])/\R (.tuple #[.int .i64 vars,.int .i64 t6,.bool t7]) h_4
def J48_0  (P:Program) (R:Value->Heap->Prop) (A:(Option Addr)) (N:Nat) (h_1:Heap):Prop:=
 0≤(2:Int)/\(2:Int)<(N:Nat)/\AtP A fun ad2=>∃ (t2:ByteArray),cellH h_1 (Addr.add ad2 (Int.toNat 2*1))=some (.string t2)/\CallsH P 92 #[.string t2,.int .i64 262144] h_1 fun v1 h_2=>
 ∃ (t3:Int) (t4:Bool),v1=(.tuple #[.int .i64 t3,.bool t4])/\BIf (!t4) (R (.tuple #[.int .i64 0,.int .i64 0,.bool false]) h_2) (J48_1 P R A N (t3) h_2)
def VC48 (P:Program) (l:ByteArray) (R:Value->Heap->Prop) (h:Heap):Prop:=
 CallsH P 91 #[.string l,(.string (ByteArray.mk #[32]))] h fun v h_=>
 ∃ (A:Option Addr) (N C:Nat),v=(.slice A N C)/\PIf ((((N:Nat):Int):Int)=4)
 (0≤(0:Int)/\(0:Int)<(N:Nat)/\AtP A fun ad=>∃ (t:ByteArray),cellH h_ (Addr.add ad (Int.toNat 0*1))=some (.string t)/\PIf ((t:ByteArray)=(ByteArray.mk #[112]))
 (0≤(1:Int)/\(1:Int)<(N:Nat)/\AtP A fun ad1=>∃ (t1:ByteArray),cellH h_ (Addr.add ad1 (Int.toNat 1*1))=some (.string t1)/\PIf ((t1:ByteArray)=(ByteArray.mk #[99,110,102]))
 (J48_0 P R A N h_)
 (R (.tuple #[.int .i64 0,.int .i64 0,.bool false]) h_))
 (R (.tuple #[.int .i64 0,.int .i64 0,.bool false]) h_))
 (R (.tuple #[.int .i64 0,.int .i64 0,.bool false]) h_)
theorem vc48 (P:Program) (l:ByteArray) (R:Value->Heap->Prop) (h:Heap):fnC P ret48 code48 [.string l] h R=VC48 P l R h:=by kernel_rfl
theorem run48 (l:ByteArray) (R:Value->Heap->Prop) (h:Heap) (hv:VC48 Tryz.prog l R h):CallsH Tryz.prog 48 #[.string l] h R:=calls_of_fnC (Checked.mixed Tryz.checked) Tryz.func48 comp48 (Nat.le_of_ble_eq_true rfl) (by rw [vc48];exact hv)
def loops89:List (List (Nat×Shp)):=[]
noncomputable def code89:SCode:=((compF Tryz.prog Tryz.f89 loops89).elim .skip fun x=>x.2.2)
def ret89:List RV:=[.tmp 2]
theorem comp89:compF Tryz.prog Tryz.f89 loops89=some (13,ret89,code89):=by kernel_rfl
def VC89 (P:Program) (c:Int) (R:Value->Heap->Prop) (h:Heap):Prop:=
 PIf (c=32)
 (R (.bool true) h)
 (PIf (c=9)
 (R (.bool true) h)
 (PIf (c=13)
 (R (.bool true) h)
 (R (.bool false) h)))
theorem vc89 (P:Program) (c:Int) (R:Value->Heap->Prop) (h:Heap):fnC P ret89 code89 [.int .u8 c] h R=VC89 P c R h:=by kernel_rfl
theorem run89 (c:Int) (R:Value->Heap->Prop) (h:Heap) (hv:VC89 Tryz.prog c R h):CallsH Tryz.prog 89 #[.int .u8 c] h R:=calls_of_fnC (Checked.mixed Tryz.checked) Tryz.func89 comp89 (Nat.le_of_ble_eq_true rfl) (by rw [vc89];exact hv)
def loops90:List (List (Nat×Shp)):=[]
noncomputable def code90:SCode:=((compF Tryz.prog Tryz.f90 loops90).elim .skip fun x=>x.2.2)
def ret90:List RV:=[.tmp 4]
theorem comp90:compF Tryz.prog Tryz.f90 loops90=some (110,ret90,code90):=by kernel_rfl
def J90_5  (R:Value->Heap->Prop) (r:(Option Addr)) (h_7:Heap):Prop:=
 AtP r fun ad7=>(Addr.block (Addr.add (Addr.add ad7 0) 1))<(h_7).size/\∃ (A2:Option Addr) (N2 C2:Nat),cellH h_7 (Addr.add (Addr.add ad7 0) 1)=some (.slice A2 N2 C2)/\AtP r fun ad8=>(Addr.block (Addr.add ad8 3))<(h_7).size/\∃ (A3:Option Addr) (N3 C3:Nat),cellH h_7 (Addr.add ad8 3)=some (.slice A3 N3 C3)/\let h_8:Heap:=(h_7).push (.cells #[.slice A3 N3 C3] 65);AgreeH (h_7).size h_7 h_8/\∃ ys:List Value,ReadL h_8 (some ⟨h_7.size,0,none⟩) ys/\ys.length=1*1/\AppS h_8 A2 N2 C2 65 24 1 #[.slice none 0 0] ys 1 fun apA apN apC h_9=>AtP r fun ad9=>StoreH h_9 (Addr.add (Addr.add ad9 0) 1) [.slice apA apN apC] fun h_10=>AtP r fun ad10=>StoreH h_10 (Addr.add ad10 3) [.slice none 0 0] fun h_11=>AtP r fun ad11=>StoreH h_11 (Addr.add ad11 4) [.bool false] fun h_12=>R (.int .i64 0) h_12
def J90_4  (R:Value->Heap->Prop) (r:(Option Addr)) (t1:Int) (h_15:Heap):Prop:=
 AtP r fun ad13=>∃ (A4:Option Addr) (N4 C4:Nat),cellH h_15 (Addr.add ad13 3)=some (.slice A4 N4 C4)/\let h_16:Heap:=(h_15).push (.cells #[.int .i64 t1] 3);∃ ys1:List Value,ReadL h_16 (some ⟨h_15.size,0,none⟩) ys1/\ys1.length=1*1/\AppS h_16 A4 N4 C4 3 8 1 #[.int .i64 0] ys1 1 fun apA1 apN1 apC1 h_17=>AtP r fun ad14=>StoreH h_17 (Addr.add ad14 3) [.slice apA1 apN1 apC1] fun h_18=>R (.int .i64 0) h_18
def J90_6  (R:Value->Heap->Prop) (r:(Option Addr)) (t1 kind1:Int) (h_13:Heap):Prop:=
 PIf (kind1=1)
 (J90_5 R r h_13)
 (PIf (kind1=4)
 (AtP r fun ad12=>StoreH h_13 (Addr.add ad12 4) [.bool true] fun h_14=>J90_4 R r t1 h_14)
 (J90_4 R r t1 h_13))
def J90_3  (R:Value->Heap->Prop) (r:(Option Addr)) (t1 kind1:Int) (h_5:Heap):Prop:=
 PIf (kind1=3)
 (AtP r fun ad6=>StoreH h_5 (Addr.add ad6 3) [.slice none 0 0] fun h_6=>J90_5 R r h_6)
 (J90_6 R r t1 kind1 h_5)
def J90_2  (R:Value->Heap->Prop) (r:(Option Addr)) (t1 kind1:Int) (h_4:Heap):Prop:=
 AtP r fun ad1=>∃ (t3:Int),cellH h_4 (Addr.add (Addr.add ad1 0) 0)=some (.int .i64 t3)/\PIf (t1<(IntKind.wrap .i64 (0-t3)))
 (R (.int .i64 141) h_4)
 (AtP r fun ad2=>∃ (t4:Int),cellH h_4 (Addr.add (Addr.add ad2 0) 0)=some (.int .i64 t4)/\PIf (t4<t1)
 (R (.int .i64 141) h_4)
 (PIf ((2:Int)<kind1)
 (AtP r fun ad3=>∃ (A:Option Addr) (N C:Nat),cellH h_4 (Addr.add (Addr.add ad3 0) 1)=some (.slice A N C)/\AtP r fun ad4=>∃ (t5:Int),cellH h_4 (Addr.add ad4 2)=some (.int .i64 t5)/\PIf ((((N:Nat):Int):Int)=t5)
 (R (.int .i64 41) h_4)
 (PIf (t1=0)
 (J90_3 R r t1 kind1 h_4)
 (AtP r fun ad5=>∃ (A1:Option Addr) (N1 C1:Nat),cellH h_4 (Addr.add ad5 3)=some (.slice A1 N1 C1)/\PIf ((((N1:Nat):Int):Int)=16384)
 (R (.int .i64 2) h_4)
 (J90_3 R r t1 kind1 h_4))))
 (PIf (t1=0)
 (J90_3 R r t1 kind1 h_4)
 (AtP r fun ad15=>∃ (A5:Option Addr) (N5 C5:Nat),cellH h_4 (Addr.add ad15 3)=some (.slice A5 N5 C5)/\PIf ((((N5:Nat):Int):Int)=16384)
 (R (.int .i64 2) h_4)
 (J90_3 R r t1 kind1 h_4)))))
def J90_1  (R:Value->Heap->Prop) (r:(Option Addr)) (t1 kind:Int) (h_3:Heap):Prop:=
 AtP r fun ad=>∃ (t2:Bool),cellH h_3 (Addr.add ad 4)=some (.bool t2)/\BIf (!t2) (J90_2 R r t1 (IntKind.wrap .i64 (kind+2)) h_3) (J90_2 R r t1 (kind) h_3)
def J90_0  (P:Program) (R:Value->Heap->Prop) (r:(Option Addr)) (w:ByteArray) (h_1:Heap):Prop:=
 CallsH P 118 #[.string w] h_1 fun v1 h_2=>
 ∃ (t1:Int),v1=(.int .i64 t1)/\PIf (t1=0)
 (J90_1 R r t1 (1) h_2)
 (J90_1 R r t1 (2) h_2)
def VC90 (P:Program) (r:Option Addr) (w:ByteArray) (R:Value->Heap->Prop) (h:Heap):Prop:=
 CallsH P 117 #[.string w] h fun v h_=>
 ∃ (t:Bool),v=(.bool t)/\BIf (!t) (R (.int .i64 3) h_) (J90_0 P R r w h_)
theorem vc90 (P:Program) (r:Option Addr) (w:ByteArray) (R:Value->Heap->Prop) (h:Heap):fnC P ret90 code90 [.pointer r,.string w] h R=VC90 P r w R h:=by kernel_rfl
theorem run90 (r:Option Addr) (w:ByteArray) (R:Value->Heap->Prop) (h:Heap) (hv:VC90 Tryz.prog r w R h):CallsH Tryz.prog 90 #[.pointer r,.string w] h R:=calls_of_fnC (Checked.mixed Tryz.checked) Tryz.func90 comp90 (Nat.le_of_ble_eq_true rfl) (by rw [vc90];exact hv)
def loops92:List (List (Nat×Shp)):=[]
noncomputable def code92:SCode:=((compF Tryz.prog Tryz.f92 loops92).elim .skip fun x=>x.2.2)
def ret92:List RV:=[.tmp 4,.tmp 5]
theorem comp92:compF Tryz.prog Tryz.f92 loops92=some (22,ret92,code92):=by kernel_rfl
def VC92 (P:Program) (w:ByteArray) (most:Int) (R:Value->Heap->Prop) (h:Heap):Prop:=
 CallsH P 117 #[.string w] h fun v h_=>
 ∃ (t:Bool),v=(.bool t)/\BIf (!t) (R (.tuple #[.int .i64 0,.bool false]) h_) (0≤(0:Int)/\(0:Int)<(w.size:Nat)/\PIf (((byteAt w 0):Int)=45)
 (R (.tuple #[.int .i64 0,.bool false]) h_)
 (CallsH P 118 #[.string w] h_ fun v1 h_1=>
 ∃ (t1:Int),v1=(.int .i64 t1)/\PIf (most<t1)
 (R (.tuple #[.int .i64 0,.bool false]) h_1)
 (CallsH P 118 #[.string w] h_1 fun v2 h_2=>
 ∃ (t2:Int),v2=(.int .i64 t2)/\R (.tuple #[.int .i64 t2,.bool true]) h_2)))
theorem vc92 (P:Program) (w:ByteArray) (most:Int) (R:Value->Heap->Prop) (h:Heap):fnC P ret92 code92 [.string w,.int .i64 most] h R=VC92 P w most R h:=by kernel_rfl
theorem run92 (w:ByteArray) (most:Int) (R:Value->Heap->Prop) (h:Heap) (hv:VC92 Tryz.prog w most R h):CallsH Tryz.prog 92 #[.string w,.int .i64 most] h R:=calls_of_fnC (Checked.mixed Tryz.checked) Tryz.func92 comp92 (Nat.le_of_ble_eq_true rfl) (by rw [vc92];exact hv)
def loops117:List (List (Nat×Shp)):=[[(20,.int .i64)]]
noncomputable def code117:SCode:=((compF Tryz.prog Tryz.f117 loops117).elim .skip fun x=>x.2.2)
def ret117:List RV:=[.tmp 2]
theorem comp117:compF Tryz.prog Tryz.f117 loops117=some (34,ret117,code117):=by kernel_rfl
def J117_2  (R:Value->Heap->Prop) (t:ByteArray) (t1:Int) (next_:(Int->Heap->Prop)) (h_3:Heap):Prop:=
 0≤t1/\t1<(t.size:Nat)/\PIf (((byteAt t t1):Int)<48)
 (R (.bool false) h_3)
 (0≤t1/\t1<(t.size:Nat)/\PIf ((57:Int)<(byteAt t t1))
 (R (.bool false) h_3)
 (next_ (IntKind.wrap .i64 (t1+1)) h_3))
def J117_1  (R:Value->Heap->Prop) (h_4:Heap):Prop:=
 R (.bool true) h_4
def B117_4 (R:Value->Heap->Prop) (t:ByteArray) (t1:Int) (h_2:Heap) (next_:Int->Heap->Prop):Prop:=
 PIf (t1<((t.size:Nat):Int))
 (J117_2 R t t1 next_ h_2)
 (J117_1 R h_2)
def J117_0  (R:Value->Heap->Prop) (t:ByteArray) (h_1:Heap):Prop:=
 LoopT (σ:=Int) (fun st_ h_st nx_st=>B117_4 R t (st_) h_st nx_st) (0) h_1
def VC117 (P:Program) (w:ByteArray) (R:Value->Heap->Prop) (h:Heap):Prop:=
 CallsH P 141 #[.string w,(.string (ByteArray.mk #[45]))] h fun v h_=>
 ∃ (t:ByteArray),v=(.string t)/\PIf ((t:ByteArray)=(ByteArray.mk #[]))
 (R (.bool false) h_)
 (0≤(0:Int)/\(0:Int)<(t.size:Nat)/\PIf (((byteAt t 0):Int)=48)
 (PIf ((w:ByteArray)=(ByteArray.mk #[48]))
 (J117_0 R t h_)
 (R (.bool false) h_))
 (J117_0 R t h_))
theorem vc117 (P:Program) (w:ByteArray) (R:Value->Heap->Prop) (h:Heap):fnC P ret117 code117 [.string w] h R=VC117 P w R h:=by kernel_rfl
theorem run117 (w:ByteArray) (R:Value->Heap->Prop) (h:Heap) (hv:VC117 Tryz.prog w R h):CallsH Tryz.prog 117 #[.string w] h R:=calls_of_fnC (Checked.mixed Tryz.checked) Tryz.func117 comp117 (Nat.le_of_ble_eq_true rfl) (by rw [vc117];exact hv)
def loops118:List (List (Nat×Shp)):=[]
noncomputable def code118:SCode:=((compF Tryz.prog Tryz.f118 loops118).elim .skip fun x=>x.2.2)
def ret118:List RV:=[.tmp 2]
theorem comp118:compF Tryz.prog Tryz.f118 loops118=some (13,ret118,code118):=by kernel_rfl
def VC118 (P:Program) (w:ByteArray) (R:Value->Heap->Prop) (h:Heap):Prop:=
 CallsH P 115 #[.string w] h fun v h_=>
 ∃ (t:Int) (t1:Value),v=(.tuple #[.int .i64 t,t1])/\isNilP .ifc t1 fun p=>PIf p
 (R (.int .i64 t) h_)
 (R (.int .i64 1099511627776) h_)
theorem vc118 (P:Program) (w:ByteArray) (R:Value->Heap->Prop) (h:Heap):fnC P ret118 code118 [.string w] h R=VC118 P w R h:=by kernel_rfl
theorem run118 (w:ByteArray) (R:Value->Heap->Prop) (h:Heap) (hv:VC118 Tryz.prog w R h):CallsH Tryz.prog 118 #[.string w] h R:=calls_of_fnC (Checked.mixed Tryz.checked) Tryz.func118 comp118 (Nat.le_of_ble_eq_true rfl) (by rw [vc118];exact hv)
def loops46:List (List (Nat×Shp)):=[]
noncomputable def code46:SCode:=((compF Tryz.prog Tryz.f46 loops46).elim .skip fun x=>x.2.2)
def ret46:List RV:=[.tmp 4]
theorem comp46:compF Tryz.prog Tryz.f46 loops46=some (8,ret46,code46):=by kernel_rfl
def VC46 (P:Program) (s pfx:ByteArray) (R:Value->Heap->Prop) (h:Heap):Prop:=
 CallsH P 88 #[.string s,.string pfx] h fun v h_=>
 ∃ (t:Bool),v=(.bool t)/\R (.bool t) h_
theorem vc46 (P:Program) (s pfx:ByteArray) (R:Value->Heap->Prop) (h:Heap):fnC P ret46 code46 [.string s,.string pfx] h R=VC46 P s pfx R h:=by kernel_rfl
theorem run46 (s pfx:ByteArray) (R:Value->Heap->Prop) (h:Heap) (hv:VC46 Tryz.prog s pfx R h):CallsH Tryz.prog 46 #[.string s,.string pfx] h R:=calls_of_fnC (Checked.mixed Tryz.checked) Tryz.func46 comp46 (Nat.le_of_ble_eq_true rfl) (by rw [vc46];exact hv)
def loops88:List (List (Nat×Shp)):=[]
noncomputable def code88:SCode:=((compF Tryz.prog Tryz.f88 loops88).elim .skip fun x=>x.2.2)
def ret88:List RV:=[.tmp 4]
theorem comp88:compF Tryz.prog Tryz.f88 loops88=some (18,ret88,code88):=by kernel_rfl
def VC88 (P:Program) (s pfx:ByteArray) (R:Value->Heap->Prop) (h:Heap):Prop:=
 PIf ((((pfx.size:Nat):Int):Int)≤((s.size:Nat):Int))
 (0≤(0:Int)/\(0:Int)≤((pfx.size:Nat):Int)/\(((pfx.size:Nat):Int):Int)≤(s.size:Nat)/\PIf (((s.extract (Int.toNat 0) (Int.toNat ((pfx.size:Nat):Int))):ByteArray)=pfx)
 (R (.bool true) h)
 (R (.bool false) h))
 (R (.bool false) h)
theorem vc88 (P:Program) (s pfx:ByteArray) (R:Value->Heap->Prop) (h:Heap):fnC P ret88 code88 [.string s,.string pfx] h R=VC88 P s pfx R h:=by kernel_rfl
theorem run88 (s pfx:ByteArray) (R:Value->Heap->Prop) (h:Heap) (hv:VC88 Tryz.prog s pfx R h):CallsH Tryz.prog 88 #[.string s,.string pfx] h R:=calls_of_fnC (Checked.mixed Tryz.checked) Tryz.func88 comp88 (Nat.le_of_ble_eq_true rfl) (by rw [vc88];exact hv)
end Go.Proofs.YtobageabpfkpcaaGreatDoor
