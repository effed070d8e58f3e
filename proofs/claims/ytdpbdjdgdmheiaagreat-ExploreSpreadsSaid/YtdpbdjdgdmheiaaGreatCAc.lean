/- Words and facts that the claim's proof leans on. No condition. -/
import Derived.Test.YtdpbdjdgdmheiaaGreatHxV
import Derived.Test.YtdpbdjdgdmheiaaGreatChecked
set_option maxRecDepth 100000
set_option linter.unusedVariables false
namespace Go.Proofs.YtdpbdjdgdmheiaaGreat
open Go.Hx
def loops93:List (List (Nat×Shp)):=[[(11,.int .i64)],[(14,.int .i64)],[(15,.int .i64)]]
noncomputable def code93:SCode:=((compF Tryz.prog Tryz.f93 loops93).elim .skip fun x=>x.2.2)
def ret93:List RV:=[.tmp 2,.tmp 3]
theorem comp93:compF Tryz.prog Tryz.f93 loops93=some (97,ret93,code93):=by kernel_rfl
def J93_4  (P:Program) (R:Value->Heap->Prop) (h:Heap) (A53:(Option Addr)) (N53 C53:Nat) (i:Int) (next_:(Int->Heap->Prop)) (h_10:Heap):Prop:=
 LdC h_10 ⟨h.size,0,none⟩ fun t10=>CallsH P 135 #[t10.v,.slice A53 N53 C53,.int .i64 i] h_10 fun v5 h_11=>
 ∃ (t11:Bool),v5=(.bool t11)/\BIf t11 (R (.tuple #[.int .i64 i,.int .i64 34]) h_11) (next_ (IntKind.wrap .i64 (i+1)) h_11)
def J93_9  (R:Value->Heap->Prop) (h:Heap) (i1 k:Int) (next_2:(Int->Heap->Prop)) (h_18:Heap):Prop:=
 ∃ (A77:Option Addr) (N77 C77:Nat),cellH h_18 (Addr.add ⟨h.size,0,none⟩ 10)=some (.slice A77 N77 C77)/\0≤i1/\i1<(N77:Nat)/\AtP A77 fun ad1=>∃ (t16:ByteArray),cellH h_18 (Addr.add ad1 (Int.toNat i1*1))=some (.string t16)/\0≤k/\k<(t16.size:Nat)/\PIf (((byteAt t16 k):Int)=10)
 (R (.tuple #[.int .i64 i1,.int .i64 36]) h_18)
 (next_2 (IntKind.wrap .i64 (k+1)) h_18)
def J93_8  (i1:Int) (next_1:(Int->Heap->Prop)) (h_19:Heap):Prop:=
 next_1 (IntKind.wrap .i64 (i1+1)) h_19
def B93_10 (R:Value->Heap->Prop) (h:Heap) (i1:Int) (next_1:(Int->Heap->Prop)) (k:Int) (h_17:Heap) (next_2:Int->Heap->Prop):Prop:=
 ∃ (A76:Option Addr) (N76 C76:Nat),cellH h_17 (Addr.add ⟨h.size,0,none⟩ 10)=some (.slice A76 N76 C76)/\0≤i1/\i1<(N76:Nat)/\AtP A76 fun ad=>∃ (t15:ByteArray),cellH h_17 (Addr.add ad (Int.toNat i1*1))=some (.string t15)/\PIf (k<((t15.size:Nat):Int))
 (J93_9 R h i1 k next_2 h_17)
 (J93_8 i1 next_1 h_17)
def J93_7  (R:Value->Heap->Prop) (h:Heap) (i1:Int) (next_1:(Int->Heap->Prop)) (h_16:Heap):Prop:=
 LoopT (σ:=Int) (fun st_ h_st nx_st=>B93_10 R h i1 next_1 (st_) h_st nx_st) (0) h_16
def J93_6  (R:Value->Heap->Prop) (h_20:Heap):Prop:=
 R (.tuple #[.int .i64 0,.int .i64 0]) h_20
def B93_11 (R:Value->Heap->Prop) (h:Heap) (i1:Int) (h_15:Heap) (next_1:Int->Heap->Prop):Prop:=
 ∃ (A75:Option Addr) (N75 C75:Nat),cellH h_15 (Addr.add ⟨h.size,0,none⟩ 10)=some (.slice A75 N75 C75)/\PIf (i1<((N75:Nat):Int))
 (J93_7 R h i1 next_1 h_15)
 (J93_6 R h_15)
def J93_5  (R:Value->Heap->Prop) (h h_14:Heap):Prop:=
 LoopT (σ:=Int) (fun st_ h_st nx_st=>B93_11 R h (st_) h_st nx_st) (0) h_14
def J93_3  (P:Program) (R:Value->Heap->Prop) (h h_12:Heap):Prop:=
 LdC h_12 ⟨h.size,0,none⟩ fun t12=>CallsH P 136 #[t12.v] h_12 fun v6 h_13=>
 ∃ (t13 t14:Int),v6=(.tuple #[.int .i64 t13,.int .i64 t14])/\PIf (t14=0)
 (J93_5 R h h_13)
 (R (.tuple #[.int .i64 t13,.int .i64 t14]) h_13)
def B93_12 (P:Program) (R:Value->Heap->Prop) (h:Heap) (A53:(Option Addr)) (N53 C53:Nat) (i:Int) (h_9:Heap) (next_:Int->Heap->Prop):Prop:=
 ∃ (A54:Option Addr) (N54 C54:Nat),cellH h_9 (Addr.add ⟨h.size,0,none⟩ 8)=some (.slice A54 N54 C54)/\PIf (i<((N54:Nat):Int))
 (J93_4 P R h A53 N53 C53 i next_ h_9)
 (J93_3 P R h h_9)
def J93_2  (P:Program) (R:Value->Heap->Prop) (h h_6:Heap):Prop:=
 (Addr.block ⟨h.size,0,none⟩)<(h_6).size/\LdC h_6 ⟨h.size,0,none⟩ fun t8=>CallsH P 128 #[t8.v] h_6 fun v3 h_7=>
 ∃ (A41:Option Addr) (N41 C41:Nat),v3=(.slice A41 N41 C41)/\AgreeH (h_6).size h_6 h_7/\(Addr.block (Addr.add ⟨h.size,0,none⟩ 8))<(h_6).size/\∃ (A42:Option Addr) (N42 C42:Nat),cellH h_7 (Addr.add ⟨h.size,0,none⟩ 8)=some (.slice A42 N42 C42)/\PIf ((((N41:Nat):Int):Int)<((N42:Nat):Int))
 (LdC h_7 ⟨h.size,0,none⟩ fun t9=>CallsH P 134 #[t9.v] h_7 fun v4 h_8=>
 ∃ (A53:Option Addr) (N53 C53:Nat),v4=(.slice A53 N53 C53)/\LoopT (σ:=Int) (fun st_ h_st nx_st=>B93_12 P R h A53 N53 C53 (st_) h_st nx_st) (0) h_8)
 (J93_3 P R h h_7)
def J93_1  (P:Program) (R:Value->Heap->Prop) (h:Heap) (A20:(Option Addr)) (N20 C20:Nat) (h_4:Heap):Prop:=
 LdC h_4 ⟨h.size,0,none⟩ fun t5=>CallsH P 133 #[t5.v,.slice A20 N20 C20] h_4 fun v2 h_5=>
 ∃ (t6 t7:Int),v2=(.tuple #[.int .i64 t6,.int .i64 t7])/\PIf (t7=0)
 (J93_2 P R h h_5)
 (R (.tuple #[.int .i64 t6,.int .i64 t7]) h_5)
def J93_0  (P:Program) (R:Value->Heap->Prop) (h h_2:Heap):Prop:=
 LdC h_2 ⟨h.size,0,none⟩ fun t2=>CallsH P 132 #[t2.v] h_2 fun v1 h_3=>
 ∃ (A20:Option Addr) (N20 C20:Nat) (t3 t4:Int),v1=(.tuple #[.slice A20 N20 C20,.int .i64 t3,.int .i64 t4])/\PIf (t4=0)
 (J93_1 P R h A20 N20 C20 h_3)
 (R (.tuple #[.int .i64 t3,.int .i64 t4]) h_3)
def VC93 (P:Program) (c:CV) (R:Value->Heap->Prop) (h:Heap):Prop:=
 let h_:Heap:=(h).push (.cells (Value.cells c.v) 29);LdC h_ ⟨h.size,0,none⟩ fun t=>CallsH P 131 #[t.v] h_ fun v h_1=>
 ∃ (t1:Int),v=(.int .i64 t1)/\PIf (t1=0)
 (J93_0 P R h h_1)
 (R (.tuple #[.int .i64 0,.int .i64 t1]) h_1)
theorem run93 (c:CV) (R:Value->Heap->Prop) (h:Heap) (hv:VC93 Tryz.prog c R h):CallsH Tryz.prog 93 #[c.v] h R:=calls_of_fnC (Checked.mixed Tryz.checked) Tryz.func93 comp93 (Nat.le_of_ble_eq_true rfl) (Eq.mp (by kernel_rfl) hv)
def loops132:List (List (Nat×Shp)):=[[(6,.int .i64)],[(8,.int .i64)],[(11,.int .i64)]]
noncomputable def code132:SCode:=((compF Tryz.prog Tryz.f132 loops132).elim .skip fun x=>x.2.2)
def ret132:List RV:=[.tmp 2,.tmp 3,.tmp 4]
theorem comp132:compF Tryz.prog Tryz.f132 loops132=some (96,ret132,code132):=by kernel_rfl
def J132_1  (P:Program) (R:Value->Heap->Prop) (h h_:Heap) (t i:Int) (next_:(Int->Heap->Prop)) (h_3:Heap):Prop:=
 LdC h_3 ⟨h.size,0,none⟩ fun t1=>∃ (A11:Option Addr) (N11 C11:Nat),cellH h_3 (Addr.add ⟨h.size,0,none⟩ 1)=some (.slice A11 N11 C11)/\0≤i/\i<(N11:Nat)/\AtP A11 fun ad=>∃ (t2:Int),cellH h_3 (Addr.add ad (Int.toNat i*1))=some (.int .i64 t2)/\CallsH P 167 #[t1.v,(.slice (some ⟨h_.size,0,none⟩) (Int.toNat (IntKind.wrap .i64 (t+1))) (Int.toNat (IntKind.wrap .i64 (t+1)))),.int .i64 t2] h_3 fun v h_4=>
 ∃ (t3:Int),v=(.int .i64 t3)/\PIf (t3=0)
 (next_ (IntKind.wrap .i64 (i+1)) h_4)
 (R (.tuple #[.slice none 0 0,.int .i64 i,.int .i64 t3]) h_4)
def J132_4  (R:Value->Heap->Prop) (i1:Int) (next_1:(Int->Heap->Prop)) (h_7 h_11:Heap):Prop:=
 ∃ (t10:Int),cellH h_11 (Addr.add ⟨h_7.size,0,none⟩ 2)=some (.int .i64 t10)/\PIf (t10=0)
 (next_1 (IntKind.wrap .i64 (i1+1)) h_11)
 (∃ (t11:Int),cellH h_11 (Addr.add ⟨h_7.size,0,none⟩ 2)=some (.int .i64 t11)/\PIf (t11=1)
 (next_1 (IntKind.wrap .i64 (i1+1)) h_11)
 (∃ (t12:Int),cellH h_11 (Addr.add ⟨h_7.size,0,none⟩ 2)=some (.int .i64 t12)/\∃ (t13:Int),cellH h_11 (Addr.add ⟨h_7.size,0,none⟩ 0)=some (.int .i64 t13)/\PIf (t12=t13)
 (next_1 (IntKind.wrap .i64 (i1+1)) h_11)
 (R (.tuple #[.slice none 0 0,.int .i64 i1,.int .i64 33]) h_11)))
def J132_3  (P:Program) (R:Value->Heap->Prop) (h h_:Heap) (t i1:Int) (next_1:(Int->Heap->Prop)) (h_7:Heap):Prop:=
 ∃ (A13:Option Addr) (N13 C13:Nat),cellH h_7 (Addr.add ⟨h.size,0,none⟩ 2)=some (.slice A13 N13 C13)/\0≤i1/\i1<(N13:Nat)/\AtP A13 fun ad1=>∃ (t4 t5 t6:Int),cellsH h_7 (Addr.add ad1 (Int.toNat i1*3)) 0 [.int .i64 t4,.int .i64 t5,.int .i64 t6]/\let h_8:Heap:=(h_7).push (.cells #[.int .i64 0,.int .i64 0,.int .i64 0] 65);StoreH h_8 ⟨h_7.size,0,none⟩ [.int .i64 t4,.int .i64 t5,.int .i64 t6] fun h_9=>LdC h_9 ⟨h.size,0,none⟩ fun t7=>∃ (t8:Int),cellH h_9 (Addr.add ⟨h_7.size,0,none⟩ 0)=some (.int .i64 t8)/\CallsH P 167 #[t7.v,(.slice (some ⟨h_.size,0,none⟩) (Int.toNat (IntKind.wrap .i64 (t+1))) (Int.toNat (IntKind.wrap .i64 (t+1)))),.int .i64 t8] h_9 fun v1 h_10=>
 ∃ (t9:Int),v1=(.int .i64 t9)/\PIf (t9=0)
 (J132_4 R i1 next_1 h_7 h_10)
 (R (.tuple #[.slice none 0 0,.int .i64 i1,.int .i64 t9]) h_10)
def J132_6  (P:Program) (R:Value->Heap->Prop) (h h_:Heap) (t i2:Int) (next_2:(Int->Heap->Prop)) (h_14:Heap):Prop:=
 LdC h_14 ⟨h.size,0,none⟩ fun t14=>∃ (A35:Option Addr) (N35 C35:Nat),cellH h_14 (Addr.add ⟨h.size,0,none⟩ 8)=some (.slice A35 N35 C35)/\0≤i2/\i2<(N35:Nat)/\AtP A35 fun ad2=>∃ (t15:Int),cellH h_14 (Addr.add (Addr.add ad2 (Int.toNat i2*3)) 0)=some (.int .i64 t15)/\CallsH P 167 #[t14.v,(.slice (some ⟨h_.size,0,none⟩) (Int.toNat (IntKind.wrap .i64 (t+1))) (Int.toNat (IntKind.wrap .i64 (t+1)))),.int .i64 t15] h_14 fun v2 h_15=>
 ∃ (t16:Int),v2=(.int .i64 t16)/\PIf (t16=0)
 (next_2 (IntKind.wrap .i64 (i2+1)) h_15)
 (R (.tuple #[.slice none 0 0,.int .i64 i2,.int .i64 t16]) h_15)
def J132_5  (R:Value->Heap->Prop) (h_:Heap) (t:Int) (h_16:Heap):Prop:=
 0≤(0:Int)/\(0:Int)<((Int.toNat (IntKind.wrap .i64 (t+1))):Nat)/\StoreH h_16 (Addr.add ⟨h_.size,0,none⟩ (Int.toNat 0*1)) [.bool true] fun h_17=>R (.tuple #[(.slice (some ⟨h_.size,0,none⟩) (Int.toNat (IntKind.wrap .i64 (t+1))) (Int.toNat (IntKind.wrap .i64 (t+1)))),.int .i64 0,.int .i64 0]) h_17
def B132_7 (P:Program) (R:Value->Heap->Prop) (h h_:Heap) (t i2:Int) (h_13:Heap) (next_2:Int->Heap->Prop):Prop:=
 ∃ (A24:Option Addr) (N24 C24:Nat),cellH h_13 (Addr.add ⟨h.size,0,none⟩ 8)=some (.slice A24 N24 C24)/\PIf (i2<((N24:Nat):Int))
 (J132_6 P R h h_ t i2 next_2 h_13)
 (J132_5 R h_ t h_13)
def J132_2  (P:Program) (R:Value->Heap->Prop) (h h_:Heap) (t:Int) (h_12:Heap):Prop:=
 LoopT (σ:=Int) (fun st_ h_st nx_st=>B132_7 P R h h_ t (st_) h_st nx_st) (0) h_12
def B132_8 (P:Program) (R:Value->Heap->Prop) (h h_:Heap) (t i1:Int) (h_6:Heap) (next_1:Int->Heap->Prop):Prop:=
 ∃ (A12:Option Addr) (N12 C12:Nat),cellH h_6 (Addr.add ⟨h.size,0,none⟩ 2)=some (.slice A12 N12 C12)/\PIf (i1<((N12:Nat):Int))
 (J132_3 P R h h_ t i1 next_1 h_6)
 (J132_2 P R h h_ t h_6)
def J132_0  (P:Program) (R:Value->Heap->Prop) (h h_:Heap) (t:Int) (h_5:Heap):Prop:=
 LoopT (σ:=Int) (fun st_ h_st nx_st=>B132_8 P R h h_ t (st_) h_st nx_st) (0) h_5
def B132_9 (P:Program) (R:Value->Heap->Prop) (h h_:Heap) (t i:Int) (h_2:Heap) (next_:Int->Heap->Prop):Prop:=
 ∃ (A:Option Addr) (N C:Nat),cellH h_2 (Addr.add ⟨h.size,0,none⟩ 1)=some (.slice A N C)/\PIf (i<((N:Nat):Int))
 (J132_1 P R h h_ t i next_ h_2)
 (J132_0 P R h h_ t h_2)
def VC132 (P:Program) (c:CV) (R:Value->Heap->Prop) (h:Heap):Prop:=
 let h_:Heap:=(h).push (.cells (Value.cells c.v) 29);∃ (t:Int),cellH h_ (Addr.add ⟨h.size,0,none⟩ 0)=some (.int .i64 t)/\0≤((IntKind.wrap .i64 (t+1)):Int)/\((IntKind.wrap .i64 (t+1)):Int)≤(IntKind.wrap .i64 (t+1))/\(1:Int)*(IntKind.wrap .i64 (t+1))≤281474976710656/\let h_1:Heap:=(h_).push (.cells (zeroRow #[.bool false] (Int.toNat (IntKind.wrap .i64 (t+1))*1)).toArray 4);LoopT (σ:=Int) (fun st_ h_st nx_st=>B132_9 P R h h_ t (st_) h_st nx_st) (0) h_1
theorem run132 (c:CV) (R:Value->Heap->Prop) (h:Heap) (hv:VC132 Tryz.prog c R h):CallsH Tryz.prog 132 #[c.v] h R:=calls_of_fnC (Checked.mixed Tryz.checked) Tryz.func132 comp132 (Nat.le_of_ble_eq_true rfl) (Eq.mp (by kernel_rfl) hv)
def loops133:List (List (Nat×Shp)):=[[(6,.int .i64)],[(9,.int .i64)],[(12,.int .i64)],[(17,.int .i64)]]
noncomputable def code133:SCode:=((compF Tryz.prog Tryz.f133 loops133).elim .skip fun x=>x.2.2)
def ret133:List RV:=[.tmp 4,.tmp 5]
theorem comp133:compF Tryz.prog Tryz.f133 loops133=some (128,ret133,code133):=by kernel_rfl
def J133_1  (P:Program) (R:Value->Heap->Prop) (h:Heap) (definedA:(Option Addr)) (definedN definedC:Nat) (i:Int) (next_:(Int->Heap->Prop)) (h_2:Heap):Prop:=
 LdC h_2 ⟨h.size,0,none⟩ fun t=>∃ (A11:Option Addr) (N11 C11:Nat),cellH h_2 (Addr.add ⟨h.size,0,none⟩ 2)=some (.slice A11 N11 C11)/\0≤i/\i<(N11:Nat)/\AtP A11 fun ad=>∃ (t1:Int),cellH h_2 (Addr.add (Addr.add ad (Int.toNat i*3)) 1)=some (.int .i64 t1)/\CallsH P 168 #[t.v,.slice definedA definedN definedC,.int .i64 t1] h_2 fun v h_3=>
 ∃ (t2:Int),v=(.int .i64 t2)/\PIf (t2=0)
 (next_ (IntKind.wrap .i64 (i+1)) h_3)
 (R (.tuple #[.int .i64 i,.int .i64 t2]) h_3)
def J133_3  (P:Program) (R:Value->Heap->Prop) (h:Heap) (definedA:(Option Addr)) (definedN definedC:Nat) (h_4:Heap) (k:Int) (next_1:(Int->Heap->Prop)) (h_8:Heap):Prop:=
 LdC h_8 ⟨h.size,0,none⟩ fun t3=>0≤k/\k<(3:Nat)/\∃ (A25:Option Addr) (N25 C25:Nat),cellH h_8 (Addr.add ⟨h_4.size,0,none⟩ (Int.toNat k*1))=some (.slice A25 N25 C25)/\CallsH P 169 #[t3.v,.slice definedA definedN definedC,.slice A25 N25 C25] h_8 fun v1 h_9=>
 ∃ (t4 t5:Int),v1=(.tuple #[.int .i64 t4,.int .i64 t5])/\PIf (t5=0)
 (next_1 (IntKind.wrap .i64 (k+1)) h_9)
 (R (.tuple #[.int .i64 t4,.int .i64 t5]) h_9)
def J133_5  (P:Program) (R:Value->Heap->Prop) (h:Heap) (definedA:(Option Addr)) (definedN definedC:Nat) (i1:Int) (next_2:(Int->Heap->Prop)) (h_12:Heap):Prop:=
 LdC h_12 ⟨h.size,0,none⟩ fun t6=>∃ (A37:Option Addr) (N37 C37:Nat),cellH h_12 (Addr.add ⟨h.size,0,none⟩ 6)=some (.slice A37 N37 C37)/\0≤i1/\i1<(N37:Nat)/\AtP A37 fun ad1=>∃ (A38:Option Addr) (N38 C38:Nat),cellH h_12 (Addr.add ad1 (Int.toNat i1*1))=some (.slice A38 N38 C38)/\CallsH P 169 #[t6.v,.slice definedA definedN definedC,.slice A38 N38 C38] h_12 fun v2 h_13=>
 ∃ (t7 t8:Int),v2=(.tuple #[.int .i64 t7,.int .i64 t8])/\PIf (t8=0)
 (next_2 (IntKind.wrap .i64 (i1+1)) h_13)
 (R (.tuple #[.int .i64 i1,.int .i64 t8]) h_13)
def J133_8  (P:Program) (R:Value->Heap->Prop) (h:Heap) (definedA:(Option Addr)) (definedN definedC:Nat) (i2:Int) (next_3:(Int->Heap->Prop)) (h_18:Heap):Prop:=
 (Addr.block ⟨h.size,0,none⟩)<(h_18).size/\LdC h_18 ⟨h.size,0,none⟩ fun t12=>(Addr.block (Addr.add ⟨h.size,0,none⟩ 8))<(h_18).size/\∃ (A61:Option Addr) (N61 C61:Nat),cellH h_18 (Addr.add ⟨h.size,0,none⟩ 8)=some (.slice A61 N61 C61)/\0≤i2/\i2<(N61:Nat)/\AtP A61 fun ad2=>(Addr.block (Addr.add (Addr.add ad2 (Int.toNat i2*3)) 1))<(h_18).size/\∃ (t13:Int),cellH h_18 (Addr.add (Addr.add ad2 (Int.toNat i2*3)) 1)=some (.int .i64 t13)/\(Addr.block (Addr.add ⟨h.size,0,none⟩ 8))<(h_18).size/\∃ (A62:Option Addr) (N62 C62:Nat),cellH h_18 (Addr.add ⟨h.size,0,none⟩ 8)=some (.slice A62 N62 C62)/\0≤i2/\i2<(N62:Nat)/\AtP A62 fun ad3=>(Addr.block (Addr.add (Addr.add ad3 (Int.toNat i2*3)) 2))<(h_18).size/\∃ (t14:Int),cellH h_18 (Addr.add (Addr.add ad3 (Int.toNat i2*3)) 2)=some (.int .i64 t14)/\let h_19:Heap:=(h_18).push (.cells #[.int .i64 t13,.int .i64 t14] 3);AgreeH (h_18).size h_18 h_19/\CallsH P 169 #[t12.v,.slice definedA definedN definedC,(.slice (some ⟨h_18.size,0,none⟩) 2 2)] h_19 fun v4 h_20=>
 ∃ (t15 t16:Int),v4=(.tuple #[.int .i64 t15,.int .i64 t16])/\AgreeH (h_18).size h_19 h_20/\PIf (t16=0)
 (next_3 (IntKind.wrap .i64 (i2+1)) h_20)
 (R (.tuple #[.int .i64 i2,.int .i64 t16]) h_20)
def J133_7  (R:Value->Heap->Prop) (h_21:Heap):Prop:=
 R (.tuple #[.int .i64 0,.int .i64 0]) h_21
def B133_9 (P:Program) (R:Value->Heap->Prop) (h:Heap) (definedA:(Option Addr)) (definedN definedC:Nat) (i2:Int) (h_17:Heap) (next_3:Int->Heap->Prop):Prop:=
 ∃ (A50:Option Addr) (N50 C50:Nat),cellH h_17 (Addr.add ⟨h.size,0,none⟩ 8)=some (.slice A50 N50 C50)/\PIf (i2<((N50:Nat):Int))
 (J133_8 P R h definedA definedN definedC i2 next_3 h_17)
 (J133_7 R h_17)
def J133_6  (P:Program) (R:Value->Heap->Prop) (h:Heap) (definedA:(Option Addr)) (definedN definedC:Nat) (h_16:Heap):Prop:=
 LoopT (σ:=Int) (fun st_ h_st nx_st=>B133_9 P R h definedA definedN definedC (st_) h_st nx_st) (0) h_16
def J133_4  (P:Program) (R:Value->Heap->Prop) (h:Heap) (definedA:(Option Addr)) (definedN definedC:Nat) (h_14:Heap):Prop:=
 LdC h_14 ⟨h.size,0,none⟩ fun t9=>∃ (A49:Option Addr) (N49 C49:Nat),cellH h_14 (Addr.add ⟨h.size,0,none⟩ 7)=some (.slice A49 N49 C49)/\CallsH P 169 #[t9.v,.slice definedA definedN definedC,.slice A49 N49 C49] h_14 fun v3 h_15=>
 ∃ (t10 t11:Int),v3=(.tuple #[.int .i64 t10,.int .i64 t11])/\PIf (t11=0)
 (J133_6 P R h definedA definedN definedC h_15)
 (R (.tuple #[.int .i64 t10,.int .i64 t11]) h_15)
def B133_10 (P:Program) (R:Value->Heap->Prop) (h:Heap) (definedA:(Option Addr)) (definedN definedC:Nat) (i1:Int) (h_11:Heap) (next_2:Int->Heap->Prop):Prop:=
 ∃ (A26:Option Addr) (N26 C26:Nat),cellH h_11 (Addr.add ⟨h.size,0,none⟩ 6)=some (.slice A26 N26 C26)/\PIf (i1<((N26:Nat):Int))
 (J133_5 P R h definedA definedN definedC i1 next_2 h_11)
 (J133_4 P R h definedA definedN definedC h_11)
def J133_2  (P:Program) (R:Value->Heap->Prop) (h:Heap) (definedA:(Option Addr)) (definedN definedC:Nat) (h_10:Heap):Prop:=
 LoopT (σ:=Int) (fun st_ h_st nx_st=>B133_10 P R h definedA definedN definedC (st_) h_st nx_st) (0) h_10
def B133_11 (P:Program) (R:Value->Heap->Prop) (h:Heap) (definedA:(Option Addr)) (definedN definedC:Nat) (h_4:Heap) (k:Int) (h_7:Heap) (next_1:Int->Heap->Prop):Prop:=
 PIf (k<3)
 (J133_3 P R h definedA definedN definedC h_4 k next_1 h_7)
 (J133_2 P R h definedA definedN definedC h_7)
def J133_0  (P:Program) (R:Value->Heap->Prop) (h:Heap) (definedA:(Option Addr)) (definedN definedC:Nat) (h_4:Heap):Prop:=
 ∃ (A12:Option Addr) (N12 C12:Nat),cellH h_4 (Addr.add ⟨h.size,0,none⟩ 3)=some (.slice A12 N12 C12)/\∃ (A13:Option Addr) (N13 C13:Nat),cellH h_4 (Addr.add ⟨h.size,0,none⟩ 4)=some (.slice A13 N13 C13)/\∃ (A14:Option Addr) (N14 C14:Nat),cellH h_4 (Addr.add ⟨h.size,0,none⟩ 5)=some (.slice A14 N14 C14)/\let h_5:Heap:=(h_4).push (.cells #[.slice none 0 0,.slice none 0 0,.slice none 0 0] 217);StoreH h_5 ⟨h_4.size,0,none⟩ [.slice A12 N12 C12,.slice A13 N13 C13,.slice A14 N14 C14] fun h_6=>LoopT (σ:=Int) (fun st_ h_st nx_st=>B133_11 P R h definedA definedN definedC h_4 (st_) h_st nx_st) (0) h_6
def B133_12 (P:Program) (R:Value->Heap->Prop) (h:Heap) (definedA:(Option Addr)) (definedN definedC:Nat) (i:Int) (h_1:Heap) (next_:Int->Heap->Prop):Prop:=
 ∃ (A:Option Addr) (N C:Nat),cellH h_1 (Addr.add ⟨h.size,0,none⟩ 2)=some (.slice A N C)/\PIf (i<((N:Nat):Int))
 (J133_1 P R h definedA definedN definedC i next_ h_1)
 (J133_0 P R h definedA definedN definedC h_1)
def VC133 (P:Program) (c:CV) (definedA:Option Addr) (definedN definedC:Nat) (R:Value->Heap->Prop) (h:Heap):Prop:=
 let h_:Heap:=(h).push (.cells (Value.cells c.v) 29);LoopT (σ:=Int) (fun st_ h_st nx_st=>B133_12 P R h definedA definedN definedC (st_) h_st nx_st) (0) h_
theorem run133 (c:CV) (definedA:Option Addr) (definedN definedC:Nat) (R:Value->Heap->Prop) (h:Heap) (hv:VC133 Tryz.prog c definedA definedN definedC R h):CallsH Tryz.prog 133 #[c.v,.slice definedA definedN definedC] h R:=calls_of_fnC (Checked.mixed Tryz.checked) Tryz.func133 comp133 (Nat.le_of_ble_eq_true rfl) (Eq.mp (by kernel_rfl) hv)
def loops128:List (List (Nat×Shp)):=[[(5,.slice),(6,.bool)],[(5,.slice),(6,.bool),(7,.int .i64)]]
noncomputable def code128:SCode:=((compF Tryz.prog Tryz.f128 loops128).elim .skip fun x=>x.2.2)
def ret128:List RV:=[.tmp 2]
theorem comp128:compF Tryz.prog Tryz.f128 loops128=some (74,ret128,code128):=by kernel_rfl
def J128_3  (h:Heap) (A10:(Option Addr)) (N10:Nat) (h_1:Heap) (N11:Nat) (next_:((Option Addr×Nat×Nat)×Bool->Heap->Prop)) (outA1:(Option Addr)) (outN1 outC1:Nat) (again1:Bool) (i:Int) (next_1:((Option Addr×Nat×Nat)×Bool×Int->Heap->Prop)) (h_7:Heap):Prop:=
 ∃ (A13:Option Addr) (N13 C13:Nat),cellH h_7 (Addr.add ⟨h.size,0,none⟩ 8)=some (.slice A13 N13 C13)/\0≤i/\i<(N13:Nat)/\AtP A13 fun ad=>∃ (t2:Int),cellH h_7 (Addr.add (Addr.add ad (Int.toNat i*3)) 1)=some (.int .i64 t2)/\0≤((IntKind.wrap .i64 (Int.tdiv t2 2)):Int)/\((IntKind.wrap .i64 (Int.tdiv t2 2)):Int)<(N10:Nat)/\AtP A10 fun ad1=>∃ (t3:Int),cellH h_7 (Addr.add ad1 (Int.toNat (IntKind.wrap .i64 (Int.tdiv t2 2))*1))=some (.int .i64 t3)/\∃ (A14:Option Addr) (N14 C14:Nat),cellH h_7 (Addr.add ⟨h.size,0,none⟩ 8)=some (.slice A14 N14 C14)/\0≤i/\i<(N14:Nat)/\AtP A14 fun ad2=>∃ (t4:Int),cellH h_7 (Addr.add (Addr.add ad2 (Int.toNat i*3)) 2)=some (.int .i64 t4)/\0≤((IntKind.wrap .i64 (Int.tdiv t4 2)):Int)/\((IntKind.wrap .i64 (Int.tdiv t4 2)):Int)<(N10:Nat)/\AtP A10 fun ad3=>∃ (t5:Int),cellH h_7 (Addr.add ad3 (Int.toNat (IntKind.wrap .i64 (Int.tdiv t4 2))*1))=some (.int .i64 t5)/\PIf (t3<0)
 (PIf (t5<0)
 (0≤i/\i<((Int.toNat ((N11:Nat):Int)):Nat)/\StoreH h_7 (Addr.add ⟨h_1.size,0,none⟩ (Int.toNat i*1)) [.bool true] fun h_8=>let h_9:Heap:=(h_8).push (.cells #[.int .i64 i] 3);∃ ys:List Value,ReadL h_9 (some ⟨h_8.size,0,none⟩) ys/\ys.length=1*1/\AppS h_9 outA1 outN1 outC1 3 8 1 #[.int .i64 0] ys 1 fun apA apN apC h_10=>next_ ((apA,apN,apC),true) h_10)
 (0≤t5/\t5<((Int.toNat ((N11:Nat):Int)):Nat)/\∃ (t6:Bool),cellH h_7 (Addr.add ⟨h_1.size,0,none⟩ (Int.toNat t5*1))=some (.bool t6)/\BIf t6 (0≤i/\i<((Int.toNat ((N11:Nat):Int)):Nat)/\StoreH h_7 (Addr.add ⟨h_1.size,0,none⟩ (Int.toNat i*1)) [.bool true] fun h_11=>let h_12:Heap:=(h_11).push (.cells #[.int .i64 i] 3);∃ ys1:List Value,ReadL h_12 (some ⟨h_11.size,0,none⟩) ys1/\ys1.length=1*1/\AppS h_12 outA1 outN1 outC1 3 8 1 #[.int .i64 0] ys1 1 fun apA1 apN1 apC1 h_13=>next_ ((apA1,apN1,apC1),true) h_13) (next_1 ((outA1,outN1,outC1),again1,(IntKind.wrap .i64 (i+1))) h_7)))
 (0≤t3/\t3<((Int.toNat ((N11:Nat):Int)):Nat)/\∃ (t7:Bool),cellH h_7 (Addr.add ⟨h_1.size,0,none⟩ (Int.toNat t3*1))=some (.bool t7)/\BIf t7 (PIf (t5<0)
 (0≤i/\i<((Int.toNat ((N11:Nat):Int)):Nat)/\StoreH h_7 (Addr.add ⟨h_1.size,0,none⟩ (Int.toNat i*1)) [.bool true] fun h_14=>let h_15:Heap:=(h_14).push (.cells #[.int .i64 i] 3);∃ ys2:List Value,ReadL h_15 (some ⟨h_14.size,0,none⟩) ys2/\ys2.length=1*1/\AppS h_15 outA1 outN1 outC1 3 8 1 #[.int .i64 0] ys2 1 fun apA2 apN2 apC2 h_16=>next_ ((apA2,apN2,apC2),true) h_16)
 (0≤t5/\t5<((Int.toNat ((N11:Nat):Int)):Nat)/\∃ (t8:Bool),cellH h_7 (Addr.add ⟨h_1.size,0,none⟩ (Int.toNat t5*1))=some (.bool t8)/\BIf t8 (0≤i/\i<((Int.toNat ((N11:Nat):Int)):Nat)/\StoreH h_7 (Addr.add ⟨h_1.size,0,none⟩ (Int.toNat i*1)) [.bool true] fun h_17=>let h_18:Heap:=(h_17).push (.cells #[.int .i64 i] 3);∃ ys3:List Value,ReadL h_18 (some ⟨h_17.size,0,none⟩) ys3/\ys3.length=1*1/\AppS h_18 outA1 outN1 outC1 3 8 1 #[.int .i64 0] ys3 1 fun apA3 apN3 apC3 h_19=>next_ ((apA3,apN3,apC3),true) h_19) (next_1 ((outA1,outN1,outC1),again1,(IntKind.wrap .i64 (i+1))) h_7))) (next_1 ((outA1,outN1,outC1),again1,(IntKind.wrap .i64 (i+1))) h_7))
def J128_2  (h:Heap) (A10:(Option Addr)) (N10:Nat) (h_1:Heap) (N11:Nat) (next_:((Option Addr×Nat×Nat)×Bool->Heap->Prop)) (outA1:(Option Addr)) (outN1 outC1:Nat) (again1:Bool) (i:Int) (next_1:((Option Addr×Nat×Nat)×Bool×Int->Heap->Prop)) (h_6:Heap):Prop:=
 0≤i/\i<((Int.toNat ((N11:Nat):Int)):Nat)/\∃ (t1:Bool),cellH h_6 (Addr.add ⟨h_1.size,0,none⟩ (Int.toNat i*1))=some (.bool t1)/\BIf t1 (next_1 ((outA1,outN1,outC1),again1,(IntKind.wrap .i64 (i+1))) h_6) (J128_3 h A10 N10 h_1 N11 next_ outA1 outN1 outC1 again1 i next_1 h_6)
def B128_4 (h:Heap) (A10:(Option Addr)) (N10:Nat) (h_1:Heap) (N11:Nat) (next_:((Option Addr×Nat×Nat)×Bool->Heap->Prop)) (outA1:Option Addr) (outN1 outC1:Nat) (again1:Bool) (i:Int) (h_5:Heap) (next_1:(Option Addr×Nat×Nat)×Bool×Int->Heap->Prop):Prop:=
 ∃ (A12:Option Addr) (N12 C12:Nat),cellH h_5 (Addr.add ⟨h.size,0,none⟩ 8)=some (.slice A12 N12 C12)/\PIf (i<((N12:Nat):Int))
 (J128_2 h A10 N10 h_1 N11 next_ outA1 outN1 outC1 again1 i next_1 h_5)
 (next_ ((outA1,outN1,outC1),again1) h_5)
def J128_1  (h:Heap) (A10:(Option Addr)) (N10:Nat) (h_1:Heap) (N11:Nat) (outA:(Option Addr)) (outN outC:Nat) (next_:((Option Addr×Nat×Nat)×Bool->Heap->Prop)) (h_4:Heap):Prop:=
 LoopT (σ:=(Option Addr×Nat×Nat)×Bool×Int) (fun st_ h_st nx_st=>B128_4 h A10 N10 h_1 N11 next_ (st_.1.1) (st_.1.2.1) (st_.1.2.2) (st_.2.1) (st_.2.2) h_st nx_st) ((outA,outN,outC),false,0) h_4
def J128_0  (R:Value->Heap->Prop) (outA2:Option Addr) (outN2 outC2:Nat) (h_20:Heap):Prop:=
 R (.slice outA2 outN2 outC2) h_20
def B128_5 (R:Value->Heap->Prop) (h:Heap) (A10:(Option Addr)) (N10:Nat) (h_1:Heap) (N11:Nat) (outA:Option Addr) (outN outC:Nat) (again:Bool) (h_3:Heap) (next_:(Option Addr×Nat×Nat)×Bool->Heap->Prop):Prop:=
 BIf again (J128_1 h A10 N10 h_1 N11 outA outN outC next_ h_3) (J128_0 R (outA) (outN) (outC) h_3)
def VC128 (P:Program) (c:CV) (R:Value->Heap->Prop) (h:Heap):Prop:=
 let h_:Heap:=(h).push (.cells (Value.cells c.v) 29);LdC h_ ⟨h.size,0,none⟩ fun t=>CallsH P 134 #[t.v] h_ fun v h_1=>
 ∃ (A10:Option Addr) (N10 C10:Nat),v=(.slice A10 N10 C10)/\∃ (A11:Option Addr) (N11 C11:Nat),cellH h_1 (Addr.add ⟨h.size,0,none⟩ 8)=some (.slice A11 N11 C11)/\0≤(((N11:Nat):Int):Int)/\(((N11:Nat):Int):Int)≤((N11:Nat):Int)/\(1:Int)*((N11:Nat):Int)≤281474976710656/\let h_2:Heap:=(h_1).push (.cells (zeroRow #[.bool false] (Int.toNat ((N11:Nat):Int)*1)).toArray 4);LoopT (σ:=(Option Addr×Nat×Nat)×Bool) (fun st_ h_st nx_st=>B128_5 R h A10 N10 h_1 N11 (st_.1.1) (st_.1.2.1) (st_.1.2.2) (st_.2) h_st nx_st) ((none,0,0),true) h_2
theorem run128 (c:CV) (R:Value->Heap->Prop) (h:Heap) (hv:VC128 Tryz.prog c R h):CallsH Tryz.prog 128 #[c.v] h R:=calls_of_fnC (Checked.mixed Tryz.checked) Tryz.func128 comp128 (Nat.le_of_ble_eq_true rfl) (Eq.mp (by kernel_rfl) hv)
def loops134:List (List (Nat×Shp)):=[[(4,.int .i64)],[(5,.int .i64)]]
noncomputable def code134:SCode:=((compF Tryz.prog Tryz.f134 loops134).elim .skip fun x=>x.2.2)
def ret134:List RV:=[.tmp 2]
theorem comp134:compF Tryz.prog Tryz.f134 loops134=some (37,ret134,code134):=by kernel_rfl
def J134_2  (h h_:Heap) (t i:Int) (next_1:(Int->Heap->Prop)) (h_6:Heap):Prop:=
 ∃ (A1:Option Addr) (N1 C1:Nat),cellH h_6 (Addr.add ⟨h.size,0,none⟩ 8)=some (.slice A1 N1 C1)/\0≤i/\i<(N1:Nat)/\AtP A1 fun ad=>∃ (t2:Int),cellH h_6 (Addr.add (Addr.add ad (Int.toNat i*3)) 0)=some (.int .i64 t2)/\0≤((IntKind.wrap .i64 (Int.tdiv t2 2)):Int)/\((IntKind.wrap .i64 (Int.tdiv t2 2)):Int)<((Int.toNat (IntKind.wrap .i64 (t+1))):Nat)/\StoreH h_6 (Addr.add ⟨h_.size,0,none⟩ (Int.toNat (IntKind.wrap .i64 (Int.tdiv t2 2))*1)) [.int .i64 i] fun h_7=>next_1 (IntKind.wrap .i64 (i+1)) h_7
def J134_1  (R:Value->Heap->Prop) (h_:Heap) (t:Int) (h_8:Heap):Prop:=
 R (.slice (some ⟨h_.size,0,none⟩) (Int.toNat (IntKind.wrap .i64 (t+1))) (Int.toNat (IntKind.wrap .i64 (t+1)))) h_8
def B134_3 (R:Value->Heap->Prop) (h h_:Heap) (t i:Int) (h_5:Heap) (next_1:Int->Heap->Prop):Prop:=
 ∃ (A:Option Addr) (N C:Nat),cellH h_5 (Addr.add ⟨h.size,0,none⟩ 8)=some (.slice A N C)/\PIf (i<((N:Nat):Int))
 (J134_2 h h_ t i next_1 h_5)
 (J134_1 R h_ t h_5)
def J134_0  (R:Value->Heap->Prop) (h h_:Heap) (t:Int) (h_4:Heap):Prop:=
 LoopT (σ:=Int) (fun st_ h_st nx_st=>B134_3 R h h_ t (st_) h_st nx_st) (0) h_4
def B134_4 (R:Value->Heap->Prop) (h h_:Heap) (t v:Int) (h_2:Heap) (next_:Int->Heap->Prop):Prop:=
 ∃ (t1:Int),cellH h_2 (Addr.add ⟨h.size,0,none⟩ 0)=some (.int .i64 t1)/\PIf (v≤t1)
 (0≤v/\v<((Int.toNat (IntKind.wrap .i64 (t+1))):Nat)/\StoreH h_2 (Addr.add ⟨h_.size,0,none⟩ (Int.toNat v*1)) [(.int .i64 (-1))] fun h_3=>next_ (IntKind.wrap .i64 (v+1)) h_3)
 (J134_0 R h h_ t h_2)
def VC134 (P:Program) (c:CV) (R:Value->Heap->Prop) (h:Heap):Prop:=
 let h_:Heap:=(h).push (.cells (Value.cells c.v) 29);∃ (t:Int),cellH h_ (Addr.add ⟨h.size,0,none⟩ 0)=some (.int .i64 t)/\0≤((IntKind.wrap .i64 (t+1)):Int)/\((IntKind.wrap .i64 (t+1)):Int)≤(IntKind.wrap .i64 (t+1))/\(8:Int)*(IntKind.wrap .i64 (t+1))≤281474976710656/\let h_1:Heap:=(h_).push (.cells (zeroRow #[.int .i64 0] (Int.toNat (IntKind.wrap .i64 (t+1))*1)).toArray 3);LoopT (σ:=Int) (fun st_ h_st nx_st=>B134_4 R h h_ t (st_) h_st nx_st) (0) h_1
theorem run134 (c:CV) (R:Value->Heap->Prop) (h:Heap) (hv:VC134 Tryz.prog c R h):CallsH Tryz.prog 134 #[c.v] h R:=calls_of_fnC (Checked.mixed Tryz.checked) Tryz.func134 comp134 (Nat.le_of_ble_eq_true rfl) (Eq.mp (by kernel_rfl) hv)
def loops135:List (List (Nat×Shp)):=[[(8,.slice),(9,.int .i64)],[(8,.slice),(12,.int .i64)]]
noncomputable def code135:SCode:=((compF Tryz.prog Tryz.f135 loops135).elim .skip fun x=>x.2.2)
def ret135:List RV:=[.tmp 6]
theorem comp135:compF Tryz.prog Tryz.f135 loops135=some (79,ret135,code135):=by kernel_rfl
def J135_4  (h_:Heap) (N:Nat) (h_6:Heap) (listA1:(Option Addr)) (listN1 listC1:Nat) (k:Int) (next_1:((Option Addr×Nat×Nat)×Int->Heap->Prop)) (h_11:Heap):Prop:=
 0≤k/\k<(2:Nat)/\∃ (t9:Int),cellH h_11 (Addr.add ⟨h_6.size,0,none⟩ (Int.toNat k*1))=some (.int .i64 t9)/\PIf ((0:Int)≤t9)
 (0≤k/\k<(2:Nat)/\∃ (t10:Int),cellH h_11 (Addr.add ⟨h_6.size,0,none⟩ (Int.toNat k*1))=some (.int .i64 t10)/\0≤t10/\t10<((Int.toNat ((N:Nat):Int)):Nat)/\∃ (t11:Bool),cellH h_11 (Addr.add ⟨h_.size,0,none⟩ (Int.toNat t10*1))=some (.bool t11)/\BIf (!t11) (0≤k/\k<(2:Nat)/\∃ (t12:Int),cellH h_11 (Addr.add ⟨h_6.size,0,none⟩ (Int.toNat k*1))=some (.int .i64 t12)/\0≤t12/\t12<((Int.toNat ((N:Nat):Int)):Nat)/\StoreH h_11 (Addr.add ⟨h_.size,0,none⟩ (Int.toNat t12*1)) [.bool true] fun h_12=>0≤k/\k<(2:Nat)/\∃ (t13:Int),cellH h_12 (Addr.add ⟨h_6.size,0,none⟩ (Int.toNat k*1))=some (.int .i64 t13)/\let h_13:Heap:=(h_12).push (.cells #[.int .i64 t13] 3);∃ ys:List Value,ReadL h_13 (some ⟨h_12.size,0,none⟩) ys/\ys.length=1*1/\AppS h_13 listA1 listN1 listC1 3 8 1 #[.int .i64 0] ys 1 fun apA apN apC h_14=>next_1 ((apA,apN,apC),(IntKind.wrap .i64 (k+1))) h_14) (next_1 ((listA1,listN1,listC1),(IntKind.wrap .i64 (k+1))) h_11))
 (next_1 ((listA1,listN1,listC1),(IntKind.wrap .i64 (k+1))) h_11)
def J135_3  (R:Value->Heap->Prop) (at_:Int) (h_:Heap) (N:Nat) (h_6:Heap) (listA1:(Option Addr)) (listN1 listC1:Nat) (k:Int) (next_1:((Option Addr×Nat×Nat)×Int->Heap->Prop)) (h_10:Heap):Prop:=
 0≤k/\k<(2:Nat)/\∃ (t8:Int),cellH h_10 (Addr.add ⟨h_6.size,0,none⟩ (Int.toNat k*1))=some (.int .i64 t8)/\PIf (t8=at_)
 (R (.bool true) h_10)
 (J135_4 h_ N h_6 listA1 listN1 listC1 k next_1 h_10)
def J135_2  (i:Int) (next_:((Option Addr×Nat×Nat)×Int->Heap->Prop)) (listA2:Option Addr) (listN2 listC2:Nat) (h_15:Heap):Prop:=
 next_ ((listA2,listN2,listC2),(IntKind.wrap .i64 (i+1))) h_15
def B135_5 (R:Value->Heap->Prop) (at_:Int) (h_:Heap) (N:Nat) (i:Int) (next_:((Option Addr×Nat×Nat)×Int->Heap->Prop)) (h_6:Heap) (listA1:Option Addr) (listN1 listC1:Nat) (k:Int) (h_9:Heap) (next_1:(Option Addr×Nat×Nat)×Int->Heap->Prop):Prop:=
 PIf (k<2)
 (J135_3 R at_ h_ N h_6 listA1 listN1 listC1 k next_1 h_9)
 (J135_2 i next_ (listA1) (listN1) (listC1) h_9)
def J135_1  (R:Value->Heap->Prop) (h:Heap) (gateA:(Option Addr)) (gateN:Nat) (at_:Int) (h_:Heap) (N:Nat) (listA:(Option Addr)) (listN listC:Nat) (i:Int) (next_:((Option Addr×Nat×Nat)×Int->Heap->Prop)) (h_4:Heap):Prop:=
 (Addr.block (Addr.add ⟨h.size,0,none⟩ 8))<(h_4).size/\∃ (A1:Option Addr) (N1 C1:Nat),cellH h_4 (Addr.add ⟨h.size,0,none⟩ 8)=some (.slice A1 N1 C1)/\0≤i/\i<(listN:Nat)/\AtP listA fun ad=>(Addr.block (Addr.add ad (Int.toNat i*1)))<(h_4).size/\∃ (t:Int),cellH h_4 (Addr.add ad (Int.toNat i*1))=some (.int .i64 t)/\0≤t/\t<(N1:Nat)/\AtP A1 fun ad1=>(Addr.block (Addr.add ad1 (Int.toNat t*3)))<(h_4).size/\∃ (t1 t2 t3:Int),cellsH h_4 (Addr.add ad1 (Int.toNat t*3)) 0 [.int .i64 t1,.int .i64 t2,.int .i64 t3]/\let h_5:Heap:=(h_4).push (.cells #[.int .i64 0,.int .i64 0,.int .i64 0] 67);AgreeH (h_4).size h_4 h_5/\StoreH h_5 ⟨h_4.size,0,none⟩ [.int .i64 t1,.int .i64 t2,.int .i64 t3] fun h_6=>(Addr.block (Addr.add ⟨h_4.size,0,none⟩ 1))<(h_6).size/\∃ (t4:Int),cellH h_6 (Addr.add ⟨h_4.size,0,none⟩ 1)=some (.int .i64 t4)/\0≤((IntKind.wrap .i64 (Int.tdiv t4 2)):Int)/\((IntKind.wrap .i64 (Int.tdiv t4 2)):Int)<(gateN:Nat)/\AtP gateA fun ad2=>(Addr.block (Addr.add ad2 (Int.toNat (IntKind.wrap .i64 (Int.tdiv t4 2))*1)))<(h_6).size/\∃ (t5:Int),cellH h_6 (Addr.add ad2 (Int.toNat (IntKind.wrap .i64 (Int.tdiv t4 2))*1))=some (.int .i64 t5)/\(Addr.block (Addr.add ⟨h_4.size,0,none⟩ 2))<(h_6).size/\∃ (t6:Int),cellH h_6 (Addr.add ⟨h_4.size,0,none⟩ 2)=some (.int .i64 t6)/\0≤((IntKind.wrap .i64 (Int.tdiv t6 2)):Int)/\((IntKind.wrap .i64 (Int.tdiv t6 2)):Int)<(gateN:Nat)/\AtP gateA fun ad3=>(Addr.block (Addr.add ad3 (Int.toNat (IntKind.wrap .i64 (Int.tdiv t6 2))*1)))<(h_6).size/\∃ (t7:Int),cellH h_6 (Addr.add ad3 (Int.toNat (IntKind.wrap .i64 (Int.tdiv t6 2))*1))=some (.int .i64 t7)/\let h_7:Heap:=(h_6).push (.cells #[.int .i64 0,.int .i64 0] 219);AgreeH (h_6).size h_6 h_7/\StoreH h_7 ⟨h_6.size,0,none⟩ [.int .i64 t5,.int .i64 t7] fun h_8=>LoopT (σ:=(Option Addr×Nat×Nat)×Int) (fun st_ h_st nx_st=>B135_5 R at_ h_ N i next_ h_6 (st_.1.1) (st_.1.2.1) (st_.1.2.2) (st_.2) h_st nx_st) ((listA,listN,listC),0) h_8
def J135_0  (R:Value->Heap->Prop) (h_16:Heap):Prop:=
 R (.bool false) h_16
def B135_6 (R:Value->Heap->Prop) (h:Heap) (gateA:(Option Addr)) (gateN:Nat) (at_:Int) (h_:Heap) (N:Nat) (listA:Option Addr) (listN listC:Nat) (i:Int) (h_3:Heap) (next_:(Option Addr×Nat×Nat)×Int->Heap->Prop):Prop:=
 PIf (i<((listN:Nat):Int))
 (J135_1 R h gateA gateN at_ h_ N listA listN listC i next_ h_3)
 (J135_0 R h_3)
def VC135 (P:Program) (c:CV) (gateA:Option Addr) (gateN gateC:Nat) (at_:Int) (R:Value->Heap->Prop) (h:Heap):Prop:=
 let h_:Heap:=(h).push (.cells (Value.cells c.v) 29);∃ (A:Option Addr) (N C:Nat),cellH h_ (Addr.add ⟨h.size,0,none⟩ 8)=some (.slice A N C)/\0≤(((N:Nat):Int):Int)/\(((N:Nat):Int):Int)≤((N:Nat):Int)/\(1:Int)*((N:Nat):Int)≤281474976710656/\let h_1:Heap:=(h_).push (.cells (zeroRow #[.bool false] (Int.toNat ((N:Nat):Int)*1)).toArray 4);let h_2:Heap:=(h_1).push (.cells #[.int .i64 at_] 3);LoopT (σ:=(Option Addr×Nat×Nat)×Int) (fun st_ h_st nx_st=>B135_6 R h gateA gateN at_ h_ N (st_.1.1) (st_.1.2.1) (st_.1.2.2) (st_.2) h_st nx_st) (((some ⟨h_1.size,0,none⟩),1,1),0) h_2
theorem run135 (c:CV) (gateA:Option Addr) (gateN gateC:Nat) (at_:Int) (R:Value->Heap->Prop) (h:Heap) (hv:VC135 Tryz.prog c gateA gateN gateC at_ R h):CallsH Tryz.prog 135 #[c.v,.slice gateA gateN gateC,.int .i64 at_] h R:=calls_of_fnC (Checked.mixed Tryz.checked) Tryz.func135 comp135 (Nat.le_of_ble_eq_true rfl) (Eq.mp (by kernel_rfl) hv)
def loops136:List (List (Nat×Shp)):=[[(4,.int .i64)],[(7,.bool),(8,.int .i64)],[(7,.bool),(9,.int .i64)]]
noncomputable def code136:SCode:=((compF Tryz.prog Tryz.f136 loops136).elim .skip fun x=>x.2.2)
def ret136:List RV:=[.tmp 2,.tmp 3]
theorem comp136:compF Tryz.prog Tryz.f136 loops136=some (126,ret136,code136):=by kernel_rfl
def J136_5  (h_2:Heap) (k:Int) (next_1:(Bool×Int->Heap->Prop)) (h_7:Heap):Prop:=
 ∃ (t9:ByteArray),cellH h_7 (Addr.add ⟨h_2.size,0,none⟩ 2)=some (.string t9)/\0≤k/\k<(t9.size:Nat)/\PIf ((32:Int)≤(byteAt t9 k))
 (next_1 (true,(IntKind.wrap .i64 (k+1))) h_7)
 (next_1 (false,(IntKind.wrap .i64 (k+1))) h_7)
def J136_7  (h h_2:Heap) (k1:Int) (next_2:(Bool×Int->Heap->Prop)) (h_10:Heap):Prop:=
 ∃ (A3:Option Addr) (N3 C3:Nat),cellH h_10 (Addr.add ⟨h.size,0,none⟩ 9)=some (.slice A3 N3 C3)/\0≤k1/\k1<(N3:Nat)/\AtP A3 fun ad1=>∃ (t10:Int),cellH h_10 (Addr.add (Addr.add ad1 (Int.toNat k1*3)) 0)=some (.int .u8 t10)/\∃ (t11:Int),cellH h_10 (Addr.add ⟨h_2.size,0,none⟩ 0)=some (.int .u8 t11)/\PIf (t10=t11)
 (∃ (A4:Option Addr) (N4 C4:Nat),cellH h_10 (Addr.add ⟨h.size,0,none⟩ 9)=some (.slice A4 N4 C4)/\0≤k1/\k1<(N4:Nat)/\AtP A4 fun ad2=>∃ (t12:Int),cellH h_10 (Addr.add (Addr.add ad2 (Int.toNat k1*3)) 1)=some (.int .i64 t12)/\∃ (t13:Int),cellH h_10 (Addr.add ⟨h_2.size,0,none⟩ 1)=some (.int .i64 t13)/\PIf (t12=t13)
 (next_2 (false,(IntKind.wrap .i64 (k1+1))) h_10)
 (next_2 (true,(IntKind.wrap .i64 (k1+1))) h_10))
 (next_2 (true,(IntKind.wrap .i64 (k1+1))) h_10)
def J136_2  (i:Int) (next_:(Int->Heap->Prop)) (h_12:Heap):Prop:=
 next_ (IntKind.wrap .i64 (i+1)) h_12
def J136_6  (R:Value->Heap->Prop) (i:Int) (next_:(Int->Heap->Prop)) (ok3:Bool) (h_11:Heap):Prop:=
 BIf (!ok3) (R (.tuple #[.int .i64 i,.int .i64 35]) h_11) (J136_2 i next_ h_11)
def B136_8 (R:Value->Heap->Prop) (h:Heap) (i:Int) (next_:(Int->Heap->Prop)) (h_2:Heap) (ok2:Bool) (k1:Int) (h_9:Heap) (next_2:Bool×Int->Heap->Prop):Prop:=
 BIf ok2 (PIf (k1<i)
 (J136_7 h h_2 k1 next_2 h_9)
 (J136_6 R i next_ (ok2) h_9)) (J136_6 R i next_ (ok2) h_9)
def J136_4  (R:Value->Heap->Prop) (h:Heap) (i:Int) (next_:(Int->Heap->Prop)) (h_2:Heap) (ok1:Bool) (h_8:Heap):Prop:=
 LoopT (σ:=Bool×Int) (fun st_ h_st nx_st=>B136_8 R h i next_ h_2 (st_.1) (st_.2) h_st nx_st) (ok1,0) h_8
def B136_9 (R:Value->Heap->Prop) (h:Heap) (i:Int) (next_:(Int->Heap->Prop)) (h_2:Heap) (ok:Bool) (k:Int) (h_6:Heap) (next_1:Bool×Int->Heap->Prop):Prop:=
 BIf ok (∃ (t8:ByteArray),cellH h_6 (Addr.add ⟨h_2.size,0,none⟩ 2)=some (.string t8)/\PIf (k<((t8.size:Nat):Int))
 (J136_5 h_2 k next_1 h_6)
 (J136_4 R h i next_ h_2 (ok) h_6)) (J136_4 R h i next_ h_2 (ok) h_6)
def J136_11  (h_2:Heap) (k2:Int) (next_3:(Bool×Int->Heap->Prop)) (h_14:Heap):Prop:=
 ∃ (t15:ByteArray),cellH h_14 (Addr.add ⟨h_2.size,0,none⟩ 2)=some (.string t15)/\0≤k2/\k2<(t15.size:Nat)/\PIf ((32:Int)≤(byteAt t15 k2))
 (next_3 (true,(IntKind.wrap .i64 (k2+1))) h_14)
 (next_3 (false,(IntKind.wrap .i64 (k2+1))) h_14)
def J136_13  (h h_2:Heap) (k3:Int) (next_4:(Bool×Int->Heap->Prop)) (h_17:Heap):Prop:=
 ∃ (A5:Option Addr) (N5 C5:Nat),cellH h_17 (Addr.add ⟨h.size,0,none⟩ 9)=some (.slice A5 N5 C5)/\0≤k3/\k3<(N5:Nat)/\AtP A5 fun ad3=>∃ (t16:Int),cellH h_17 (Addr.add (Addr.add ad3 (Int.toNat k3*3)) 0)=some (.int .u8 t16)/\∃ (t17:Int),cellH h_17 (Addr.add ⟨h_2.size,0,none⟩ 0)=some (.int .u8 t17)/\PIf (t16=t17)
 (∃ (A6:Option Addr) (N6 C6:Nat),cellH h_17 (Addr.add ⟨h.size,0,none⟩ 9)=some (.slice A6 N6 C6)/\0≤k3/\k3<(N6:Nat)/\AtP A6 fun ad4=>∃ (t18:Int),cellH h_17 (Addr.add (Addr.add ad4 (Int.toNat k3*3)) 1)=some (.int .i64 t18)/\∃ (t19:Int),cellH h_17 (Addr.add ⟨h_2.size,0,none⟩ 1)=some (.int .i64 t19)/\PIf (t18=t19)
 (next_4 (false,(IntKind.wrap .i64 (k3+1))) h_17)
 (next_4 (true,(IntKind.wrap .i64 (k3+1))) h_17))
 (next_4 (true,(IntKind.wrap .i64 (k3+1))) h_17)
def J136_12  (R:Value->Heap->Prop) (i:Int) (next_:(Int->Heap->Prop)) (ok7:Bool) (h_18:Heap):Prop:=
 BIf (!ok7) (R (.tuple #[.int .i64 i,.int .i64 35]) h_18) (J136_2 i next_ h_18)
def B136_14 (R:Value->Heap->Prop) (h:Heap) (i:Int) (next_:(Int->Heap->Prop)) (h_2:Heap) (ok6:Bool) (k3:Int) (h_16:Heap) (next_4:Bool×Int->Heap->Prop):Prop:=
 BIf ok6 (PIf (k3<i)
 (J136_13 h h_2 k3 next_4 h_16)
 (J136_12 R i next_ (ok6) h_16)) (J136_12 R i next_ (ok6) h_16)
def J136_10  (R:Value->Heap->Prop) (h:Heap) (i:Int) (next_:(Int->Heap->Prop)) (h_2:Heap) (ok5:Bool) (h_15:Heap):Prop:=
 LoopT (σ:=Bool×Int) (fun st_ h_st nx_st=>B136_14 R h i next_ h_2 (st_.1) (st_.2) h_st nx_st) (ok5,0) h_15
def B136_15 (R:Value->Heap->Prop) (h:Heap) (i:Int) (next_:(Int->Heap->Prop)) (h_2:Heap) (ok4:Bool) (k2:Int) (h_13:Heap) (next_3:Bool×Int->Heap->Prop):Prop:=
 BIf ok4 (∃ (t14:ByteArray),cellH h_13 (Addr.add ⟨h_2.size,0,none⟩ 2)=some (.string t14)/\PIf (k2<((t14.size:Nat):Int))
 (J136_11 h_2 k2 next_3 h_13)
 (J136_10 R h i next_ h_2 (ok4) h_13)) (J136_10 R h i next_ h_2 (ok4) h_13)
def J136_17  (h_2:Heap) (k4:Int) (next_5:(Bool×Int->Heap->Prop)) (h_20:Heap):Prop:=
 ∃ (t21:ByteArray),cellH h_20 (Addr.add ⟨h_2.size,0,none⟩ 2)=some (.string t21)/\0≤k4/\k4<(t21.size:Nat)/\PIf ((32:Int)≤(byteAt t21 k4))
 (next_5 (true,(IntKind.wrap .i64 (k4+1))) h_20)
 (next_5 (false,(IntKind.wrap .i64 (k4+1))) h_20)
def J136_19  (h h_2:Heap) (k5:Int) (next_6:(Bool×Int->Heap->Prop)) (h_23:Heap):Prop:=
 ∃ (A7:Option Addr) (N7 C7:Nat),cellH h_23 (Addr.add ⟨h.size,0,none⟩ 9)=some (.slice A7 N7 C7)/\0≤k5/\k5<(N7:Nat)/\AtP A7 fun ad5=>∃ (t22:Int),cellH h_23 (Addr.add (Addr.add ad5 (Int.toNat k5*3)) 0)=some (.int .u8 t22)/\∃ (t23:Int),cellH h_23 (Addr.add ⟨h_2.size,0,none⟩ 0)=some (.int .u8 t23)/\PIf (t22=t23)
 (∃ (A8:Option Addr) (N8 C8:Nat),cellH h_23 (Addr.add ⟨h.size,0,none⟩ 9)=some (.slice A8 N8 C8)/\0≤k5/\k5<(N8:Nat)/\AtP A8 fun ad6=>∃ (t24:Int),cellH h_23 (Addr.add (Addr.add ad6 (Int.toNat k5*3)) 1)=some (.int .i64 t24)/\∃ (t25:Int),cellH h_23 (Addr.add ⟨h_2.size,0,none⟩ 1)=some (.int .i64 t25)/\PIf (t24=t25)
 (next_6 (false,(IntKind.wrap .i64 (k5+1))) h_23)
 (next_6 (true,(IntKind.wrap .i64 (k5+1))) h_23))
 (next_6 (true,(IntKind.wrap .i64 (k5+1))) h_23)
def J136_18  (R:Value->Heap->Prop) (i:Int) (next_:(Int->Heap->Prop)) (ok11:Bool) (h_24:Heap):Prop:=
 BIf (!ok11) (R (.tuple #[.int .i64 i,.int .i64 35]) h_24) (J136_2 i next_ h_24)
def B136_20 (R:Value->Heap->Prop) (h:Heap) (i:Int) (next_:(Int->Heap->Prop)) (h_2:Heap) (ok10:Bool) (k5:Int) (h_22:Heap) (next_6:Bool×Int->Heap->Prop):Prop:=
 BIf ok10 (PIf (k5<i)
 (J136_19 h h_2 k5 next_6 h_22)
 (J136_18 R i next_ (ok10) h_22)) (J136_18 R i next_ (ok10) h_22)
def J136_16  (R:Value->Heap->Prop) (h:Heap) (i:Int) (next_:(Int->Heap->Prop)) (h_2:Heap) (ok9:Bool) (h_21:Heap):Prop:=
 LoopT (σ:=Bool×Int) (fun st_ h_st nx_st=>B136_20 R h i next_ h_2 (st_.1) (st_.2) h_st nx_st) (ok9,0) h_21
def B136_21 (R:Value->Heap->Prop) (h:Heap) (i:Int) (next_:(Int->Heap->Prop)) (h_2:Heap) (ok8:Bool) (k4:Int) (h_19:Heap) (next_5:Bool×Int->Heap->Prop):Prop:=
 BIf ok8 (∃ (t20:ByteArray),cellH h_19 (Addr.add ⟨h_2.size,0,none⟩ 2)=some (.string t20)/\PIf (k4<((t20.size:Nat):Int))
 (J136_17 h_2 k4 next_5 h_19)
 (J136_16 R h i next_ h_2 (ok8) h_19)) (J136_16 R h i next_ h_2 (ok8) h_19)
def J136_23  (h_2:Heap) (k6:Int) (next_7:(Bool×Int->Heap->Prop)) (h_26:Heap):Prop:=
 ∃ (t27:ByteArray),cellH h_26 (Addr.add ⟨h_2.size,0,none⟩ 2)=some (.string t27)/\0≤k6/\k6<(t27.size:Nat)/\PIf ((32:Int)≤(byteAt t27 k6))
 (next_7 (true,(IntKind.wrap .i64 (k6+1))) h_26)
 (next_7 (false,(IntKind.wrap .i64 (k6+1))) h_26)
def J136_25  (h h_2:Heap) (k7:Int) (next_8:(Bool×Int->Heap->Prop)) (h_29:Heap):Prop:=
 ∃ (A9:Option Addr) (N9 C9:Nat),cellH h_29 (Addr.add ⟨h.size,0,none⟩ 9)=some (.slice A9 N9 C9)/\0≤k7/\k7<(N9:Nat)/\AtP A9 fun ad7=>∃ (t28:Int),cellH h_29 (Addr.add (Addr.add ad7 (Int.toNat k7*3)) 0)=some (.int .u8 t28)/\∃ (t29:Int),cellH h_29 (Addr.add ⟨h_2.size,0,none⟩ 0)=some (.int .u8 t29)/\PIf (t28=t29)
 (∃ (A10:Option Addr) (N10 C10:Nat),cellH h_29 (Addr.add ⟨h.size,0,none⟩ 9)=some (.slice A10 N10 C10)/\0≤k7/\k7<(N10:Nat)/\AtP A10 fun ad8=>∃ (t30:Int),cellH h_29 (Addr.add (Addr.add ad8 (Int.toNat k7*3)) 1)=some (.int .i64 t30)/\∃ (t31:Int),cellH h_29 (Addr.add ⟨h_2.size,0,none⟩ 1)=some (.int .i64 t31)/\PIf (t30=t31)
 (next_8 (false,(IntKind.wrap .i64 (k7+1))) h_29)
 (next_8 (true,(IntKind.wrap .i64 (k7+1))) h_29))
 (next_8 (true,(IntKind.wrap .i64 (k7+1))) h_29)
def J136_24  (R:Value->Heap->Prop) (i:Int) (next_:(Int->Heap->Prop)) (ok15:Bool) (h_30:Heap):Prop:=
 BIf (!ok15) (R (.tuple #[.int .i64 i,.int .i64 35]) h_30) (J136_2 i next_ h_30)
def B136_26 (R:Value->Heap->Prop) (h:Heap) (i:Int) (next_:(Int->Heap->Prop)) (h_2:Heap) (ok14:Bool) (k7:Int) (h_28:Heap) (next_8:Bool×Int->Heap->Prop):Prop:=
 BIf ok14 (PIf (k7<i)
 (J136_25 h h_2 k7 next_8 h_28)
 (J136_24 R i next_ (ok14) h_28)) (J136_24 R i next_ (ok14) h_28)
def J136_22  (R:Value->Heap->Prop) (h:Heap) (i:Int) (next_:(Int->Heap->Prop)) (h_2:Heap) (ok13:Bool) (h_27:Heap):Prop:=
 LoopT (σ:=Bool×Int) (fun st_ h_st nx_st=>B136_26 R h i next_ h_2 (st_.1) (st_.2) h_st nx_st) (ok13,0) h_27
def B136_27 (R:Value->Heap->Prop) (h:Heap) (i:Int) (next_:(Int->Heap->Prop)) (h_2:Heap) (ok12:Bool) (k6:Int) (h_25:Heap) (next_7:Bool×Int->Heap->Prop):Prop:=
 BIf ok12 (∃ (t26:ByteArray),cellH h_25 (Addr.add ⟨h_2.size,0,none⟩ 2)=some (.string t26)/\PIf (k6<((t26.size:Nat):Int))
 (J136_23 h_2 k6 next_7 h_25)
 (J136_22 R h i next_ h_2 (ok12) h_25)) (J136_22 R h i next_ h_2 (ok12) h_25)
def J136_29  (h_2:Heap) (k8:Int) (next_9:(Bool×Int->Heap->Prop)) (h_32:Heap):Prop:=
 ∃ (t33:ByteArray),cellH h_32 (Addr.add ⟨h_2.size,0,none⟩ 2)=some (.string t33)/\0≤k8/\k8<(t33.size:Nat)/\PIf ((32:Int)≤(byteAt t33 k8))
 (next_9 (true,(IntKind.wrap .i64 (k8+1))) h_32)
 (next_9 (false,(IntKind.wrap .i64 (k8+1))) h_32)
def J136_31  (h h_2:Heap) (k9:Int) (next_10:(Bool×Int->Heap->Prop)) (h_35:Heap):Prop:=
 ∃ (A11:Option Addr) (N11 C11:Nat),cellH h_35 (Addr.add ⟨h.size,0,none⟩ 9)=some (.slice A11 N11 C11)/\0≤k9/\k9<(N11:Nat)/\AtP A11 fun ad9=>∃ (t34:Int),cellH h_35 (Addr.add (Addr.add ad9 (Int.toNat k9*3)) 0)=some (.int .u8 t34)/\∃ (t35:Int),cellH h_35 (Addr.add ⟨h_2.size,0,none⟩ 0)=some (.int .u8 t35)/\PIf (t34=t35)
 (∃ (A12:Option Addr) (N12 C12:Nat),cellH h_35 (Addr.add ⟨h.size,0,none⟩ 9)=some (.slice A12 N12 C12)/\0≤k9/\k9<(N12:Nat)/\AtP A12 fun ad10=>∃ (t36:Int),cellH h_35 (Addr.add (Addr.add ad10 (Int.toNat k9*3)) 1)=some (.int .i64 t36)/\∃ (t37:Int),cellH h_35 (Addr.add ⟨h_2.size,0,none⟩ 1)=some (.int .i64 t37)/\PIf (t36=t37)
 (next_10 (false,(IntKind.wrap .i64 (k9+1))) h_35)
 (next_10 (true,(IntKind.wrap .i64 (k9+1))) h_35))
 (next_10 (true,(IntKind.wrap .i64 (k9+1))) h_35)
def J136_30  (R:Value->Heap->Prop) (i:Int) (next_:(Int->Heap->Prop)) (ok19:Bool) (h_36:Heap):Prop:=
 BIf (!ok19) (R (.tuple #[.int .i64 i,.int .i64 35]) h_36) (J136_2 i next_ h_36)
def B136_32 (R:Value->Heap->Prop) (h:Heap) (i:Int) (next_:(Int->Heap->Prop)) (h_2:Heap) (ok18:Bool) (k9:Int) (h_34:Heap) (next_10:Bool×Int->Heap->Prop):Prop:=
 BIf ok18 (PIf (k9<i)
 (J136_31 h h_2 k9 next_10 h_34)
 (J136_30 R i next_ (ok18) h_34)) (J136_30 R i next_ (ok18) h_34)
def J136_28  (R:Value->Heap->Prop) (h:Heap) (i:Int) (next_:(Int->Heap->Prop)) (h_2:Heap) (ok17:Bool) (h_33:Heap):Prop:=
 LoopT (σ:=Bool×Int) (fun st_ h_st nx_st=>B136_32 R h i next_ h_2 (st_.1) (st_.2) h_st nx_st) (ok17,0) h_33
def B136_33 (R:Value->Heap->Prop) (h:Heap) (i:Int) (next_:(Int->Heap->Prop)) (h_2:Heap) (ok16:Bool) (k8:Int) (h_31:Heap) (next_9:Bool×Int->Heap->Prop):Prop:=
 BIf ok16 (∃ (t32:ByteArray),cellH h_31 (Addr.add ⟨h_2.size,0,none⟩ 2)=some (.string t32)/\PIf (k8<((t32.size:Nat):Int))
 (J136_29 h_2 k8 next_9 h_31)
 (J136_28 R h i next_ h_2 (ok16) h_31)) (J136_28 R h i next_ h_2 (ok16) h_31)
def J136_3  (R:Value->Heap->Prop) (h:Heap) (i:Int) (next_:(Int->Heap->Prop)) (h_2:Heap) (many:Int) (h_5:Heap):Prop:=
 ∃ (t4:Int),cellH h_5 (Addr.add ⟨h_2.size,0,none⟩ 1)=some (.int .i64 t4)/\PIf ((0:Int)≤t4)
 (∃ (t5:Int),cellH h_5 (Addr.add ⟨h_2.size,0,none⟩ 1)=some (.int .i64 t5)/\PIf (t5<many)
 (∃ (t6:ByteArray),cellH h_5 (Addr.add ⟨h_2.size,0,none⟩ 2)=some (.string t6)/\PIf ((1:Int)≤((t6.size:Nat):Int))
 (∃ (t7:ByteArray),cellH h_5 (Addr.add ⟨h_2.size,0,none⟩ 2)=some (.string t7)/\PIf ((((t7.size:Nat):Int):Int)≤64)
 (LoopT (σ:=Bool×Int) (fun st_ h_st nx_st=>B136_9 R h i next_ h_2 (st_.1) (st_.2) h_st nx_st) (true,0) h_5)
 (LoopT (σ:=Bool×Int) (fun st_ h_st nx_st=>B136_15 R h i next_ h_2 (st_.1) (st_.2) h_st nx_st) (false,0) h_5))
 (LoopT (σ:=Bool×Int) (fun st_ h_st nx_st=>B136_21 R h i next_ h_2 (st_.1) (st_.2) h_st nx_st) (false,0) h_5))
 (LoopT (σ:=Bool×Int) (fun st_ h_st nx_st=>B136_27 R h i next_ h_2 (st_.1) (st_.2) h_st nx_st) (false,0) h_5))
 (LoopT (σ:=Bool×Int) (fun st_ h_st nx_st=>B136_33 R h i next_ h_2 (st_.1) (st_.2) h_st nx_st) (false,0) h_5)
def J136_1  (R:Value->Heap->Prop) (h:Heap) (i:Int) (next_:(Int->Heap->Prop)) (h_2:Heap):Prop:=
 ∃ (A1:Option Addr) (N1 C1:Nat),cellH h_2 (Addr.add ⟨h.size,0,none⟩ 9)=some (.slice A1 N1 C1)/\0≤i/\i<(N1:Nat)/\AtP A1 fun ad=>∃ (t t1:Int) (t2:ByteArray),cellsH h_2 (Addr.add ad (Int.toNat i*3)) 0 [.int .u8 t,.int .i64 t1,.string t2]/\let h_3:Heap:=(h_2).push (.cells #[.int .u8 0,.int .i64 0,(.string (ByteArray.mk #[]))] 123);StoreH h_3 ⟨h_2.size,0,none⟩ [.int .u8 t,.int .i64 t1,.string t2] fun h_4=>∃ (t3:Int),cellH h_4 (Addr.add ⟨h_2.size,0,none⟩ 0)=some (.int .u8 t3)/\PIf (t3=105)
 (∃ (A2:Option Addr) (N2 C2:Nat),cellH h_4 (Addr.add ⟨h.size,0,none⟩ 1)=some (.slice A2 N2 C2)/\J136_3 R h i next_ h_2 (((N2:Nat):Int)) h_4)
 (PIf (t3=108)
 (∃ (A13:Option Addr) (N13 C13:Nat),cellH h_4 (Addr.add ⟨h.size,0,none⟩ 2)=some (.slice A13 N13 C13)/\J136_3 R h i next_ h_2 (((N13:Nat):Int)) h_4)
 (PIf (t3=111)
 (∃ (A14:Option Addr) (N14 C14:Nat),cellH h_4 (Addr.add ⟨h.size,0,none⟩ 3)=some (.slice A14 N14 C14)/\J136_3 R h i next_ h_2 (((N14:Nat):Int)) h_4)
 (PIf (t3=98)
 (∃ (A15:Option Addr) (N15 C15:Nat),cellH h_4 (Addr.add ⟨h.size,0,none⟩ 4)=some (.slice A15 N15 C15)/\J136_3 R h i next_ h_2 (((N15:Nat):Int)) h_4)
 (PIf (t3=99)
 (∃ (A16:Option Addr) (N16 C16:Nat),cellH h_4 (Addr.add ⟨h.size,0,none⟩ 5)=some (.slice A16 N16 C16)/\J136_3 R h i next_ h_2 (((N16:Nat):Int)) h_4)
 (PIf (t3=106)
 (∃ (A17:Option Addr) (N17 C17:Nat),cellH h_4 (Addr.add ⟨h.size,0,none⟩ 6)=some (.slice A17 N17 C17)/\J136_3 R h i next_ h_2 (((N17:Nat):Int)) h_4)
 (PIf (t3=102)
 (∃ (A18:Option Addr) (N18 C18:Nat),cellH h_4 (Addr.add ⟨h.size,0,none⟩ 7)=some (.slice A18 N18 C18)/\J136_3 R h i next_ h_2 (((N18:Nat):Int)) h_4)
 (J136_3 R h i next_ h_2 ((-1)) h_4)))))))
def J136_0  (R:Value->Heap->Prop) (h_37:Heap):Prop:=
 R (.tuple #[.int .i64 0,.int .i64 0]) h_37
def B136_34 (R:Value->Heap->Prop) (h:Heap) (i:Int) (h_1:Heap) (next_:Int->Heap->Prop):Prop:=
 ∃ (A:Option Addr) (N C:Nat),cellH h_1 (Addr.add ⟨h.size,0,none⟩ 9)=some (.slice A N C)/\PIf (i<((N:Nat):Int))
 (J136_1 R h i next_ h_1)
 (J136_0 R h_1)
def VC136 (P:Program) (c:CV) (R:Value->Heap->Prop) (h:Heap):Prop:=
 let h_:Heap:=(h).push (.cells (Value.cells c.v) 29);LoopT (σ:=Int) (fun st_ h_st nx_st=>B136_34 R h (st_) h_st nx_st) (0) h_
theorem run136 (c:CV) (R:Value->Heap->Prop) (h:Heap) (hv:VC136 Tryz.prog c R h):CallsH Tryz.prog 136 #[c.v] h R:=calls_of_fnC (Checked.mixed Tryz.checked) Tryz.func136 comp136 (Nat.le_of_ble_eq_true rfl) (Eq.mp (by kernel_rfl) hv)
def loops167:List (List (Nat×Shp)):=[]
noncomputable def code167:SCode:=((compF Tryz.prog Tryz.f167 loops167).elim .skip fun x=>x.2.2)
def ret167:List RV:=[.tmp 6]
theorem comp167:compF Tryz.prog Tryz.f167 loops167=some (30,ret167,code167):=by kernel_rfl
def J167_0  (R:Value->Heap->Prop) (definedA:(Option Addr)) (definedN:Nat) (l:Int) (h_1:Heap):Prop:=
 0≤((IntKind.wrap .i64 (Int.tdiv l 2)):Int)/\((IntKind.wrap .i64 (Int.tdiv l 2)):Int)<(definedN:Nat)/\AtP definedA fun ad=>∃ (t1:Bool),cellH h_1 (Addr.add ad (Int.toNat (IntKind.wrap .i64 (Int.tdiv l 2))*1))=some (.bool t1)/\BIf t1 (R (.int .i64 31) h_1) (0≤((IntKind.wrap .i64 (Int.tdiv l 2)):Int)/\((IntKind.wrap .i64 (Int.tdiv l 2)):Int)<(definedN:Nat)/\AtP definedA fun ad1=>StoreH h_1 (Addr.add ad1 (Int.toNat (IntKind.wrap .i64 (Int.tdiv l 2))*1)) [.bool true] fun h_2=>R (.int .i64 0) h_2)
def VC167 (P:Program) (c:CV) (definedA:Option Addr) (definedN definedC:Nat) (l:Int) (R:Value->Heap->Prop) (h:Heap):Prop:=
 let h_:Heap:=(h).push (.cells (Value.cells c.v) 29);PIf (l<2)
 (R (.int .i64 30) h_)
 (PIf (((Int.tmod l 2):Int)=1)
 (R (.int .i64 30) h_)
 (∃ (t:Int),cellH h_ (Addr.add ⟨h.size,0,none⟩ 0)=some (.int .i64 t)/\PIf (((IntKind.wrap .i64 (2*t)):Int)<l)
 (R (.int .i64 30) h_)
 (J167_0 R definedA definedN l h_)))
theorem run167 (c:CV) (definedA:Option Addr) (definedN definedC:Nat) (l:Int) (R:Value->Heap->Prop) (h:Heap) (hv:VC167 Tryz.prog c definedA definedN definedC l R h):CallsH Tryz.prog 167 #[c.v,.slice definedA definedN definedC,.int .i64 l] h R:=calls_of_fnC (Checked.mixed Tryz.checked) Tryz.func167 comp167 (Nat.le_of_ble_eq_true rfl) (Eq.mp (by kernel_rfl) hv)
def loops168:List (List (Nat×Shp)):=[]
noncomputable def code168:SCode:=((compF Tryz.prog Tryz.f168 loops168).elim .skip fun x=>x.2.2)
def ret168:List RV:=[.tmp 6]
theorem comp168:compF Tryz.prog Tryz.f168 loops168=some (23,ret168,code168):=by kernel_rfl
def J168_0  (R:Value->Heap->Prop) (definedA:(Option Addr)) (definedN:Nat) (l:Int) (h_1:Heap):Prop:=
 0≤((IntKind.wrap .i64 (Int.tdiv l 2)):Int)/\((IntKind.wrap .i64 (Int.tdiv l 2)):Int)<(definedN:Nat)/\AtP definedA fun ad=>∃ (t1:Bool),cellH h_1 (Addr.add ad (Int.toNat (IntKind.wrap .i64 (Int.tdiv l 2))*1))=some (.bool t1)/\BIf (!t1) (R (.int .i64 32) h_1) (R (.int .i64 0) h_1)
def VC168 (P:Program) (c:CV) (definedA:Option Addr) (definedN definedC:Nat) (l:Int) (R:Value->Heap->Prop) (h:Heap):Prop:=
 let h_:Heap:=(h).push (.cells (Value.cells c.v) 29);PIf (l<0)
 (R (.int .i64 30) h_)
 (∃ (t:Int),cellH h_ (Addr.add ⟨h.size,0,none⟩ 0)=some (.int .i64 t)/\PIf (((IntKind.wrap .i64 ((IntKind.wrap .i64 (2*t))+1)):Int)<l)
 (R (.int .i64 30) h_)
 (J168_0 R definedA definedN l h_))
theorem run168 (c:CV) (definedA:Option Addr) (definedN definedC:Nat) (l:Int) (R:Value->Heap->Prop) (h:Heap) (hv:VC168 Tryz.prog c definedA definedN definedC l R h):CallsH Tryz.prog 168 #[c.v,.slice definedA definedN definedC,.int .i64 l] h R:=calls_of_fnC (Checked.mixed Tryz.checked) Tryz.func168 comp168 (Nat.le_of_ble_eq_true rfl) (Eq.mp (by kernel_rfl) hv)
def loops169:List (List (Nat×Shp)):=[[(8,.int .i64)]]
noncomputable def code169:SCode:=((compF Tryz.prog Tryz.f169 loops169).elim .skip fun x=>x.2.2)
def ret169:List RV:=[.tmp 6,.tmp 7]
theorem comp169:compF Tryz.prog Tryz.f169 loops169=some (27,ret169,code169):=by kernel_rfl
def J169_1  (P:Program) (R:Value->Heap->Prop) (h:Heap) (definedA:(Option Addr)) (definedN definedC:Nat) (lA:(Option Addr)) (lN:Nat) (i:Int) (next_:(Int->Heap->Prop)) (h_2:Heap):Prop:=
 LdC h_2 ⟨h.size,0,none⟩ fun t=>0≤i/\i<(lN:Nat)/\AtP lA fun ad=>∃ (t1:Int),cellH h_2 (Addr.add ad (Int.toNat i*1))=some (.int .i64 t1)/\CallsH P 168 #[t.v,.slice definedA definedN definedC,.int .i64 t1] h_2 fun v h_3=>
 ∃ (t2:Int),v=(.int .i64 t2)/\PIf (t2=0)
 (next_ (IntKind.wrap .i64 (i+1)) h_3)
 (R (.tuple #[.int .i64 i,.int .i64 t2]) h_3)
def J169_0  (R:Value->Heap->Prop) (h_4:Heap):Prop:=
 R (.tuple #[.int .i64 0,.int .i64 0]) h_4
def B169_2 (P:Program) (R:Value->Heap->Prop) (h:Heap) (definedA:(Option Addr)) (definedN definedC:Nat) (lA:(Option Addr)) (lN:Nat) (i:Int) (h_1:Heap) (next_:Int->Heap->Prop):Prop:=
 PIf (i<((lN:Nat):Int))
 (J169_1 P R h definedA definedN definedC lA lN i next_ h_1)
 (J169_0 R h_1)
def VC169 (P:Program) (c:CV) (definedA:Option Addr) (definedN definedC:Nat) (lA:Option Addr) (lN lC:Nat) (R:Value->Heap->Prop) (h:Heap):Prop:=
 let h_:Heap:=(h).push (.cells (Value.cells c.v) 29);LoopT (σ:=Int) (fun st_ h_st nx_st=>B169_2 P R h definedA definedN definedC lA lN (st_) h_st nx_st) (0) h_
theorem run169 (c:CV) (definedA:Option Addr) (definedN definedC:Nat) (lA:Option Addr) (lN lC:Nat) (R:Value->Heap->Prop) (h:Heap) (hv:VC169 Tryz.prog c definedA definedN definedC lA lN lC R h):CallsH Tryz.prog 169 #[c.v,.slice definedA definedN definedC,.slice lA lN lC] h R:=calls_of_fnC (Checked.mixed Tryz.checked) Tryz.func169 comp169 (Nat.le_of_ble_eq_true rfl) (Eq.mp (by kernel_rfl) hv)
def loops82:List (List (Nat×Shp)):=[]
noncomputable def code82:SCode:=((compF Tryz.prog Tryz.f82 loops82).elim .skip fun x=>x.2.2)
def ret82:List RV:=[.tmp 2,.tmp 3]
theorem comp82:compF Tryz.prog Tryz.f82 loops82=some (16,ret82,code82):=by kernel_rfl
def VC82 (P:Program) (c:CV) (R:Value->Heap->Prop) (h:Heap):Prop:=
 let h_:Heap:=(h).push (.cells (Value.cells c.v) 29);LdC h_ ⟨h.size,0,none⟩ fun t=>CallsH P 93 #[t.v] h_ fun v h_1=>
 ∃ (t1 t2:Int),v=(.tuple #[.int .i64 t1,.int .i64 t2])/\PIf (t2=0)
 (LdC h_1 ⟨h.size,0,none⟩ fun t3=>CallsH P 128 #[t3.v] h_1 fun v1 h_2=>
 ∃ (A20:Option Addr) (N20 C20:Nat),v1=(.slice A20 N20 C20)/\R (.tuple #[.slice A20 N20 C20,.int .i64 0]) h_2)
 (R (.tuple #[.slice none 0 0,.int .i64 t2]) h_1)
theorem run82 (c:CV) (R:Value->Heap->Prop) (h:Heap) (hv:VC82 Tryz.prog c R h):CallsH Tryz.prog 82 #[c.v] h R:=calls_of_fnC (Checked.mixed Tryz.checked) Tryz.func82 comp82 (Nat.le_of_ble_eq_true rfl) (Eq.mp (by kernel_rfl) hv)
end Go.Proofs.YtdpbdjdgdmheiaaGreat
