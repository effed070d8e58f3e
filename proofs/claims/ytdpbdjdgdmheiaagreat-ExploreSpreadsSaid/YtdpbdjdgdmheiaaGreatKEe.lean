/- Words and facts that the claim's proof leans on. No condition. -/
import Derived.Test.YtdpbdjdgdmheiaaGreatHxV
import Derived.Test.YtdpbdjdgdmheiaaGreatChecked
set_option maxRecDepth 100000
set_option linter.unusedVariables false
namespace Go.Proofs.YtdpbdjdgdmheiaaGreat
open Go.Hx
def loops44:List (List (Nat×Shp)):=[]
noncomputable def code44:SCode:=((compF Tryz.prog Tryz.f44 loops44).elim .skip fun x=>x.2.2)
def ret44:List RV:=[.tmp 2]
theorem comp44:compF Tryz.prog Tryz.f44 loops44=some (29,ret44,code44):=by kernel_rfl
def J44_0  (R:Value->Heap->Prop) (h h_2:Heap):Prop:=
 ∃ (A10:Option Addr) (N10 C10:Nat),cellH h_2 (Addr.add ⟨h.size,0,none⟩ 2)=some (.slice A10 N10 C10)/\PIf ((8:Int)<((N10:Nat):Int))
 (R (.int .i64 6) h_2)
 (∃ (A11:Option Addr) (N11 C11:Nat),cellH h_2 (Addr.add ⟨h.size,0,none⟩ 1)=some (.slice A11 N11 C11)/\PIf ((6:Int)<((N11:Nat):Int))
 (R (.int .i64 6) h_2)
 (∃ (A12:Option Addr) (N12 C12:Nat),cellH h_2 (Addr.add ⟨h.size,0,none⟩ 8)=some (.slice A12 N12 C12)/\PIf ((1024:Int)<((N12:Nat):Int))
 (R (.int .i64 6) h_2)
 (R (.int .i64 0) h_2)))
def VC44 (P:Program) (c:CV) (R:Value->Heap->Prop) (h:Heap):Prop:=
 let h_:Heap:=(h).push (.cells (Value.cells c.v) 29);LdC h_ ⟨h.size,0,none⟩ fun t=>CallsH P 93 #[t.v] h_ fun v h_1=>
 ∃ (t1 t2:Int),v=(.tuple #[.int .i64 t1,.int .i64 t2])/\PIf (t2=0)
 (J44_0 R h h_1)
 (R (.int .i64 t2) h_1)
theorem run44 (c:CV) (R:Value->Heap->Prop) (h:Heap) (hv:VC44 Tryz.prog c R h):CallsH Tryz.prog 44 #[c.v] h R:=calls_of_fnC (Checked.mixed Tryz.checked) Tryz.func44 comp44 (Nat.le_of_ble_eq_true rfl) (Eq.mp (by kernel_rfl) hv)
def loops94:List (List (Nat×Shp)):=[[(3,.int .u64),(4,.int .i64)]]
noncomputable def code94:SCode:=((compF Tryz.prog Tryz.f94 loops94).elim .skip fun x=>x.2.2)
def ret94:List RV:=[.tmp 2]
theorem comp94:compF Tryz.prog Tryz.f94 loops94=some (13,ret94,code94):=by kernel_rfl
def J94_0  (R:Value->Heap->Prop) (out1:Int) (h_1:Heap):Prop:=
 R (.int .u64 out1) h_1
def B94_1 (R:Value->Heap->Prop) (n out i:Int) (h_:Heap) (next_:Int×Int->Heap->Prop):Prop:=
 PIf (i<n)
 (next_ ((IntKind.wrap .u64 (out*2)),(IntKind.wrap .i64 (i+1))) h_)
 (J94_0 R (out) h_)
def VC94 (P:Program) (n:Int) (R:Value->Heap->Prop) (h:Heap):Prop:=
 LoopT (σ:=Int×Int) (fun st_ h_st nx_st=>B94_1 R n (st_.1) (st_.2) h_st nx_st) (1,0) h
theorem run94 (n:Int) (R:Value->Heap->Prop) (h:Heap) (hv:VC94 Tryz.prog n R h):CallsH Tryz.prog 94 #[.int .i64 n] h R:=calls_of_fnC (Checked.mixed Tryz.checked) Tryz.func94 comp94 (Nat.le_of_ble_eq_true rfl) (Eq.mp (by kernel_rfl) hv)
def loops137:List (List (Nat×Shp)):=[[(4,.int .i64),(5,.int .i64)]]
noncomputable def code137:SCode:=((compF Tryz.prog Tryz.f137 loops137).elim .skip fun x=>x.2.2)
def ret137:List RV:=[.tmp 2,.tmp 3]
theorem comp137:compF Tryz.prog Tryz.f137 loops137=some (25,ret137,code137):=by kernel_rfl
def J137_2  (P:Program) (bitsA:(Option Addr)) (bitsN:Nat) (n i:Int) (next_:(Int×Int->Heap->Prop)) (h_2:Heap):Prop:=
 0≤i/\i<(bitsN:Nat)/\AtP bitsA fun ad=>∃ (t:Bool),cellH h_2 (Addr.add ad (Int.toNat i*1))=some (.bool t)/\BIf t (CallsH P 94 #[.int .i64 i] h_2 fun v h_3=>
 ∃ (t1:Int),v=(.int .u64 t1)/\next_ ((IntKind.wrap .i64 (n+(IntKind.wrap .i64 t1))),(IntKind.wrap .i64 (i+1))) h_3) (next_ (n,(IntKind.wrap .i64 (i+1))) h_2)
def J137_1  (R:Value->Heap->Prop) (n1:Int) (h_4:Heap):Prop:=
 R (.tuple #[.int .i64 n1,.int .i64 0]) h_4
def B137_3 (P:Program) (R:Value->Heap->Prop) (bitsA:(Option Addr)) (bitsN:Nat) (n i:Int) (h_1:Heap) (next_:Int×Int->Heap->Prop):Prop:=
 PIf (i<((bitsN:Nat):Int))
 (J137_2 P bitsA bitsN n i next_ h_1)
 (J137_1 R (n) h_1)
def J137_0  (P:Program) (R:Value->Heap->Prop) (bitsA:(Option Addr)) (bitsN:Nat) (h_:Heap):Prop:=
 LoopT (σ:=Int×Int) (fun st_ h_st nx_st=>B137_3 P R bitsA bitsN (st_.1) (st_.2) h_st nx_st) (0,0) h_
def VC137 (P:Program) (bitsA:Option Addr) (bitsN bitsC:Nat) (R:Value->Heap->Prop) (h:Heap):Prop:=
 PIf ((62:Int)<((bitsN:Nat):Int))
 (R (.tuple #[.int .i64 0,.int .i64 2]) h)
 (J137_0 P R bitsA bitsN h)
theorem run137 (bitsA:Option Addr) (bitsN bitsC:Nat) (R:Value->Heap->Prop) (h:Heap) (hv:VC137 Tryz.prog bitsA bitsN bitsC R h):CallsH Tryz.prog 137 #[.slice bitsA bitsN bitsC] h R:=calls_of_fnC (Checked.mixed Tryz.checked) Tryz.func137 comp137 (Nat.le_of_ble_eq_true rfl) (Eq.mp (by kernel_rfl) hv)
def loops96:List (List (Nat×Shp)):=[]
noncomputable def code96:SCode:=((compF Tryz.prog Tryz.f96 loops96).elim .skip fun x=>x.2.2)
def ret96:List RV:=[.tmp 2]
theorem comp96:compF Tryz.prog Tryz.f96 loops96=some (11,ret96,code96):=by kernel_rfl
def VC96 (P:Program) (bitsA:Option Addr) (bitsN bitsC:Nat) (R:Value->Heap->Prop) (h:Heap):Prop:=
 CallsH P 137 #[.slice bitsA bitsN bitsC] h fun v h_=>
 ∃ (t t1:Int),v=(.tuple #[.int .i64 t,.int .i64 t1])/\R (.int .i64 t) h_
theorem run96 (bitsA:Option Addr) (bitsN bitsC:Nat) (R:Value->Heap->Prop) (h:Heap) (hv:VC96 Tryz.prog bitsA bitsN bitsC R h):CallsH Tryz.prog 96 #[.slice bitsA bitsN bitsC] h R:=calls_of_fnC (Checked.mixed Tryz.checked) Tryz.func96 comp96 (Nat.le_of_ble_eq_true rfl) (Eq.mp (by kernel_rfl) hv)
def loops49:List (List (Nat×Shp)):=[[(0,.int .i64),(6,.int .i64)]]
noncomputable def code49:SCode:=((compF Tryz.prog Tryz.f49 loops49).elim .skip fun x=>x.2.2)
def ret49:List RV:=[.tmp 4]
theorem comp49:compF Tryz.prog Tryz.f49 loops49=some (23,ret49,code49):=by kernel_rfl
def J49_1  (h:Heap) (n index1 i:Int) (next_:(Int×Int->Heap->Prop)) (h_2:Heap):Prop:=
 PIf (((Int.tmod index1 2):Int)=1)
 (0≤i/\i<((Int.toNat n):Nat)/\StoreH h_2 (Addr.add ⟨h.size,0,none⟩ (Int.toNat i*1)) [.bool true] fun h_3=>next_ ((IntKind.wrap .i64 (Int.tdiv index1 2)),(IntKind.wrap .i64 (i+1))) h_3)
 (0≤i/\i<((Int.toNat n):Nat)/\StoreH h_2 (Addr.add ⟨h.size,0,none⟩ (Int.toNat i*1)) [.bool false] fun h_4=>next_ ((IntKind.wrap .i64 (Int.tdiv index1 2)),(IntKind.wrap .i64 (i+1))) h_4)
def J49_0  (R:Value->Heap->Prop) (h:Heap) (n:Int) (h_5:Heap):Prop:=
 R (.slice (some ⟨h.size,0,none⟩) (Int.toNat n) (Int.toNat n)) h_5
def B49_2 (R:Value->Heap->Prop) (h:Heap) (n index1 i:Int) (h_1:Heap) (next_:Int×Int->Heap->Prop):Prop:=
 PIf (i<n)
 (J49_1 h n index1 i next_ h_1)
 (J49_0 R h n h_1)
def VC49 (P:Program) (index n:Int) (R:Value->Heap->Prop) (h:Heap):Prop:=
 0≤n/\n≤n/\(1:Int)*n≤281474976710656/\let h_:Heap:=(h).push (.cells (zeroRow #[.bool false] (Int.toNat n*1)).toArray 4);LoopT (σ:=Int×Int) (fun st_ h_st nx_st=>B49_2 R h n (st_.1) (st_.2) h_st nx_st) (index,0) h_
theorem run49 (index n:Int) (R:Value->Heap->Prop) (h:Heap) (hv:VC49 Tryz.prog index n R h):CallsH Tryz.prog 49 #[.int .i64 index,.int .i64 n] h R:=calls_of_fnC (Checked.mixed Tryz.checked) Tryz.func49 comp49 (Nat.le_of_ble_eq_true rfl) (Eq.mp (by kernel_rfl) hv)
def loops101:List (List (Nat×Shp)):=[[(5,.int .i64)]]
noncomputable def code101:SCode:=((compF Tryz.prog Tryz.f101 loops101).elim .skip fun x=>x.2.2)
def ret101:List RV:=[.tmp 4]
theorem comp101:compF Tryz.prog Tryz.f101 loops101=some (39,ret101,code101):=by kernel_rfl
def J101_1  (R:Value->Heap->Prop) (h:Heap) (stateA:(Option Addr)) (stateN:Nat) (i:Int) (next_:(Int->Heap->Prop)) (h_2:Heap):Prop:=
 ∃ (A1:Option Addr) (N1 C1:Nat),cellH h_2 (Addr.add ⟨h.size,0,none⟩ 2)=some (.slice A1 N1 C1)/\0≤i/\i<(N1:Nat)/\AtP A1 fun ad=>∃ (t:Int),cellH h_2 (Addr.add (Addr.add ad (Int.toNat i*3)) 2)=some (.int .i64 t)/\PIf (t=0)
 (0≤i/\i<(stateN:Nat)/\AtP stateA fun ad1=>∃ (t1:Bool),cellH h_2 (Addr.add ad1 (Int.toNat i*1))=some (.bool t1)/\BIf t1 (R (.bool false) h_2) (PIf (t=1)
 (0≤i/\i<(stateN:Nat)/\AtP stateA fun ad2=>∃ (t2:Bool),cellH h_2 (Addr.add ad2 (Int.toNat i*1))=some (.bool t2)/\BIf (!t2) (R (.bool false) h_2) (next_ (IntKind.wrap .i64 (i+1)) h_2))
 (next_ (IntKind.wrap .i64 (i+1)) h_2)))
 (PIf (t=1)
 (0≤i/\i<(stateN:Nat)/\AtP stateA fun ad3=>∃ (t3:Bool),cellH h_2 (Addr.add ad3 (Int.toNat i*1))=some (.bool t3)/\BIf (!t3) (R (.bool false) h_2) (next_ (IntKind.wrap .i64 (i+1)) h_2))
 (next_ (IntKind.wrap .i64 (i+1)) h_2))
def J101_0  (R:Value->Heap->Prop) (h_3:Heap):Prop:=
 R (.bool true) h_3
def B101_2 (R:Value->Heap->Prop) (h:Heap) (stateA:(Option Addr)) (stateN:Nat) (i:Int) (h_1:Heap) (next_:Int->Heap->Prop):Prop:=
 ∃ (A:Option Addr) (N C:Nat),cellH h_1 (Addr.add ⟨h.size,0,none⟩ 2)=some (.slice A N C)/\PIf (i<((N:Nat):Int))
 (J101_1 R h stateA stateN i next_ h_1)
 (J101_0 R h_1)
def VC101 (P:Program) (c:CV) (stateA:Option Addr) (stateN stateC:Nat) (R:Value->Heap->Prop) (h:Heap):Prop:=
 let h_:Heap:=(h).push (.cells (Value.cells c.v) 29);LoopT (σ:=Int) (fun st_ h_st nx_st=>B101_2 R h stateA stateN (st_) h_st nx_st) (0) h_
theorem run101 (c:CV) (stateA:Option Addr) (stateN stateC:Nat) (R:Value->Heap->Prop) (h:Heap) (hv:VC101 Tryz.prog c stateA stateN stateC R h):CallsH Tryz.prog 101 #[c.v,.slice stateA stateN stateC] h R:=calls_of_fnC (Checked.mixed Tryz.checked) Tryz.func101 comp101 (Nat.le_of_ble_eq_true rfl) (Eq.mp (by kernel_rfl) hv)
def loops57:List (List (Nat×Shp)):=[]
noncomputable def code57:SCode:=((compF Tryz.prog Tryz.f57 loops57).elim .skip fun x=>x.2.2)
def ret57:List RV:=[.tmp 4]
theorem comp57:compF Tryz.prog Tryz.f57 loops57=some (18,ret57,code57):=by kernel_rfl
def VC57 (P:Program) (w:Option Addr) (s:Int) (R:Value->Heap->Prop) (h:Heap):Prop:=
 AtP w fun ad=>(Addr.block (Addr.add ad 0))<(h).size/\LdC h (Addr.add ad 0) fun t=>AtP w fun ad1=>(Addr.block (Addr.add (Addr.add ad1 0) 2))<(h).size/\∃ (A10:Option Addr) (N10 C10:Nat),cellH h (Addr.add (Addr.add ad1 0) 2)=some (.slice A10 N10 C10)/\CallsH P 49 #[.int .i64 s,(.int .i64 ((N10:Nat):Int))] h fun v h_=>
 ∃ (A11:Option Addr) (N11 C11:Nat),v=(.slice A11 N11 C11)/\AgreeH (h).size h h_/\CallsH P 101 #[t.v,.slice A11 N11 C11] h_ fun v1 h_1=>
 ∃ (t1:Bool),v1=(.bool t1)/\AgreeH (h).size h_ h_1/\R (.bool t1) h_1
theorem run57 (w:Option Addr) (s:Int) (R:Value->Heap->Prop) (h:Heap) (hv:VC57 Tryz.prog w s R h):CallsH Tryz.prog 57 #[.pointer w,.int .i64 s] h R:=calls_of_fnC (Checked.mixed Tryz.checked) Tryz.func57 comp57 (Nat.le_of_ble_eq_true rfl) (Eq.mp (by kernel_rfl) hv)
def loops46:List (List (Nat×Shp)):=[[(6,.int .i64)],[(7,.slice),(8,.slice),(9,.slice),(10,.int .i64)]]
noncomputable def code46:SCode:=((compF Tryz.prog Tryz.f46 loops46).elim .skip fun x=>x.2.2)
def ret46:List RV:=[.tmp 2]
theorem comp46:compF Tryz.prog Tryz.f46 loops46=some (108,ret46,code46):=by kernel_rfl
def J46_4  (P:Program) (h:Heap) (A22:(Option Addr)) (N22 C22:Nat) (s:Int) (holdsA:(Option Addr)) (holdsN holdsC:Nat) (nextA:(Option Addr)) (nextN nextC:Nat) (valuesA:(Option Addr)) (valuesN valuesC:Nat) (i:Int) (next_1:((Option Addr×Nat×Nat)×(Option Addr×Nat×Nat)×(Option Addr×Nat×Nat)×Int->Heap->Prop)) (h_8:Heap):Prop:=
 (Addr.block ⟨h.size,0,none⟩)<(h_8).size/\LdC h_8 ⟨h.size,0,none⟩ fun t7=>(Addr.block (Addr.add ⟨h.size,0,none⟩ 2))<(h_8).size/\∃ (A33:Option Addr) (N33 C33:Nat),cellH h_8 (Addr.add ⟨h.size,0,none⟩ 2)=some (.slice A33 N33 C33)/\CallsH P 49 #[.int .i64 s,(.int .i64 ((N33:Nat):Int))] h_8 fun v3 h_9=>
 ∃ (A34:Option Addr) (N34 C34:Nat),v3=(.slice A34 N34 C34)/\AgreeH (h_8).size h_8 h_9/\(Addr.block (Addr.add ⟨h.size,0,none⟩ 1))<(h_8).size/\∃ (A35:Option Addr) (N35 C35:Nat),cellH h_9 (Addr.add ⟨h.size,0,none⟩ 1)=some (.slice A35 N35 C35)/\CallsH P 49 #[.int .i64 i,(.int .i64 ((N35:Nat):Int))] h_9 fun v4 h_10=>
 ∃ (A36:Option Addr) (N36 C36:Nat),v4=(.slice A36 N36 C36)/\AgreeH (h_8).size h_9 h_10/\CallsH P 83 #[t7.v,.slice A22 N22 C22,.slice A34 N34 C34,.slice A36 N36 C36] h_10 fun v5 h_11=>
 ∃ (A37:Option Addr) (N37 C37:Nat),v5=(.slice A37 N37 C37)/\AgreeH (h_8).size h_10 h_11/\∃ (A38:Option Addr) (N38 C38:Nat),cellH h_11 (Addr.add ⟨h.size,0,none⟩ 5)=some (.slice A38 N38 C38)/\CallsH P 95 #[.slice A37 N37 C37,.slice A38 N38 C38] h_11 fun v6 h_12=>
 ∃ (t8:Bool),v6=(.bool t8)/\let h_13:Heap:=(h_12).push (.cells #[.bool t8] 4);∃ ys:List Value,ReadL h_13 (some ⟨h_12.size,0,none⟩) ys/\ys.length=1*1/\AppS h_13 holdsA holdsN holdsC 4 1 1 #[.bool false] ys 1 fun apA apN apC h_14=>LdC h_14 ⟨h.size,0,none⟩ fun t9=>CallsH P 97 #[t9.v,.slice A37 N37 C37] h_14 fun v7 h_15=>
 ∃ (A49:Option Addr) (N49 C49:Nat),v7=(.slice A49 N49 C49)/\CallsH P 96 #[.slice A49 N49 C49] h_15 fun v8 h_16=>
 ∃ (t10:Int),v8=(.int .i64 t10)/\let h_17:Heap:=(h_16).push (.cells #[.int .i64 t10] 3);∃ ys1:List Value,ReadL h_17 (some ⟨h_16.size,0,none⟩) ys1/\ys1.length=1*1/\AppS h_17 nextA nextN nextC 3 8 1 #[.int .i64 0] ys1 1 fun apA1 apN1 apC1 h_18=>let h_19:Heap:=(h_18).push (.cells #[.slice A37 N37 C37] 46);∃ ys2:List Value,ReadL h_19 (some ⟨h_18.size,0,none⟩) ys2/\ys2.length=1*1/\AppS h_19 valuesA valuesN valuesC 46 24 1 #[.slice none 0 0] ys2 1 fun apA2 apN2 apC2 h_20=>next_1 ((apA,apN,apC),(apA1,apN1,apC1),(apA2,apN2,apC2),(IntKind.wrap .i64 (i+1))) h_20
def J46_2  (s:Int) (next_:(Int->Heap->Prop)) (h_31:Heap):Prop:=
 next_ (IntKind.wrap .i64 (s+1)) h_31
def J46_3  (h_2:Heap) (s:Int) (next_:(Int->Heap->Prop)) (holdsA1:Option Addr) (holdsN1 holdsC1:Nat) (nextA1:Option Addr) (nextN1 nextC1:Nat) (valuesA1:Option Addr) (valuesN1 valuesC1:Nat) (h_21:Heap):Prop:=
 ∃ (A50:Option Addr) (N50 C50:Nat),cellH h_21 (Addr.add ⟨h_2.size,0,none⟩ 13)=some (.slice A50 N50 C50)/\let h_22:Heap:=(h_21).push (.cells #[.slice holdsA1 holdsN1 holdsC1] 46);∃ ys3:List Value,ReadL h_22 (some ⟨h_21.size,0,none⟩) ys3/\ys3.length=1*1/\AppS h_22 A50 N50 C50 46 24 1 #[.slice none 0 0] ys3 1 fun apA3 apN3 apC3 h_23=>StoreH h_23 (Addr.add ⟨h_2.size,0,none⟩ 13) [.slice apA3 apN3 apC3] fun h_24=>∃ (A51:Option Addr) (N51 C51:Nat),cellH h_24 (Addr.add ⟨h_2.size,0,none⟩ 14)=some (.slice A51 N51 C51)/\let h_25:Heap:=(h_24).push (.cells #[.slice nextA1 nextN1 nextC1] 22);∃ ys4:List Value,ReadL h_25 (some ⟨h_24.size,0,none⟩) ys4/\ys4.length=1*1/\AppS h_25 A51 N51 C51 22 24 1 #[.slice none 0 0] ys4 1 fun apA4 apN4 apC4 h_26=>StoreH h_26 (Addr.add ⟨h_2.size,0,none⟩ 14) [.slice apA4 apN4 apC4] fun h_27=>∃ (A52:Option Addr) (N52 C52:Nat),cellH h_27 (Addr.add ⟨h_2.size,0,none⟩ 15)=some (.slice A52 N52 C52)/\let h_28:Heap:=(h_27).push (.cells #[.slice valuesA1 valuesN1 valuesC1] 47);∃ ys5:List Value,ReadL h_28 (some ⟨h_27.size,0,none⟩) ys5/\ys5.length=1*1/\AppS h_28 A52 N52 C52 47 24 1 #[.slice none 0 0] ys5 1 fun apA5 apN5 apC5 h_29=>StoreH h_29 (Addr.add ⟨h_2.size,0,none⟩ 15) [.slice apA5 apN5 apC5] fun h_30=>J46_2 s next_ h_30
def B46_5 (P:Program) (h h_2:Heap) (A22:(Option Addr)) (N22 C22:Nat) (s:Int) (next_:(Int->Heap->Prop)) (holdsA:Option Addr) (holdsN holdsC:Nat) (nextA:Option Addr) (nextN nextC:Nat) (valuesA:Option Addr) (valuesN valuesC:Nat) (i:Int) (h_7:Heap) (next_1:(Option Addr×Nat×Nat)×(Option Addr×Nat×Nat)×(Option Addr×Nat×Nat)×Int->Heap->Prop):Prop:=
 ∃ (t6:Int),cellH h_7 (Addr.add ⟨h_2.size,0,none⟩ 12)=some (.int .i64 t6)/\PIf (i<t6)
 (J46_4 P h A22 N22 C22 s holdsA holdsN holdsC nextA nextN nextC valuesA valuesN valuesC i next_1 h_7)
 (J46_3 h_2 s next_ (holdsA) (holdsN) (holdsC) (nextA) (nextN) (nextC) (valuesA) (valuesN) (valuesC) h_7)
def J46_1  (P:Program) (h h_2:Heap) (A22:(Option Addr)) (N22 C22:Nat) (s:Int) (next_:(Int->Heap->Prop)) (h_6:Heap):Prop:=
 LoopT (σ:=(Option Addr×Nat×Nat)×(Option Addr×Nat×Nat)×(Option Addr×Nat×Nat)×Int) (fun st_ h_st nx_st=>B46_5 P h h_2 A22 N22 C22 s next_ (st_.1.1) (st_.1.2.1) (st_.1.2.2) (st_.2.1.1) (st_.2.1.2.1) (st_.2.1.2.2) (st_.2.2.1.1) (st_.2.2.1.2.1) (st_.2.2.1.2.2) (st_.2.2.2) h_st nx_st) ((none,0,0),(none,0,0),(none,0,0),0) h_6
def J46_0  (R:Value->Heap->Prop) (h_2 h_32:Heap):Prop:=
 R (.pointer (some ⟨h_2.size,0,none⟩)) h_32
def B46_6 (P:Program) (R:Value->Heap->Prop) (h h_2:Heap) (A22:(Option Addr)) (N22 C22:Nat) (s:Int) (h_5:Heap) (next_:Int->Heap->Prop):Prop:=
 ∃ (t5:Int),cellH h_5 (Addr.add ⟨h_2.size,0,none⟩ 11)=some (.int .i64 t5)/\PIf (s<t5)
 (J46_1 P h h_2 A22 N22 C22 s next_ h_5)
 (J46_0 R h_2 h_5)
def VC46 (P:Program) (c:CV) (R:Value->Heap->Prop) (h:Heap):Prop:=
 let h_:Heap:=(h).push (.cells (Value.cells c.v) 29);(Addr.block ⟨h.size,0,none⟩)<(h_).size/\LdC h_ ⟨h.size,0,none⟩ fun t=>(Addr.block (Addr.add ⟨h.size,0,none⟩ 2))<(h_).size/\∃ (A10:Option Addr) (N10 C10:Nat),cellH h_ (Addr.add ⟨h.size,0,none⟩ 2)=some (.slice A10 N10 C10)/\CallsH P 94 #[(.int .i64 ((N10:Nat):Int))] h_ fun v h_1=>
 ∃ (t1:Int),v=(.int .u64 t1)/\AgreeH (h_).size h_ h_1/\(Addr.block (Addr.add ⟨h.size,0,none⟩ 1))<(h_).size/\∃ (A11:Option Addr) (N11 C11:Nat),cellH h_1 (Addr.add ⟨h.size,0,none⟩ 1)=some (.slice A11 N11 C11)/\CallsH P 94 #[(.int .i64 ((N11:Nat):Int))] h_1 fun v1 h_2=>
 ∃ (t2:Int),v1=(.int .u64 t2)/\AgreeH (h_).size h_1 h_2/\let h_3:Heap:=(h_2).push (.cells (Value.cells (.agg #[.int .i64 t.mx,.slice t.i.a t.i.n t.i.c,.slice t.l.a t.l.n t.l.c,.slice t.o.a t.o.n t.o.c,.slice t.b.a t.b.n t.b.c,.slice t.c.a t.c.n t.c.c,.slice t.j.a t.j.n t.j.c,.slice t.f.a t.f.n t.f.c,.slice t.g.a t.g.n t.g.c,.slice t.s.a t.s.n t.s.c,.slice t.m.a t.m.n t.m.c,(.int .i64 (IntKind.wrap .i64 t1)),(.int .i64 (IntKind.wrap .i64 t2)),.slice none 0 0,.slice none 0 0,.slice none 0 0])) 94);AgreeH (h_).size h_2 h_3/\LdC h_3 ⟨h.size,0,none⟩ fun t3=>CallsH P 82 #[t3.v] h_3 fun v2 h_4=>
 ∃ (A22:Option Addr) (N22 C22:Nat) (t4:Int),v2=(.tuple #[.slice A22 N22 C22,.int .i64 t4])/\LoopT (σ:=Int) (fun st_ h_st nx_st=>B46_6 P R h h_2 A22 N22 C22 (st_) h_st nx_st) (0) h_4
theorem run46 (c:CV) (R:Value->Heap->Prop) (h:Heap) (hv:VC46 Tryz.prog c R h):CallsH Tryz.prog 46 #[c.v] h R:=calls_of_fnC (Checked.mixed Tryz.checked) Tryz.func46 comp46 (Nat.le_of_ble_eq_true rfl) (Eq.mp (by kernel_rfl) hv)
def loops47:List (List (Nat×Shp)):=[[(4,.int .i64)],[(5,.int .i64)],[(6,.int .i64)],[(7,.int .i64)]]
noncomputable def code47:SCode:=((compF Tryz.prog Tryz.f47 loops47).elim .skip fun x=>x.2.2)
def ret47:List RV:=[.tmp 2]
theorem comp47:compF Tryz.prog Tryz.f47 loops47=some (103,ret47,code47):=by kernel_rfl
def J47_1  (P:Program) (h:Heap) (w:(Option Addr)) (t s:Int) (next_:(Int->Heap->Prop)) (h_2:Heap):Prop:=
 0≤s/\s<((Int.toNat t):Nat)/\StoreH h_2 (Addr.add ⟨h.size,0,none⟩ (Int.toNat s*1)) [(.int .i64 (-1))] fun h_3=>CallsH P 57 #[.pointer w,.int .i64 s] h_3 fun v h_4=>
 ∃ (t2:Bool),v=(.bool t2)/\BIf t2 (0≤s/\s<((Int.toNat t):Nat)/\StoreH h_4 (Addr.add ⟨h.size,0,none⟩ (Int.toNat s*1)) [.int .i64 0] fun h_5=>next_ (IntKind.wrap .i64 (s+1)) h_5) (next_ (IntKind.wrap .i64 (s+1)) h_4)
def J47_7  (h:Heap) (w:(Option Addr)) (t d s1 i:Int) (next_3:(Int->Heap->Prop)) (h_12:Heap):Prop:=
 AtP w fun ad5=>∃ (A:Option Addr) (N C:Nat),cellH h_12 (Addr.add ad5 13)=some (.slice A N C)/\0≤s1/\s1<(N:Nat)/\AtP A fun ad6=>∃ (A1:Option Addr) (N1 C1:Nat),cellH h_12 (Addr.add ad6 (Int.toNat s1*1))=some (.slice A1 N1 C1)/\0≤i/\i<(N1:Nat)/\AtP A1 fun ad7=>∃ (t7:Bool),cellH h_12 (Addr.add ad7 (Int.toNat i*1))=some (.bool t7)/\BIf t7 (AtP w fun ad8=>∃ (A2:Option Addr) (N2 C2:Nat),cellH h_12 (Addr.add ad8 14)=some (.slice A2 N2 C2)/\0≤s1/\s1<(N2:Nat)/\AtP A2 fun ad9=>∃ (A3:Option Addr) (N3 C3:Nat),cellH h_12 (Addr.add ad9 (Int.toNat s1*1))=some (.slice A3 N3 C3)/\0≤i/\i<(N3:Nat)/\AtP A3 fun ad10=>∃ (t8:Int),cellH h_12 (Addr.add ad10 (Int.toNat i*1))=some (.int .i64 t8)/\0≤t8/\t8<((Int.toNat t):Nat)/\∃ (t9:Int),cellH h_12 (Addr.add ⟨h.size,0,none⟩ (Int.toNat t8*1))=some (.int .i64 t9)/\PIf (t9<0)
 (AtP w fun ad11=>∃ (A4:Option Addr) (N4 C4:Nat),cellH h_12 (Addr.add ad11 14)=some (.slice A4 N4 C4)/\0≤s1/\s1<(N4:Nat)/\AtP A4 fun ad12=>∃ (A5:Option Addr) (N5 C5:Nat),cellH h_12 (Addr.add ad12 (Int.toNat s1*1))=some (.slice A5 N5 C5)/\0≤i/\i<(N5:Nat)/\AtP A5 fun ad13=>∃ (t10:Int),cellH h_12 (Addr.add ad13 (Int.toNat i*1))=some (.int .i64 t10)/\0≤t10/\t10<((Int.toNat t):Nat)/\StoreH h_12 (Addr.add ⟨h.size,0,none⟩ (Int.toNat t10*1)) [(.int .i64 (IntKind.wrap .i64 (d+1)))] fun h_13=>next_3 (IntKind.wrap .i64 (i+1)) h_13)
 (next_3 (IntKind.wrap .i64 (i+1)) h_12)) (next_3 (IntKind.wrap .i64 (i+1)) h_12)
def J47_6  (s1:Int) (next_2:(Int->Heap->Prop)) (h_14:Heap):Prop:=
 next_2 (IntKind.wrap .i64 (s1+1)) h_14
def B47_8 (h:Heap) (w:(Option Addr)) (t d s1:Int) (next_2:(Int->Heap->Prop)) (i:Int) (h_11:Heap) (next_3:Int->Heap->Prop):Prop:=
 AtP w fun ad4=>∃ (t5:Int),cellH h_11 (Addr.add ad4 12)=some (.int .i64 t5)/\PIf (i<t5)
 (0≤s1/\s1<((Int.toNat t):Nat)/\∃ (t6:Int),cellH h_11 (Addr.add ⟨h.size,0,none⟩ (Int.toNat s1*1))=some (.int .i64 t6)/\PIf (t6=d)
 (J47_7 h w t d s1 i next_3 h_11)
 (J47_6 s1 next_2 h_11))
 (J47_6 s1 next_2 h_11)
def J47_5  (h:Heap) (w:(Option Addr)) (t d s1:Int) (next_2:(Int->Heap->Prop)) (h_10:Heap):Prop:=
 LoopT (σ:=Int) (fun st_ h_st nx_st=>B47_8 h w t d s1 next_2 (st_) h_st nx_st) (0) h_10
def J47_4  (d:Int) (next_1:(Int->Heap->Prop)) (h_15:Heap):Prop:=
 next_1 (IntKind.wrap .i64 (d+1)) h_15
def B47_9 (h:Heap) (w:(Option Addr)) (t d:Int) (next_1:(Int->Heap->Prop)) (s1:Int) (h_9:Heap) (next_2:Int->Heap->Prop):Prop:=
 AtP w fun ad3=>∃ (t4:Int),cellH h_9 (Addr.add ad3 11)=some (.int .i64 t4)/\PIf (s1<t4)
 (J47_5 h w t d s1 next_2 h_9)
 (J47_4 d next_1 h_9)
def J47_3  (h:Heap) (w:(Option Addr)) (t d:Int) (next_1:(Int->Heap->Prop)) (h_8:Heap):Prop:=
 LoopT (σ:=Int) (fun st_ h_st nx_st=>B47_9 h w t d next_1 (st_) h_st nx_st) (0) h_8
def J47_2  (R:Value->Heap->Prop) (h:Heap) (t:Int) (h_16:Heap):Prop:=
 R (.slice (some ⟨h.size,0,none⟩) (Int.toNat t) (Int.toNat t)) h_16
def B47_10 (R:Value->Heap->Prop) (h:Heap) (w:(Option Addr)) (t d:Int) (h_7:Heap) (next_1:Int->Heap->Prop):Prop:=
 AtP w fun ad2=>∃ (t3:Int),cellH h_7 (Addr.add ad2 11)=some (.int .i64 t3)/\PIf (d<t3)
 (J47_3 h w t d next_1 h_7)
 (J47_2 R h t h_7)
def J47_0  (R:Value->Heap->Prop) (h:Heap) (w:(Option Addr)) (t:Int) (h_6:Heap):Prop:=
 LoopT (σ:=Int) (fun st_ h_st nx_st=>B47_10 R h w t (st_) h_st nx_st) (0) h_6
def B47_11 (P:Program) (R:Value->Heap->Prop) (h:Heap) (w:(Option Addr)) (t s:Int) (h_1:Heap) (next_:Int->Heap->Prop):Prop:=
 AtP w fun ad1=>∃ (t1:Int),cellH h_1 (Addr.add ad1 11)=some (.int .i64 t1)/\PIf (s<t1)
 (J47_1 P h w t s next_ h_1)
 (J47_0 R h w t h_1)
def VC47 (P:Program) (w:Option Addr) (R:Value->Heap->Prop) (h:Heap):Prop:=
 AtP w fun ad=>∃ (t:Int),cellH h (Addr.add ad 11)=some (.int .i64 t)/\0≤t/\t≤t/\(8:Int)*t≤281474976710656/\let h_:Heap:=(h).push (.cells (zeroRow #[.int .i64 0] (Int.toNat t*1)).toArray 3);LoopT (σ:=Int) (fun st_ h_st nx_st=>B47_11 P R h w t (st_) h_st nx_st) (0) h_
theorem run47 (w:Option Addr) (R:Value->Heap->Prop) (h:Heap) (hv:VC47 Tryz.prog w R h):CallsH Tryz.prog 47 #[.pointer w] h R:=calls_of_fnC (Checked.mixed Tryz.checked) Tryz.func47 comp47 (Nat.le_of_ble_eq_true rfl) (Eq.mp (by kernel_rfl) hv)
def loops17:List (List (Nat×Shp)):=[[(7,.int .i64)]]
noncomputable def code17:SCode:=((compF Tryz.prog Tryz.f17 loops17).elim .skip fun x=>x.2.2)
def ret17:List RV:=[.cellN 2 [.slice,.int .i64],.tmp 3]
theorem comp17:compF Tryz.prog Tryz.f17 loops17=some (34,ret17,code17):=by kernel_rfl
def J17_2  (A21:(Option Addr)) (N21:Nat) (h_6:Heap) (s:Int) (next_:(Int->Heap->Prop)) (h_10:Heap):Prop:=
 ∃ (t5:Int),cellH h_10 (Addr.add ⟨h_6.size,0,none⟩ 1)=some (.int .i64 t5)/\0≤s/\s<(N21:Nat)/\AtP A21 fun ad=>∃ (t6:Int),cellH h_10 (Addr.add ad (Int.toNat s*1))=some (.int .i64 t6)/\StoreH h_10 (Addr.add ⟨h_6.size,0,none⟩ 1) [(.int .i64 (max (t5:Int) t6))] fun h_11=>next_ (IntKind.wrap .i64 (s+1)) h_11
def J17_1  (R:Value->Heap->Prop) (h_ h_6 h_12:Heap):Prop:=
 ∃ (A22:Option Addr) (N22 C22:Nat) (t7:Int),cellsH h_12 ⟨h_6.size,0,none⟩ 0 [.slice A22 N22 C22,.int .i64 t7]/\StoreH h_12 ⟨h_.size,0,none⟩ [.slice A22 N22 C22,.int .i64 t7] fun h_13=>∃ (A23:Option Addr) (N23 C23:Nat) (t8:Int),cellsH h_13 ⟨h_.size,0,none⟩ 0 [.slice A23 N23 C23,.int .i64 t8]/\R (.tuple #[(.agg #[.slice A23 N23 C23,.int .i64 t8]),.int .i64 0]) h_13
def B17_3 (R:Value->Heap->Prop) (h_:Heap) (A21:(Option Addr)) (N21:Nat) (h_6:Heap) (s:Int) (h_9:Heap) (next_:Int->Heap->Prop):Prop:=
 PIf (s<((N21:Nat):Int))
 (J17_2 A21 N21 h_6 s next_ h_9)
 (J17_1 R h_ h_6 h_9)
def J17_0  (P:Program) (R:Value->Heap->Prop) (h h_ h_4:Heap):Prop:=
 LdC h_4 ⟨h.size,0,none⟩ fun t3=>CallsH P 46 #[t3.v] h_4 fun v1 h_5=>
 ∃ (t4:Option Addr),v1=(.pointer t4)/\CallsH P 47 #[.pointer t4] h_5 fun v2 h_6=>
 ∃ (A21:Option Addr) (N21 C21:Nat),v2=(.slice A21 N21 C21)/\let h_7:Heap:=(h_6).push (.cells #[.slice none 0 0,.int .i64 0] 41);StoreH h_7 ⟨h_6.size,0,none⟩ [.slice A21 N21 C21,.int .i64 0] fun h_8=>LoopT (σ:=Int) (fun st_ h_st nx_st=>B17_3 R h_ A21 N21 h_6 (st_) h_st nx_st) (0) h_8
def VC17 (P:Program) (c:CV) (R:Value->Heap->Prop) (h:Heap):Prop:=
 let h_:Heap:=(h).push (.cells (Value.cells c.v) 29);let h_1:Heap:=(h_).push (.cells #[.slice none 0 0,.int .i64 0] 41);LdC h_1 ⟨h.size,0,none⟩ fun t=>CallsH P 44 #[t.v] h_1 fun v h_2=>
 ∃ (t1:Int),v=(.int .i64 t1)/\PIf (t1=0)
 (J17_0 P R h h_ h_2)
 (StoreH h_2 ⟨h_.size,0,none⟩ [.slice none 0 0,.int .i64 0] fun h_3=>∃ (A10:Option Addr) (N10 C10:Nat) (t2:Int),cellsH h_3 ⟨h_.size,0,none⟩ 0 [.slice A10 N10 C10,.int .i64 t2]/\R (.tuple #[(.agg #[.slice A10 N10 C10,.int .i64 t2]),.int .i64 t1]) h_3)
theorem run17 (c:CV) (R:Value->Heap->Prop) (h:Heap) (hv:VC17 Tryz.prog c R h):CallsH Tryz.prog 17 #[c.v] h R:=calls_of_fnC (Checked.mixed Tryz.checked) Tryz.func17 comp17 (Nat.le_of_ble_eq_true rfl) (Eq.mp (by kernel_rfl) hv)
end Go.Proofs.YtdpbdjdgdmheiaaGreat
