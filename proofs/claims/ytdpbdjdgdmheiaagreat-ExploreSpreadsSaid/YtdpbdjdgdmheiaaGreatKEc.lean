/- Words and facts that the claim's proof leans on. No condition. -/
import Derived.Test.YtdpbdjdgdmheiaaGreatHxV
import Derived.Test.YtdpbdjdgdmheiaaGreatChecked
set_option maxRecDepth 100000
set_option linter.unusedVariables false
namespace Go.Proofs.YtdpbdjdgdmheiaaGreat
open Go.Hx
def loops26:List (List (Nat×Shp)):=[]
noncomputable def code26:SCode:=((compF Tryz.prog Tryz.f26 loops26).elim .skip fun x=>x.2.2)
def ret26:List RV:=[.tmp 4,.tmp 5]
theorem comp26:compF Tryz.prog Tryz.f26 loops26=some (24,ret26,code26):=by kernel_rfl
def J26_0  (P:Program) (R:Value->Heap->Prop) (j:Int) (t1:(Option Addr)) (h_2:Heap):Prop:=
 CallsH P 63 #[.pointer t1,.int .i64 j] h_2 fun v1 h_3=>
 ∃ (A10:Option Addr) (N10 C10:Nat),v1=(.slice A10 N10 C10)/\CallsH P 62 #[.pointer t1,.slice A10 N10 C10] h_3 fun v2 h_4=>
 ∃ (t3:Option Nat),v2=(.map t3)/\MapLen none h_4 t3 fun ln=>PIf ((0:Int)<ln)
 (R (.tuple #[.bool true,.int .i64 0]) h_4)
 (R (.tuple #[.bool false,.int .i64 0]) h_4)
def VC26 (P:Program) (c:CV) (j:Int) (R:Value->Heap->Prop) (h:Heap):Prop:=
 let h_:Heap:=(h).push (.cells (Value.cells c.v) 29);LdC h_ ⟨h.size,0,none⟩ fun t=>CallsH P 61 #[t.v,.int .i64 j] h_ fun v h_1=>
 ∃ (t1:Option Addr) (t2:Int),v=(.tuple #[.pointer t1,.int .i64 t2])/\PIf (t2=0)
 (J26_0 P R j t1 h_1)
 (R (.tuple #[.bool false,.int .i64 t2]) h_1)
theorem run26 (c:CV) (j:Int) (R:Value->Heap->Prop) (h:Heap) (hv:VC26 Tryz.prog c j R h):CallsH Tryz.prog 26 #[c.v,.int .i64 j] h R:=calls_of_fnC (Checked.mixed Tryz.checked) Tryz.func26 comp26 (Nat.le_of_ble_eq_true rfl) (Eq.mp (by kernel_rfl) hv)
def loops61:List (List (Nat×Shp)):=[]
noncomputable def code61:SCode:=((compF Tryz.prog Tryz.f61 loops61).elim .skip fun x=>x.2.2)
def ret61:List RV:=[.tmp 4,.tmp 5]
theorem comp61:compF Tryz.prog Tryz.f61 loops61=some (26,ret61,code61):=by kernel_rfl
def J61_0  (R:Value->Heap->Prop) (h:Heap) (j:Int) (t1:(Option Addr)) (h_2:Heap):Prop:=
 PIf (j<0)
 (R (.tuple #[.pointer none,.int .i64 5]) h_2)
 (∃ (A10:Option Addr) (N10 C10:Nat),cellH h_2 (Addr.add ⟨h.size,0,none⟩ 6)=some (.slice A10 N10 C10)/\PIf ((((N10:Nat):Int):Int)≤j)
 (R (.tuple #[.pointer none,.int .i64 5]) h_2)
 (R (.tuple #[.pointer t1,.int .i64 0]) h_2))
def VC61 (P:Program) (c:CV) (j:Int) (R:Value->Heap->Prop) (h:Heap):Prop:=
 let h_:Heap:=(h).push (.cells (Value.cells c.v) 29);LdC h_ ⟨h.size,0,none⟩ fun t=>CallsH P 42 #[t.v] h_ fun v h_1=>
 ∃ (t1:Option Addr) (t2:Int),v=(.tuple #[.pointer t1,.int .i64 t2])/\PIf (t2=0)
 (J61_0 R h j t1 h_1)
 (R (.tuple #[.pointer none,.int .i64 t2]) h_1)
theorem run61 (c:CV) (j:Int) (R:Value->Heap->Prop) (h:Heap) (hv:VC61 Tryz.prog c j R h):CallsH Tryz.prog 61 #[c.v,.int .i64 j] h R:=calls_of_fnC (Checked.mixed Tryz.checked) Tryz.func61 comp61 (Nat.le_of_ble_eq_true rfl) (Eq.mp (by kernel_rfl) hv)
def loops62:List (List (Nat×Shp)):=[[],[],[(8,.ptr)]]
noncomputable def code62:SCode:=((compF Tryz.prog Tryz.f62 loops62).elim .skip fun x=>x.2.2)
def ret62:List RV:=[.tmp 4]
theorem comp62:compF Tryz.prog Tryz.f62 loops62=some (37,ret62,code62):=by kernel_rfl
def J62_3  (P:Program) (h:Heap) (w:(Option Addr)) (h_:Heap) (k:(Option Addr)) (next_2:(Option Addr->Heap->Prop)) (h_10:Heap):Prop:=
 CallsH P 102 #[.pointer w,(.map (some (h_).size)),(.func (.func 103) #[] #[.pointer k,(.pointer (some ⟨h.size,0,none⟩))])] h_10 fun v1 h_11=>
 v1=(.tuple #[])/\AtP k fun ad1=>∃ (t2:Int),cellH h_11 ad1=some (.int .i64 t2)/\let h_12:Heap:=(h_11).push (.cells #[.int .i64 0] 3);StoreH h_12 ⟨h_11.size,0,none⟩ [.int .i64 t2] fun h_13=>∃ (t3:Int),cellH h_13 ⟨h_11.size,0,none⟩=some (.int .i64 t3)/\StoreH h_13 ⟨h_11.size,0,none⟩ [(.int .i64 (IntKind.wrap .i64 (t3+1)))] fun h_14=>next_2 ((some ⟨h_11.size,0,none⟩)) h_14
def J62_2  (R:Value->Heap->Prop) (h_:Heap) (next_1:(Unit->Heap->Prop)) (ln:Int) (h_15:Heap):Prop:=
 MapLen none h_15 (some (h_).size) fun ln1=>PIf (ln1=ln)
 (R (.map (some (h_).size)) h_15)
 (next_1 () h_15)
def B62_4 (P:Program) (R:Value->Heap->Prop) (h:Heap) (w:(Option Addr)) (h_:Heap) (next_1:(Unit->Heap->Prop)) (ln:Int) (k:Option Addr) (h_9:Heap) (next_2:Option Addr->Heap->Prop):Prop:=
 AtP k fun ad=>∃ (t1:Int),cellH h_9 ad=some (.int .i64 t1)/\∃ (A:Option Addr) (N C:Nat),cellH h_9 ⟨h.size,0,none⟩=some (.slice A N C)/\PIf (t1<((N:Nat):Int))
 (J62_3 P h w h_ k next_2 h_9)
 (J62_2 R h_ next_1 ln h_9)
def B62_5 (P:Program) (R:Value->Heap->Prop) (h:Heap) (w:(Option Addr)) (h_ h_6:Heap) (next_1:Unit->Heap->Prop):Prop:=
 MapLen none h_6 (some (h_).size) fun ln=>let h_7:Heap:=(h_6).push (.cells #[.int .i64 0] 3);StoreH h_7 ⟨h_6.size,0,none⟩ [(.int .i64 (-1))] fun h_8=>LoopT (σ:=Option Addr) (fun st_ h_st nx_st=>B62_4 P R h w h_ next_1 ln (st_) h_st nx_st) ((some ⟨h_6.size,0,none⟩)) h_8
def J62_0  (P:Program) (R:Value->Heap->Prop) (h:Heap) (w:(Option Addr)) (h_ h_5:Heap):Prop:=
 LoopT (σ:=Unit) (fun st_ h_st nx_st=>B62_5 P R h w h_  h_st nx_st) () h_5
def J62_6  (h_ h_2:Heap) (next_:(Unit->Heap->Prop)) (h_17:Heap):Prop:=
 (Addr.off ⟨h_2.size,0,none⟩)=0/\MEntryS h_17 (Addr.block ⟨h_2.size,0,none⟩) fun e1=>∃ (k2:Int),e1.key=(.agg #[.int .u64 k2])/\∃ (v3:Value),e1.val=v3/\let h_18:Heap:=(h_17).push (.cells #[.int .u64 0] 76);StoreH h_18 ⟨h_17.size,0,none⟩ [.int .u64 k2] fun h_19=>∃ (t4:Int),cellsH h_19 ⟨h_17.size,0,none⟩ 0 [.int .u64 t4]/\MapPut (.flat [.int .u64]) (.agg #[.int .u64 t4]) (.int .i64 1) h_19 (some (h_).size) fun h_20=>next_ () h_20
def B62_7 (P:Program) (R:Value->Heap->Prop) (h:Heap) (w:(Option Addr)) (h_ h_2 h_4:Heap) (next_:Unit->Heap->Prop):Prop:=
 (Addr.off ⟨h_2.size,0,none⟩)=0/\MNextS h_4 (Addr.block ⟨h_2.size,0,none⟩) (J62_0 P R h w h_ h_4) fun e h_16=>∃ (k1:Value),e.key=k1/\∃ (v2:Value),e.val=v2/\J62_6 h_ h_2 next_ h_16
def VC62 (P:Program) (w mustA:Option Addr) (mustN mustC:Nat) (R:Value->Heap->Prop) (h:Heap):Prop:=
 let h_:Heap:=(h).push (.cells #[.slice mustA mustN mustC] 22);let h_1:Heap:=(h_).push (.map #[] 0);CallsH P 43 #[.pointer w] h_1 fun v h_2=>
 ∃ (t:Option Nat),v=(.map t)/\MapRange h_2 t fun h_3=>LoopT (σ:=Unit) (fun st_ h_st nx_st=>B62_7 P R h w h_ h_2  h_st nx_st) () h_3
theorem run62 (w mustA:Option Addr) (mustN mustC:Nat) (R:Value->Heap->Prop) (h:Heap) (hv:VC62 Tryz.prog w mustA mustN mustC R h):CallsH Tryz.prog 62 #[.pointer w,.slice mustA mustN mustC] h R:=calls_of_fnC (Checked.mixed Tryz.checked) Tryz.func62 comp62 (Nat.le_of_ble_eq_true rfl) (Eq.mp (by kernel_rfl) hv)
def loops63:List (List (Nat×Shp)):=[]
noncomputable def code63:SCode:=((compF Tryz.prog Tryz.f63 loops63).elim .skip fun x=>x.2.2)
def ret63:List RV:=[.tmp 4]
theorem comp63:compF Tryz.prog Tryz.f63 loops63=some (20,ret63,code63):=by kernel_rfl
def VC63 (P:Program) (w:Option Addr) (j:Int) (R:Value->Heap->Prop) (h:Heap):Prop:=
 AtP w fun ad=>∃ (A:Option Addr) (N C:Nat),cellH h (Addr.add (Addr.add ad 0) 6)=some (.slice A N C)/\0≤j/\j<(N:Nat)/\AtP A fun ad1=>∃ (A1:Option Addr) (N1 C1:Nat),cellH h (Addr.add ad1 (Int.toNat j*1))=some (.slice A1 N1 C1)/\AtP w fun ad2=>∃ (A2:Option Addr) (N2 C2:Nat),cellH h (Addr.add (Addr.add ad2 0) 7)=some (.slice A2 N2 C2)/\let h_:Heap:=(h).push (.cells #[.slice A1 N1 C1,.slice A2 N2 C2] 22);CallsH P 104 #[(.slice (some ⟨h.size,0,none⟩) 2 2)] h_ fun v h_1=>
 ∃ (A3:Option Addr) (N3 C3:Nat),v=(.slice A3 N3 C3)/\R (.slice A3 N3 C3) h_1
theorem run63 (w:Option Addr) (j:Int) (R:Value->Heap->Prop) (h:Heap) (hv:VC63 Tryz.prog w j R h):CallsH Tryz.prog 63 #[.pointer w,.int .i64 j] h R:=calls_of_fnC (Checked.mixed Tryz.checked) Tryz.func63 comp63 (Nat.le_of_ble_eq_true rfl) (Eq.mp (by kernel_rfl) hv)
def loops102:List (List (Nat×Shp)):=[[(7,.bool)],[(7,.bool)],[]]
noncomputable def code102:SCode:=((compF Tryz.prog Tryz.f102 loops102).elim .skip fun x=>x.2.2)
def ret102:List RV:=[]
theorem comp102:compF Tryz.prog Tryz.f102 loops102=some (46,ret102,code102):=by kernel_rfl
def J102_4  (P:Program) (h:Heap) (w:(Option Addr)) (h_ h_2:Heap) (again1:Bool) (next_1:(Bool->Heap->Prop)) (h_10 h_13:Heap):Prop:=
 AtP w fun ad=>∃ (t3:Option Nat),cellH h_13 (Addr.add ad 11)=some (.map t3)/\∃ (t4:Int),cellsH h_13 ⟨h_10.size,0,none⟩ 0 [.int .u64 t4]/\MapLook (.flat [.int .u64]) (.agg #[.int .u64 t4]) h_13 t3 none (CallsH P 99 #[.slice none 0 0,(.func (.func 141) #[] #[(.pointer (some ⟨h.size,0,none⟩)),(.pointer (some ⟨h_.size,0,none⟩)),(.pointer (some ⟨h_2.size,0,none⟩))])] h_13 fun v2 h_14=>
 ∃ (t5:Bool),v2=(.bool t5)/\BIf t5 (∃ (t6:Option Nat),cellH h_14 ⟨h_2.size,0,none⟩=some (.map t6)/\∃ (t7:Int),cellsH h_14 ⟨h_10.size,0,none⟩ 0 [.int .u64 t7]/\MapPut (.flat [.int .u64]) (.agg #[.int .u64 t7]) (.int .i64 1) h_14 t6 fun h_15=>next_1 (true) h_15) (next_1 (again1) h_14)) fun u=>∃ (A:Option Addr) (N C:Nat),u=(.slice A N C)/\CallsH P 99 #[.slice A N C,(.func (.func 141) #[] #[(.pointer (some ⟨h.size,0,none⟩)),(.pointer (some ⟨h_.size,0,none⟩)),(.pointer (some ⟨h_2.size,0,none⟩))])] h_13 fun v3 h_16=>
 ∃ (t8:Bool),v3=(.bool t8)/\BIf t8 (∃ (t9:Option Nat),cellH h_16 ⟨h_2.size,0,none⟩=some (.map t9)/\∃ (t10:Int),cellsH h_16 ⟨h_10.size,0,none⟩ 0 [.int .u64 t10]/\MapPut (.flat [.int .u64]) (.agg #[.int .u64 t10]) (.int .i64 1) h_16 t9 fun h_17=>next_1 (true) h_17) (next_1 (again1) h_16)
def J102_3  (P:Program) (h:Heap) (w:(Option Addr)) (h_ h_2 h_6:Heap) (again1:Bool) (next_1:(Bool->Heap->Prop)) (h_10:Heap):Prop:=
 (Addr.off ⟨h_6.size,0,none⟩)=0/\MEntryS h_10 (Addr.block ⟨h_6.size,0,none⟩) fun e1=>∃ (k1:Int),e1.key=(.agg #[.int .u64 k1])/\∃ (v1:Value),e1.val=v1/\let h_11:Heap:=(h_10).push (.cells #[.int .u64 0] 76);StoreH h_11 ⟨h_10.size,0,none⟩ [.int .u64 k1] fun h_12=>∃ (t1:Option Nat),cellH h_12 ⟨h_2.size,0,none⟩=some (.map t1)/\∃ (t2:Int),cellsH h_12 ⟨h_10.size,0,none⟩ 0 [.int .u64 t2]/\MapLook (.flat [.int .u64]) (.agg #[.int .u64 t2]) h_12 t1 none (PIf ((0:Int)<0)
 (next_1 (again1) h_12)
 (J102_4 P h w h_ h_2 again1 next_1 h_10 h_12)) fun u1=>∃ (t11:Int),u1=(.int .i64 t11)/\PIf ((0:Int)<t11)
 (next_1 (again1) h_12)
 (J102_4 P h w h_ h_2 again1 next_1 h_10 h_12)
def B102_5 (P:Program) (h:Heap) (w:(Option Addr)) (h_ h_2:Heap) (next_:(Bool->Heap->Prop)) (h_6:Heap) (again1:Bool) (h_8:Heap) (next_1:Bool->Heap->Prop):Prop:=
 (Addr.off ⟨h_6.size,0,none⟩)=0/\MNextS h_8 (Addr.block ⟨h_6.size,0,none⟩) (next_ (again1) h_8) fun e h_9=>∃ (k:Value),e.key=k/\∃ (v:Value),e.val=v/\J102_3 P h w h_ h_2 h_6 again1 next_1 h_9
def J102_1  (P:Program) (h:Heap) (w:(Option Addr)) (h_ h_2:Heap) (next_:(Bool->Heap->Prop)) (h_6:Heap):Prop:=
 ∃ (t:Option Nat),cellH h_6 ⟨h.size,0,none⟩=some (.map t)/\MapRange h_6 t fun h_7=>LoopT (σ:=Bool) (fun st_ h_st nx_st=>B102_5 P h w h_ h_2 next_ h_6 (st_) h_st nx_st) (false) h_7
def J102_7  (h h_2 h_18:Heap) (next_2:(Unit->Heap->Prop)) (h_22:Heap):Prop:=
 (Addr.off ⟨h_18.size,0,none⟩)=0/\MEntryS h_22 (Addr.block ⟨h_18.size,0,none⟩) fun e3=>∃ (k3:Int),e3.key=(.agg #[.int .u64 k3])/\∃ (v5:Value),e3.val=v5/\let h_23:Heap:=(h_22).push (.cells #[.int .u64 0] 76);StoreH h_23 ⟨h_22.size,0,none⟩ [.int .u64 k3] fun h_24=>∃ (t13:Option Nat),cellH h_24 ⟨h_2.size,0,none⟩=some (.map t13)/\∃ (t14:Int),cellsH h_24 ⟨h_22.size,0,none⟩ 0 [.int .u64 t14]/\MapLook (.flat [.int .u64]) (.agg #[.int .u64 t14]) h_24 t13 none (PIf ((0:Int)=0)
 (∃ (t15:Option Nat),cellH h_24 ⟨h.size,0,none⟩=some (.map t15)/\∃ (t16:Int),cellsH h_24 ⟨h_22.size,0,none⟩ 0 [.int .u64 t16]/\MapDel (.flat [.int .u64]) (.agg #[.int .u64 t16]) h_24 t15 fun h_25=>next_2 () h_25)
 (next_2 () h_24)) fun u2=>∃ (t17:Int),u2=(.int .i64 t17)/\PIf (t17=0)
 (∃ (t18:Option Nat),cellH h_24 ⟨h.size,0,none⟩=some (.map t18)/\∃ (t19:Int),cellsH h_24 ⟨h_22.size,0,none⟩ 0 [.int .u64 t19]/\MapDel (.flat [.int .u64]) (.agg #[.int .u64 t19]) h_24 t18 fun h_26=>next_2 () h_26)
 (next_2 () h_24)
def B102_8 (R:Value->Heap->Prop) (h h_2 h_18 h_20:Heap) (next_2:Unit->Heap->Prop):Prop:=
 (Addr.off ⟨h_18.size,0,none⟩)=0/\MNextS h_20 (Addr.block ⟨h_18.size,0,none⟩) (R (.tuple #[]) h_20) fun e2 h_21=>∃ (k2:Value),e2.key=k2/\∃ (v4:Value),e2.val=v4/\J102_7 h h_2 h_18 next_2 h_21
def J102_0  (R:Value->Heap->Prop) (h h_2 h_18:Heap):Prop:=
 ∃ (t12:Option Nat),cellH h_18 ⟨h.size,0,none⟩=some (.map t12)/\MapRange h_18 t12 fun h_19=>LoopT (σ:=Unit) (fun st_ h_st nx_st=>B102_8 R h h_2 h_18  h_st nx_st) () h_19
def B102_9 (P:Program) (R:Value->Heap->Prop) (h:Heap) (w:(Option Addr)) (h_ h_2:Heap) (again:Bool) (h_5:Heap) (next_:Bool->Heap->Prop):Prop:=
 BIf again (J102_1 P h w h_ h_2 next_ h_5) (J102_0 R h h_2 h_5)
def VC102 (P:Program) (w:Option Addr) (good:Option Nat) (wanted:Value) (R:Value->Heap->Prop) (h:Heap):Prop:=
 let h_:Heap:=(h).push (.cells #[(.map good)] 73);let h_1:Heap:=(h_).push (.cells (Value.cells wanted) 159);let h_2:Heap:=(h_1).push (.map #[] 0);let h_3:Heap:=(h_2).push (.cells #[(.map none)] 73);StoreH h_3 ⟨h_2.size,0,none⟩ [(.map (some (h_1).size))] fun h_4=>LoopT (σ:=Bool) (fun st_ h_st nx_st=>B102_9 P R h w h_ h_2 (st_) h_st nx_st) (true) h_4
theorem run102 (w:Option Addr) (good:Option Nat) (wanted:Value) (R:Value->Heap->Prop) (h:Heap) (hv:VC102 Tryz.prog w good wanted R h):CallsH Tryz.prog 102 #[.pointer w,(.map good),wanted] h R:=calls_of_fnC (Checked.mixed Tryz.checked) Tryz.func102 comp102 (Nat.le_of_ble_eq_true rfl) (Eq.mp (by kernel_rfl) hv)
def loops103:List (List (Nat×Shp)):=[]
noncomputable def code103:SCode:=((compF Tryz.prog Tryz.f103 loops103).elim .skip fun x=>x.2.2)
def ret103:List RV:=[.tmp 4]
theorem comp103:compF Tryz.prog Tryz.f103 loops103=some (16,ret103,code103):=by kernel_rfl
def VC103 (P:Program) (a a1:Int) (aA:Option Addr) (aN aC:Nat) (t t1:Option Addr) (R:Value->Heap->Prop) (h:Heap):Prop:=
 let h_:Heap:=(h).push (.cells (Value.cells (.agg #[.int .i64 a,.int .u64 a1,.slice aA aN aC])) 148);AtP t fun ad=>∃ (t2:Int),cellH h_ ad=some (.int .i64 t2)/\PIf (t2<0)
 (R (.bool true) h_)
 (∃ (A:Option Addr) (N C:Nat),cellH h_ (Addr.add ⟨h.size,0,none⟩ 2)=some (.slice A N C)/\AtP t1 fun ad1=>∃ (A1:Option Addr) (N1 C1:Nat),cellH h_ ad1=some (.slice A1 N1 C1)/\AtP t fun ad2=>∃ (t3:Int),cellH h_ ad2=some (.int .i64 t3)/\0≤t3/\t3<(N1:Nat)/\AtP A1 fun ad3=>∃ (t4:Int),cellH h_ (Addr.add ad3 (Int.toNat t3*1))=some (.int .i64 t4)/\CallsH P 92 #[.slice A N C,.int .i64 t4] h_ fun v h_1=>
 ∃ (t5:Bool),v=(.bool t5)/\R (.bool t5) h_1)
theorem run103 (a a1:Int) (aA:Option Addr) (aN aC:Nat) (t t1:Option Addr) (R:Value->Heap->Prop) (h:Heap) (hv:VC103 Tryz.prog a a1 aA aN aC t t1 R h):CallsH Tryz.prog 103 #[(.agg #[.int .i64 a,.int .u64 a1,.slice aA aN aC]),.pointer t,.pointer t1] h R:=calls_of_fnC (Checked.mixed Tryz.checked) Tryz.func103 comp103 (Nat.le_of_ble_eq_true rfl) (Eq.mp (by kernel_rfl) hv)
def loops141:List (List (Nat×Shp)):=[]
noncomputable def code141:SCode:=((compF Tryz.prog Tryz.f141 loops141).elim .skip fun x=>x.2.2)
def ret141:List RV:=[.tmp 5]
theorem comp141:compF Tryz.prog Tryz.f141 loops141=some (23,ret141,code141):=by kernel_rfl
def VC141 (P:Program) (a a1:Int) (aA:Option Addr) (aN aC:Nat) (t t1 t2:Option Addr) (R:Value->Heap->Prop) (h:Heap):Prop:=
 let h_:Heap:=(h).push (.cells (Value.cells (.agg #[.int .i64 a,.int .u64 a1,.slice aA aN aC])) 148);AtP t fun ad=>∃ (t3:Option Nat),cellH h_ ad=some (.map t3)/\∃ (t4:Int),cellsH h_ (Addr.add ⟨h.size,0,none⟩ 1) 0 [.int .u64 t4]/\MapLook (.flat [.int .u64]) (.agg #[.int .u64 t4]) h_ t3 none (PIf ((0:Int)<0)
 (AtP t1 fun ad1=>∃ (t5:Value),cellH h_ ad1=some t5/\∃ (t6 t7:Int) (A:Option Addr) (N C:Nat),cellsH h_ ⟨h.size,0,none⟩ 0 [.int .i64 t6,.int .u64 t7,.slice A N C]/\CallV P t5 [(.agg #[.int .i64 t6,.int .u64 t7,.slice A N C])] h_ fun v h_1=>
 ∃ (t8:Bool),v=(.bool t8)/\BIf t8 (R (.bool true) h_1) (AtP t2 fun ad2=>∃ (t9:Option Nat),cellH h_1 ad2=some (.map t9)/\∃ (t10:Int),cellsH h_1 (Addr.add ⟨h.size,0,none⟩ 1) 0 [.int .u64 t10]/\MapLook (.flat [.int .u64]) (.agg #[.int .u64 t10]) h_1 t9 none (PIf ((0:Int)<0)
 (R (.bool true) h_1)
 (R (.bool false) h_1)) fun u=>∃ (t11:Int),u=(.int .i64 t11)/\PIf ((0:Int)<t11)
 (R (.bool true) h_1)
 (R (.bool false) h_1)))
 (R (.bool false) h_)) fun u1=>∃ (t12:Int),u1=(.int .i64 t12)/\PIf ((0:Int)<t12)
 (AtP t1 fun ad3=>∃ (t13:Value),cellH h_ ad3=some t13/\∃ (t14 t15:Int) (A1:Option Addr) (N1 C1:Nat),cellsH h_ ⟨h.size,0,none⟩ 0 [.int .i64 t14,.int .u64 t15,.slice A1 N1 C1]/\CallV P t13 [(.agg #[.int .i64 t14,.int .u64 t15,.slice A1 N1 C1])] h_ fun v1 h_2=>
 ∃ (t16:Bool),v1=(.bool t16)/\BIf t16 (R (.bool true) h_2) (AtP t2 fun ad4=>∃ (t17:Option Nat),cellH h_2 ad4=some (.map t17)/\∃ (t18:Int),cellsH h_2 (Addr.add ⟨h.size,0,none⟩ 1) 0 [.int .u64 t18]/\MapLook (.flat [.int .u64]) (.agg #[.int .u64 t18]) h_2 t17 none (PIf ((0:Int)<0)
 (R (.bool true) h_2)
 (R (.bool false) h_2)) fun u2=>∃ (t19:Int),u2=(.int .i64 t19)/\PIf ((0:Int)<t19)
 (R (.bool true) h_2)
 (R (.bool false) h_2)))
 (R (.bool false) h_)
theorem run141 (a a1:Int) (aA:Option Addr) (aN aC:Nat) (t t1 t2:Option Addr) (R:Value->Heap->Prop) (h:Heap) (hv:VC141 Tryz.prog a a1 aA aN aC t t1 t2 R h):CallsH Tryz.prog 141 #[(.agg #[.int .i64 a,.int .u64 a1,.slice aA aN aC]),.pointer t,.pointer t1,.pointer t2] h R:=calls_of_fnC (Checked.mixed Tryz.checked) Tryz.func141 comp141 (Nat.le_of_ble_eq_true rfl) (Eq.mp (by kernel_rfl) hv)
end Go.Proofs.YtdpbdjdgdmheiaaGreat
