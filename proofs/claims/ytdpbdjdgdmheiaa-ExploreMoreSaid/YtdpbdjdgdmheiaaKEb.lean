/- Words and facts that the claim's proof leans on. No condition. -/
import Derived.Test.YtdpbdjdgdmheiaaHxV
import Derived.Test.YtdpbdjdgdmheiaaChecked
set_option maxRecDepth 100000
set_option linter.unusedVariables false
namespace Go.Proofs.Ytdpbdjdgdmheiaa
open Go.Hx
def loops14:List (List (Nat×Shp)):=[]
noncomputable def code14:SCode:=((compF Try.prog Try.f14 loops14).elim .skip fun x=>x.2.2)
def ret14:List RV:=[.tmp 0]
theorem comp14:compF Try.prog Try.f14 loops14=some (80,ret14,code14):=by kernel_rfl
def VC14 (P:Program) (R:Value->Heap->Prop) (h:Heap):Prop:=
 let h_:Heap:=(h).push (.cells #[.int .i64 2,.int .i64 3,.int .i64 0] 63);let h_1:Heap:=(h_).push (.cells #[.int .i64 2] 3);let h_2:Heap:=(h_1).push (.cells #[.int .i64 2,.int .i64 3] 3);let h_3:Heap:=(h_2).push (.cells #[.int .i64 0] 3);let h_4:Heap:=(h_3).push (.cells #[(.slice (some ⟨h_1.size,0,none⟩) 2 2),(.slice (some ⟨h_2.size,0,none⟩) 1 1)] 22);let h_5:Heap:=(h_4).push (.cells CV.zero.cs.toArray 29);StoreH h_5 ⟨h_4.size,0,none⟩ [.int .i64 1,.slice none 0 0,(.slice (some ⟨h.size,0,none⟩) 1 1),.slice none 0 0,(.slice (some ⟨h_.size,0,none⟩) 1 1),.slice none 0 0,(.slice (some ⟨h_3.size,0,none⟩) 2 2),.slice none 0 0,.slice none 0 0,.slice none 0 0,.slice none 0 0] fun h_6=>LdC h_6 ⟨h_4.size,0,none⟩ fun t=>CallsH P 15 #[t.v] h_6 fun v h_7=>
 ∃ (A10:Option Addr) (N10 C10:Nat) (t1 t2:Int),v=(.tuple #[(.agg #[.slice A10 N10 C10,.int .i64 t1]),.int .i64 t2])/\let h_8:Heap:=(h_7).push (.cells #[.slice none 0 0,.int .i64 0] 40);StoreH h_8 ⟨h_7.size,0,none⟩ [.slice A10 N10 C10,.int .i64 t1] fun h_9=>LdC h_9 ⟨h_4.size,0,none⟩ fun t3=>CallsH P 12 #[t3.v,.int .i64 0] h_9 fun v1 h_10=>
 ∃ (t4 t5:Int),v1=(.tuple #[.int .i64 t4,.int .i64 t5])/\LdC h_10 ⟨h_4.size,0,none⟩ fun t6=>CallsH P 13 #[t6.v,.int .i64 0] h_10 fun v2 h_11=>
 ∃ (t7:Bool) (t8:Int),v2=(.tuple #[.bool t7,.int .i64 t8])/\LdC h_11 ⟨h_4.size,0,none⟩ fun t9=>CallsH P 13 #[t9.v,.int .i64 1] h_11 fun v3 h_12=>
 ∃ (t10:Bool) (t11:Int),v3=(.tuple #[.bool t10,.int .i64 t11])/\PIf (t2=0)
 (∃ (t12:Int),cellH h_12 (Addr.add ⟨h_7.size,0,none⟩ 1)=some (.int .i64 t12)/\PIf (t12=1)
 (∃ (A41:Option Addr) (N41 C41:Nat),cellH h_12 (Addr.add ⟨h_7.size,0,none⟩ 0)=some (.slice A41 N41 C41)/\PIf ((((N41:Nat):Int):Int)=2)
 (∃ (A42:Option Addr) (N42 C42:Nat),cellH h_12 (Addr.add ⟨h_7.size,0,none⟩ 0)=some (.slice A42 N42 C42)/\0≤(1:Int)/\(1:Int)<(N42:Nat)/\AtP A42 fun ad=>∃ (t13:Int),cellH h_12 (Addr.add ad (Int.toNat 1*1))=some (.int .i64 t13)/\PIf (t13=1)
 (PIf (t4=1)
 (PIf (t5=0)
 (BIf t7 (PIf (t8=0)
 (BIf (!t10) (PIf (t11=0)
 (R (.bool true) h_12)
 (R (.bool false) h_12)) (R (.bool false) h_12))
 (R (.bool false) h_12)) (R (.bool false) h_12))
 (R (.bool false) h_12))
 (R (.bool false) h_12))
 (R (.bool false) h_12))
 (R (.bool false) h_12))
 (R (.bool false) h_12))
 (R (.bool false) h_12)
theorem run14 (R:Value->Heap->Prop) (h:Heap) (hv:VC14 Try.prog R h):CallsH Try.prog 14 #[] h R:=calls_of_fnC (Checked.mixed Try.checked) Try.func14 comp14 (Nat.le_of_ble_eq_true rfl) (Eq.mp (by kernel_rfl) hv)
def loops4:List (List (Nat×Shp)):=[[(69,.int .i64)],[(103,.int .i64)]]
noncomputable def code4:SCode:=((compF Try.prog Try.f4 loops4).elim .skip fun x=>x.2.2)
def ret4:List RV:=[.tmp 4]
theorem comp4:compF Try.prog Try.f4 loops4=some (138,ret4,code4):=by kernel_rfl
def J4_5  (R:Value->Heap->Prop) (h_3 h_14:Heap) (t8:Int) (next_:(Int->Heap->Prop)) (h_20:Heap):Prop:=
 ∃ (A40:Option Addr) (N40 C40:Nat),cellH h_20 (Addr.add ⟨h_14.size,0,none⟩ 0)=some (.slice A40 N40 C40)/\0≤t8/\t8<(N40:Nat)/\AtP A40 fun ad=>∃ (t9:Int),cellH h_20 (Addr.add ad (Int.toNat t8*1))=some (.int .i64 t9)/\PIf ((0:Int)≤t9)
 (∃ (A41:Option Addr) (N41 C41:Nat),cellH h_20 (Addr.add ⟨h_3.size,0,none⟩ 0)=some (.slice A41 N41 C41)/\0≤t8/\t8<(N41:Nat)/\AtP A41 fun ad1=>∃ (t10:Int),cellH h_20 (Addr.add ad1 (Int.toNat t8*1))=some (.int .i64 t10)/\PIf (t10<0)
 (R (.bool false) h_20)
 (∃ (A42:Option Addr) (N42 C42:Nat),cellH h_20 (Addr.add ⟨h_3.size,0,none⟩ 0)=some (.slice A42 N42 C42)/\0≤t8/\t8<(N42:Nat)/\AtP A42 fun ad2=>∃ (t11:Int),cellH h_20 (Addr.add ad2 (Int.toNat t8*1))=some (.int .i64 t11)/\∃ (A43:Option Addr) (N43 C43:Nat),cellH h_20 (Addr.add ⟨h_14.size,0,none⟩ 0)=some (.slice A43 N43 C43)/\0≤t8/\t8<(N43:Nat)/\AtP A43 fun ad3=>∃ (t12:Int),cellH h_20 (Addr.add ad3 (Int.toNat t8*1))=some (.int .i64 t12)/\PIf (t12<t11)
 (R (.bool false) h_20)
 (next_ (IntKind.wrap .i64 (t8+1)) h_20)))
 (next_ (IntKind.wrap .i64 (t8+1)) h_20)
def J4_8  (P:Program) (R:Value->Heap->Prop) (h h_6:Heap) (t13:Int) (next_1:(Int->Heap->Prop)) (h_23:Heap):Prop:=
 LdC h_23 ⟨h.size,0,none⟩ fun t14=>CallsH P 12 #[t14.v,.int .i64 t13] h_23 fun v3 h_24=>
 ∃ (t15 t16:Int),v3=(.tuple #[.int .i64 t15,.int .i64 t16])/\LdC h_24 ⟨h_6.size,0,none⟩ fun t17=>CallsH P 12 #[t17.v,.int .i64 t13] h_24 fun v4 h_25=>
 ∃ (t18 t19:Int),v4=(.tuple #[.int .i64 t18,.int .i64 t19])/\PIf (t16=0)
 (PIf (t19=0)
 (PIf ((0:Int)≤t18)
 (PIf (t15<0)
 (R (.bool false) h_25)
 (PIf (t18<t15)
 (R (.bool false) h_25)
 (next_1 (IntKind.wrap .i64 (t13+1)) h_25)))
 (next_1 (IntKind.wrap .i64 (t13+1)) h_25))
 (R (.bool false) h_25))
 (R (.bool false) h_25)
def J4_7  (R:Value->Heap->Prop) (h_26:Heap):Prop:=
 R (.bool true) h_26
def B4_10 (P:Program) (R:Value->Heap->Prop) (h h_6:Heap) (N44:Nat) (t13:Int) (h_22:Heap) (next_1:Int->Heap->Prop):Prop:=
 PIf (t13<((N44:Nat):Int))
 (J4_8 P R h h_6 t13 next_1 h_22)
 (J4_7 R h_22)
def J4_4  (P:Program) (R:Value->Heap->Prop) (h h_6 h_21:Heap):Prop:=
 ∃ (A44:Option Addr) (N44 C44:Nat),cellH h_21 (Addr.add ⟨h.size,0,none⟩ 4)=some (.slice A44 N44 C44)/\LoopT (σ:=Int) (fun st_ h_st nx_st=>B4_10 P R h h_6 N44 (st_) h_st nx_st) (0) h_21
def B4_11 (P:Program) (R:Value->Heap->Prop) (h h_3 h_6 h_14:Heap) (N39:Nat) (t8:Int) (h_19:Heap) (next_:Int->Heap->Prop):Prop:=
 PIf (t8<((N39:Nat):Int))
 (J4_5 R h_3 h_14 t8 next_ h_19)
 (J4_4 P R h h_6 h_19)
def J4_3  (P:Program) (R:Value->Heap->Prop) (h h_3 h_6 h_14 h_18:Heap):Prop:=
 ∃ (A39:Option Addr) (N39 C39:Nat),cellH h_18 (Addr.add ⟨h_3.size,0,none⟩ 0)=some (.slice A39 N39 C39)/\LoopT (σ:=Int) (fun st_ h_st nx_st=>B4_11 P R h h_3 h_6 h_14 N39 (st_) h_st nx_st) (0) h_18
def J4_2  (P:Program) (R:Value->Heap->Prop) (h h_3 h_6 h_14 h_17:Heap):Prop:=
 ∃ (A37:Option Addr) (N37 C37:Nat),cellH h_17 (Addr.add ⟨h_3.size,0,none⟩ 0)=some (.slice A37 N37 C37)/\∃ (A38:Option Addr) (N38 C38:Nat),cellH h_17 (Addr.add ⟨h_14.size,0,none⟩ 0)=some (.slice A38 N38 C38)/\PIf ((((N37:Nat):Int):Int)=((N38:Nat):Int))
 (J4_3 P R h h_3 h_6 h_14 h_17)
 (R (.bool false) h_17)
def J4_1  (P:Program) (R:Value->Heap->Prop) (h:Heap) (l:Int) (h_3 h_6:Heap):Prop:=
 LdC h_6 ⟨h.size,0,none⟩ fun t4=>let h_7:Heap:=(h_6).push (.cells CV.zero.cs.toArray 29);StoreH h_7 ⟨h_6.size,0,none⟩ t4.cs fun h_8=>let h_9:Heap:=(h_8).push (.cells #[] 3);∃ (A24:Option Addr) (N24 C24:Nat),cellH h_9 (Addr.add ⟨h.size,0,none⟩ 5)=some (.slice A24 N24 C24)/\∃ ys:List Value,ReadL h_9 A24 ys/\ys.length=N24*1/\AppS h_9 (some ⟨h_8.size,0,none⟩) 0 0 3 8 1 #[.int .i64 0] ys N24 fun apA apN apC h_10=>let h_11:Heap:=(h_10).push (.cells #[.int .i64 l] 3);∃ ys1:List Value,ReadL h_11 (some ⟨h_10.size,0,none⟩) ys1/\ys1.length=1*1/\AppS h_11 apA apN apC 3 8 1 #[.int .i64 0] ys1 1 fun apA1 apN1 apC1 h_12=>StoreH h_12 (Addr.add ⟨h_6.size,0,none⟩ 5) [.slice apA1 apN1 apC1] fun h_13=>LdC h_13 ⟨h_6.size,0,none⟩ fun t5=>CallsH P 15 #[t5.v] h_13 fun v2 h_14=>
 ∃ (A35:Option Addr) (N35 C35:Nat) (t6 t7:Int),v2=(.tuple #[(.agg #[.slice A35 N35 C35,.int .i64 t6]),.int .i64 t7])/\let h_15:Heap:=(h_14).push (.cells #[.slice none 0 0,.int .i64 0] 40);StoreH h_15 ⟨h_14.size,0,none⟩ [.slice A35 N35 C35,.int .i64 t6] fun h_16=>PIf (t7=0)
 (J4_2 P R h h_3 h_6 h_14 h_16)
 (∃ (A36:Option Addr) (N36 C36:Nat),cellH h_16 (Addr.add ⟨h_14.size,0,none⟩ 0)=some (.slice A36 N36 C36)/\PIf ((((N36:Nat):Int):Int)=0)
 (R (.bool true) h_16)
 (R (.bool false) h_16))
def J4_0  (P:Program) (R:Value->Heap->Prop) (h:Heap) (l:Int) (h_2:Heap):Prop:=
 LdC h_2 ⟨h.size,0,none⟩ fun t1=>CallsH P 15 #[t1.v] h_2 fun v1 h_3=>
 ∃ (A10:Option Addr) (N10 C10:Nat) (t2 t3:Int),v1=(.tuple #[(.agg #[.slice A10 N10 C10,.int .i64 t2]),.int .i64 t3])/\let h_4:Heap:=(h_3).push (.cells #[.slice none 0 0,.int .i64 0] 40);StoreH h_4 ⟨h_3.size,0,none⟩ [.slice A10 N10 C10,.int .i64 t2] fun h_5=>PIf (t3=0)
 (∃ (A12:Option Addr) (N12 C12:Nat),cellH h_5 (Addr.add ⟨h.size,0,none⟩ 5)=some (.slice A12 N12 C12)/\PIf ((1000:Int)<((N12:Nat):Int))
 (PIf (t3=0)
 (R (.bool true) h_5)
 (∃ (A13:Option Addr) (N13 C13:Nat),cellH h_5 (Addr.add ⟨h_3.size,0,none⟩ 0)=some (.slice A13 N13 C13)/\PIf ((((N13:Nat):Int):Int)=0)
 (R (.bool true) h_5)
 (R (.bool false) h_5)))
 (J4_1 P R h l h_3 h_5))
 (PIf (t3=0)
 (R (.bool true) h_5)
 (∃ (A11:Option Addr) (N11 C11:Nat),cellH h_5 (Addr.add ⟨h_3.size,0,none⟩ 0)=some (.slice A11 N11 C11)/\PIf ((((N11:Nat):Int):Int)=0)
 (R (.bool true) h_5)
 (R (.bool false) h_5)))
def VC4 (P:Program) (c:CV) (l:Int) (R:Value->Heap->Prop) (h:Heap):Prop:=
 let h_:Heap:=(h).push (.cells (Value.cells c.v) 29);CallsH P 14 #[] h_ fun v h_1=>
 ∃ (t:Bool),v=(.bool t)/\BIf (!t) (R (.bool false) h_1) (J4_0 P R h l h_1)
theorem run4 (c:CV) (l:Int) (R:Value->Heap->Prop) (h:Heap) (hv:VC4 Try.prog c l R h):CallsH Try.prog 4 #[c.v,.int .i64 l] h R:=calls_of_fnC (Checked.mixed Try.checked) Try.func4 comp4 (Nat.le_of_ble_eq_true rfl) (Eq.mp (by kernel_rfl) hv)
end Go.Proofs.Ytdpbdjdgdmheiaa
