/- Words and facts that the claim's proof leans on. No condition. -/
import Derived.Test.YtdpbdjdgdmheiaaHxV
import Derived.Test.YtdpbdjdgdmheiaaChecked
set_option maxRecDepth 100000
set_option linter.unusedVariables false
namespace Go.Proofs.Ytdpbdjdgdmheiaa
open Go.Hx
def loops14:List (List (Nat×Shp)):=[]
noncomputable def code14:SCode:=((compF Try.prog Try.f14 loops14).elim .skip fun x=>x.2.2)
def ret14:List RV:=[.tmp 0]
theorem comp14:compF Try.prog Try.f14 loops14=some (80,ret14,code14):=by kernel_rfl
def VC14 (P:Program) (R:Value->Heap->Prop) (h:Heap):Prop:=
 let h_:Heap:=(h).push (.cells #[.int .i64 2,.int .i64 3,.int .i64 0] 63);let h_1:Heap:=(h_).push (.cells #[.int .i64 2] 3);let h_2:Heap:=(h_1).push (.cells #[.int .i64 2,.int .i64 3] 3);let h_3:Heap:=(h_2).push (.cells #[.int .i64 0] 3);let h_4:Heap:=(h_3).push (.cells #[(.slice (some ⟨h_1.size,0,none⟩) 2 2),(.slice (some ⟨h_2.size,0,none⟩) 1 1)] 22);let h_5:Heap:=(h_4).push (.cells CV.zero.cs.toArray 29);StoreH h_5 ⟨h_4.size,0,none⟩ [.int .i64 1,.slice none 0 0,(.slice (some ⟨h.size,0,none⟩) 1 1),.slice none 0 0,(.slice (some ⟨h_.size,0,none⟩) 1 1),.slice none 0 0,(.slice (some ⟨h_3.size,0,none⟩) 2 2),.slice none 0 0,.slice none 0 0,.slice none 0 0,.slice none 0 0] fun h_6=>LdC h_6 ⟨h_4.size,0,none⟩ fun t=>CallsH P 15 #[t.v] h_6 fun v h_7=>
 ∃ (A10:Option Addr) (N10 C10:Nat) (t1 t2:Int),v=(.tuple #[(.agg #[.slice A10 N10 C10,.int .i64 t1]),.int .i64 t2])/\let h_8:Heap:=(h_7).push (.cells #[.slice none 0 0,.int .i64 0] 40);StoreH h_8 ⟨h_7.size,0,none⟩ [.slice A10 N10 C10,.int .i64 t1] fun h_9=>LdC h_9 ⟨h_4.size,0,none⟩ fun t3=>CallsH P 12 #[t3.v,.int .i64 0] h_9 fun v1 h_10=>
 ∃ (t4 t5:Int),v1=(.tuple #[.int .i64 t4,.int .i64 t5])/\LdC h_10 ⟨h_4.size,0,none⟩ fun t6=>CallsH P 13 #[t6.v,.int .i64 0] h_10 fun v2 h_11=>
 ∃ (t7:Bool) (t8:Int),v2=(.tuple #[.bool t7,.int .i64 t8])/\LdC h_11 ⟨h_4.size,0,none⟩ fun t9=>CallsH P 13 #[t9.v,.int .i64 1] h_11 fun v3 h_12=>
 ∃ (t10:Bool) (t11:Int),v3=(.tuple #[.bool t10,.int .i64 t11])/\PIf (t2=0)
 (∃ (t12:Int),cellH h_12 (Addr.add ⟨h_7.size,0,none⟩ 1)=some (.int .i64 t12)/\PIf (t12=1)
 (∃ (A41:Option Addr) (N41 C41:Nat),cellH h_12 (Addr.add ⟨h_7.size,0,none⟩ 0)=some (.slice A41 N41 C41)/\PIf ((((N41:Nat):Int):Int)=2)
 (∃ (A42:Option Addr) (N42 C42:Nat),cellH h_12 (Addr.add ⟨h_7.size,0,none⟩ 0)=some (.slice A42 N42 C42)/\0≤(1:Int)/\(1:Int)<(N42:Nat)/\AtP A42 fun ad=>∃ (t13:Int),cellH h_12 (Addr.add ad (Int.toNat 1*1))=some (.int .i64 t13)/\PIf (t13=1)
 (PIf (t4=1)
 (PIf (t5=0)
 (BIf t7 (PIf (t8=0)
 (BIf (!t10) (PIf (t11=0)
 (R (.bool true) h_12)
 (R (.bool false) h_12)) (R (.bool false) h_12))
 (R (.bool false) h_12)) (R (.bool false) h_12))
 (R (.bool false) h_12))
 (R (.bool false) h_12))
 (R (.bool false) h_12))
 (R (.bool false) h_12))
 (R (.bool false) h_12))
 (R (.bool false) h_12)
theorem run14 (R:Value->Heap->Prop) (h:Heap) (hv:VC14 Try.prog R h):CallsH Try.prog 14 #[] h R:=calls_of_fnC (Checked.mixed Try.checked) Try.func14 comp14 (Nat.le_of_ble_eq_true rfl) (Eq.mp (by kernel_rfl) hv)
def loops5:List (List (Nat×Shp)):=[[(71,.int .i64)],[(12,.int .i64)],[(181,.int .i64)]]
noncomputable def code5:SCode:=((compF Try.prog Try.f5 loops5).elim .skip fun x=>x.2.2)
def ret5:List RV:=[.tmp 2]
theorem comp5:compF Try.prog Try.f5 loops5=some (196,ret5,code5):=by kernel_rfl
def J5_10  (h_3 h_7:Heap) (N18:Nat) (t6 i:Int) (next_1:(Int->Heap->Prop)) (t16:Int) (h_25:Heap):Prop:=
 0≤t16/\t16<((Int.toNat ((N18:Nat):Int)):Nat)/\∃ (t19:Bool),cellH h_25 (Addr.add ⟨h_7.size,0,none⟩ (Int.toNat t16*1))=some (.bool t19)/\BIf t19 (0≤t16/\t16<((Int.toNat ((N18:Nat):Int)):Nat)/\StoreH h_25 (Addr.add ⟨h_7.size,0,none⟩ (Int.toNat t16*1)) [.bool true] fun h_28=>next_1 (IntKind.wrap .i64 (i+1)) h_28) (∃ (A58:Option Addr) (N58 C58:Nat),cellH h_25 (Addr.add ⟨h_3.size,0,none⟩ 0)=some (.slice A58 N58 C58)/\0≤t16/\t16<(N58:Nat)/\AtP A58 fun ad3=>∃ (t20:Int),cellH h_25 (Addr.add ad3 (Int.toNat t16*1))=some (.int .i64 t20)/\PIf (t20=(IntKind.wrap .i64 (t6+1)))
 (0≤t16/\t16<((Int.toNat ((N18:Nat):Int)):Nat)/\StoreH h_25 (Addr.add ⟨h_7.size,0,none⟩ (Int.toNat t16*1)) [.bool true] fun h_26=>next_1 (IntKind.wrap .i64 (i+1)) h_26)
 (0≤t16/\t16<((Int.toNat ((N18:Nat):Int)):Nat)/\StoreH h_25 (Addr.add ⟨h_7.size,0,none⟩ (Int.toNat t16*1)) [.bool false] fun h_27=>next_1 (IntKind.wrap .i64 (i+1)) h_27))
def J5_9  (R:Value->Heap->Prop) (h_3 h_7:Heap) (N18:Nat) (t6 i:Int) (next_1:(Int->Heap->Prop)) (t16:Int) (h_24:Heap):Prop:=
 ∃ (A56:Option Addr) (N56 C56:Nat),cellH h_24 (Addr.add ⟨h_3.size,0,none⟩ 0)=some (.slice A56 N56 C56)/\0≤t16/\t16<(N56:Nat)/\AtP A56 fun ad1=>∃ (t17:Int),cellH h_24 (Addr.add ad1 (Int.toNat t16*1))=some (.int .i64 t17)/\PIf (t17<0)
 (R (.bool false) h_24)
 (∃ (A57:Option Addr) (N57 C57:Nat),cellH h_24 (Addr.add ⟨h_3.size,0,none⟩ 0)=some (.slice A57 N57 C57)/\0≤t16/\t16<(N57:Nat)/\AtP A57 fun ad2=>∃ (t18:Int),cellH h_24 (Addr.add ad2 (Int.toNat t16*1))=some (.int .i64 t18)/\PIf (((IntKind.wrap .i64 (t6+1)):Int)<t18)
 (R (.bool false) h_24)
 (J5_10 h_3 h_7 N18 t6 i next_1 t16 h_24))
def J5_8  (P:Program) (R:Value->Heap->Prop) (h_3 h_7:Heap) (N18:Nat) (t6 i:Int) (next_1:(Int->Heap->Prop)) (t12:Bool) (A55:(Option Addr)) (N55 C55:Nat) (h_22:Heap):Prop:=
 CallsH P 20 #[.slice A55 N55 C55] h_22 fun v10 h_23=>
 ∃ (t16:Int),v10=(.int .i64 t16)/\BIf (!t12) (next_1 (IntKind.wrap .i64 (i+1)) h_23) (J5_9 R h_3 h_7 N18 t6 i next_1 t16 h_23)
def J5_7  (P:Program) (R:Value->Heap->Prop) (h h_3:Heap) (N12 N13:Nat) (h_7:Heap) (N18:Nat) (t5 t6 i:Int) (next_1:(Int->Heap->Prop)) (h_15:Heap):Prop:=
 (Addr.block ⟨h.size,0,none⟩)<(h_15).size/\LdC h_15 ⟨h.size,0,none⟩ fun t11=>CallsH P 17 #[.int .i64 t5,(.int .i64 ((N12:Nat):Int))] h_15 fun v4 h_16=>
 ∃ (A41:Option Addr) (N41 C41:Nat),v4=(.slice A41 N41 C41)/\AgreeH (h_15).size h_15 h_16/\CallsH P 17 #[.int .i64 i,(.int .i64 ((N13:Nat):Int))] h_16 fun v5 h_17=>
 ∃ (A42:Option Addr) (N42 C42:Nat),v5=(.slice A42 N42 C42)/\AgreeH (h_15).size h_16 h_17/\CallsH P 18 #[t11.v,.slice A41 N41 C41,.slice A42 N42 C42] h_17 fun v6 h_18=>
 ∃ (t12:Bool) (t13:Int),v6=(.tuple #[.bool t12,.int .i64 t13])/\AgreeH (h_15).size h_17 h_18/\(Addr.block ⟨h.size,0,none⟩)<(h_18).size/\LdC h_18 ⟨h.size,0,none⟩ fun t14=>CallsH P 17 #[.int .i64 t5,(.int .i64 ((N12:Nat):Int))] h_18 fun v7 h_19=>
 ∃ (A53:Option Addr) (N53 C53:Nat),v7=(.slice A53 N53 C53)/\AgreeH (h_18).size h_18 h_19/\CallsH P 17 #[.int .i64 i,(.int .i64 ((N13:Nat):Int))] h_19 fun v8 h_20=>
 ∃ (A54:Option Addr) (N54 C54:Nat),v8=(.slice A54 N54 C54)/\AgreeH (h_18).size h_19 h_20/\CallsH P 19 #[t14.v,.slice A53 N53 C53,.slice A54 N54 C54] h_20 fun v9 h_21=>
 ∃ (A55:Option Addr) (N55 C55:Nat) (t15:Int),v9=(.tuple #[.slice A55 N55 C55,.int .i64 t15])/\AgreeH (h_18).size h_20 h_21/\PIf (t13=0)
 (PIf (t15=0)
 (J5_8 P R h_3 h_7 N18 t6 i next_1 t12 A55 N55 C55 h_21)
 (R (.bool false) h_21))
 (R (.bool false) h_21)
def J5_5  (t5:Int) (next_:(Int->Heap->Prop)) (h_29:Heap):Prop:=
 next_ (IntKind.wrap .i64 (t5+1)) h_29
def B5_11 (P:Program) (R:Value->Heap->Prop) (h h_3:Heap) (N12 N13:Nat) (h_7:Heap) (N18:Nat) (t5:Int) (next_:(Int->Heap->Prop)) (t6 i:Int) (h_14:Heap) (next_1:Int->Heap->Prop):Prop:=
 0≤(((N13:Nat):Int):Int)/\PIf (i<(IntKind.wrap .i64 (1*2 ^ min (Int.toNat ((N13:Nat):Int)) (IntKind.bits .i64))))
 (PIf ((0:Int)≤t6)
 (J5_7 P R h h_3 N12 N13 h_7 N18 t5 t6 i next_1 h_14)
 (J5_5 t5 next_ h_14))
 (J5_5 t5 next_ h_14)
def J5_6  (P:Program) (R:Value->Heap->Prop) (h h_3:Heap) (N12 N13:Nat) (h_7:Heap) (N18:Nat) (t5:Int) (next_:(Int->Heap->Prop)) (t6:Int) (h_13:Heap):Prop:=
 LoopT (σ:=Int) (fun st_ h_st nx_st=>B5_11 P R h h_3 N12 N13 h_7 N18 t5 next_ t6 (st_) h_st nx_st) (0) h_13
def J5_4  (P:Program) (R:Value->Heap->Prop) (h h_3:Heap) (N12 N13:Nat) (h_7:Heap) (N18:Nat) (A19:(Option Addr)) (N19:Nat) (t5:Int) (next_:(Int->Heap->Prop)) (h_10:Heap):Prop:=
 0≤t5/\t5<(N19:Nat)/\AtP A19 fun ad=>∃ (t6:Int),cellH h_10 (Addr.add ad (Int.toNat t5*1))=some (.int .i64 t6)/\(Addr.block ⟨h.size,0,none⟩)<(h_10).size/\LdC h_10 ⟨h.size,0,none⟩ fun t7=>CallsH P 17 #[.int .i64 t5,(.int .i64 ((N12:Nat):Int))] h_10 fun v2 h_11=>
 ∃ (A30:Option Addr) (N30 C30:Nat),v2=(.slice A30 N30 C30)/\AgreeH (h_10).size h_10 h_11/\CallsH P 16 #[t7.v,.slice A30 N30 C30] h_11 fun v3 h_12=>
 ∃ (t8:Bool) (t9:Int),v3=(.tuple #[.bool t8,.int .i64 t9])/\AgreeH (h_10).size h_11 h_12/\PIf (t9=0)
 (PIf (t6=0)
 (PIf ((true:Bool)=t8)
 (∃ (t10:Int),cellH h_12 (Addr.add ⟨h_3.size,0,none⟩ 1)=some (.int .i64 t10)/\PIf (t10<t6)
 (R (.bool false) h_12)
 (PIf (t6<(-1))
 (R (.bool false) h_12)
 (J5_6 P R h h_3 N12 N13 h_7 N18 t5 next_ t6 h_12)))
 (R (.bool false) h_12))
 (PIf ((false:Bool)=t8)
 (∃ (t21:Int),cellH h_12 (Addr.add ⟨h_3.size,0,none⟩ 1)=some (.int .i64 t21)/\PIf (t21<t6)
 (R (.bool false) h_12)
 (PIf (t6<(-1))
 (R (.bool false) h_12)
 (J5_6 P R h h_3 N12 N13 h_7 N18 t5 next_ t6 h_12)))
 (R (.bool false) h_12)))
 (R (.bool false) h_12)
def J5_14  (R:Value->Heap->Prop) (h_7:Heap) (N18:Nat) (A59:(Option Addr)) (N59:Nat) (t22:Int) (next_2:(Int->Heap->Prop)) (h_32:Heap):Prop:=
 0≤t22/\t22<(N59:Nat)/\AtP A59 fun ad4=>∃ (t23:Int),cellH h_32 (Addr.add ad4 (Int.toNat t22*1))=some (.int .i64 t23)/\PIf ((0:Int)<t23)
 (0≤t22/\t22<((Int.toNat ((N18:Nat):Int)):Nat)/\∃ (t24:Bool),cellH h_32 (Addr.add ⟨h_7.size,0,none⟩ (Int.toNat t22*1))=some (.bool t24)/\BIf (!t24) (R (.bool false) h_32) (next_2 (IntKind.wrap .i64 (t22+1)) h_32))
 (next_2 (IntKind.wrap .i64 (t22+1)) h_32)
def J5_13  (R:Value->Heap->Prop) (h_33:Heap):Prop:=
 R (.bool true) h_33
def B5_16 (R:Value->Heap->Prop) (h_7:Heap) (N18:Nat) (A59:(Option Addr)) (N59:Nat) (t22:Int) (h_31:Heap) (next_2:Int->Heap->Prop):Prop:=
 PIf (t22<((N59:Nat):Int))
 (J5_14 R h_7 N18 A59 N59 t22 next_2 h_31)
 (J5_13 R h_31)
def J5_3  (R:Value->Heap->Prop) (h_3 h_7:Heap) (N18:Nat) (h_30:Heap):Prop:=
 ∃ (A59:Option Addr) (N59 C59:Nat),cellH h_30 (Addr.add ⟨h_3.size,0,none⟩ 0)=some (.slice A59 N59 C59)/\LoopT (σ:=Int) (fun st_ h_st nx_st=>B5_16 R h_7 N18 A59 N59 (st_) h_st nx_st) (0) h_30
def B5_17 (P:Program) (R:Value->Heap->Prop) (h h_3:Heap) (N12 N13:Nat) (h_7:Heap) (N18:Nat) (A19:(Option Addr)) (N19:Nat) (t5:Int) (h_9:Heap) (next_:Int->Heap->Prop):Prop:=
 PIf (t5<((N19:Nat):Int))
 (J5_4 P R h h_3 N12 N13 h_7 N18 A19 N19 t5 next_ h_9)
 (J5_3 R h_3 h_7 N18 h_9)
def J5_2  (P:Program) (R:Value->Heap->Prop) (h h_3:Heap) (N12 N13:Nat) (h_7:Heap):Prop:=
 ∃ (A18:Option Addr) (N18 C18:Nat),cellH h_7 (Addr.add ⟨h_3.size,0,none⟩ 0)=some (.slice A18 N18 C18)/\0≤(((N18:Nat):Int):Int)/\(((N18:Nat):Int):Int)≤((N18:Nat):Int)/\(1:Int)*((N18:Nat):Int)≤281474976710656/\let h_8:Heap:=(h_7).push (.cells (zeroRow #[.bool false] (Int.toNat ((N18:Nat):Int)*1)).toArray 4);∃ (A19:Option Addr) (N19 C19:Nat),cellH h_8 (Addr.add ⟨h_3.size,0,none⟩ 0)=some (.slice A19 N19 C19)/\LoopT (σ:=Int) (fun st_ h_st nx_st=>B5_17 P R h h_3 N12 N13 h_7 N18 A19 N19 (st_) h_st nx_st) (0) h_8
def J5_1  (P:Program) (R:Value->Heap->Prop) (h h_3 h_6:Heap):Prop:=
 ∃ (A12:Option Addr) (N12 C12:Nat),cellH h_6 (Addr.add ⟨h.size,0,none⟩ 2)=some (.slice A12 N12 C12)/\∃ (A13:Option Addr) (N13 C13:Nat),cellH h_6 (Addr.add ⟨h.size,0,none⟩ 1)=some (.slice A13 N13 C13)/\∃ (A14:Option Addr) (N14 C14:Nat),cellH h_6 (Addr.add ⟨h_3.size,0,none⟩ 0)=some (.slice A14 N14 C14)/\0≤(((N12:Nat):Int):Int)/\PIf ((((N14:Nat):Int):Int)=(IntKind.wrap .i64 (1*2 ^ min (Int.toNat ((N12:Nat):Int)) (IntKind.bits .i64))))
 (∃ (A16:Option Addr) (N16 C16:Nat),cellH h_6 (Addr.add ⟨h_3.size,0,none⟩ 0)=some (.slice A16 N16 C16)/\0≤(((N13:Nat):Int):Int)/\PIf ((2000:Int)<(IntKind.wrap .i64 (((N16:Nat):Int)*2 ^ min (Int.toNat ((N13:Nat):Int)) (IntKind.bits .i64))))
 (∃ (A17:Option Addr) (N17 C17:Nat),cellH h_6 (Addr.add ⟨h_3.size,0,none⟩ 0)=some (.slice A17 N17 C17)/\0≤(((N12:Nat):Int):Int)/\PIf ((((N17:Nat):Int):Int)=(IntKind.wrap .i64 (1*2 ^ min (Int.toNat ((N12:Nat):Int)) (IntKind.bits .i64))))
 (R (.bool true) h_6)
 (R (.bool false) h_6))
 (J5_2 P R h h_3 N12 N13 h_6))
 (∃ (A15:Option Addr) (N15 C15:Nat),cellH h_6 (Addr.add ⟨h_3.size,0,none⟩ 0)=some (.slice A15 N15 C15)/\0≤(((N12:Nat):Int):Int)/\PIf ((((N15:Nat):Int):Int)=(IntKind.wrap .i64 (1*2 ^ min (Int.toNat ((N12:Nat):Int)) (IntKind.bits .i64))))
 (R (.bool true) h_6)
 (R (.bool false) h_6))
def J5_0  (P:Program) (R:Value->Heap->Prop) (h h_2:Heap):Prop:=
 LdC h_2 ⟨h.size,0,none⟩ fun t1=>CallsH P 15 #[t1.v] h_2 fun v1 h_3=>
 ∃ (A10:Option Addr) (N10 C10:Nat) (t2 t3:Int),v1=(.tuple #[(.agg #[.slice A10 N10 C10,.int .i64 t2]),.int .i64 t3])/\let h_4:Heap:=(h_3).push (.cells #[.slice none 0 0,.int .i64 0] 40);StoreH h_4 ⟨h_3.size,0,none⟩ [.slice A10 N10 C10,.int .i64 t2] fun h_5=>PIf (t3=0)
 (J5_1 P R h h_3 h_5)
 (∃ (A11:Option Addr) (N11 C11:Nat),cellH h_5 (Addr.add ⟨h_3.size,0,none⟩ 0)=some (.slice A11 N11 C11)/\PIf ((((N11:Nat):Int):Int)=0)
 (∃ (t4:Int),cellH h_5 (Addr.add ⟨h_3.size,0,none⟩ 1)=some (.int .i64 t4)/\PIf (t4=0)
 (R (.bool true) h_5)
 (R (.bool false) h_5))
 (R (.bool false) h_5))
def VC5 (P:Program) (c:CV) (R:Value->Heap->Prop) (h:Heap):Prop:=
 let h_:Heap:=(h).push (.cells (Value.cells c.v) 29);CallsH P 14 #[] h_ fun v h_1=>
 ∃ (t:Bool),v=(.bool t)/\BIf (!t) (R (.bool false) h_1) (J5_0 P R h h_1)
theorem run5 (c:CV) (R:Value->Heap->Prop) (h:Heap) (hv:VC5 Try.prog c R h):CallsH Try.prog 5 #[c.v] h R:=calls_of_fnC (Checked.mixed Try.checked) Try.func5 comp5 (Nat.le_of_ble_eq_true rfl) (Eq.mp (by kernel_rfl) hv)
def loops17:List (List (Nat×Shp)):=[[(11,.int .i64)]]
noncomputable def code17:SCode:=((compF Try.prog Try.f17 loops17).elim .skip fun x=>x.2.2)
def ret17:List RV:=[.tmp 4]
theorem comp17:compF Try.prog Try.f17 loops17=some (24,ret17,code17):=by kernel_rfl
def J17_1  (h:Heap) (k n t:Int) (next_:(Int->Heap->Prop)) (h_2:Heap):Prop:=
 0≤t/\PIf (((bop .and .i64 (k / 2 ^ min (Int.toNat t) (IntKind.bits .i64)) 1):Int)=1)
 (0≤t/\t<((Int.toNat n):Nat)/\StoreH h_2 (Addr.add ⟨h.size,0,none⟩ (Int.toNat t*1)) [.bool true] fun h_3=>next_ (IntKind.wrap .i64 (t+1)) h_3)
 (0≤t/\t<((Int.toNat n):Nat)/\StoreH h_2 (Addr.add ⟨h.size,0,none⟩ (Int.toNat t*1)) [.bool false] fun h_4=>next_ (IntKind.wrap .i64 (t+1)) h_4)
def J17_0  (R:Value->Heap->Prop) (h:Heap) (n:Int) (h_5:Heap):Prop:=
 R (.slice (some ⟨h.size,0,none⟩) (Int.toNat n) (Int.toNat n)) h_5
def B17_3 (R:Value->Heap->Prop) (h:Heap) (k n t:Int) (h_1:Heap) (next_:Int->Heap->Prop):Prop:=
 PIf (t<(((Int.toNat n):Nat):Int))
 (J17_1 h k n t next_ h_1)
 (J17_0 R h n h_1)
def VC17 (P:Program) (k n:Int) (R:Value->Heap->Prop) (h:Heap):Prop:=
 0≤n/\n≤n/\(1:Int)*n≤281474976710656/\let h_:Heap:=(h).push (.cells (zeroRow #[.bool false] (Int.toNat n*1)).toArray 4);LoopT (σ:=Int) (fun st_ h_st nx_st=>B17_3 R h k n (st_) h_st nx_st) (0) h_
theorem run17 (k n:Int) (R:Value->Heap->Prop) (h:Heap) (hv:VC17 Try.prog k n R h):CallsH Try.prog 17 #[.int .i64 k,.int .i64 n] h R:=calls_of_fnC (Checked.mixed Try.checked) Try.func17 comp17 (Nat.le_of_ble_eq_true rfl) (Eq.mp (by kernel_rfl) hv)
def loops20:List (List (Nat×Shp)):=[[(3,.int .i64),(7,.int .i64)]]
noncomputable def code20:SCode:=((compF Try.prog Try.f20 loops20).elim .skip fun x=>x.2.2)
def ret20:List RV:=[.tmp 2]
theorem comp20:compF Try.prog Try.f20 loops20=some (20,ret20,code20):=by kernel_rfl
def J20_1  (lA:(Option Addr)) (lN:Nat) (k t:Int) (next_:(Int×Int->Heap->Prop)) (h_1:Heap):Prop:=
 0≤t/\t<(lN:Nat)/\AtP lA fun ad=>∃ (t1:Bool),cellH h_1 (Addr.add ad (Int.toNat t*1))=some (.bool t1)/\BIf t1 (0≤t/\next_ ((IntKind.wrap .i64 (k+(IntKind.wrap .i64 (1*2 ^ min (Int.toNat t) (IntKind.bits .i64))))),(IntKind.wrap .i64 (t+1))) h_1) (next_ (k,(IntKind.wrap .i64 (t+1))) h_1)
def J20_0  (R:Value->Heap->Prop) (k1:Int) (h_2:Heap):Prop:=
 R (.int .i64 k1) h_2
def B20_3 (R:Value->Heap->Prop) (lA:(Option Addr)) (lN:Nat) (k t:Int) (h_:Heap) (next_:Int×Int->Heap->Prop):Prop:=
 PIf (t<((lN:Nat):Int))
 (J20_1 lA lN k t next_ h_)
 (J20_0 R (k) h_)
def VC20 (P:Program) (lA:Option Addr) (lN lC:Nat) (R:Value->Heap->Prop) (h:Heap):Prop:=
 LoopT (σ:=Int×Int) (fun st_ h_st nx_st=>B20_3 R lA lN (st_.1) (st_.2) h_st nx_st) (0,0) h
theorem run20 (lA:Option Addr) (lN lC:Nat) (R:Value->Heap->Prop) (h:Heap) (hv:VC20 Try.prog lA lN lC R h):CallsH Try.prog 20 #[.slice lA lN lC] h R:=calls_of_fnC (Checked.mixed Try.checked) Try.func20 comp20 (Nat.le_of_ble_eq_true rfl) (Eq.mp (by kernel_rfl) hv)
end Go.Proofs.Ytdpbdjdgdmheiaa
