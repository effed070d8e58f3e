/- Words and facts that the claim's proof leans on. No condition. -/
import Derived.Test.YtdpbdjdgdmheiaaHxV
import Derived.Test.YtdpbdjdgdmheiaaChecked
set_option maxRecDepth 100000
set_option linter.unusedVariables false
namespace Go.Proofs.Ytdpbdjdgdmheiaa
open Go.Hx
def loops55:List (List (Nat×Shp)):=[[(50,.int .i64)]]
noncomputable def code55:SCode:=((compF Try.prog Try.f55 loops55).elim .skip fun x=>x.2.2)
def ret55:List RV:=[.cellN 2 [.int .i64,.slice,.slice,.slice,.slice,.slice,.slice,.slice,.slice,.slice,.slice]]
theorem comp55:compF Try.prog Try.f55 loops55=some (63,ret55,code55):=by kernel_rfl
def J55_1  (P:Program) (h_1:Heap) (A30:(Option Addr)) (N30:Nat) (t1:Int) (next_:(Int->Heap->Prop)) (h_25:Heap):Prop:=
 0≤t1/\t1<(N30:Nat)/\AtP A30 fun ad=>∃ (A31:Option Addr) (N31 C31:Nat),cellH h_25 (Addr.add ad (Int.toNat t1*1))=some (.slice A31 N31 C31)/\(Addr.block (Addr.add ⟨h_1.size,0,none⟩ 6))<(h_25).size/\∃ (A32:Option Addr) (N32 C32:Nat),cellH h_25 (Addr.add ⟨h_1.size,0,none⟩ 6)=some (.slice A32 N32 C32)/\CallsH P 85 #[.slice A31 N31 C31] h_25 fun v10 h_26=>
 ∃ (A33:Option Addr) (N33 C33:Nat),v10=(.slice A33 N33 C33)/\AgreeH (h_25).size h_25 h_26/\0≤t1/\t1<(N32:Nat)/\AtP A32 fun ad1=>StoreH h_26 (Addr.add ad1 (Int.toNat t1*1)) [.slice A33 N33 C33] fun h_27=>next_ (IntKind.wrap .i64 (t1+1)) h_27
def J55_0  (R:Value->Heap->Prop) (h_ h_1 h_28:Heap):Prop:=
 LdC h_28 ⟨h_1.size,0,none⟩ fun t2=>StoreH h_28 ⟨h_.size,0,none⟩ t2.cs fun h_29=>LdC h_29 ⟨h_.size,0,none⟩ fun t3=>R t3.v h_29
def B55_3 (P:Program) (R:Value->Heap->Prop) (h_ h_1:Heap) (A30:(Option Addr)) (N30:Nat) (t1:Int) (h_24:Heap) (next_:Int->Heap->Prop):Prop:=
 PIf (t1<((N30:Nat):Int))
 (J55_1 P h_1 A30 N30 t1 next_ h_24)
 (J55_0 R h_ h_1 h_24)
def VC55 (P:Program) (c:CV) (R:Value->Heap->Prop) (h:Heap):Prop:=
 let h_:Heap:=(h).push (.cells (Value.cells c.v) 29);let h_1:Heap:=(h_).push (.cells CV.zero.cs.toArray 29);LdC h_1 ⟨h.size,0,none⟩ fun t=>let h_2:Heap:=(h_1).push (.cells CV.zero.cs.toArray 29);StoreH h_2 ⟨h_1.size,0,none⟩ t.cs fun h_3=>(Addr.block (Addr.add ⟨h.size,0,none⟩ 1))<(h_3).size/\∃ (A10:Option Addr) (N10 C10:Nat),cellH h_3 (Addr.add ⟨h.size,0,none⟩ 1)=some (.slice A10 N10 C10)/\CallsH P 85 #[.slice A10 N10 C10] h_3 fun v h_4=>
 ∃ (A11:Option Addr) (N11 C11:Nat),v=(.slice A11 N11 C11)/\AgreeH (h_3).size h_3 h_4/\(Addr.block (Addr.add ⟨h.size,0,none⟩ 2))<(h_3).size/\∃ (A12:Option Addr) (N12 C12:Nat),cellH h_4 (Addr.add ⟨h.size,0,none⟩ 2)=some (.slice A12 N12 C12)/\CallsH P 86 #[.slice A12 N12 C12] h_4 fun v1 h_5=>
 ∃ (A13:Option Addr) (N13 C13:Nat),v1=(.slice A13 N13 C13)/\AgreeH (h_3).size h_4 h_5/\(Addr.block (Addr.add ⟨h.size,0,none⟩ 3))<(h_3).size/\∃ (A14:Option Addr) (N14 C14:Nat),cellH h_5 (Addr.add ⟨h.size,0,none⟩ 3)=some (.slice A14 N14 C14)/\CallsH P 85 #[.slice A14 N14 C14] h_5 fun v2 h_6=>
 ∃ (A15:Option Addr) (N15 C15:Nat),v2=(.slice A15 N15 C15)/\AgreeH (h_3).size h_5 h_6/\(Addr.block (Addr.add ⟨h.size,0,none⟩ 4))<(h_3).size/\∃ (A16:Option Addr) (N16 C16:Nat),cellH h_6 (Addr.add ⟨h.size,0,none⟩ 4)=some (.slice A16 N16 C16)/\CallsH P 85 #[.slice A16 N16 C16] h_6 fun v3 h_7=>
 ∃ (A17:Option Addr) (N17 C17:Nat),v3=(.slice A17 N17 C17)/\AgreeH (h_3).size h_6 h_7/\StoreH h_7 (Addr.add ⟨h_1.size,0,none⟩ 1) [.slice A11 N11 C11] fun h_8=>StoreH h_8 (Addr.add ⟨h_1.size,0,none⟩ 2) [.slice A13 N13 C13] fun h_9=>StoreH h_9 (Addr.add ⟨h_1.size,0,none⟩ 3) [.slice A15 N15 C15] fun h_10=>StoreH h_10 (Addr.add ⟨h_1.size,0,none⟩ 4) [.slice A17 N17 C17] fun h_11=>(Addr.block (Addr.add ⟨h.size,0,none⟩ 5))<(h_11).size/\∃ (A18:Option Addr) (N18 C18:Nat),cellH h_11 (Addr.add ⟨h.size,0,none⟩ 5)=some (.slice A18 N18 C18)/\CallsH P 85 #[.slice A18 N18 C18] h_11 fun v4 h_12=>
 ∃ (A19:Option Addr) (N19 C19:Nat),v4=(.slice A19 N19 C19)/\AgreeH (h_11).size h_11 h_12/\(Addr.block (Addr.add ⟨h.size,0,none⟩ 7))<(h_11).size/\∃ (A20:Option Addr) (N20 C20:Nat),cellH h_12 (Addr.add ⟨h.size,0,none⟩ 7)=some (.slice A20 N20 C20)/\CallsH P 85 #[.slice A20 N20 C20] h_12 fun v5 h_13=>
 ∃ (A21:Option Addr) (N21 C21:Nat),v5=(.slice A21 N21 C21)/\AgreeH (h_11).size h_12 h_13/\(Addr.block (Addr.add ⟨h.size,0,none⟩ 8))<(h_11).size/\∃ (A22:Option Addr) (N22 C22:Nat),cellH h_13 (Addr.add ⟨h.size,0,none⟩ 8)=some (.slice A22 N22 C22)/\CallsH P 87 #[.slice A22 N22 C22] h_13 fun v6 h_14=>
 ∃ (A23:Option Addr) (N23 C23:Nat),v6=(.slice A23 N23 C23)/\AgreeH (h_11).size h_13 h_14/\StoreH h_14 (Addr.add ⟨h_1.size,0,none⟩ 5) [.slice A19 N19 C19] fun h_15=>StoreH h_15 (Addr.add ⟨h_1.size,0,none⟩ 7) [.slice A21 N21 C21] fun h_16=>StoreH h_16 (Addr.add ⟨h_1.size,0,none⟩ 8) [.slice A23 N23 C23] fun h_17=>(Addr.block (Addr.add ⟨h.size,0,none⟩ 9))<(h_17).size/\∃ (A24:Option Addr) (N24 C24:Nat),cellH h_17 (Addr.add ⟨h.size,0,none⟩ 9)=some (.slice A24 N24 C24)/\CallsH P 88 #[.slice A24 N24 C24] h_17 fun v7 h_18=>
 ∃ (A25:Option Addr) (N25 C25:Nat),v7=(.slice A25 N25 C25)/\AgreeH (h_17).size h_17 h_18/\(Addr.block (Addr.add ⟨h.size,0,none⟩ 10))<(h_17).size/\∃ (A26:Option Addr) (N26 C26:Nat),cellH h_18 (Addr.add ⟨h.size,0,none⟩ 10)=some (.slice A26 N26 C26)/\CallsH P 89 #[.slice A26 N26 C26] h_18 fun v8 h_19=>
 ∃ (A27:Option Addr) (N27 C27:Nat),v8=(.slice A27 N27 C27)/\AgreeH (h_17).size h_18 h_19/\(Addr.block (Addr.add ⟨h.size,0,none⟩ 6))<(h_17).size/\∃ (A28:Option Addr) (N28 C28:Nat),cellH h_19 (Addr.add ⟨h.size,0,none⟩ 6)=some (.slice A28 N28 C28)/\CallsH P 90 #[.slice A28 N28 C28] h_19 fun v9 h_20=>
 ∃ (A29:Option Addr) (N29 C29:Nat),v9=(.slice A29 N29 C29)/\AgreeH (h_17).size h_19 h_20/\StoreH h_20 (Addr.add ⟨h_1.size,0,none⟩ 9) [.slice A25 N25 C25] fun h_21=>StoreH h_21 (Addr.add ⟨h_1.size,0,none⟩ 10) [.slice A27 N27 C27] fun h_22=>StoreH h_22 (Addr.add ⟨h_1.size,0,none⟩ 6) [.slice A29 N29 C29] fun h_23=>∃ (A30:Option Addr) (N30 C30:Nat),cellH h_23 (Addr.add ⟨h.size,0,none⟩ 6)=some (.slice A30 N30 C30)/\LoopT (σ:=Int) (fun st_ h_st nx_st=>B55_3 P R h_ h_1 A30 N30 (st_) h_st nx_st) (0) h_23
theorem run55 (c:CV) (R:Value->Heap->Prop) (h:Heap) (hv:VC55 Try.prog c R h):CallsH Try.prog 55 #[c.v] h R:=calls_of_fnC (Checked.mixed Try.checked) Try.func55 comp55 (Nat.le_of_ble_eq_true rfl) (Eq.mp (by kernel_rfl) hv)
def loops85:List (List (Nat×Shp)):=[]
noncomputable def code85:SCode:=((compF Try.prog Try.f85 loops85).elim .skip fun x=>x.2.2)
def ret85:List RV:=[.tmp 2]
theorem comp85:compF Try.prog Try.f85 loops85=some (8,ret85,code85):=by kernel_rfl
def VC85 (P:Program) (sA:Option Addr) (sN sC:Nat) (R:Value->Heap->Prop) (h:Heap):Prop:=
 PIf ((sA:Option Addr)=none)
 (R (.slice none 0 0) h)
 (let h_:Heap:=(h).push (.cells #[] 3);∃ ys:List Value,ReadL h_ sA ys/\ys.length=sN*1/\AppS h_ (some ⟨h.size,0,none⟩) 0 0 3 8 1 #[.int .i64 0] ys sN fun apA apN apC h_1=>R (.slice apA apN apC) h_1)
theorem run85 (sA:Option Addr) (sN sC:Nat) (R:Value->Heap->Prop) (h:Heap) (hv:VC85 Try.prog sA sN sC R h):CallsH Try.prog 85 #[.slice sA sN sC] h R:=calls_of_fnC (Checked.mixed Try.checked) Try.func85 comp85 (Nat.le_of_ble_eq_true rfl) (Eq.mp (by kernel_rfl) hv)
def loops86:List (List (Nat×Shp)):=[]
noncomputable def code86:SCode:=((compF Try.prog Try.f86 loops86).elim .skip fun x=>x.2.2)
def ret86:List RV:=[.tmp 2]
theorem comp86:compF Try.prog Try.f86 loops86=some (8,ret86,code86):=by kernel_rfl
def VC86 (P:Program) (sA:Option Addr) (sN sC:Nat) (R:Value->Heap->Prop) (h:Heap):Prop:=
 PIf ((sA:Option Addr)=none)
 (R (.slice none 0 0) h)
 (let h_:Heap:=(h).push (.cells #[] 63);∃ ys:List Value,ReadL h_ sA ys/\ys.length=sN*3/\AppS h_ (some ⟨h.size,0,none⟩) 0 0 63 24 3 #[.int .i64 0,.int .i64 0,.int .i64 0] ys sN fun apA apN apC h_1=>R (.slice apA apN apC) h_1)
theorem run86 (sA:Option Addr) (sN sC:Nat) (R:Value->Heap->Prop) (h:Heap) (hv:VC86 Try.prog sA sN sC R h):CallsH Try.prog 86 #[.slice sA sN sC] h R:=calls_of_fnC (Checked.mixed Try.checked) Try.func86 comp86 (Nat.le_of_ble_eq_true rfl) (Eq.mp (by kernel_rfl) hv)
def loops87:List (List (Nat×Shp)):=[]
noncomputable def code87:SCode:=((compF Try.prog Try.f87 loops87).elim .skip fun x=>x.2.2)
def ret87:List RV:=[.tmp 2]
theorem comp87:compF Try.prog Try.f87 loops87=some (8,ret87,code87):=by kernel_rfl
def VC87 (P:Program) (sA:Option Addr) (sN sC:Nat) (R:Value->Heap->Prop) (h:Heap):Prop:=
 PIf ((sA:Option Addr)=none)
 (R (.slice none 0 0) h)
 (let h_:Heap:=(h).push (.cells #[] 120);∃ ys:List Value,ReadL h_ sA ys/\ys.length=sN*3/\AppS h_ (some ⟨h.size,0,none⟩) 0 0 120 24 3 #[.int .i64 0,.int .i64 0,.int .i64 0] ys sN fun apA apN apC h_1=>R (.slice apA apN apC) h_1)
theorem run87 (sA:Option Addr) (sN sC:Nat) (R:Value->Heap->Prop) (h:Heap) (hv:VC87 Try.prog sA sN sC R h):CallsH Try.prog 87 #[.slice sA sN sC] h R:=calls_of_fnC (Checked.mixed Try.checked) Try.func87 comp87 (Nat.le_of_ble_eq_true rfl) (Eq.mp (by kernel_rfl) hv)
def loops88:List (List (Nat×Shp)):=[]
noncomputable def code88:SCode:=((compF Try.prog Try.f88 loops88).elim .skip fun x=>x.2.2)
def ret88:List RV:=[.tmp 2]
theorem comp88:compF Try.prog Try.f88 loops88=some (8,ret88,code88):=by kernel_rfl
def VC88 (P:Program) (sA:Option Addr) (sN sC:Nat) (R:Value->Heap->Prop) (h:Heap):Prop:=
 PIf ((sA:Option Addr)=none)
 (R (.slice none 0 0) h)
 (let h_:Heap:=(h).push (.cells #[] 71);∃ ys:List Value,ReadL h_ sA ys/\ys.length=sN*3/\AppS h_ (some ⟨h.size,0,none⟩) 0 0 71 32 3 #[.int .u8 0,.int .i64 0,(.string (ByteArray.mk #[]))] ys sN fun apA apN apC h_1=>R (.slice apA apN apC) h_1)
theorem run88 (sA:Option Addr) (sN sC:Nat) (R:Value->Heap->Prop) (h:Heap) (hv:VC88 Try.prog sA sN sC R h):CallsH Try.prog 88 #[.slice sA sN sC] h R:=calls_of_fnC (Checked.mixed Try.checked) Try.func88 comp88 (Nat.le_of_ble_eq_true rfl) (Eq.mp (by kernel_rfl) hv)
def loops89:List (List (Nat×Shp)):=[]
noncomputable def code89:SCode:=((compF Try.prog Try.f89 loops89).elim .skip fun x=>x.2.2)
def ret89:List RV:=[.tmp 2]
theorem comp89:compF Try.prog Try.f89 loops89=some (8,ret89,code89):=by kernel_rfl
def VC89 (P:Program) (sA:Option Addr) (sN sC:Nat) (R:Value->Heap->Prop) (h:Heap):Prop:=
 PIf ((sA:Option Addr)=none)
 (R (.slice none 0 0) h)
 (let h_:Heap:=(h).push (.cells #[] 9);∃ ys:List Value,ReadL h_ sA ys/\ys.length=sN*1/\AppS h_ (some ⟨h.size,0,none⟩) 0 0 9 16 1 #[(.string (ByteArray.mk #[]))] ys sN fun apA apN apC h_1=>R (.slice apA apN apC) h_1)
theorem run89 (sA:Option Addr) (sN sC:Nat) (R:Value->Heap->Prop) (h:Heap) (hv:VC89 Try.prog sA sN sC R h):CallsH Try.prog 89 #[.slice sA sN sC] h R:=calls_of_fnC (Checked.mixed Try.checked) Try.func89 comp89 (Nat.le_of_ble_eq_true rfl) (Eq.mp (by kernel_rfl) hv)
def loops90:List (List (Nat×Shp)):=[]
noncomputable def code90:SCode:=((compF Try.prog Try.f90 loops90).elim .skip fun x=>x.2.2)
def ret90:List RV:=[.tmp 2]
theorem comp90:compF Try.prog Try.f90 loops90=some (8,ret90,code90):=by kernel_rfl
def VC90 (P:Program) (sA:Option Addr) (sN sC:Nat) (R:Value->Heap->Prop) (h:Heap):Prop:=
 PIf ((sA:Option Addr)=none)
 (R (.slice none 0 0) h)
 (let h_:Heap:=(h).push (.cells #[] 22);∃ ys:List Value,ReadL h_ sA ys/\ys.length=sN*1/\AppS h_ (some ⟨h.size,0,none⟩) 0 0 22 24 1 #[.slice none 0 0] ys sN fun apA apN apC h_1=>R (.slice apA apN apC) h_1)
theorem run90 (sA:Option Addr) (sN sC:Nat) (R:Value->Heap->Prop) (h:Heap) (hv:VC90 Try.prog sA sN sC R h):CallsH Try.prog 90 #[.slice sA sN sC] h R:=calls_of_fnC (Checked.mixed Try.checked) Try.func90 comp90 (Nat.le_of_ble_eq_true rfl) (Eq.mp (by kernel_rfl) hv)
end Go.Proofs.Ytdpbdjdgdmheiaa
