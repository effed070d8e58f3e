/- Words and facts that the claim's proof leans on. No condition. -/
import Derived.Test.YtdpbdjdgdmheiaaGreatHxV
import Derived.Test.YtdpbdjdgdmheiaaGreatChecked
set_option maxRecDepth 100000
set_option linter.unusedVariables false
namespace Go.Proofs.YtdpbdjdgdmheiaaGreat
open Go.Hx
/-! 31: trestle/trestleref26.Safe -/
def loops31 : List (List (Nat × Shp)) := []
noncomputable def code31 : SCode := ((compF Tryz.prog Tryz.f31 loops31).elim .skip fun x => x.2.2)
def ret31 : List RV := [.cellN 4 [.int .i64, .slice, .slice, .slice, .slice, .slice, .slice, .slice, .slice, .slice, .slice], .tmp 5]
theorem comp31 : compF Tryz.prog Tryz.f31 loops31 = some (18, ret31, code31) := by kernel_rfl
def VC31 (P : Program) (c : CV) (j : Int) (R : Value → Heap → Prop) (h : Heap) : Prop :=
 let h_ : Heap := (h).push (.cells (Value.cells c.v) 29); let h_1 : Heap := (h_).push (.cells CV.zero.cs.toArray 29); LdC h_1 ⟨h.size, 0, none⟩ fun t => CallsH P 69 #[t.v, .int .i64 j] h_1 fun v h_2 =>
 ExCi fun t1 => ∃ (t2 t3 : Int), v = (.tuple #[t1.v, .int .i64 t2, .int .i64 t3]) ∧ let h_3 : Heap := (h_2).push (.cells CV.zero.cs.toArray 29); StoreH h_3 ⟨h_2.size, 0, none⟩ t1.cs fun h_4 => LdC h_4 ⟨h_2.size, 0, none⟩ fun t4 => StoreH h_4 ⟨h_.size, 0, none⟩ t4.cs fun h_5 => LdC h_5 ⟨h_.size, 0, none⟩ fun t5 => R (.tuple #[t5.v, .int .i64 t3]) h_5
theorem run31 (c : CV) (j : Int) (R : Value → Heap → Prop) (h : Heap) (hv : VC31 Tryz.prog c j R h) : CallsH Tryz.prog 31 #[c.v, .int .i64 j] h R := calls_of_fnC (Checked.mixed Tryz.checked) Tryz.func31 comp31 (Nat.le_of_ble_eq_true rfl) (Eq.mp (by kernel_rfl) hv)
/-! 69: trestle/trestleref26.safe -/
def loops69 : List (List (Nat × Shp)) := [[(19, .int .i64)], [(24, .int .i64)], [(27, .slice), (28, .int .i64)], [(33, .int .i64), (34, .int .i64)], [(33, .int .i64), (35, .int .i64)]]
noncomputable def code69 : SCode := ((compF Tryz.prog Tryz.f69 loops69).elim .skip fun x => x.2.2)
def ret69 : List RV := [.cellN 4 [.int .i64, .slice, .slice, .slice, .slice, .slice, .slice, .slice, .slice, .slice, .slice], .tmp 5, .tmp 6]
theorem comp69 : compF Tryz.prog Tryz.f69 loops69 = some (296, ret69, code69) := by kernel_rfl
def J69_4  (P : Program) (h : Heap) (b2 : Nat) (t15 i : Int) (next_ : (Int → Heap → Prop)) (h_38 : Heap) : Prop :=
 ∃ (A96 : Option Addr) (N96 C96 : Nat), cellH h_38 (Addr.add ⟨h.size, 0, none⟩ 2) = some (.slice A96 N96 C96) ∧ 0 ≤ i ∧ i < (N96 : Nat) ∧ AtP A96 fun ad1 => ∃ (t17 : Int), cellH h_38 (Addr.add (Addr.add ad1 (Int.toNat i * 3)) 0) = some (.int .i64 t17) ∧ ∃ (t18 : Int), cellH h_38 (Addr.add ⟨h.size, 0, none⟩ 0) = some (.int .i64 t18) ∧ CallsH P 117 #[(.pointer (some (Addr.mk b2 0 none))), .int .i64 t15, .int .i64 t17] h_38 fun v7 h_39 =>
 ∃ (t19 : Int), v7 = (.int .i64 t19) ∧ CallsH P 118 #[.int .i64 t15] h_39 fun v8 h_40 =>
 ∃ (t20 : Int), v8 = (.int .i64 t20) ∧ CallsH P 117 #[(.pointer (some (Addr.mk b2 0 none))), .int .i64 t20, (.int .i64 (IntKind.wrap .i64 (2 * (IntKind.wrap .i64 ((IntKind.wrap .i64 (t18 + 3)) + i)))))] h_40 fun v9 h_41 =>
 ∃ (t21 : Int), v9 = (.int .i64 t21) ∧ ∃ zn : Zone, Zone.hasL zn h_41 (Addr.add (Addr.mk b2 0 none) 2) ∧ ∃ (A97 : Option Addr) (N97 C97 : Nat), cellH h_41 (Addr.add (Addr.mk b2 0 none) 2) = some (.slice A97 N97 C97) ∧ CallsH P 119 #[(.pointer (some (Addr.mk b2 0 none))), .int .i64 t19, .int .i64 t21] h_41 fun v10 h_42 =>
 ∃ (t22 : Int), v10 = (.int .i64 t22) ∧ Zone.r zn h_41 h_42 ∧ let h_43 : Heap := (h_42).push (.cells #[(.int .i64 (IntKind.wrap .i64 (2 * (IntKind.wrap .i64 ((IntKind.wrap .i64 (t18 + 3)) + i))))), .int .i64 t22, .int .i64 0] 65); Zone.r zn h_42 h_43 ∧ ∃ ys5 : List Value, ReadL h_43 (some ⟨h_42.size, 0, none⟩) ys5 ∧ ys5.length = 1 * 3 ∧ AppS h_43 A97 N97 C97 65 24 3 #[.int .i64 0, .int .i64 0, .int .i64 0] ys5 1 fun apA5 apN5 apC5 h_44 => Zone.r zn h_43 h_44 ∧ StoreH h_44 (Addr.add (Addr.mk b2 0 none) 2) [.slice apA5 apN5 apC5] fun h_45 => next_ (IntKind.wrap .i64 (i + 1)) h_45
def J69_6  (P : Program) (h : Heap) (apA : (Option Addr)) (apN N45 b2 : Nat) (t16 i1 : Int) (next_1 : (Int → Heap → Prop)) (h_48 : Heap) : Prop :=
 ∃ (t23 : Int), cellH h_48 (Addr.add ⟨h.size, 0, none⟩ 0) = some (.int .i64 t23) ∧ 0 ≤ i1 ∧ i1 < (apN : Nat) ∧ AtP apA fun ad2 => ∃ (t24 : Int), cellH h_48 (Addr.add ad2 (Int.toNat i1 * 1)) = some (.int .i64 t24) ∧ CallsH P 117 #[(.pointer (some (Addr.mk b2 0 none))), .int .i64 t16, .int .i64 t24] h_48 fun v11 h_49 =>
 ∃ (t25 : Int), v11 = (.int .i64 t25) ∧ ∃ zn1 : Zone, Zone.hasL zn1 h_49 (Addr.add (Addr.mk b2 0 none) 2) ∧ ∃ (A98 : Option Addr) (N98 C98 : Nat), cellH h_49 (Addr.add (Addr.mk b2 0 none) 2) = some (.slice A98 N98 C98) ∧ CallsH P 119 #[(.pointer (some (Addr.mk b2 0 none))), (.int .i64 (IntKind.wrap .i64 (2 * (IntKind.wrap .i64 ((IntKind.wrap .i64 ((IntKind.wrap .i64 (t23 + 3)) + ((N45 : Nat) : Int))) + i1))))), .int .i64 t25] h_49 fun v12 h_50 =>
 ∃ (t26 : Int), v12 = (.int .i64 t26) ∧ Zone.r zn1 h_49 h_50 ∧ let h_51 : Heap := (h_50).push (.cells #[(.int .i64 (IntKind.wrap .i64 (2 * (IntKind.wrap .i64 ((IntKind.wrap .i64 ((IntKind.wrap .i64 (t23 + 3)) + ((N45 : Nat) : Int))) + i1))))), .int .i64 t26, .int .i64 0] 65); Zone.r zn1 h_50 h_51 ∧ ∃ ys6 : List Value, ReadL h_51 (some ⟨h_50.size, 0, none⟩) ys6 ∧ ys6.length = 1 * 3 ∧ AppS h_51 A98 N98 C98 65 24 3 #[.int .i64 0, .int .i64 0, .int .i64 0] ys6 1 fun apA6 apN6 apC6 h_52 => Zone.r zn1 h_51 h_52 ∧ StoreH h_52 (Addr.add (Addr.mk b2 0 none) 2) [.slice apA6 apN6 apC6] fun h_53 => next_1 (IntKind.wrap .i64 (i1 + 1)) h_53
def J69_8  (P : Program) (h : Heap) (b2 : Nat) (sameA : (Option Addr)) (sameN sameC : Nat) (i2 : Int) (next_2 : ((Option Addr × Nat × Nat) × Int → Heap → Prop)) (h_56 : Heap) : Prop :=
 ∃ (A99 : Option Addr) (N99 C99 : Nat), cellH h_56 (Addr.add ⟨h.size, 0, none⟩ 2) = some (.slice A99 N99 C99) ∧ 0 ≤ i2 ∧ i2 < (N99 : Nat) ∧ AtP A99 fun ad3 => ∃ (t27 : Int), cellH h_56 (Addr.add (Addr.add ad3 (Int.toNat i2 * 3)) 0) = some (.int .i64 t27) ∧ ∃ (t28 : Int), cellH h_56 (Addr.add ⟨h.size, 0, none⟩ 0) = some (.int .i64 t28) ∧ CallsH P 118 #[(.int .i64 (IntKind.wrap .i64 (2 * (IntKind.wrap .i64 ((IntKind.wrap .i64 (t28 + 3)) + i2)))))] h_56 fun v13 h_57 =>
 ∃ (t29 : Int), v13 = (.int .i64 t29) ∧ CallsH P 117 #[(.pointer (some (Addr.mk b2 0 none))), .int .i64 t27, .int .i64 t29] h_57 fun v14 h_58 =>
 ∃ (t30 : Int), v14 = (.int .i64 t30) ∧ CallsH P 118 #[.int .i64 t27] h_58 fun v15 h_59 =>
 ∃ (t31 : Int), v15 = (.int .i64 t31) ∧ CallsH P 117 #[(.pointer (some (Addr.mk b2 0 none))), .int .i64 t31, (.int .i64 (IntKind.wrap .i64 (2 * (IntKind.wrap .i64 ((IntKind.wrap .i64 (t28 + 3)) + i2)))))] h_59 fun v16 h_60 =>
 ∃ (t32 : Int), v16 = (.int .i64 t32) ∧ CallsH P 118 #[.int .i64 t30] h_60 fun v17 h_61 =>
 ∃ (t33 : Int), v17 = (.int .i64 t33) ∧ CallsH P 118 #[.int .i64 t32] h_61 fun v18 h_62 =>
 ∃ (t34 : Int), v18 = (.int .i64 t34) ∧ CallsH P 117 #[(.pointer (some (Addr.mk b2 0 none))), .int .i64 t33, .int .i64 t34] h_62 fun v19 h_63 =>
 ∃ (t35 : Int), v19 = (.int .i64 t35) ∧ let h_64 : Heap := (h_63).push (.cells #[.int .i64 t35] 3); ∃ ys7 : List Value, ReadL h_64 (some ⟨h_63.size, 0, none⟩) ys7 ∧ ys7.length = 1 * 1 ∧ AppS h_64 sameA sameN sameC 3 8 1 #[.int .i64 0] ys7 1 fun apA7 apN7 apC7 h_65 => next_2 ((apA7, apN7, apC7), (IntKind.wrap .i64 (i2 + 1))) h_65
def J69_10  (P : Program) (b2 : Nat) (sameA1 : (Option Addr)) (sameN1 : Nat) (bad i3 : Int) (next_3 : (Int × Int → Heap → Prop)) (h_68 : Heap) : Prop :=
 0 ≤ i3 ∧ i3 < (sameN1 : Nat) ∧ AtP sameA1 fun ad4 => ∃ (t36 : Int), cellH h_68 (Addr.add ad4 (Int.toNat i3 * 1)) = some (.int .i64 t36) ∧ CallsH P 117 #[(.pointer (some (Addr.mk b2 0 none))), .int .i64 bad, .int .i64 t36] h_68 fun v20 h_69 =>
 ∃ (t37 : Int), v20 = (.int .i64 t37) ∧ next_3 (t37, (IntKind.wrap .i64 (i3 + 1))) h_69
def J69_12  (P : Program) (h : Heap) (N45 b2 : Nat) (bad2 i4 : Int) (next_4 : (Int × Int → Heap → Prop)) (h_72 : Heap) : Prop :=
 ∃ (t38 : Int), cellH h_72 (Addr.add ⟨h.size, 0, none⟩ 0) = some (.int .i64 t38) ∧ CallsH P 117 #[(.pointer (some (Addr.mk b2 0 none))), .int .i64 bad2, (.int .i64 (IntKind.wrap .i64 (2 * (IntKind.wrap .i64 ((IntKind.wrap .i64 ((IntKind.wrap .i64 (t38 + 3)) + ((N45 : Nat) : Int))) + i4)))))] h_72 fun v21 h_73 =>
 ∃ (t39 : Int), v21 = (.int .i64 t39) ∧ next_4 (t39, (IntKind.wrap .i64 (i4 + 1))) h_73
def J69_11  (R : Value → Heap → Prop) (h_ : Heap) (b2 : Nat) (t15 bad3 : Int) (h_74 : Heap) : Prop :=
 let h_75 : Heap := (h_74).push (.cells #[.int .i64 bad3] 3); StoreH h_75 (Addr.add (Addr.mk b2 0 none) 4) [(.slice (some ⟨h_74.size, 0, none⟩) 1 1)] fun h_76 => LdC h_76 (Addr.mk b2 0 none) fun t40 => StoreH h_76 ⟨h_.size, 0, none⟩ t40.cs fun h_77 => LdC h_77 ⟨h_.size, 0, none⟩ fun t41 => R (.tuple #[t41.v, .int .i64 t15, .int .i64 0]) h_77
def B69_13 (P : Program) (R : Value → Heap → Prop) (h h_ : Heap) (apN N45 b2 : Nat) (t15 bad2 i4 : Int) (h_71 : Heap) (next_4 : Int × Int → Heap → Prop) : Prop :=
 PIf (i4 < ((apN : Nat) : Int))
 (J69_12 P h N45 b2 bad2 i4 next_4 h_71)
 (J69_11 R h_ b2 t15 (bad2) h_71)
def J69_9  (P : Program) (R : Value → Heap → Prop) (h h_ : Heap) (apN N45 b2 : Nat) (t15 bad1 : Int) (h_70 : Heap) : Prop :=
 LoopT (σ := Int × Int) (fun st_ h_st nx_st => B69_13 P R h h_ apN N45 b2 t15 (st_.1) (st_.2) h_st nx_st) (bad1, 0) h_70
def B69_14 (P : Program) (R : Value → Heap → Prop) (h h_ : Heap) (apN N45 b2 : Nat) (t15 : Int) (sameA1 : (Option Addr)) (sameN1 : Nat) (bad i3 : Int) (h_67 : Heap) (next_3 : Int × Int → Heap → Prop) : Prop :=
 PIf (i3 < ((N45 : Nat) : Int))
 (J69_10 P b2 sameA1 sameN1 bad i3 next_3 h_67)
 (J69_9 P R h h_ apN N45 b2 t15 (bad) h_67)
def J69_7  (P : Program) (R : Value → Heap → Prop) (h h_ : Heap) (apN N45 b2 : Nat) (t13 t15 : Int) (sameA1 : Option Addr) (sameN1 sameC1 : Nat) (h_66 : Heap) : Prop :=
 LoopT (σ := Int × Int) (fun st_ h_st nx_st => B69_14 P R h h_ apN N45 b2 t15 sameA1 sameN1 (st_.1) (st_.2) h_st nx_st) ((IntKind.wrap .i64 (2 * (IntKind.wrap .i64 (t13 + 2)))), 0) h_66
def B69_15 (P : Program) (R : Value → Heap → Prop) (h h_ : Heap) (apN N45 b2 : Nat) (t13 t15 : Int) (sameA : Option Addr) (sameN sameC : Nat) (i2 : Int) (h_55 : Heap) (next_2 : (Option Addr × Nat × Nat) × Int → Heap → Prop) : Prop :=
 PIf (i2 < ((N45 : Nat) : Int))
 (J69_8 P h b2 sameA sameN sameC i2 next_2 h_55)
 (J69_7 P R h h_ apN N45 b2 t13 t15 (sameA) (sameN) (sameC) h_55)
def J69_5  (P : Program) (R : Value → Heap → Prop) (h h_ : Heap) (apN N45 b2 : Nat) (t13 t15 : Int) (h_54 : Heap) : Prop :=
 LoopT (σ := (Option Addr × Nat × Nat) × Int) (fun st_ h_st nx_st => B69_15 P R h h_ apN N45 b2 t13 t15 (st_.1.1) (st_.1.2.1) (st_.1.2.2) (st_.2) h_st nx_st) ((none, 0, 0), 0) h_54
def B69_16 (P : Program) (R : Value → Heap → Prop) (h h_ : Heap) (apA : (Option Addr)) (apN N45 b2 : Nat) (t13 t15 t16 i1 : Int) (h_47 : Heap) (next_1 : Int → Heap → Prop) : Prop :=
 PIf (i1 < ((apN : Nat) : Int))
 (J69_6 P h apA apN N45 b2 t16 i1 next_1 h_47)
 (J69_5 P R h h_ apN N45 b2 t13 t15 h_47)
def J69_3  (P : Program) (R : Value → Heap → Prop) (h h_ : Heap) (apA : (Option Addr)) (apN N45 b2 : Nat) (t13 t15 t16 : Int) (h_46 : Heap) : Prop :=
 LoopT (σ := Int) (fun st_ h_st nx_st => B69_16 P R h h_ apA apN N45 b2 t13 t15 t16 (st_) h_st nx_st) (0) h_46
def B69_17 (P : Program) (R : Value → Heap → Prop) (h h_ : Heap) (apA : (Option Addr)) (apN N45 b2 : Nat) (t13 t15 t16 i : Int) (h_37 : Heap) (next_ : Int → Heap → Prop) : Prop :=
 PIf (i < ((N45 : Nat) : Int))
 (J69_4 P h b2 t15 i next_ h_37)
 (J69_3 P R h h_ apA apN N45 b2 t13 t15 t16 h_37)
def J69_2  (P : Program) (R : Value → Heap → Prop) (h h_ : Heap) (apA : (Option Addr)) (apN N45 : Nat) (h_14 : Heap) : Prop :=
 (Addr.block (Addr.add ⟨h.size, 0, none⟩ 1)) < (h_14).size ∧ ∃ (A88 : Option Addr) (N88 C88 : Nat), cellH h_14 (Addr.add ⟨h.size, 0, none⟩ 1) = some (.slice A88 N88 C88) ∧ ∀ (U : Nat → Prop) (h_15 : Heap), GrowH none' h_14 U h_15 → CallsH P 41 #[.slice A88 N88 C88] h_15 fun v2 h_16 =>
 ∃ (A89 : Option Addr) (N89 C89 : Nat), v2 = (.slice A89 N89 C89) ∧ Keeps (h_14).size U h_15 h_16 ∧ ∀ (U1 : Nat → Prop) (h_17 : Heap) (b : Nat), GrowH U h_16 U1 h_17 → U1 b → (h_17)[b]? = some (Obj.cells #[] 65) → (Addr.block (Addr.add ⟨h.size, 0, none⟩ 2)) < (h_14).size ∧ ∃ (A90 : Option Addr) (N90 C90 : Nat), cellH h_17 (Addr.add ⟨h.size, 0, none⟩ 2) = some (.slice A90 N90 C90) ∧ ∀ (U2 : Nat → Prop) (h_18 : Heap), GrowH (minus U1 b) h_17 U2 h_18 → ∃ ys1 : List Value, ReadL h_18 A90 ys1 ∧ ys1.length = N90 * 3 ∧ AppS h_18 (some (Addr.mk b 0 none)) 0 0 65 24 3 #[.int .i64 0, .int .i64 0, .int .i64 0] ys1 N90 fun apA1 apN1 apC1 h_19 => Keeps (h_14).size U2 h_18 h_19 ∧ (Addr.block (Addr.add ⟨h.size, 0, none⟩ 5)) < (h_14).size ∧ ∃ (A91 : Option Addr) (N91 C91 : Nat), cellH h_19 (Addr.add ⟨h.size, 0, none⟩ 5) = some (.slice A91 N91 C91) ∧ ∀ (U3 : Nat → Prop) (h_20 : Heap), GrowH U2 h_19 U3 h_20 → CallsH P 41 #[.slice A91 N91 C91] h_20 fun v3 h_21 =>
 ∃ (A92 : Option Addr) (N92 C92 : Nat), v3 = (.slice A92 N92 C92) ∧ Keeps (h_14).size U3 h_20 h_21 ∧ ∀ (U4 : Nat → Prop) (h_22 : Heap) (b1 : Nat), GrowH U3 h_21 U4 h_22 → U4 b1 → (h_22)[b1]? = some (Obj.cells #[] 67) → (Addr.block (Addr.add ⟨h.size, 0, none⟩ 8)) < (h_14).size ∧ ∃ (A93 : Option Addr) (N93 C93 : Nat), cellH h_22 (Addr.add ⟨h.size, 0, none⟩ 8) = some (.slice A93 N93 C93) ∧ ∀ (U5 : Nat → Prop) (h_23 : Heap), GrowH (minus U4 b1) h_22 U5 h_23 → ∃ ys2 : List Value, ReadL h_23 A93 ys2 ∧ ys2.length = N93 * 3 ∧ AppS h_23 (some (Addr.mk b1 0 none)) 0 0 67 24 3 #[.int .i64 0, .int .i64 0, .int .i64 0] ys2 N93 fun apA2 apN2 apC2 h_24 => Keeps (h_14).size U5 h_23 h_24 ∧ (Addr.block (Addr.add ⟨h.size, 0, none⟩ 0)) < (h_14).size ∧ ∃ (t11 : Int), cellH h_24 (Addr.add ⟨h.size, 0, none⟩ 0) = some (.int .i64 t11) ∧ ∀ (U6 : Nat → Prop) (h_25 : Heap) (b2 : Nat), GrowH U5 h_24 U6 h_25 → U6 b2 → (h_25)[b2]? = some (Obj.cells CV.zero.cs.toArray 29) → ∀ (U7 : Nat → Prop) (h_26 : Heap), GrowH (minus U6 b2) h_25 U7 h_26 → StoreH h_26 (Addr.mk b2 0 none) [(.int .i64 (IntKind.wrap .i64 ((IntKind.wrap .i64 ((IntKind.wrap .i64 (t11 + 2)) + ((N45 : Nat) : Int))) + ((apN : Nat) : Int)))), .slice A89 N89 C89, .slice apA1 apN1 apC1, .slice none 0 0, .slice none 0 0, .slice A92 N92 C92, .slice none 0 0, .slice none 0 0, .slice apA2 apN2 apC2, .slice none 0 0, .slice none 0 0] fun h_27 => (h_26).size ≤ (h_27).size ∧ ∃ (t12 : Int), cellH h_27 (Addr.add ⟨h.size, 0, none⟩ 0) = some (.int .i64 t12) ∧ ∃ (t13 : Int), cellH h_27 (Addr.add ⟨h.size, 0, none⟩ 0) = some (.int .i64 t13) ∧ ∃ (A94 : Option Addr) (N94 C94 : Nat), cellH h_27 (Addr.add (Addr.mk b2 0 none) 1) = some (.slice A94 N94 C94) ∧ let h_28 : Heap := (h_27).push (.cells #[(.int .i64 (IntKind.wrap .i64 (2 * (IntKind.wrap .i64 (t12 + 1)))))] 3); ∃ ys3 : List Value, ReadL h_28 (some ⟨h_27.size, 0, none⟩) ys3 ∧ ys3.length = 1 * 1 ∧ AppS h_28 A94 N94 C94 3 8 1 #[.int .i64 0] ys3 1 fun apA3 apN3 apC3 h_29 => StoreH h_29 (Addr.add (Addr.mk b2 0 none) 1) [.slice apA3 apN3 apC3] fun h_30 => CallsH P 118 #[(.int .i64 (IntKind.wrap .i64 (2 * (IntKind.wrap .i64 (t13 + 2)))))] h_30 fun v4 h_31 =>
 ∃ (t14 : Int), v4 = (.int .i64 t14) ∧ CallsH P 117 #[(.pointer (some (Addr.mk b2 0 none))), (.int .i64 (IntKind.wrap .i64 (2 * (IntKind.wrap .i64 (t12 + 1))))), .int .i64 t14] h_31 fun v5 h_32 =>
 ∃ (t15 : Int), v5 = (.int .i64 t15) ∧ CallsH P 119 #[(.pointer (some (Addr.mk b2 0 none))), (.int .i64 (IntKind.wrap .i64 (2 * (IntKind.wrap .i64 (t12 + 1))))), (.int .i64 (IntKind.wrap .i64 (2 * (IntKind.wrap .i64 (t13 + 2)))))] h_32 fun v6 h_33 =>
 ∃ (t16 : Int), v6 = (.int .i64 t16) ∧ ∃ (A95 : Option Addr) (N95 C95 : Nat), cellH h_33 (Addr.add (Addr.mk b2 0 none) 2) = some (.slice A95 N95 C95) ∧ let h_34 : Heap := (h_33).push (.cells #[(.int .i64 (IntKind.wrap .i64 (2 * (IntKind.wrap .i64 (t13 + 2))))), .int .i64 t16, .int .i64 0] 65); ∃ ys4 : List Value, ReadL h_34 (some ⟨h_33.size, 0, none⟩) ys4 ∧ ys4.length = 1 * 3 ∧ AppS h_34 A95 N95 C95 65 24 3 #[.int .i64 0, .int .i64 0, .int .i64 0] ys4 1 fun apA4 apN4 apC4 h_35 => StoreH h_35 (Addr.add (Addr.mk b2 0 none) 2) [.slice apA4 apN4 apC4] fun h_36 => LoopT (σ := Int) (fun st_ h_st nx_st => B69_17 P R h h_ apA apN N45 b2 t13 t15 t16 (st_) h_st nx_st) (0) h_36
def J69_1  (P : Program) (R : Value → Heap → Prop) (h : Heap) (j : Int) (h_ h_7 : Heap) : Prop :=
 (Addr.block (Addr.add ⟨h.size, 0, none⟩ 6)) < (h_7).size ∧ ∃ (A41 : Option Addr) (N41 C41 : Nat), cellH h_7 (Addr.add ⟨h.size, 0, none⟩ 6) = some (.slice A41 N41 C41) ∧ 0 ≤ j ∧ j < (N41 : Nat) ∧ AtP A41 fun ad => (Addr.block (Addr.add ad (Int.toNat j * 1))) < (h_7).size ∧ ∃ (A42 : Option Addr) (N42 C42 : Nat), cellH h_7 (Addr.add ad (Int.toNat j * 1)) = some (.slice A42 N42 C42) ∧ CallsH P 41 #[.slice A42 N42 C42] h_7 fun v1 h_8 =>
 ∃ (A43 : Option Addr) (N43 C43 : Nat), v1 = (.slice A43 N43 C43) ∧ AgreeH (h_7).size h_7 h_8 ∧ (Addr.block (Addr.add ⟨h.size, 0, none⟩ 7)) < (h_7).size ∧ ∃ (A44 : Option Addr) (N44 C44 : Nat), cellH h_8 (Addr.add ⟨h.size, 0, none⟩ 7) = some (.slice A44 N44 C44) ∧ ∃ ys : List Value, ReadL h_8 A44 ys ∧ ys.length = N44 * 1 ∧ AppS h_8 A43 N43 C43 3 8 1 #[.int .i64 0] ys N44 fun apA apN apC h_9 => ∃ (A45 : Option Addr) (N45 C45 : Nat), cellH h_9 (Addr.add ⟨h.size, 0, none⟩ 2) = some (.slice A45 N45 C45) ∧ ∃ (t6 : Int), cellH h_9 (Addr.add ⟨h.size, 0, none⟩ 0) = some (.int .i64 t6) ∧ PIf ((16384 : Int) < (IntKind.wrap .i64 ((IntKind.wrap .i64 ((IntKind.wrap .i64 ((IntKind.wrap .i64 (t6 + 2)) + ((N45 : Nat) : Int))) + ((apN : Nat) : Int))) + (IntKind.wrap .i64 ((IntKind.wrap .i64 ((IntKind.wrap .i64 ((IntKind.wrap .i64 (2 + (IntKind.wrap .i64 (6 * ((N45 : Nat) : Int))))) + (IntKind.wrap .i64 (2 * ((apN : Nat) : Int))))) + ((N45 : Nat) : Int))) + ((apN : Nat) : Int))))))
 (StoreH h_9 ⟨h_.size, 0, none⟩ CV.zero.cs fun h_10 => LdC h_10 ⟨h_.size, 0, none⟩ fun t7 => R (.tuple #[t7.v, .int .i64 0, .int .i64 2]) h_10)
 (∃ (A56 : Option Addr) (N56 C56 : Nat), cellH h_9 (Addr.add ⟨h.size, 0, none⟩ 1) = some (.slice A56 N56 C56) ∧ PIf ((16384 : Int) < (IntKind.wrap .i64 (((N56 : Nat) : Int) + 1)))
 (StoreH h_9 ⟨h_.size, 0, none⟩ CV.zero.cs fun h_11 => LdC h_11 ⟨h_.size, 0, none⟩ fun t8 => R (.tuple #[t8.v, .int .i64 0, .int .i64 2]) h_11)
 (PIf ((16384 : Int) < (IntKind.wrap .i64 ((IntKind.wrap .i64 ((IntKind.wrap .i64 (((N45 : Nat) : Int) + 1)) + ((N45 : Nat) : Int))) + ((apN : Nat) : Int))))
 (StoreH h_9 ⟨h_.size, 0, none⟩ CV.zero.cs fun h_12 => LdC h_12 ⟨h_.size, 0, none⟩ fun t9 => R (.tuple #[t9.v, .int .i64 0, .int .i64 2]) h_12)
 (∃ (A77 : Option Addr) (N77 C77 : Nat), cellH h_9 (Addr.add ⟨h.size, 0, none⟩ 8) = some (.slice A77 N77 C77) ∧ PIf ((16384 : Int) < (IntKind.wrap .i64 (((N77 : Nat) : Int) + (IntKind.wrap .i64 ((IntKind.wrap .i64 ((IntKind.wrap .i64 ((IntKind.wrap .i64 (2 + (IntKind.wrap .i64 (6 * ((N45 : Nat) : Int))))) + (IntKind.wrap .i64 (2 * ((apN : Nat) : Int))))) + ((N45 : Nat) : Int))) + ((apN : Nat) : Int))))))
 (StoreH h_9 ⟨h_.size, 0, none⟩ CV.zero.cs fun h_13 => LdC h_13 ⟨h_.size, 0, none⟩ fun t10 => R (.tuple #[t10.v, .int .i64 0, .int .i64 2]) h_13)
 (J69_2 P R h h_ apA apN N45 h_9))))
def J69_0  (P : Program) (R : Value → Heap → Prop) (h : Heap) (j : Int) (h_ h_4 : Heap) : Prop :=
 PIf (j < 0)
 (StoreH h_4 ⟨h_.size, 0, none⟩ CV.zero.cs fun h_5 => LdC h_5 ⟨h_.size, 0, none⟩ fun t4 => R (.tuple #[t4.v, .int .i64 0, .int .i64 5]) h_5)
 (∃ (A30 : Option Addr) (N30 C30 : Nat), cellH h_4 (Addr.add ⟨h.size, 0, none⟩ 6) = some (.slice A30 N30 C30) ∧ PIf ((((N30 : Nat) : Int) : Int) ≤ j)
 (StoreH h_4 ⟨h_.size, 0, none⟩ CV.zero.cs fun h_6 => LdC h_6 ⟨h_.size, 0, none⟩ fun t5 => R (.tuple #[t5.v, .int .i64 0, .int .i64 5]) h_6)
 (J69_1 P R h j h_ h_4))
def VC69 (P : Program) (c : CV) (j : Int) (R : Value → Heap → Prop) (h : Heap) : Prop :=
 let h_ : Heap := (h).push (.cells (Value.cells c.v) 29); let h_1 : Heap := (h_).push (.cells CV.zero.cs.toArray 29); LdC h_1 ⟨h.size, 0, none⟩ fun t => CallsH P 93 #[t.v] h_1 fun v h_2 =>
 ∃ (t1 t2 : Int), v = (.tuple #[.int .i64 t1, .int .i64 t2]) ∧ PIf (t2 = 0)
 (J69_0 P R h j h_ h_2)
 (StoreH h_2 ⟨h_.size, 0, none⟩ CV.zero.cs fun h_3 => LdC h_3 ⟨h_.size, 0, none⟩ fun t3 => R (.tuple #[t3.v, .int .i64 0, .int .i64 t2]) h_3)
theorem run69 (c : CV) (j : Int) (R : Value → Heap → Prop) (h : Heap) (hv : VC69 Tryz.prog c j R h) : CallsH Tryz.prog 69 #[c.v, .int .i64 j] h R := calls_of_fnC (Checked.mixed Tryz.checked) Tryz.func69 comp69 (Nat.le_of_ble_eq_true rfl) (Eq.mp (by kernel_rfl) hv)
/-! 118: trestle/trestleref26.not -/
def loops118 : List (List (Nat × Shp)) := []
noncomputable def code118 : SCode := ((compF Tryz.prog Tryz.f118 loops118).elim .skip fun x => x.2.2)
def ret118 : List RV := [.tmp 2]
theorem comp118 : compF Tryz.prog Tryz.f118 loops118 = some (9, ret118, code118) := by kernel_rfl
def VC118 (P : Program) (l : Int) (R : Value → Heap → Prop) (h : Heap) : Prop :=
 R (.int .i64 (IntKind.wrap .i64 ((IntKind.wrap .i64 (l + 1)) - (IntKind.wrap .i64 ((Int.tmod l 2) * 2))))) h
theorem run118 (l : Int) (R : Value → Heap → Prop) (h : Heap) (hv : VC118 Tryz.prog l R h) : CallsH Tryz.prog 118 #[.int .i64 l] h R := calls_of_fnC (Checked.mixed Tryz.checked) Tryz.func118 comp118 (Nat.le_of_ble_eq_true rfl) (Eq.mp (by kernel_rfl) hv)
/-! 119: trestle/trestleref26.or -/
def loops119 : List (List (Nat × Shp)) := []
noncomputable def code119 : SCode := ((compF Tryz.prog Tryz.f119 loops119).elim .skip fun x => x.2.2)
def ret119 : List RV := [.tmp 6]
theorem comp119 : compF Tryz.prog Tryz.f119 loops119 = some (14, ret119, code119) := by kernel_rfl
def VC119 (P : Program) (c : Option Addr) (x y : Int) (R : Value → Heap → Prop) (h : Heap) : Prop :=
 CallsH P 118 #[.int .i64 x] h fun v h_ =>
 ∃ (t : Int), v = (.int .i64 t) ∧ CallsH P 118 #[.int .i64 y] h_ fun v1 h_1 =>
 ∃ (t1 : Int), v1 = (.int .i64 t1) ∧ CallsH P 117 #[.pointer c, .int .i64 t, .int .i64 t1] h_1 fun v2 h_2 =>
 ∃ (t2 : Int), v2 = (.int .i64 t2) ∧ CallsH P 118 #[.int .i64 t2] h_2 fun v3 h_3 =>
 ∃ (t3 : Int), v3 = (.int .i64 t3) ∧ R (.int .i64 t3) h_3
theorem run119 (c : Option Addr) (x y : Int) (R : Value → Heap → Prop) (h : Heap) (hv : VC119 Tryz.prog c x y R h) : CallsH Tryz.prog 119 #[.pointer c, .int .i64 x, .int .i64 y] h R := calls_of_fnC (Checked.mixed Tryz.checked) Tryz.func119 comp119 (Nat.le_of_ble_eq_true rfl) (Eq.mp (by kernel_rfl) hv)
/-! 6: trestle/trestlelaw26.LassoSafes -/
def loops6 : List (List (Nat × Shp)) := []
noncomputable def code6 : SCode := ((compF Tryz.prog Tryz.f6 loops6).elim .skip fun x => x.2.2)
def ret6 : List RV := [.tmp 4]
theorem comp6 : compF Tryz.prog Tryz.f6 loops6 = some (54, ret6, code6) := by kernel_rfl
def J6_1  (P : Program) (R : Value → Heap → Prop) (h h_2 h_5 h_8 h_11 h_15 : Heap) : Prop :=
 LdC h_15 ⟨h_5.size, 0, none⟩ fun t14 => CallsH P 33 #[t14.v, (.int .i64 (-7))] h_15 fun v5 h_16 =>
 v5 = (.tuple #[]) ∧ LdC h_16 ⟨h_8.size, 0, none⟩ fun t15 => LdC h_16 ⟨h_11.size, 0, none⟩ fun t16 => CallsH P 32 #[t15.v, t16.v] h_16 fun v6 h_17 =>
 ∃ (t17 : Bool), v6 = (.bool t17) ∧ BIf t17 (LdC h_17 ⟨h_2.size, 0, none⟩ fun t18 => LdC h_17 ⟨h.size, 0, none⟩ fun t19 => CallsH P 12 #[t18.v, t19.v] h_17 fun v7 h_18 =>
 ∃ (t20 : Bool), v7 = (.bool t20) ∧ BIf t20 (CallsH P 34 #[] h_18 fun v8 h_19 =>
 ∃ (t21 : Bool), v8 = (.bool t21) ∧ R (.bool t21) h_19) (R (.bool false) h_18)) (R (.bool false) h_17)
def J6_0  (P : Program) (R : Value → Heap → Prop) (h : Heap) (j : Int) (h_1 : Heap) : Prop :=
 LdC h_1 ⟨h.size, 0, none⟩ fun t => CallsH P 8 #[t.v] h_1 fun v h_2 =>
 ExCi fun t1 => v = t1.v ∧ let h_3 : Heap := (h_2).push (.cells CV.zero.cs.toArray 29); StoreH h_3 ⟨h_2.size, 0, none⟩ t1.cs fun h_4 => LdC h_4 ⟨h_2.size, 0, none⟩ fun t2 => CallsH P 30 #[t2.v, .int .i64 j] h_4 fun v1 h_5 =>
 ExCi fun t3 => ∃ (t4 : Int), v1 = (.tuple #[t3.v, .int .i64 t4]) ∧ let h_6 : Heap := (h_5).push (.cells CV.zero.cs.toArray 29); StoreH h_6 ⟨h_5.size, 0, none⟩ t3.cs fun h_7 => LdC h_7 ⟨h_2.size, 0, none⟩ fun t5 => CallsH P 30 #[t5.v, .int .i64 j] h_7 fun v2 h_8 =>
 ExCi fun t6 => ∃ (t7 : Int), v2 = (.tuple #[t6.v, .int .i64 t7]) ∧ let h_9 : Heap := (h_8).push (.cells CV.zero.cs.toArray 29); StoreH h_9 ⟨h_8.size, 0, none⟩ t6.cs fun h_10 => LdC h_10 ⟨h.size, 0, none⟩ fun t8 => CallsH P 31 #[t8.v, .int .i64 j] h_10 fun v3 h_11 =>
 ExCi fun t9 => ∃ (t10 : Int), v3 = (.tuple #[t9.v, .int .i64 t10]) ∧ let h_12 : Heap := (h_11).push (.cells CV.zero.cs.toArray 29); StoreH h_12 ⟨h_11.size, 0, none⟩ t9.cs fun h_13 => LdC h_13 ⟨h_5.size, 0, none⟩ fun t11 => LdC h_13 ⟨h_11.size, 0, none⟩ fun t12 => CallsH P 32 #[t11.v, t12.v] h_13 fun v4 h_14 =>
 ∃ (t13 : Bool), v4 = (.bool t13) ∧ BIf (!t13) (R (.bool false) h_14) (PIf (t4 = t10)
 (J6_1 P R h h_2 h_5 h_8 h_11 h_14)
 (R (.bool false) h_14))
def VC6 (P : Program) (c : CV) (j : Int) (R : Value → Heap → Prop) (h : Heap) : Prop :=
 let h_ : Heap := (h).push (.cells (Value.cells c.v) 29); J6_0 P R h j h_
theorem run6 (c : CV) (j : Int) (R : Value → Heap → Prop) (h : Heap) (hv : VC6 Tryz.prog c j R h) : CallsH Tryz.prog 6 #[c.v, .int .i64 j] h R := calls_of_fnC (Checked.mixed Tryz.checked) Tryz.func6 comp6 (Nat.le_of_ble_eq_true rfl) (Eq.mp (by kernel_rfl) hv)
end Go.Proofs.YtdpbdjdgdmheiaaGreat
