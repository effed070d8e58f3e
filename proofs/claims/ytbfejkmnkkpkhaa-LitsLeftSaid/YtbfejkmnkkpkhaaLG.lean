/- Words and facts that the claim's proof leans on. No condition. -/
import Derived.Test.YtbfejkmnkkpkhaaLF
set_option linter.unusedVariables false
set_option linter.unusedSimpArgs false
namespace Go.Proofs.Ytbfejkmnkkpkhaa
open Go.Hx

theorem Fr.wide {h0 h h' : Heap} {sz : Nat} {a : Option Addr} {n c : Nat} {vs : List Value} (f : Fr h sz h' a n c vs) (u : Ext h0 h) : Fr h0 sz h' a n c vs := ⟨f.own, fun ad ha => Nat.le_trans u.1 (f.new ad ha), u.trans f.ext⟩
theorem chk_0 {l : List Int} (h : chk l = 0) : l.all isF = true ∧ l.length ≤ 16384 := by
  unfold chk at h
  split at h
  · omega
  · split at h
    · rename_i h1 h2; exact ⟨h2, by omega⟩
    · omega
theorem chk_of {l : List Int} (h : l.all isF = true) (hl : l.length ≤ 16384) : chk l = 0 := by
  unfold chk
  rw [if_neg (by omega), if_pos h]
theorem NF.isF {l q : List Int} (n : NF l q) (h : l.all isF = true) : ∀ x ∈ q, isF x = true := fun x hx => List.all_eq_true.1 h x ((n.2 x).1 hx)
theorem NF.len {l q : List Int} (n : NF l q) : q.length ≤ l.length := by
  have hnd : q.Nodup := n.1.imp fun {x y} h => fun e => by subst e; omega
  have hsub : ∀ x ∈ q, x ∈ l := fun x hx => (n.2 x).1 hx
  clear n
  induction q generalizing l with
  | nil => simp
  | cons x q ih =>
    have hx := hsub x (List.mem_cons_self ..)
    rw [List.nodup_cons] at hnd
    have := ih (l := l.erase x) hnd.2 fun y hy => by
      have hne : y ≠ x := fun e => hnd.1 (by rw [← e]; exact hy)
      rw [List.mem_erase_of_ne hne]
      exact hsub y (List.mem_cons_of_mem _ hy)
    have h2 := List.length_erase_of_mem hx
    have h3 := List.length_pos_of_mem hx
    simp only [List.length_cons]
    omega

/-- What Normal hands back. -/
def NormalRes (h : Heap) (l : List Int) (v : Value) (h' : Heap) : Prop :=
  Ext h h' ∧ ((chk l ≠ 0 ∧ v = .tuple #[.slice none 0 0, .int .i64 (chk l)]) ∨ (chk l = 0 ∧ Taut l ∧ v = .tuple #[.slice none 0 0, .int .i64 10]) ∨
    (chk l = 0 ∧ ∃ q a c, NF l q ∧ Fr h 1 h' a q.length c (ints q) ∧ v = .tuple #[.slice a q.length c, .int .i64 0]))

theorem c18 {cA : Option Addr} {cN cC : Nat} {l : List Int} {h : Heap} (rd : Rd h cA cN (ints l)) : CallsH Try.prog 18 #[.slice cA cN cC] h (NormalRes h l) := by
  have hlen : l.length = cN := by have := rd.len; simpa using this
  refine run18 cA cN cC _ h (use (c43 rd) ⟨_, rfl, fun he => ?_, fun hne => ⟨.refl _, .inl ⟨hne, rfl⟩⟩⟩)
  obtain ⟨hf, hl⟩ := chk_0 he
  refine (c44 rd hf (by omega)).mono ?_
  rintro _ h' ⟨hx, ⟨ht, rfl⟩ | ⟨q, a, c, hq, hfr, rfl⟩⟩
  · exact ⟨_, _, _, _, rfl, hx, .inr (.inl ⟨he, ht, rfl⟩)⟩
  · exact ⟨_, _, _, _, rfl, hx, .inr (.inr ⟨he, q, a, c, hq, hfr, rfl⟩)⟩

/-- What 'pair' hands back. -/
def PairRes (h : Heap) (l m : List Int) (v : Value) (h' : Heap) : Prop :=
  Ext h h' ∧ ((chk l ≠ 0 ∧ v = .tuple #[.slice none 0 0, .slice none 0 0, .int .i64 (chk l)]) ∨ (chk l = 0 ∧ chk m ≠ 0 ∧ v = .tuple #[.slice none 0 0, .slice none 0 0, .int .i64 (chk m)]) ∨
    (chk l = 0 ∧ chk m = 0 ∧ (Taut l ∨ Taut m) ∧ v = .tuple #[.slice none 0 0, .slice none 0 0, .int .i64 10]) ∨
    (chk l = 0 ∧ chk m = 0 ∧ ∃ q a c p b d, NF l q ∧ NF m p ∧ Fr h 1 h' a q.length c (ints q) ∧ Fr h 1 h' b p.length d (ints p) ∧ v = .tuple #[.slice a q.length c, .slice b p.length d, .int .i64 0]))
theorem c49 {aA : Option Addr} {aN aC : Nat} {l : List Int} {bA : Option Addr} {bN bC : Nat} {m : List Int} {h : Heap} (rl : Rd h aA aN (ints l)) (rm : Rd h bA bN (ints m)) :
    CallsH Try.prog 49 #[.slice aA aN aC, .slice bA bN bC] h (PairRes h l m) := by
  have hlen : l.length = aN := by have := rl.len; simpa using this
  have hlen2 : m.length = bN := by have := rm.len; simpa using this
  refine run49 aA aN aC bA bN bC _ h (use (c43 rl) ⟨_, rfl, fun he => ?_, fun hne => ⟨.refl _, .inl ⟨hne, rfl⟩⟩⟩)
  refine use (c43 rm) ⟨_, rfl, fun he2 => ?_, fun hne => ⟨.refl _, .inr (.inl ⟨he, hne, rfl⟩)⟩⟩
  obtain ⟨hf, hl⟩ := chk_0 he
  obtain ⟨hf2, hl2⟩ := chk_0 he2
  refine (c44 rl hf (by omega)).mono ?_
  rintro _ h1 ⟨hx, ⟨ht, rfl⟩ | ⟨q, a, c, hq, hfr, rfl⟩⟩
  · refine ⟨_, _, _, _, rfl, (c44 (rm.ext hx) hf2 (by omega)).mono ?_⟩
    rintro _ h2 ⟨hx2, ⟨ht2, rfl⟩ | ⟨p, b, d, hp, hfp, rfl⟩⟩
    · exact ⟨_, _, _, _, rfl, .t ⟨hx.trans hx2, .inr (.inr (.inl ⟨he, he2, .inl ht, rfl⟩))⟩⟩
    · exact ⟨_, _, _, _, rfl, .t ⟨hx.trans hx2, .inr (.inr (.inl ⟨he, he2, .inl ht, rfl⟩))⟩⟩
  · refine ⟨_, _, _, _, rfl, (c44 (rm.ext hx) hf2 (by omega)).mono ?_⟩
    rintro _ h2 ⟨hx2, ⟨ht2, rfl⟩ | ⟨p, b, d, hp, hfp, rfl⟩⟩
    · exact ⟨_, _, _, _, rfl, .f (.t ⟨hx.trans hx2, .inr (.inr (.inl ⟨he, he2, .inr ht2, rfl⟩))⟩)⟩
    · exact ⟨_, _, _, _, rfl, .f (.f ⟨hx.trans hx2, .inr (.inr (.inr ⟨he, he2, q, a, c, p, b, d, hq, hp, hfr.upd hx2, Fr.wide hfp hx, rfl⟩))⟩)⟩

/-- Resolve where it is done. -/
theorem c42 {aA : Option Addr} {aN aC : Nat} {l : List Int} {bA : Option Addr} {bN bC : Nat} {m : List Int} {h : Heap} (rl : Rd h aA aN (ints l)) (rm : Rd h bA bN (ints m)) {x : Int} (hx : isF x = true)
    {q p r : List Int} (cl : chk l = 0) (cm : chk m = 0) (hq : NF l q) (hp : NF m p) (hxq : x ∈ q) (hxp : -x ∈ p) (hr : NF (drp q x ++ drp p (-x)) r) :
    CallsH Try.prog 42 #[.slice aA aN aC, .slice bA bN bC, .int .i64 x] h fun v h' => ∃ a c, v = .tuple #[.slice a r.length c, .int .i64 0] ∧ Fr h 1 h' a r.length c (ints r) := by
  have hxf := isF_t.1 hx
  have hnx : isF (-x) = true := isF_t.2 (by omega)
  have e0 : IntKind.wrap .i64 (0 - x) = -x := by rw [w64 (by omega) (by omega)]; omega
  have hql := hq.len
  have hpl := hp.len
  obtain ⟨hf, hl⟩ := chk_0 cl
  obtain ⟨hf2, hl2⟩ := chk_0 cm
  refine run42 aA aN aC bA bN bC x _ h ((c49 rl rm).mono ?_)
  rintro _ h1 ⟨hx1, ⟨hc, _⟩ | ⟨_, hc, _⟩ | ⟨_, _, ht | ht, _⟩ | ⟨_, _, q', a, c, p', b, d, hq', hp', fq, fp, rfl⟩⟩
  · exact absurd cl hc
  · exact absurd cm hc
  · exact absurd ht (hq.not_taut hf)
  · exact absurd ht (hp.not_taut hf2)
  have := hq'.unique hq
  subst this
  have := hp'.unique hp
  subst this
  have hqf := hq.isF hf
  have hpf := hp.isF hf2
  refine ⟨_, _, _, _, _, _, _, rfl, fun _ => ?_, fun hh => absurd rfl hh⟩
  refine use (c38 x h1) ⟨_, rfl, ?_⟩
  rw [hx]
  refine BIf.f ?_
  unfold J42_1
  rw [e0]
  refine (c53 fq.rd hq.1 hqf hx (by omega)).mono ?_
  rintro _ _ ⟨rfl, i, bb, hs, rfl⟩
  refine ⟨_, _, rfl, (c53 fp.rd hp.1 hpf hnx (by omega)).mono ?_⟩
  rintro _ _ ⟨rfl, j, bb2, hs2, rfl⟩
  rename_i h1
  have hb1 : bb = true := by rw [hs.is]; simpa using hxq
  have hb2 : bb2 = true := by rw [hs2.is]; simpa using hxp
  subst hb1; subst hb2
  refine ⟨_, _, rfl, .f (.f ?_)⟩
  unfold J42_2
  rw [e0]
  refine (c54 fq.rd fq.own.cap hq.1 hqf hx (by omega)).mono ?_
  rintro _ h2 ⟨a2, c2, rfl, f2⟩
  refine ⟨_, _, _, rfl, (c54 (fp.upd f2.ext).rd fp.own.cap hp.1 hpf hnx (by omega)).mono ?_⟩
  rintro _ h3 ⟨a3, c3, rfl, f3⟩
  refine ⟨_, _, _, rfl, ?_⟩
  intro h4
  let s1 : Rw := ⟨a2, (drp q' x).length, c2, drp q' x⟩
  let s2 : Rw := ⟨a3, (drp p' (-x)).length, c3, drp p' (-x)⟩
  have f4 : Fr h3 1 h4 (some ⟨h3.size, 0, none⟩) 2 2 ([s1, s2].map Rw.v) := Fr.lit (.refl h3) ([s1, s2].map Rw.v) 28 2 rfl
  have l1 : (drp q' x).length ≤ q'.length := List.length_filter_le _ _
  have l2 : (drp p' (-x)).length ≤ p'.length := List.length_filter_le _ _
  refine (c58 (ss := [s1, s2]) f4.rd (fun s hs => by
    rcases List.mem_cons.1 hs with rfl | hs
    · exact ((f2.upd f3.ext).upd f4.ext).rd
    · rcases List.mem_cons.1 hs with rfl | hs
      · exact (f3.upd f4.ext).rd
      · cases hs) (by simp [s1, s2]; omega) (by omega)).mono ?_
  rintro _ h5 ⟨a5, c5, rfl, f5⟩
  have e5 : [s1, s2].flatMap Rw.l = drp q' x ++ drp p' (-x) := by simp [s1, s2]
  rw [e5] at f5 ⊢
  have hallf : (drp q' x ++ drp p' (-x)).all isF = true := by
    rw [List.all_eq_true]
    intro y hy
    rcases List.mem_append.1 hy with hy | hy
    · exact hqf y (List.mem_filter.1 hy).1
    · exact hpf y (List.mem_filter.1 hy).1
  refine ⟨_, _, _, rfl, (c44 f5.rd hallf (by rw [List.length_append]; omega)).mono ?_⟩
  have x5 : Ext h h5 := hx1.trans (f2.ext.trans (f3.ext.trans (f4.ext.trans f5.ext)))
  rintro _ h6 ⟨hx6, ⟨ht, rfl⟩ | ⟨r', a6, c6, hr', f6, rfl⟩⟩
  · exact absurd ht (hr.not_taut hallf)
  · have := hr'.unique hr
    subst this
    exact ⟨_, _, _, _, rfl, .f ⟨_, _, rfl, Fr.wide f6 x5⟩⟩

theorem c16 (h : Heap) : CallsH Try.prog 16 #[] h fun v h' => v = .bool true ∧ Ext h h' := by
  refine run16 _ h (use (c11 5 h) ?_)
  rw [show isC 5 = true from rfl]
  refine ⟨_, _, rfl, ?_⟩
  intro h1 h2
  have f1 : Fr h 1 h1 (some ⟨h.size, 0, none⟩) 2 2 (ints [1, 2]) := Fr.lit (.refl h) (ints [1, 2]) 3 2 rfl
  have f2 : Fr h1 1 h2 (some ⟨h1.size, 0, none⟩) 2 2 (ints [-1, 3]) := Fr.lit (.refl h1) (ints [-1, 3]) 3 2 rfl
  refine (c42 (x := 1) (f1.upd f2.ext).rd f2.rd (q := [1, 2]) (p := [-1, 3]) (r := [2, 3]) rfl rfl rfl ⟨by decide, fun _ => Iff.rfl⟩ ⟨by decide, fun _ => Iff.rfl⟩ (by decide) (by decide) ⟨by decide, fun _ => Iff.rfl⟩).mono ?_
  rintro _ h3 ⟨a, c, rfl, f3⟩
  refine ⟨_, _, _, _, rfl, ?_⟩
  intro h4
  have f4 : Fr h3 1 h4 (some ⟨h3.size, 0, none⟩) 2 2 (ints [1, -1]) := Fr.lit (.refl h3) (ints [1, -1]) 3 2 rfl
  refine (c18 f4.rd).mono ?_
  have ht : Taut [1, -1] := ⟨1, by decide, by decide⟩
  rintro _ h5 ⟨hx5, ⟨hc, _⟩ | ⟨_, _, rfl⟩ | ⟨_, q, _, _, hq, _⟩⟩
  · exact absurd rfl hc
  · refine ⟨_, _, _, _, rfl, fun _ => ⟨fun _ => ⟨fun _ => ⟨fun _ => ?_, fun hh => absurd rfl hh⟩, fun hh => absurd rfl hh⟩, fun hh => absurd rfl hh⟩, fun hh => absurd rfl hh⟩
    have f5 := (f3.upd f4.ext).upd hx5
    refine ⟨by omega, by simp, f5.rd.geti (by omega) (by simp) fun ad hl hc => ⟨_, hc, fun _ => ⟨by omega, by simp, f5.rd.geti (by omega) (by simp) fun ad hl hc => ⟨_, hc, fun _ => ⟨fun _ => ?_, fun hh => absurd rfl hh⟩, fun hh => absurd rfl hh⟩⟩, fun hh => absurd rfl hh⟩⟩
    exact ⟨rfl, f1.ext.trans (f2.ext.trans (f3.ext.trans (f4.ext.trans hx5)))⟩
  · exact absurd ht (hq.not_taut rfl)
end Go.Proofs.Ytbfejkmnkkpkhaa
