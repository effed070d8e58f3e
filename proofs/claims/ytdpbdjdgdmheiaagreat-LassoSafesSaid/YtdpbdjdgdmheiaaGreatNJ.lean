/- Words and facts that the claim's proof leans on. No condition. -/
import Derived.Test.YtdpbdjdgdmheiaaGreatNA
import Derived.Test.YtdpbdjdgdmheiaaGreatCR
import Derived.Test.YtdpbdjdgdmheiaaGreatMJ
/- LassoSafes, walked. No condition. -/
set_option linter.unusedVariables false
set_option linter.unusedSimpArgs false
namespace Go.Proofs.YtdpbdjdgdmheiaaGreat
open Go.Hx Go.Deep
section
theorem Mx.cnew {h0 h : Heap} {k : Addr} {v : CV} {S : Circ} {vf : CV} {ms : Sl} {sv sd nw : Int} {X : List Itm} (m : Mx h0 h k v S vf ms sv sd nw X) (ho : S.outs = []) (hj : S.just = []) (hf : S.fair = []) (hs : S.syms = []) (hm : S.coms = []) : CNew h0 h v S := by
  obtain ⟨z1, z2, z3, z4, z5⟩ := m.z
  refine ⟨m.mx, [], by rw [hj] <;> rfl, ?_⟩
  have m1 := m.mem.sub (l' := [⟨1, v.i.a, v.i.n, v.i.c, ints S.ins⟩, ⟨3, v.l.a, v.l.n, v.l.c, S.lats.flatMap L3.cs⟩, ⟨1, v.b.a, v.b.n, v.b.c, ints S.bads⟩, ⟨1, v.c.a, v.c.n, v.c.c, ints S.cons⟩, ⟨3, v.g.a, v.g.n, v.g.c, S.ands.flatMap L3.cs⟩]) (.cons _ (.cons_cons _ (.cons_cons _ (.cons_cons _ (.cons_cons _ (.cons_cons _ (List.nil_sublist _)))))))
  have nl : ∀ {h : Heap}, Fr h 1 h none 0 0 [] := fun {h} => .nil (.refl h)
  have n3 : ∀ {h : Heap}, Fr h 3 h none 0 0 [] := fun {h} => .nil (.refl h)
  have m2 := ((((m1.add (t := ⟨1, none, 0, 0, []⟩) nl).add (t := ⟨1, none, 0, 0, []⟩) nl).add (t := ⟨1, none, 0, 0, []⟩) nl).add (t := ⟨3, none, 0, 0, []⟩) n3).add (t := ⟨1, none, 0, 0, []⟩) nl
  unfold itemsC
  rw [z1, z2, z3, z4, z5, ho, hf, hs, hm]
  refine m2.perm ?_
  have p : ∀ (m s f j o i l b c g : Itm), [m, s, f, j, o, i, l, b, c, g].Perm [i, l, o, b, c, j, f, g, s, m] := fun m s f j o i l b c g => by
    have h1 : [m, s, f, j, o, i, l, b, c, g].Perm [i, l, m, s, f, j, o, b, c, g] := List.perm_append_comm_assoc [m, s, f, j, o] [i, l] [b, c, g]
    have h2 : [m, s, f, j, o, b, c, g].Perm [o, m, s, f, j, b, c, g] := List.perm_append_comm_assoc [m, s, f, j] [o] [b, c, g]
    have h3 : [m, s, f, j, b, c, g].Perm [b, c, m, s, f, j, g] := List.perm_append_comm_assoc [m, s, f, j] [b, c] [g]
    have h4 : [m, s, f, j, g].Perm [j, m, s, f, g] := List.perm_append_comm_assoc [m, s, f] [j] [g]
    have h5 : [m, s, f, g].Perm [f, m, s, g] := List.perm_append_comm_assoc [m, s] [f] [g]
    have h6 : [m, s, g].Perm [g, s, m] := (List.reverse_perm [g, s, m])
    exact h1.trans (.cons _ (.cons _ (h2.trans (.cons _ (h3.trans (.cons _ (.cons _ (h4.trans (.cons _ (h5.trans (.cons _ h6)))))))))))
  exact p _ _ _ _ _ _ _ _ _ _
end
def SafeN (C : Circ) (j : Int) (h : Heap) (w : Value) (h' : Heap) : Prop := ∃ v' : CV, w = .tuple #[v'.v, .int .i64 (lsE C j)] ∧ CNew h h' v' (safeC C j)
section
variable {h : Heap} {v : CV} {C : Circ} {j : Int}
set_option maxRecDepth 4000 in
theorem n30 (r : CIs h v C) (ok : C.Ok) : CallsH Tryz.prog 30 #[v.v, .int .i64 j] h (SafeN C j h) := by
  refine run30 v j _ h ?_
  unfold VC30
  intro h1 h2
  have e1 : Ext h h1 := Ext.box h _
  have e2 : Ext h h2 := e1.trans (Ext.push h1 _)
  have hb : Rd h2 (some ⟨h.size, 0, none⟩) 11 v.cs := (boxC v 29).ext (Ext.push h1 _)
  have fb : Fr h1 1 h2 (some ⟨h1.size, 0, none⟩) 11 11 CV.zero.cs := Fr.lit (.refl h1) CV.zero.cs 29 11 rfl
  have mm : Mem h1 h2 [⟨1, some ⟨h1.size, 0, none⟩, 11, 11, CV.zero.cs⟩] := (Mem.nil (.refl h1)).add fb
  refine ldC hb ((c68 (r.ext e2) ok j).mono ?_)
  rintro x h3 (⟨hne, rfl, u⟩ | ⟨hz, k, v', vf, ms, nw, rfl, m, rf⟩)
  · refine ⟨_, _, rfl, fun he => absurd he hne, fun _ => ?_⟩
    refine (fb.upd u).put (ws := CV.zero.cs) rfl (CV.one _) fun h4 f4 u4 => ldC f4.rd ⟨CV.zero, rfl, ?_⟩
    rw [safeC_ne hne]
    exact CNew.zero (e1.trans f4.ext)
  · refine ⟨_, _, rfl, fun _ => AtP.mk rfl ?_, fun he => absurd rfl he⟩
    have mb : Mx h1 h3 k v' (lassoX C (mustOf C j)) vf ms (lsSave C) (lsSaved C) nw [⟨1, some ⟨h1.size, 0, none⟩, 11, 11, CV.zero.cs⟩] := ⟨m.mx, mm.app m.mem, m.z⟩
    refine ldC m.own ((mb.x 0 rfl).put (ws := v'.cs) rfl (CV.one _) fun h4 f4 u4 => ?_)
    have m4 := (mb.setX 0 (t' := ⟨1, some ⟨h1.size, 0, none⟩, 11, 11, v'.cs⟩) rfl f4 u4 (.inl rfl)).dropX (X := [])
    obtain ⟨o1, o2, o3, o4, o5⟩ := lsX_nil hz
    refine ldC f4.rd ⟨v', by rw [hz] <;> rfl, ?_⟩
    rw [safeC_0 hz]
    exact (m4.cnew o1 o2 o3 o4 o5).base e1
set_option maxRecDepth 4000 in
theorem c31 (r : CIs h v C) (ok : C.Ok) : CallsH Tryz.prog 31 #[v.v, .int .i64 j] h (SafeP C j h) := by
  refine run31 v j _ h ?_
  unfold VC31
  intro h1 h2
  have e1 : Ext h h1 := Ext.box h _
  have e2 : Ext h h2 := e1.trans (Ext.push h1 _)
  have z1 : h.size ≤ h1.size := e1.1
  have z2 : h1.size < h2.size := by simp [h2]
  have hb : Rd h2 (some ⟨h.size, 0, none⟩) 11 v.cs := (boxC v 29).ext (Ext.push h1 _)
  have fb : Fr h1 1 h2 (some ⟨h1.size, 0, none⟩) 11 11 CV.zero.cs := Fr.lit (.refl h1) CV.zero.cs 29 11 rfl
  refine ldC hb ((c69 (j := j) (r.ext e2) ok).mono ?_)
  rintro _ h3 ⟨e3, v', rfl, cf⟩
  have cf : Far h3 h2.size h3.size fun h' => CIs h' v' (safeC C j) := cf
  refine ⟨_, _, _, _, _, _, _, _, _, _, _, _, _, _, _, _, _, _, _, _, _, _, _, _, _, _, _, _, _, _, _, _, _, rfl, boxN (zs := CV.zero.cs) (ws := v'.cs) rfl (CV.one v') fun h5 e5 b5 => ldC b5 ?_⟩
  refine (fb.upd (e3.trans e5)).put (ws := v'.cs) rfl (CV.one _) fun h6 f6 u6 => ldC f6.rd ⟨e1.trans f6.ext, v', rfl, ?_⟩
  intro S h' u hS
  have u6' : Upd (fun b => b = h1.size) h5 h6 := u6.mono fun b _ ⟨ad, ha, e⟩ => by cases ha; exact e
  have e35 : Upd (fun b => b = h1.size ∨ S b) h3 h' := ((Upd.wide e5).trans (u6'.mono fun b _ hb => .inl hb)).trans (u.mono fun b _ hb => .inr hb)
  have z35 : h3.size ≤ h6.size := Nat.le_trans e5.1 u6.1
  exact cf _ h' e35 fun b hb1 hb2 hb => by
    rcases hb with rfl | hb
    · omega
    · exact hS b (by omega) (by omega) hb
theorem safe_sm (ok : C.Ok) : CSm (safeC C j) := by
  by_cases hz : lsE C j = 0
  · rw [safeC_0 hz]; exact Circ.Ok.sm (lsX_ok ok hz)
  · rw [safeC_ne hz]; exact ⟨by simp [Circ.zero], by simp [Circ.zero]⟩
end
end Go.Proofs.YtdpbdjdgdmheiaaGreat
/- LassoSafes, walked whole. No condition. -/
set_option linter.unusedVariables false
set_option linter.unusedSimpArgs false
namespace Go.Proofs.YtdpbdjdgdmheiaaGreat
open Go.Hx Go.Deep
theorem CNew.far {h0 h : Heap} {v : CV} {C : Circ} (c : CNew h0 h v C) : Far h h0.size h.size fun h' => CIs h' v C := by
  intro S h' u hS
  obtain ⟨rows, hj, m⟩ := c.ex
  have key : ∀ {i : Nat} {t : Itm}, (itemsC v C rows)[i]? = some t → Rd h' t.a (t.n * t.sz) t.vs := fun hk => (m.get _ hk).own.rd.upd u fun ad ha hQ => hS _ ((m.get _ hk).new ad ha) (m.lt (List.mem_of_getElem? hk) ha) hQ
  have hr : ∀ r ∈ rows, Rd h' r.a r.n (ints r.l) ∧ r.n ≤ r.c := fun r hr => by
    have hm : (⟨1, r.a, r.n, r.c, ints r.l⟩ : Itm) ∈ itemsC v C rows := List.mem_append_right _ (List.mem_map.2 ⟨r, hr, rfl⟩)
    obtain ⟨i, hi⟩ := List.mem_iff_getElem?.1 hm
    exact ⟨Rd.one (key hi), (m.fr _ hm).own.cap⟩
  exact ⟨c.mx, Rd.one (key (i := 0) rfl), key (i := 1) rfl, Rd.one (key (i := 2) rfl), Rd.one (key (i := 3) rfl), Rd.one (key (i := 4) rfl), ⟨rows, Rd.one (key (i := 5) rfl), hr, hj⟩, Rd.one (key (i := 6) rfl), key (i := 7) rfl, key (i := 8) rfl, Rd.one (key (i := 9) rfl)⟩
section
variable {h : Heap} {v : CV} {C : Circ} {j : Int}
set_option maxRecDepth 4000 in
theorem c6 (r : CIs h v C) (ok : C.Ok) : CallsH Tryz.prog 6 #[v.v, .int .i64 j] h (Xt (.bool true) h) := by
  have sm := safe_sm (j := j) ok
  refine run6 v j _ h ?_
  unfold VC6
  intro h1
  unfold J6_0
  have e1 : Ext h h1 := Ext.box h _
  have b1 : Rd h1 (some ⟨h.size, 0, none⟩) 11 v.cs := boxC v 29
  refine ldC b1 ((c8 (r.ext e1) ok).mono ?_)
  rintro _ h2 ⟨v2, rfl, li, e2⟩
  refine ⟨_, _, _, _, _, _, _, _, _, _, _, _, _, _, _, _, _, _, _, _, _, _, _, _, _, _, _, _, _, _, _, rfl, ?_⟩
  intro h3
  refine boxN (zs := CV.zero.cs) (ws := v2.cs) rfl (CV.one v2) fun h4 e4 b4 => ?_
  refine ldC b4 ((n30 (j := j) (li.cis.ext e4) ok).mono ?_)
  rintro _ h5 ⟨vx, rfl, cx⟩
  refine ⟨_, _, _, _, _, _, _, _, _, _, _, _, _, _, _, _, _, _, _, _, _, _, _, _, _, _, _, _, _, _, _, _, rfl, ?_⟩
  intro h6
  refine boxN (zs := CV.zero.cs) (ws := vx.cs) rfl (CV.one vx) fun h7 e7 b7 => ?_
  have e47 : Ext h4 h7 := cx.heap.trans e7
  refine ldC (b4.ext e47) ((n30 (j := j) (li.cis.ext (e4.trans e47)) ok).mono ?_)
  rintro _ h8 ⟨va, rfl, ca⟩
  refine ⟨_, _, _, _, _, _, _, _, _, _, _, _, _, _, _, _, _, _, _, _, _, _, _, _, _, _, _, _, _, _, _, _, rfl, ?_⟩
  intro h9
  refine boxN (zs := CV.zero.cs) (ws := va.cs) rfl (CV.one va) fun h10 e10 b10 => ?_
  have e4_10 : Ext h4 h10 := (e47.trans ca.heap).trans e10
  have e1_10 : Ext h1 h10 := (e2.trans e4).trans e4_10
  have r10 : CIs h10 v C := r.ext (e1.trans e1_10)
  refine ldC (b1.ext e1_10) ((c31 (j := j) r10 ok).mono ?_)
  rintro _ h11 ⟨e11, vy, rfl, cy⟩
  have cy : Far h11 h10.size h11.size fun h' => CIs h' vy (safeC C j) := cy
  refine ⟨_, _, _, _, _, _, _, _, _, _, _, _, _, _, _, _, _, _, _, _, _, _, _, _, _, _, _, _, _, _, _, _, rfl, ?_⟩
  intro h12
  refine boxN (zs := CV.zero.cs) (ws := vy.cs) rfl (CV.one vy) fun h13 e13 b13 => ?_
  have e7_13 : Ext h7 h13 := ((ca.heap.trans e10).trans e11).trans e13
  have cx13 := (cx.ext e7).ext e7_13
  have cy13 := cy.self.ext e13
  refine ldC (b7.ext e7_13) (ldC b13 (useX (c32 cx13.cis cy13 sm) fun h14 e14 => ⟨true, rfl, BIf.f ⟨fun _ => ?_, fun e => absurd rfl e⟩⟩))
  unfold J6_1
  refine ldC ((b7.ext e7_13).ext e14) ((c33 cx ((e7.trans e7_13).trans e14) sm (-7)).mono ?_)
  rintro _ h15 ⟨rfl, u15⟩
  have e8_14 : Ext h8 h14 := ((e10.trans e11).trans e13).trans e14
  have h57 : h5.size ≤ h7.size := e7.1
  have e11_14 : Ext h11 h14 := e13.trans e14
  have e4_14 : Ext h4 h14 := (e47.trans (e7_13.trans e14))
  have e4_15 : Ext h4 h15 := e4_14.newer u15 fun i hi hS => by have := hS.1; omega
  have ca15 : CIs h15 va (safeC C j) := ((CNew.far ca).ext e8_14 (Nat.le_refl _)) _ h15 u15 fun b hb1 hb2 hb => by have := hb.2; omega
  have hsz : h7.size ≤ h10.size := Nat.le_trans ca.heap.1 e10.1
  have cy15 : CIs h15 vy (safeC C j) := (cy.ext e11_14 (Nat.le_refl _)) _ h15 u15 fun b hb1 hb2 hb => by have := hb.2; omega
  have hs8 : h7.size ≤ h8.size := ca.heap.1
  have hs11 : h10.size ≤ h11.size := e11.1
  have b10_14 : Rd h14 (some ⟨h8.size, 0, none⟩) va.cs.length va.cs := b10.ext ((e11.trans e13).trans e14)
  have b10_15 : Rd h15 (some ⟨h8.size, 0, none⟩) 11 va.cs := b10_14.upd u15 fun ad ha hS => by cases ha; have := hS.2; simp only at this; omega
  have b13_15 : Rd h15 (some ⟨h11.size, 0, none⟩) 11 vy.cs := (b13.ext e14).upd u15 fun ad ha hS => by cases ha; have := hS.2; simp only at this; omega
  refine ⟨rfl, ldC b10_15 (ldC b13_15 (useX (c32 ca15 cy15 sm) fun h16 e16 => ⟨true, rfl, BIf.t ?_⟩))⟩
  have e4_16 := e4_15.trans e16
  have e1_16 : Ext h1 h16 := (e2.trans e4).trans e4_16
  refine ldC (b4.ext e4_16) (ldC (b1.ext e1_16) (useX (c12 (li.ext (e4.trans e4_16)) (r.ext (e1.trans e1_16)) (Circ.Ok.sm ok)) fun h17 e17 => ⟨true, rfl, BIf.t ?_⟩))
  exact useX (c34) fun h18 e18 => ⟨true, rfl, rfl, ((e1.trans e1_16).trans e17).trans e18⟩
end
end Go.Proofs.YtdpbdjdgdmheiaaGreat
