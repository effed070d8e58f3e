/- Words and facts that the claim's proof leans on. No condition. -/
import Derived.Test.YtdpbdjdgdmheiaaGreatZA
import Derived.Test.YtdpbdjdgdmheiaaGreatXL
import Derived.Test.YtdpbdjdgdmheiaaGreatKEf
import Derived.Test.YtdpbdjdgdmheiaaGreatXU
set_option linter.unusedVariables false
set_option linter.unusedSimpArgs false
namespace Go.Hx
open Go.Proofs.YtdpbdjdgdmheiaaGreat
theorem rd_getqB {α:Type} {f:α->Value} {h h0:Heap} {a:Option Addr} {n:Nat} {l:List α} (r:Rd h a n (l.map f)) (r0:Rd h0 a n (l.map f)) {j:Int} (h0':0≤j) {x:α} (hx:l[j.toNat]?=some x) {K:Addr->Prop} (hK:∀ ad,(ad.add (j.toNat*1)).block<h0.size->cellH h (ad.add (j.toNat*1))=some (f x)->K ad):j<(n:Nat)/\AtP a K:=by
 have hl:=r0.ilen
 have hj:=(List.getElem?_eq_some_iff.1 hx).1
 refine ⟨by omega,?_⟩
 cases a with
 | none=>have:=r.len;rw [show l.map f=[] from r.read] at this;simp at this;omega
 | some ad=>
  have k1:=r.read j.toNat (f x) (by rw [List.getElem?_map,hx];rfl)
  have k0:=r0.read j.toNat (f x) (by rw [List.getElem?_map,hx];rfl)
  exact hK ad (by rw [Nat.mul_one];exact cellH_lt k0) (by rw [Nat.mul_one];exact k1)
def BadS (C:Circ) (l:Int) (s i:Nat) (z:Int):Prop:=
 (z = -1/\∀ s' i',(s'<s∨(s'=s/\i'<i))->i'<2 ^ C.ins.length->okB C s' i'=true->0≤depI (wdC C) s'->lit (wvals C s' i') l=false) ∨
 ∃ d:Nat,z=d/\(∃ s' i',i'<2 ^ C.ins.length/\okB C s' i'=true/\depI (wdC C) s'=d/\lit (wvals C s' i') l=true) /\
  ∀ s' i',(s'<s∨(s'=s/\i'<i))->i'<2 ^ C.ins.length->okB C s' i'=true->0≤depI (wdC C) s'->lit (wvals C s' i') l=true->(d:Int)≤depI (wdC C) s'
theorem BadS.start {C:Circ} {l:Int}:BadS C l 0 0 (-1):=.inl ⟨rfl,fun s' i' h=>by omega⟩
theorem BadS.same {C:Circ} {l:Int} {s i s2 i2:Nat} {z:Int} (b:BadS C l s i z)
  (h:∀ s' i',(s'<s2∨(s'=s2/\i'<i2))->i'<2 ^ C.ins.length->okB C s' i'=true->0≤depI (wdC C) s'->(s'<s∨(s'=s/\i'<i))∨lit (wvals C s' i') l=false∨(0≤z/\z≤depI (wdC C) s')):BadS C l s2 i2 z:=by
 rcases b with ⟨rfl,h1⟩ | ⟨d,rfl,h1,h2⟩
 ·refine .inl ⟨rfl,fun s' i' a1 a2 a3 a4=>?_⟩
  rcases h s' i' a1 a2 a3 a4 with h | h | h
  ·exact h1 s' i' h a2 a3 a4
  ·exact h
  ·omega
 ·refine .inr ⟨d,rfl,h1,fun s' i' a1 a2 a3 a4 a5=>?_⟩
  rcases h s' i' a1 a2 a3 a4 with h | h | h
  ·exact h2 s' i' h a2 a3 a4 a5
  ·rw [h] at a5;cases a5
  ·exact h.2
theorem BadS.put {C:Circ} {l:Int} {s i:Nat} {z:Int} (b:BadS C l s i z) (hi:i<2 ^ C.ins.length) (ho:okB C s i=true) (hd:0≤depI (wdC C) s) (hl:lit (wvals C s i) l=true) (hz:z<0∨depI (wdC C) s<z):BadS C l s (i+1) (depI (wdC C) s):=by
 obtain ⟨e,he⟩:∃ e:Nat,depI (wdC C) s=e:=⟨(depI (wdC C) s).toNat,by omega⟩
 refine .inr ⟨e,he,⟨s,i,hi,ho,he,hl⟩,fun s' i' a1 a2 a3 a4 a5=>?_⟩
 by_cases hsi:s'=s/\i'=i
 ·rw [hsi.1];omega
 ·have a1':s'<s∨(s'=s/\i'<i):=by omega
  rcases b with ⟨rfl,h1⟩ | ⟨d,rfl,h1,h2⟩
  ·rw [h1 s' i' a1' a2 a3 a4] at a5;cases a5
  ·have:=h2 s' i' a1' a2 a3 a4 a5;omega
theorem BadS.fin {C:Circ} {l:Int} {z:Int} (b:BadS C l (2 ^ C.lats.length) 0 z):BadIs (wdC C) (fun a=>lit a.vl l=true) z:=by
 have lt:∀ {s d},IsDep (wdC C) s d->s<2 ^ C.lats.length:=fun {s d} h=>h.1.lt (wd_ok C)
 rcases b with ⟨rfl,h⟩ | ⟨d,rfl,⟨s,i,h1,h2,h3,h4⟩,h⟩
 ·refine .inl ⟨rfl,fun s d hd a ha hp=>?_⟩
  obtain ⟨i,h1,h2,rfl⟩:=arc_okB ha
  have:=h s i (.inl (lt hd)) h1 h2 (by rw [depI_eq hd];omega)
  rw [show lit (wvals C s i) l=true from hp] at this
  cases this
 ·refine .inr ⟨d,rfl,⟨s,_,depI_is h3,okB_arc h1 h2,h4⟩,fun s' e a hd ha hp=>?_⟩
  obtain ⟨i',k1,k2,rfl⟩:=arc_okB ha
  have:=h s' i' (.inl (lt hd)) k1 k2 (by rw [depI_eq hd];omega) hp
  rw [depI_eq hd] at this
  omega
end Go.Hx
namespace Go.Proofs.YtdpbdjdgdmheiaaGreat
open Go.Hx Go.Deep
section
variable {h:Heap} {k:Addr} {v:CV} {C:Circ}
theorem dep_get {h:Heap} {ad:Addr} (r:Rd h (some ad) (2 ^ C.lats.length) (ints (depL (wdC C)))) {s:Nat} (hs:s<2 ^ C.lats.length):cellH h (ad.add (Int.toNat (s:Int)*1))=some (.int .i64 (depI (wdC C) s)):=by
 rw [Int.toNat_natCast,Nat.mul_one]
 exact r.fld s (by rw [ints,List.getElem?_map,depL_at hs];rfl)
set_option maxRecDepth 4000 in
theorem c17 (r:CIs h v C) (ok:C.Ok):CallsH Tryz.prog 17 #[v.v] h (SprP C h):=by
 refine run17 v _ h ?_
 unfold VC17
 intro h1 h2
 have e1:Ext h h1:=Ext.box h _
 have e12:Ext h1 h2:=Ext.push h1 _
 have e2:=e1.trans e12
 have hb:Rd h2 (some ⟨h.size,0,none⟩) 11 v.cs:=(boxC v 29).ext e12
 have fb:Fr h1 1 h2 (some ⟨h1.size,0,none⟩) 2 2 [.slice none 0 0,.int .i64 0]:=Fr.lit (.refl h1) [.slice none 0 0,.int .i64 0] 41 2 rfl
 refine ldC hb (useX (c44 (r.ext e2) ok) fun h3 e3=>⟨_,rfl,fun hz=>?_,fun hz=>?_⟩)
 rotate_left
 ·refine (fb.upd e3).put (ws:=[.slice none 0 0,.int .i64 0]) rfl (by simp [Value.oneCell']) fun h4 f4 u4=>cells2 f4.rd ⟨e1.trans f4.ext,.inr ⟨hz,rfl⟩⟩
 obtain ⟨hc,hL,hI⟩:=fewE_0 hz
 have hn256:2 ^ C.lats.length≤256:=Nat.pow_le_pow_right (n:=2) (by omega) hL
 unfold J17_0
 refine ldC (hb.ext e3) ((c46 (r.ext (e2.trans e3)) ok hz).mono ?_)
 rintro _ h5 ⟨e5,k,rfl,_,w⟩
 refine ⟨_,rfl,(c47 w).mono ?_⟩
 rintro _ h6 ⟨ad,rfl,f6⟩
 refine ⟨_,_,_,rfl,?_⟩
 intro h7
 have f7:Fr h6 1 h7 (some ⟨h6.size,0,none⟩) 2 2 [.slice none 0 0,.int .i64 0]:=Fr.lit (.refl h6) [.slice none 0 0,.int .i64 0] 41 2 rfl
 have e25:=e3.trans e5
 have m7:Mem h1 h7 [⟨1,some ⟨h6.size,0,none⟩,2,2,[.slice none 0 0,.int .i64 0]⟩,⟨1,some ad,2 ^ C.lats.length,2 ^ C.lats.length,ints (depL (wdC C))⟩,⟨1,some ⟨h1.size,0,none⟩,2,2,[.slice none 0 0,.int .i64 0]⟩]:=((((Mem.nil (.refl h1)).add (t:=⟨1,some ⟨h1.size,0,none⟩,2,2,[.slice none 0 0,.int .i64 0]⟩) fb).ext' e25).add (t:=⟨1,some ad,2 ^ C.lats.length,2 ^ C.lats.length,ints (depL (wdC C))⟩) f6).add (t:=⟨1,some ⟨h6.size,0,none⟩,2,2,[.slice none 0 0,.int .i64 0]⟩) f7
 refine (m7.get 0 rfl).put (ws:=[.slice (some ad) (2 ^ C.lats.length) (2 ^ C.lats.length),.int .i64 0]) rfl (by simp [Value.oneCell']) fun h8 f8 u8=>?_
 have m8:=m7.setAt 0 (t':=⟨1,some ⟨h6.size,0,none⟩,2,2,[.slice (some ad) (2 ^ C.lats.length) (2 ^ C.lats.length),.int .i64 0]⟩) rfl f8 u8 (.inl rfl)
 refine LoopT.to (n:=2 ^ C.lats.length) (by omega) (fun s h'=>∃ y:Int,Mem h1 h' [⟨1,some ⟨h6.size,0,none⟩,2,2,[.slice (some ad) (2 ^ C.lats.length) (2 ^ C.lats.length),.int .i64 y]⟩,⟨1,some ad,2 ^ C.lats.length,2 ^ C.lats.length,ints (depL (wdC C))⟩,⟨1,some ⟨h1.size,0,none⟩,2,2,[.slice none 0 0,.int .i64 0]⟩] /\
  0≤y/\(∀ t,t<s->depI (wdC C) t≤y)/\(y=0∨∃ t d,IsDep (wdC C) t d/\y=d)) ⟨0,m8,Int.le_refl _,fun t ht=>by omega,.inl rfl⟩ ?_
 rintro s h9 K hs ⟨y,m9,y0,y1,y2⟩ hK
 refine ⟨fun hlt=>?_,fun hlt=>?_⟩
 ·have hs2:s<2 ^ C.lats.length:=by omega
  unfold J17_2
  have r9:Rd h9 (some ad) (2 ^ C.lats.length) (ints (depL (wdC C))):=(m9.get 1 rfl).rd
  refine ⟨_,(m9.get 0 rfl).rd.fld 1 rfl,by omega,by omega,AtP.mk rfl ⟨_,dep_get r9 hs2,?_⟩⟩
  refine (m9.get 0 rfl).cellAt 1 (by omega) rfl fun h10 u10 f10=>hK h10 hs2 ⟨max y (depI (wdC C) s),m9.setAt 0 rfl f10 u10 (.inl rfl),by omega,fun t ht=>?_,?_⟩
  ·by_cases hts:t=s
   ·subst hts;omega
   ·have:=y1 t (by omega);omega
  ·rcases depI_cases (W:=wdC C) s with ⟨d,hd,hx⟩ | ⟨_,hx⟩
   ·by_cases hyd:y≤depI (wdC C) s
    ·exact .inr ⟨s,d,hd,by omega⟩
    ·rw [Int.max_eq_left (by omega)];exact y2
   ·rw [Int.max_eq_left (by omega)];exact y2
 ·obtain rfl:s=2 ^ C.lats.length:=by omega
  unfold J17_1
  refine cells2 (m9.get 0 rfl).rd ?_
  refine (m9.get 2 rfl).put (ws:=[.slice (some ad) (2 ^ C.lats.length) (2 ^ C.lats.length),.int .i64 y]) rfl (by simp [Value.oneCell']) fun h13 f13 u13=>?_
  have m13:=m9.setAt 2 (t':=⟨1,some ⟨h1.size,0,none⟩,2,2,[.slice (some ad) (2 ^ C.lats.length) (2 ^ C.lats.length),.int .i64 y]⟩) rfl f13 u13 (.inl rfl)
  refine cells2 f13.rd ⟨e1.trans f13.ext,.inl ⟨hz,_,_,_,_,rfl,(m13.get 1 rfl).base e1,y0,fun t d hd=>?_,y2⟩⟩
  have:=y1 t (hd.1.lt (wd_ok C))
  rw [depI_eq hd] at this
  exact this
theorem c52 (w:RWs h k C) {l:Int} (h0:0≤l) (hl:l≤2*C.mx+1):CallsH Tryz.prog 52 #[.pointer (some k),.int .i64 l] h fun x h'=>Ext h h'/\∃ z,x=.int .i64 z/\BadIs (wdC C) (fun a=>lit a.vl l=true) z:=by
 obtain ⟨hz,hL,hI⟩:=fewE_0 w.few
 have hm:=(chk_bounds hz).1
 have hn256:2 ^ C.lats.length≤256:=Nat.pow_le_pow_right (n:=2) (by omega) hL
 have hi64:2 ^ C.ins.length≤64:=Nat.pow_le_pow_right (n:=2) (by omega) hI
 refine run52 (some k) l _ h ((c47 w).mono ?_)
 rintro _ h1 ⟨ad,rfl,f1⟩
 have w1:=w.ext f1.ext
 have r1:Rd h1 (some ad) (2 ^ C.lats.length) (ints (depL (wdC C))):=f1.rd
 refine ⟨_,_,_,rfl,LoopT.to2 (n:=2 ^ C.lats.length) (by omega) (fun s (z:Int) h'=>h1=h'/\BadS C l s 0 z) ⟨rfl,BadS.start⟩ ?_⟩
 rintro s z _ K hs ⟨rfl,b⟩ hK
 dsimp only
 refine AtP.mk rfl ⟨_,w1.st,fun hlt=>?_,fun hlt=>?_⟩
 ·have hs2:s<2 ^ C.lats.length:=by omega
  unfold J52_1
  refine LoopT.to2 (n:=2 ^ C.ins.length) (by omega) (fun i (z:Int) h'=>h1=h'/\BadS C l s i z) ⟨rfl,b⟩ ?_
  clear b z
  rintro i z _ K2 hi ⟨rfl,b⟩ hK2
  dsimp only
  have rowEnd:i=2 ^ C.ins.length∨depI (wdC C) s<0->BadS C l (s+1) 0 z:=fun hor=>b.same fun s' i' a1 a2 a3 a4=>.inl (by
   rcases hor with h | h
   ·omega
   ·by_cases hss:s'=s
    ·subst hss;omega
    ·omega)
  refine AtP.mk rfl ⟨_,w1.rw,fun hlt=>⟨by omega,by omega,AtP.mk rfl ⟨_,dep_get r1 hs2,fun hpos=>?_,fun hneg=>?_⟩⟩,fun hlt=>?_⟩
  ·have hi2:i<2 ^ C.ins.length:=by omega
   have skip:(okB C s i=true->lit (wvals C s i) l=false∨(0≤z/\z≤depI (wdC C) s))->BadS C l s (i+1) z:=fun hh=>b.same fun s' i' a1 a2 a3 a4=>by
    by_cases hsi:s'=s/\i'=i
    ·obtain ⟨rfl,rfl⟩:=hsi;exact .inr (hh a3)
    ·exact .inl (by omega)
   unfold J52_3
   refine w1.rdH hs2 hi2 ?_
   cases ho:okB C s i with
   | false=>exact BIf.f (hK2 _ _ hi2 ⟨rfl,skip fun h=>(by rw [ho] at h;cases h)⟩)
   | true=>
    refine BIf.t (w1.rdV hs2 hi2 fun va vc rv=>use (c58 rv h0 (by omega) (by omega)) ⟨_,rfl,?_⟩)
    cases hlv:lit (wvals C s i) l with
    | false=>exact BIf.f (hK2 _ _ hi2 ⟨rfl,skip fun _=>.inl hlv⟩)
    | true=>
     refine BIf.t ⟨fun hz0=>⟨by omega,by omega,AtP.mk rfl ⟨_,dep_get r1 hs2,hK2 _ _ hi2 ⟨rfl,b.put hi2 ho hpos hlv (.inl hz0)⟩⟩⟩,fun hz0=>⟨by omega,by omega,AtP.mk rfl ⟨_,dep_get r1 hs2,fun hlt2=>⟨by omega,by omega,AtP.mk rfl ⟨_,dep_get r1 hs2,hK2 _ _ hi2 ⟨rfl,b.put hi2 ho hpos hlv (.inr hlt2)⟩⟩⟩,fun hge=>hK2 _ _ hi2 ⟨rfl,skip fun _=>.inr ⟨by omega,by omega⟩⟩⟩⟩⟩
  ·exact hK _ _ hs2 ⟨rfl,rowEnd (.inr (by omega))⟩
  ·exact hK _ _ hs2 ⟨rfl,rowEnd (.inl (by omega))⟩
 ·obtain rfl:s=2 ^ C.lats.length:=by omega
  exact ⟨f1.ext,z,rfl,b.fin⟩
set_option maxRecDepth 4000 in
theorem c19 (r:CIs h v C) (ok:C.Ok) (i:Int):CallsH Tryz.prog 19 #[v.v,.int .i64 i] h (BadP C i h):=by
 have q4:=r.len.b
 refine run19 v i _ h ?_
 unfold VC19
 intro h1
 have e1:Ext h h1:=Ext.box h _
 have hb:Rd h1 (some ⟨h.size,0,none⟩) 11 v.cs:=boxC v 29
 refine ldC hb (useX (c44 (r.ext e1) ok) fun h2 e2=>⟨_,rfl,fun hz=>?_,fun hz=>?_⟩)
 rotate_left
 ·have hE:badE C i=fewE C:=by unfold badE;rw [if_pos hz]
  exact ⟨e1.trans e2,.inr ⟨by rw [hE];exact hz,by rw [hE]⟩⟩
 obtain ⟨hc,hL,hI⟩:=fewE_0 hz
 have e02:=e1.trans e2
 have hb2:=hb.ext e2
 have noi:¬ (0≤i/\i<C.bads.length)->BadP C i h (.tuple #[.int .i64 0,.int .i64 5]) h2:=fun hn=>by
  have hE:badE C i=5:=by unfold badE;rw [if_neg (by simp [hz]),if_neg hn]
  exact ⟨e02,.inr ⟨by rw [hE];omega,by rw [hE]⟩⟩
 unfold J19_0
 refine ⟨fun hi=>noi (by omega),fun hi=>⟨_,_,_,hb2.fld 4 rfl,fun hi2=>noi (by omega),fun hi2=>?_⟩⟩
 have hE:badE C i=0:=by unfold badE;rw [if_neg (by simp [hz]),if_pos (by omega)]
 have hil:i.toNat<C.bads.length:=by omega
 have hx:C.bads[i.toNat]?=some C.bads[i.toNat]:=List.getElem?_eq_getElem hil
 generalize C.bads[i.toNat]=l at hx
 obtain ⟨hb0,hb1⟩:=(good_lits hc).2.2.1 l (List.mem_of_getElem? hx)
 unfold J19_1
 have hblt:(Addr.mk h.size 0 none).block<h2.size:=by have:=cellH_lt (hb2.fld 0 rfl);rwa [add_block] at this
 refine ⟨hblt,ldC hb2 ((c46 (r.ext e02) ok hz).mono ?_)⟩
 rintro _ h3 ⟨e3,k,rfl,_,w⟩
 have r2:=r.ext e02
 refine ⟨_,rfl,agrE e3 (Nat.le_refl _),by rw [add_block];exact hblt,_,_,_,(hb2.ext e3).fld 4 rfl,by omega,rd_getqB (r2.b.ext e3) r2.b (by omega) hx fun ad hlt hcell=>⟨hlt,_,hcell,(c52 w hb0 hb1).mono ?_⟩⟩
 rintro _ h4 ⟨e4,z,rfl,bz⟩
 exact ⟨_,rfl,agrE e4 e3.1,(e02.trans e3).trans e4,.inl ⟨hE,z,l,hx,rfl,bz⟩⟩
end
end Go.Proofs.YtdpbdjdgdmheiaaGreat
namespace Go.Hx
open Go.Proofs.YtdpbdjdgdmheiaaGreat
theorem any_warcs {C:Circ} {s:Nat} {q:Arc->Bool}:∀ n,(warcs C s n).any q=(List.range n).any fun r=>okB C s r && q ⟨r,nxN C s r,wvals C s r⟩
 | 0=>rfl
 | n+1=>by
  rw [warcs_succ,List.any_append,any_warcs n,List.range_succ,List.any_append,warc_eq]
  congr 1
  cases h:okB C s n <;> simp [h]
noncomputable def ldL (C:Circ) (l:Int) (d:Nat):List Bool:=(List.range (2 ^ C.lats.length)).map (ldB (wdC C) (litP l) d)
noncomputable def tsR (C:Circ) (l:Int) (d s r:Nat):Bool:=okB C s r && tsB (wdC C) (litP l) d ⟨r,nxN C s r,wvals C s r⟩
noncomputable def ldU (C:Circ) (l:Int) (d s i:Nat):Bool:=(List.range i).any (tsR C l d s)
theorem ldU_all {C:Circ} {l:Int} {d s:Nat}:ldU C l d s (2 ^ C.ins.length)=ldB (wdC C) (litP l) d s:=by
 rw [ldB_eq]
 exact (any_warcs _).symm
theorem ldU_succ {C:Circ} {l:Int} {d s i:Nat}:ldU C l d s (i+1)=(ldU C l d s i || tsR C l d s i):=by
 unfold ldU
 rw [List.range_succ,List.any_append]
 simp
noncomputable def ldF (C:Circ) (l:Int) (d s i:Nat):List Bool:=(List.range (2 ^ C.lats.length)).map fun t=>if t<s then ldB (wdC C) (litP l) d t else if t=s then ldU C l d s i else false
theorem ldF_same {C:Circ} {l:Int} {d s i:Nat} (h:tsR C l d s i=false):ldF C l d s (i+1)=ldF C l d s i:=by
 unfold ldF
 rw [ldU_succ,h,Bool.or_false]
theorem ldF_row {C:Circ} {l:Int} {d s:Nat}:ldF C l d s (2 ^ C.ins.length)=ldF C l d (s+1) 0:=by
 unfold ldF
 refine List.map_congr_left fun t ht=>?_
 rw [ldU_all]
 by_cases h1:t<s
 ·rw [if_pos h1,if_pos (by omega)]
 ·rw [if_neg h1]
  by_cases h2:t=s
  ·subst h2
   rw [if_pos rfl,if_pos (by omega)]
  ·rw [if_neg h2,if_neg (by omega)]
   split <;> rfl
theorem range_setB {n i:Nat} {f:Nat->Bool} {v:Bool}:((List.range n).map f).set i v=(List.range n).map fun s=>if s=i then v else f s:=by
 refine List.ext_getElem? fun j=>?_
 rw [List.getElem?_set,List.getElem?_map]
 by_cases hj:j<n
 ·by_cases hij:i=j
  ·subst hij;simp [hj]
  ·rw [if_neg hij];simp [hj,Ne.symm hij]
 ·have h1:(List.range n)[j]?=none:=List.getElem?_eq_none (by simp;omega)
  by_cases hij:i=j
  ·subst hij;simp [hj]
  ·rw [if_neg hij];simp [hj]
theorem ldF_put {C:Circ} {l:Int} {d s i:Nat} (h:tsR C l d s i=true):(ldF C l d s i).set s true=ldF C l d s (i+1):=by
 unfold ldF
 rw [range_setB]
 refine List.map_congr_left fun t ht=>?_
 rw [ldU_succ,h,Bool.or_true]
 by_cases h2:t=s
 ·subst h2
  rw [if_pos rfl,if_neg (by omega),if_pos rfl]
 ·rw [if_neg h2,if_neg h2,if_neg h2]
theorem ldF_end {C:Circ} {l:Int} {d:Nat}:ldF C l d (2 ^ C.lats.length) 0=ldL C l d:=by
 unfold ldF ldL
 refine List.map_congr_left fun t ht=>?_
 rw [if_pos (List.mem_range.1 ht)]
theorem ldF_0 {C:Circ} {l:Int} {d:Nat}:ldF C l d 0 0=List.replicate (2 ^ C.lats.length) false:=by
 refine List.ext_getElem? fun i=>?_
 rw [List.getElem?_replicate,ldF,List.getElem?_map]
 by_cases hi:i<2 ^ C.lats.length
 ·rw [if_pos hi,List.getElem?_range hi]
  show some (if i<0 then ldB (wdC C) (litP l) d i else if i=0 then ldU C l d 0 0 else false)=_
  rw [if_neg (by omega)]
  congr 1
  split <;> rfl
 ·rw [if_neg hi,List.getElem?_eq_none (by rw [List.length_range];omega)];rfl
def LdRows (C:Circ) (l:Int) (X:List Itm) (ys:List Sl):Prop:=∀ e y,ys[e]?=some y->y.n=2 ^ C.lats.length/\∃ ad,y.a=some ad/\(⟨1,some ad,2 ^ C.lats.length,y.c,bools (ldL C l e)⟩:Itm)∈X
def LeftP (C:Circ) (l:Int) (depth:Nat) (h:Heap) (x:Value) (h':Heap):Prop:=Ext h h'/\∃ (ad:Addr) (ys:List Sl),x=.slice (some ad) (depth+1) (depth+1)/\Rd h' (some ad) (depth+1) (ys.map Sl.v)/\∀ e y,ys[e]?=some y->y.n=2 ^ C.lats.length/\Rd h' y.a (2 ^ C.lats.length) (bools (ldL C l e))
end Go.Hx
namespace Go.Proofs.YtdpbdjdgdmheiaaGreat
open Go.Hx Go.Deep
section
variable {h:Heap} {k:Addr} {v:CV} {C:Circ}
set_option maxRecDepth 4000 in
theorem c56 (w:RWs h k C) {l:Int} (h0:0≤l) (hl:l≤2*C.mx+1) {depth:Nat} (hd:depth≤1000):CallsH Tryz.prog 56 #[.pointer (some k),.int .i64 l,.int .i64 (depth:Int)] h (LeftP C l depth h):=by
 obtain ⟨hz,hL,hI⟩:=fewE_0 w.few
 have hm:=(chk_bounds hz).1
 have hn256:2 ^ C.lats.length≤256:=Nat.pow_le_pow_right (n:=2) (by omega) hL
 have hi64:2 ^ C.ins.length≤64:=Nat.pow_le_pow_right (n:=2) (by omega) hI
 refine run56 (some k) l depth _ h ?_
 have wd1:IntKind.wrap .i64 ((depth:Int)+1)=((depth+1:Nat):Int):=by rw [w64 (by omega) (by omega)];rfl
 unfold VC56
 rw [wd1]
 refine ⟨by omega,Int.le_refl _,by omega,?_⟩
 rw [Int.toNat_natCast]
 intro h1
 have f1:Fr h 1 h1 (some ⟨h.size,0,none⟩) (depth+1) (depth+1) (List.replicate (depth+1) (.slice none 0 0)):=Fr.zeros (h:=h) (.slice none 0 0) 46 (depth+1)
 refine LoopT.to (n:=depth+1) (by omega) (fun d h'=>∃ ys X,ys.length=d/\LdRows C l X ys/\Mem h h' (⟨1,some ⟨h.size,0,none⟩,depth+1,depth+1,ys.map Sl.v++List.replicate (depth+1-d) (Value.slice none 0 0)⟩::X)) ⟨[],[],rfl,(by intro e y hy;cases hy),(Mem.nil (.refl h)).add (t:=⟨1,some ⟨h.size,0,none⟩,depth+1,depth+1,List.replicate (depth+1) (Value.slice none 0 0)⟩) f1⟩ ?_
 rintro d h2 K hdl ⟨ys,X,hys,hX,m2⟩ hK
 refine ⟨fun hlt=>?_,fun hlt=>?_⟩
 rotate_left
 ·obtain rfl:d=depth+1:=by omega
  unfold J56_0
  rw [wd1,Int.toNat_natCast]
  rw [Nat.sub_self,List.replicate_zero,List.append_nil] at m2
  refine ⟨m2.ext,_,ys,rfl,(m2.get 0 rfl).rd,fun e y hy=>?_⟩
  obtain ⟨a1,ad,a2,a3⟩:=hX e y hy
  refine ⟨a1,?_⟩
  rw [a2]
  exact Rd.one (m2.fr _ (List.mem_cons_of_mem _ a3)).own.rd
 have hd2:d≤depth:=by omega
 have w2:=w.ext m2.ext
 unfold J56_1
 refine AtP.mk rfl ⟨_,w2.st,Int.natCast_nonneg _,Int.le_refl _,by omega,?_⟩
 rw [Int.toNat_natCast]
 intro h3
 have f3:Fr h2 1 h3 (some ⟨h2.size,0,none⟩) (2 ^ C.lats.length) (2 ^ C.lats.length) (bools (ldF C l d 0 0)):=by
  rw [ldF_0,bools,List.map_replicate]
  exact Fr.zeros (h:=h2) (.bool false) 4 (2 ^ C.lats.length)
 have m3:Mem h h3 (⟨1,some ⟨h.size,0,none⟩,depth+1,depth+1,ys.map Sl.v++List.replicate (depth+1-d) (Value.slice none 0 0)⟩::⟨1,some ⟨h2.size,0,none⟩,2 ^ C.lats.length,2 ^ C.lats.length,bools (ldF C l d 0 0)⟩::X):=m2.addIn (A:=[_]) f3
 refine ⟨by omega,by rw [wd1,Int.toNat_natCast];omega,(m3.get 0 rfl).at1 (j:=(d:Int)) (by omega) (by omega) rfl fun h4 u4 f4=>?_⟩
 have eset:(ys.map Sl.v++List.replicate (depth+1-d) (Value.slice none 0 0)).set (Int.toNat (d:Int)) (.slice (some ⟨h2.size,0,none⟩) (2 ^ C.lats.length) (2 ^ C.lats.length))=(ys++[(⟨some ⟨h2.size,0,none⟩,2 ^ C.lats.length,2 ^ C.lats.length⟩:Sl)]).map Sl.v++List.replicate (depth+1-(d+1)) (.slice none 0 0):=by
  rw [Int.toNat_natCast,List.set_append_right _ _ (by simp [hys]),List.length_map,hys,Nat.sub_self,show depth+1-d=(depth+1-(d+1))+1 by omega,List.replicate_succ,List.set_cons_zero,List.map_append,List.append_assoc]
  rfl
 rw [eset] at f4
 have m4:=m3.setAt 0 (t':=⟨1,some ⟨h.size,0,none⟩,depth+1,depth+1,(ys++[(⟨some ⟨h2.size,0,none⟩,2 ^ C.lats.length,2 ^ C.lats.length⟩:Sl)]).map Sl.v++List.replicate (depth+1-(d+1)) (Value.slice none 0 0)⟩) rfl f4 u4 (.inl rfl)
 refine LoopT.to (n:=2 ^ C.lats.length) (by omega) (fun s h'=>Mem h h' (⟨1,some ⟨h.size,0,none⟩,depth+1,depth+1,(ys++[(⟨some ⟨h2.size,0,none⟩,2 ^ C.lats.length,2 ^ C.lats.length⟩:Sl)]).map Sl.v++List.replicate (depth+1-(d+1)) (Value.slice none 0 0)⟩::⟨1,some ⟨h2.size,0,none⟩,2 ^ C.lats.length,2 ^ C.lats.length,bools (ldF C l d s 0)⟩::X)) m4 ?_
 clear m4 f4 u4 m3 m2 w2 f3 f1 eset
 rintro s h5 K1 hs m5 hK1
 refine AtP.mk rfl ⟨_,(w.ext m5.ext).st,fun hlt=>?_,fun hlt=>?_⟩
 rotate_left
 ·obtain rfl:s=2 ^ C.lats.length:=by omega
  rw [ldF_end] at m5
  unfold J56_2
  refine hK h5 (by omega) ⟨_,_,?_,fun e y hy=>?_,m5⟩
  ·rw [List.length_append,hys];rfl
  ·rcases snoc_at hy with h | ⟨rfl,rfl⟩
   ·obtain ⟨a1,ad,a2,a3⟩:=hX e y h
    exact ⟨a1,ad,a2,List.mem_cons_of_mem _ a3⟩
   ·rw [hys]
    exact ⟨rfl,_,rfl,List.mem_cons_self ..⟩
 have hs2:s<2 ^ C.lats.length:=by omega
 unfold J56_3
 refine LoopT.to (n:=2 ^ C.ins.length) (by omega) (fun i h'=>Mem h h' (⟨1,some ⟨h.size,0,none⟩,depth+1,depth+1,(ys++[(⟨some ⟨h2.size,0,none⟩,2 ^ C.lats.length,2 ^ C.lats.length⟩:Sl)]).map Sl.v++List.replicate (depth+1-(d+1)) (Value.slice none 0 0)⟩::⟨1,some ⟨h2.size,0,none⟩,2 ^ C.lats.length,2 ^ C.lats.length,bools (ldF C l d s i)⟩::X)) m5 ?_
 clear m5 h5
 rintro i h5 K2 hi m hK2
 have w5:=w.ext m.ext
 refine AtP.mk rfl ⟨_,w5.rw,fun hlt=>?_,fun hlt=>?_⟩
 rotate_left
 ·obtain rfl:i=2 ^ C.ins.length:=by omega
  rw [ldF_row] at m
  exact hK1 h5 hs2 m
 have hi2:i<2 ^ C.ins.length:=by omega
 unfold J56_5
 refine w5.rdH hs2 hi2 ?_
 have skip:tsR C l d s i=false->K2 (IntKind.wrap .i64 ((i:Int)+1)) h5:=fun ht=>hK2 h5 hi2 (by rw [ldF_same ht];exact m)
 cases ho:okB C s i with
 | false=>exact BIf.t (skip (by unfold tsR;rw [ho];rfl))
 | true=>
  refine BIf.f ?_
  have tse:tsR C l d s i=tsB (wdC C) (litP l) d ⟨i,nxN C s i,wvals C s i⟩:=by unfold tsR;rw [ho];rfl
  have rO:=(m.get 0 rfl).rd
  have fr:=m.get 1 (sz:=1) (a:=some ⟨h2.size,0,none⟩) (n:=2 ^ C.lats.length) (c:=2 ^ C.lats.length) rfl
  have cellD:cellH h5 ((Addr.mk h.size 0 none).add (Int.toNat (d:Int)*1))=some (.slice (some ⟨h2.size,0,none⟩) (2 ^ C.lats.length) (2 ^ C.lats.length)):=by
   rw [Int.toNat_natCast,Nat.mul_one]
   exact rO.fld d (by rw [List.getElem?_append_left (by simp [hys]),List.getElem?_map,List.getElem?_append_right (by omega),hys,Nat.sub_self];rfl)
  have put:∀ {K':Int->Heap->Prop},K'=K2->tsR C l d s i=true->(0:Int)≤(d:Int)/\(d:Int)<(Int.toNat (IntKind.wrap .i64 ((depth:Int)+1)):Nat)/\∃ (A9:Option Addr) (N9 C9:Nat),cellH h5 ((Addr.mk h.size 0 none).add (Int.toNat (d:Int)*1))=some (.slice A9 N9 C9)/\(0:Int)≤(s:Int)/\(s:Int)<(N9:Nat)/\AtP A9 fun ad14=>StoreH h5 (ad14.add (Int.toNat (s:Int)*1)) [.bool true] fun h12=>K' (IntKind.wrap .i64 ((i:Int)+1)) h12:=fun {K'} hKK ht=>by
   subst hKK
   refine ⟨by omega,by rw [wd1,Int.toNat_natCast];omega,_,_,_,cellD,by omega,by omega,AtP.mk rfl (fr.at1 (j:=(s:Int)) (by omega) (by omega) rfl fun h6 u6 f6=>hK2 h6 hi2 ?_)⟩
   have bset:(bools (ldF C l d s i)).set (Int.toNat (s:Int)) (.bool true)=bools (ldF C l d s (i+1)):=by rw [Int.toNat_natCast,bools,<- List.map_set,ldF_put ht]
   rw [bset] at f6
   exact m.setAt 1 (t':=⟨1,some ⟨h2.size,0,none⟩,2 ^ C.lats.length,2 ^ C.lats.length,bools (ldF C l d s (i+1))⟩) rfl f6 u6 (.inl rfl)
  unfold J56_6
  refine ⟨fun hd0=>?_,fun hd0=>⟨fun hpos=>?_,fun hneg=>absurd (by omega) hneg⟩⟩
  ·obtain rfl:d=0:=by omega
   refine w5.rdV hs2 hi2 fun va vc rv=>use (c58 rv h0 (by omega) (by omega)) ⟨_,rfl,?_⟩
   have tse0:tsR C l 0 s i=lit (wvals C s i) l:=tse
   cases hlv:lit (wvals C s i) l with
   | true=>exact BIf.t (put rfl (by rw [tse0,hlv]))
   | false=>exact BIf.f ⟨fun hh=>absurd hh (by omega),fun _=>skip (by rw [tse0,hlv])⟩
  ·obtain ⟨e,rfl⟩:∃ e,d=e+1:=⟨d-1,by omega⟩
   have we:IntKind.wrap .i64 (((e+1:Nat):Int)-1)=(e:Int):=by rw [w64 (by omega) (by omega)];omega
   have hey:e<ys.length:=by omega
   obtain ⟨y1,ad,y2,y3⟩:=hX e _ (List.getElem?_eq_getElem hey)
   have cellE:cellH h5 ((Addr.mk h.size 0 none).add (Int.toNat (e:Int)*1))=some (.slice (some ad) (2 ^ C.lats.length) ys[e].c):=by
    rw [Int.toNat_natCast,Nat.mul_one]
    refine rO.fld e ?_
    rw [List.getElem?_append_left (by simp;omega),List.getElem?_map,List.getElem?_append_left hey,List.getElem?_eq_getElem hey]
    show some (Value.slice ys[e].a ys[e].n ys[e].c)=_
    rw [y1,y2]
   rw [we,wd1]
   refine ⟨by omega,by rw [Int.toNat_natCast];omega,_,_,_,cellE,w5.rdN hs2 hi2 ⟨by omega,by have:=nxN_lt (C:=C) (s:=s) (i:=i);omega,?_⟩⟩
   have rE:Rd h5 (some ad) (2 ^ C.lats.length) (bools (ldL C l e)):=Rd.one (m.fr ⟨1,some ad,2 ^ C.lats.length,ys[e].c,bools (ldL C l e)⟩ (List.mem_cons_of_mem _ (List.mem_cons_of_mem _ y3))).own.rd
   have hnx:=nxN_lt (C:=C) (s:=s) (i:=i)
   have cellX:cellH h5 (ad.add (Int.toNat (nxN C s i:Int)*1))=some (.bool (ldB (wdC C) (litP l) e (nxN C s i))):=by
    rw [Int.toNat_natCast,Nat.mul_one]
    exact rE.fld _ (by rw [bools,ldL,List.map_map,List.getElem?_map,List.getElem?_range hnx];rfl)
   refine AtP.mk rfl ⟨_,cellX,?_⟩
   have tseE:tsR C l (e+1) s i=ldB (wdC C) (litP l) e (nxN C s i):=tse
   rw [<- wd1]
   cases hlv:ldB (wdC C) (litP l) e (nxN C s i) with
   | true=>exact BIf.t (put rfl (by rw [tseE,hlv]))
   | false=>exact BIf.f (skip (by rw [tseE,hlv]))
end
end Go.Proofs.YtdpbdjdgdmheiaaGreat
namespace Go.Hx
open Go.Proofs.YtdpbdjdgdmheiaaGreat
theorem st_find {C:Circ} {q:Nat->Bool} (h:∃ s∈(wdC C).st,q s=true):∃ s0,(wdC C).st.find? q=some s0/\s0<2 ^ C.lats.length/\wst C s0=true/\q s0=true/\∀ s,s<s0->wst C s=true->q s=false:=by
 obtain ⟨s,hs,hq⟩:=h
 cases hf:(wdC C).st.find? q with
 | none=>rw [List.find?_eq_none] at hf;exact absurd hq (hf s hs)
 | some s0=>
  have hf2:((List.range (2 ^ C.lats.length)).filter (wst C)).find? q=some s0:=hf
  rw [List.find?_filter,List.find?_range_eq_some] at hf2
  obtain ⟨h1,h2,h3⟩:=hf2
  have h1:wst C s0=true/\q s0=true:=by simpa using h1
  refine ⟨s0,rfl,List.mem_range.1 h2,h1.1,h1.2,fun s hs hw=>?_⟩
  have:=h3 s hs
  simpa [hw] using this
theorem arc_find {C:Circ} {s:Nat} {q:Arc->Bool} (h:((wdC C).arcs s).any q=true):∃ r,r<2 ^ C.ins.length/\okB C s r=true/\q ⟨r,nxN C s r,wvals C s r⟩=true/\((wdC C).arcs s).find? q=some ⟨r,nxN C s r,wvals C s r⟩/\∀ r',r'<r->okB C s r'=true->q ⟨r',nxN C s r',wvals C s r'⟩=false:=by
 rw [List.any_eq_true] at h
 obtain ⟨a,ha,hq⟩:=h
 cases hf:((wdC C).arcs s).find? q with
 | none=>rw [List.find?_eq_none] at hf;exact absurd hq (hf a ha)
 | some b=>
  have hf2:((List.range (2 ^ C.ins.length)).filterMap (warc C s)).find? q=some b:=hf
  rw [List.find?_filterMap,Option.bind_eq_some_iff] at hf2
  obtain ⟨r,h1,h2⟩:=hf2
  rw [List.find?_range_eq_some] at h1
  obtain ⟨h3,h4,h5⟩:=h1
  rw [warc_eq] at h2
  by_cases ho:okB C s r=true
  ·rw [if_pos ho] at h2
   have h2:=Option.some.inj h2
   subst h2
   refine ⟨r,List.mem_range.1 h4,ho,?_,rfl,fun r' hr' ho'=>?_⟩
   ·rw [warc_eq,if_pos ho] at h3
    simpa using h3
   ·have:=h5 r' hr'
    rw [warc_eq,if_pos ho'] at this
    simpa using this
  ·rw [if_neg ho] at h2;cases h2
def it21 (b:Nat) (ia:Addr) (init:List Bool) (oa:Option Addr) (on oc:Nat) (rows:List RwB):List Itm:=[⟨1,some ⟨b,0,none⟩,3,3,[.slice (some ia) init.length init.length,.slice oa on oc,.int .i64 (-1)]⟩,⟨1,some ia,init.length,init.length,bools init⟩,⟨1,oa,on,oc,rows.map RwB.v⟩]++rows.map RwB.it
end Go.Hx
namespace Go.Proofs.YtdpbdjdgdmheiaaGreat
open Go.Hx Go.Deep
section
variable {h:Heap} {k:Addr} {v:CV} {C:Circ}
theorem sh_hit {hA h11 h12 h19:Heap} {ia:Addr} {init:List Bool} {oa:Option Addr} {on oc:Nat} {rows:List RwB} (w:RWs h11 k C) (hb:Rd h11 (some ⟨hA.size,0,none⟩) 11 v.cs) (q1:C.ins.length=v.i.n) (hI:C.ins.length≤6) {s r:Nat} (hs:s<2 ^ C.lats.length) (hr:r<2 ^ C.ins.length) (hon:on≤100000)
  (m:Mem h11 h19 (it21 h12.size ia init oa on oc rows)) {d:Int} {next_1:Int×Int->Heap->Prop}
  (hK:∀ h' a' c' ad,Mem h11 h' (it21 h12.size ia init a' (on+1) c' (rows++[⟨some ad,C.ins.length,C.ins.length,bitsN r C.ins.length⟩]))->next_1 ((nxN C s r:Int),IntKind.wrap .i64 (d-1)) h') :
  J21_6 Tryz.prog hA (some k) h12 (s:Int) d next_1 (r:Int) h19:=by
 have hi64:2 ^ C.ins.length≤64:=Nat.pow_le_pow_right (n:=2) (by omega) hI
 unfold J21_6
 have rb:=(m.get 0 rfl).rd
 have hb19:=hb.ext m.ext
 refine ⟨by have:=cellH_lt (rb.fld 1 rfl);exact this,_,_,_,rb.fld 1 rfl,by have:=cellH_lt (hb19.fld 1 rfl);exact this,_,_,_,hb19.fld 1 rfl,?_⟩
 rw [<- q1]
 refine (c49 (n:=r) (size:=C.ins.length) (by omega) (by omega)).mono ?_
 rintro _ h20 ⟨ad,rfl,f20⟩
 refine ⟨_,_,_,rfl,agrE f20.ext (Nat.le_refl _),?_⟩
 intro h21
 have e21:Ext h20 h21:=Ext.push h20 _
 refine ⟨agrE e21 f20.ext.1,?_⟩
 have m20:Mem h11 h20 ([⟨1,some ⟨h12.size,0,none⟩,3,3,[.slice (some ia) init.length init.length,.slice oa on oc,.int .i64 (-1)]⟩,⟨1,some ia,init.length,init.length,bools init⟩,⟨1,oa,on,oc,rows.map RwB.v⟩]++⟨1,some ad,C.ins.length,C.ins.length,bools (bitsN r C.ins.length)⟩::rows.map RwB.it):=m.addIn (A:=[_,_,_]) f20
 have m21:=m20.ext' e21
 let x:RwB:=⟨some ad,C.ins.length,C.ins.length,bitsN r C.ins.length⟩
 refine ⟨[x.v],(Fr.lit (.refl h20) [x.v] 46 1 rfl).rd.read,rfl,?_⟩
 refine (m21.get 2 rfl).app rfl (by simp [x,RwB.v,Value.oneCell']) (by omega) fun a' c' h22 f22 u22 hor=>?_
 have m22:=m21.setAt 2 (t':=⟨1,a',on+1,c',(rows++[x]).map RwB.v⟩) rfl (by rw [List.map_append];exact f22) u22 hor
 refine (m22.get 0 rfl).cellAt 1 (by omega) rfl fun h23 u23 f23=>?_
 have m23:=m22.setAt 0 (t':=⟨1,some ⟨h12.size,0,none⟩,3,3,[.slice (some ia) init.length init.length,.slice a' (on+1) c',.int .i64 (-1)]⟩) rfl f23 u23 (.inl rfl)
 refine (w.ext m23.ext).rdN hs hr ?_
 unfold J21_5
 refine hK h23 a' c' ad ?_
 have m24:Mem h11 h23 ([⟨1,some ⟨h12.size,0,none⟩,3,3,[.slice (some ia) init.length init.length,.slice a' (on+1) c',.int .i64 (-1)]⟩,⟨1,some ia,init.length,init.length,bools init⟩,⟨1,a',on+1,c',(rows++[x]).map RwB.v⟩]++(RwB.it x::rows.map RwB.it)):=m23
 refine m24.perm ?_
 unfold it21
 refine List.Perm.append_left _ ?_
 rw [List.map_append]
 exact (List.perm_append_singleton _ _).symm
set_option maxRecDepth 4000 in
theorem c21 (r:CIs h v C) (ok:C.Ok) (i:Int):CallsH Tryz.prog 21 #[v.v,.int .i64 i] h (ShoP C i h):=by
 have q4:=r.len.b
 have q2:=r.len.l
 have q1:=r.len.i
 refine run21 v i _ h ?_
 unfold VC21
 intro h1 h2
 have e1:Ext h h1:=Ext.box h _
 have hb:Rd h2 (some ⟨h.size,0,none⟩) 11 v.cs:=(boxC v 29).ext (Ext.push h1 _)
 have f2:Fr h1 1 h2 (some ⟨h1.size,0,none⟩) 3 3 TV.zero.cs:=Fr.lit (.refl h1) TV.zero.cs 49 3 rfl
 have e2:Ext h h2:=e1.trans f2.ext
 have zero:∀ {h':Heap} {e:Int},Ext h2 h'->(∀ h'',Ext h h''->ShoP C i h (.tuple #[TV.zero.v,.int .i64 e]) h'')->StoreH h' ⟨h1.size,0,none⟩ TV.zero.cs fun h5=>LdT h5 ⟨h1.size,0,none⟩ fun t4=>ShoP C i h (.tuple #[t4.v,.int .i64 e]) h5:=fun {h' e} e2' hK=>
  (f2.upd e2').put (ws:=TV.zero.cs) rfl (by simp [TV.zero,TV.cs,Value.oneCell']) fun h5 f5 u5=>ldT (v:=TV.zero) f5.rd (hK h5 (e1.trans f5.ext))
 refine ldC hb ((c19 (r.ext e2) ok i).mono ?_)
 rintro _ h3 ⟨e3,⟨hE,z,l,hx,rfl,bz⟩ | ⟨hE,rfl⟩⟩
 rotate_left
 ·exact ⟨_,_,rfl,fun he=>absurd he hE,fun _=>zero e3 fun h'' e''=>⟨e'',.inl ⟨hE,rfl⟩⟩⟩
 refine ⟨_,_,rfl,fun _=>?_,fun he=>absurd rfl he⟩
 obtain ⟨hz,hi0,hi1⟩:=badE_0 hE
 obtain ⟨hc,hL,hI⟩:=fewE_0 hz
 obtain ⟨hb0,hb1⟩:=(good_lits hc).2.2.1 l (List.mem_of_getElem? hx)
 have hm:=(chk_bounds hc).1
 have hn256:2 ^ C.lats.length≤256:=Nat.pow_le_pow_right (n:=2) (by omega) hL
 have hi64:2 ^ C.ins.length≤64:=Nat.pow_le_pow_right (n:=2) (by omega) hI
 have wk:=wd_ok C
 unfold J21_0
 refine ⟨fun hneg=>?_,fun hpos=>?_⟩
 ·have hz1:z = -1:=by rcases bz with ⟨h,_⟩ | ⟨d,h,_⟩ <;> omega
  subst hz1
  exact zero e3 fun h'' e''=>⟨e'',.inr ⟨hE,l,hx,.inl ⟨bz,rfl⟩⟩⟩
 obtain ⟨d,rfl⟩:∃ d:Nat,z=d:=⟨z.toNat,by omega⟩
 have hdn:d<2 ^ C.lats.length:=BadIs.le wk (P:=fun a=>lit a.vl l=true) bz
 obtain ⟨s0,hfind,hs0,hw0,hq0,hless⟩:=st_find (q:=ldB (wdC C) (litP l) d) (bz.lead (p:=litP l))
 unfold J21_1
 have hb3:=hb.ext e3
 refine ldC hb3 ((c46 (r.ext (e2.trans e3)) ok hz).mono ?_)
 rintro _ h7 ⟨e7,k,rfl,_,w7⟩
 have e27:=e3.trans e7
 have hbad:∀ {h':Heap} {K:Addr->Prop},Ext h h'->(∀ ad,cellH h' (ad.add (i.toNat*1))=some (.int .i64 l)->K ad)->i<(v.b.n:Nat)/\AtP v.b.a K:=fun {h' K} e hK=>(r.b.ext e).getq (by omega) hx hK
 refine ⟨_,rfl,_,_,_,(hb.ext e27).fld 4 rfl,by omega,hbad (e2.trans e27) fun ad hcell=>⟨_,hcell,(c56 w7 hb0 hb1 (depth:=d) (by omega)).mono ?_⟩⟩
 rintro _ h8 ⟨e8,la,ys,rfl,ry,hy⟩
 have hyl:=ry.ilen
 refine ⟨_,_,_,rfl,LoopT.to (n:=s0) (by omega) (fun s h'=>Ext h8 h') (.refl _) ?_⟩
 rintro s h9 K hs e9 hK
 have e79:=e8.trans e9
 have w9:=w7.ext e79
 have hs2:s<2 ^ C.lats.length:=by omega
 refine useX (c57 w9 hs2) fun h11 e11=>⟨_,rfl,?_⟩
 have e8_11:=e9.trans e11
 have ry11:=ry.ext e8_11
 have levD:∀ {h':Heap} (e:Ext h8 h') {e2 t:Nat} (he2:e2≤d) (ht:t<2 ^ C.lats.length) {K:Bool->Prop},K (ldB (wdC C) (litP l) e2 t)->AtP (some la) fun ad1=>∃ (A26:Option Addr) (N26 C26:Nat),cellH h' (ad1.add (Int.toNat (e2:Int)*1))=some (.slice A26 N26 C26)/\(0:Int)≤(t:Int)/\(t:Int)<(N26:Nat)/\AtP A26 fun ad2=>∃ t9:Bool,cellH h' (ad2.add (Int.toNat (t:Int)*1))=some (.bool t9)/\K t9:=fun {h'} e {e2 t} he2 ht {K} hK=>by
  refine (ry.ext e).getn (i:=e2) (by omega) fun ad hl1 hc=>?_
  obtain ⟨a1,a2⟩:=hy e2 _ (List.getElem?_eq_getElem hl1)
  refine ⟨_,_,_,hc,by omega,by omega,((a2.ext e).getq (j:=(t:Int)) (by omega) (x:=ldB (wdC C) (litP l) e2 t) ?_ fun ad2 hc2=>⟨_,hc2,hK⟩).2⟩
  rw [Int.toNat_natCast,ldL,List.getElem?_map,List.getElem?_range ht];rfl
 by_cases hss:s<s0
 ·cases hw:wst C s with
  | false=>exact BIf.t (hK _ hss e8_11)
  | true=>
   refine BIf.f ⟨by omega,by omega,levD e8_11 (Nat.le_refl _) hs2 ?_⟩
   rw [hless s hss hw]
   exact BIf.t (hK _ hss e8_11)
 obtain rfl:s=s0:=by omega
 rw [hw0]
 refine BIf.f ⟨by omega,by omega,levD e8_11 (Nat.le_refl _) hs2 ?_⟩
 rw [hq0]
 refine BIf.f ?_
 clear hK K hless hs hss
 have e2_11:Ext h2 h11:=e27.trans (e8.trans e8_11)
 have hb11:=hb.ext e2_11
 have w11:=w7.ext (e8.trans e8_11)
 unfold J21_2
 refine ⟨_,_,_,hb11.fld 2 rfl,?_⟩
 rw [<- q2]
 refine (c49 (n:=s) (size:=C.lats.length) (by omega) (by omega)).mono ?_
 rintro _ h12 ⟨ia,rfl,f12⟩
 refine ⟨_,_,_,rfl,?_⟩
 intro h13
 have f13:Fr h12 1 h13 (some ⟨h12.size,0,none⟩) 3 3 TV.zero.cs:=Fr.lit (.refl h12) TV.zero.cs 49 3 rfl
 have m13:=(((Mem.nil (.refl h11)).add (t:=⟨1,none,0,0,[]⟩) (Fr.nil (.refl h11))).add (t:=⟨1,some ia,C.lats.length,C.lats.length,bools (bitsN s C.lats.length)⟩) f12).add (t:=⟨1,some ⟨h12.size,0,none⟩,3,3,TV.zero.cs⟩) f13
 refine (m13.get 0 rfl).put (ws:=[.slice (some ia) C.lats.length C.lats.length,.slice none 0 0,.int .i64 (-1)]) rfl (by simp [Value.oneCell']) fun h14 f14 u14=>?_
 have m14:Mem h11 h14 (it21 h12.size ia (bitsN s C.lats.length) none 0 0 []):=by
  have:=m13.setAt 0 (t':=⟨1,some ⟨h12.size,0,none⟩,3,3,[.slice (some ia) C.lats.length C.lats.length,.slice none 0 0,.int .i64 (-1)]⟩) rfl f14 u14 (.inl rfl)
  unfold it21
  rw [bitsN_len]
  exact this
 let I:Int×Int->Heap->Nat->Prop:=fun st h' mm=>∃ (j s':Nat) (rows:List RwB) (oa:Option Addr) (on oc:Nat),st.1=(s':Int)/\st.2=(j:Int)-1/\mm=j/\Mem h11 h' (it21 h12.size ia (bitsN s C.lats.length) oa on oc rows)/\s'<2 ^ C.lats.length /\
  (∀ e,j=e+1->ldB (wdC C) (litP l) e s'=true)/\rows.map RwB.l++(ltR (wdC C) (litP l) j s').map (fun a=>bitsN a.row C.ins.length)=(ltT C l d s).ins/\on+j=d+1
 refine ⟨I,
  ⟨d+1,d+1,s,[],none,0,0,rfl,by show (d:Int)=_;omega,rfl,m14,hs2,(fun e he=>(show d=e by omega)▸hq0),rfl,by omega⟩,?_⟩
 rintro ⟨_,_⟩ h15 j ⟨_,s',rows,oa,on,oc,rfl,rfl,rfl,m15,hs',hl',hrows,hon⟩
 dsimp only
 refine ⟨fun hge=>?_,fun hlt=>?_⟩
 rotate_left
 ·obtain rfl:j=0:=by omega
  unfold J21_3
  let tv:TV:=⟨⟨some ia,(bitsN s C.lats.length).length,(bitsN s C.lats.length).length⟩,⟨oa,on,oc⟩,-1⟩
  have fb:=m15.get 0 (sz:=1) (a:=some ⟨h12.size,0,none⟩) (n:=3) (c:=3) (vs:=tv.cs) rfl
  refine ldT (v:=tv) fb.rd ?_
  have f18:=f2.upd (e2_11.trans m15.ext)
  refine f18.put (ws:=tv.cs) rfl (by simp [tv,TV.cs,Value.oneCell']) fun h26 f26 u26=>ldT (v:=tv) f26.rd ⟨e1.trans f26.ext,.inr ⟨hE,l,hx,.inr ⟨d,s,tv,bz,hfind,rfl,rfl,rows,by rw [<- hrows];simp [ltR],?_⟩⟩⟩
  refine Mem.over (m15.sub (.cons _ (.refl _))) (e2.trans e2_11) u26 fun b hb'=>?_
  obtain ⟨ad,ha,rfl⟩:=hb'
  cases ha
  have h7:=cellH_lt ((f2.upd e2_11).rd.fld 0 rfl)
  exact ⟨e1.1,by simpa using h7⟩
 ·obtain ⟨e,rfl⟩:∃ e,j=e+1:=⟨j-1,by omega⟩
  have hle:=hl' e rfl
  have hed:e≤d:=by omega
  have hst:((e+1:Nat):Int)-1=(e:Int):=by omega
  rw [hst]
  rw [ldB_eq] at hle
  obtain ⟨rr,hr1,hr2,hr3,hr4,hr5⟩:=arc_find hle
  have w15:=w11.ext m15.ext
  have hnx:=nxN_lt (C:=C) (s:=s') (i:=rr)
  unfold J21_4
  refine LoopT.to (n:=rr) (by omega) (fun k2 h'=>Ext h15 h'/\Mem h11 h' (it21 h12.size ia (bitsN s C.lats.length) oa on oc rows)) ⟨.refl _,m15⟩ ?_
  rintro k2 h17 K3 hk2 ⟨e17,m17⟩ hK3
  have hk3:k2<2 ^ C.ins.length:=by omega
  have w17:=w15.ext e17
  have e8_17:Ext h8 h17:=(e8_11.trans m15.ext).trans e17
  have e2_17:Ext h2 h17:=e27.trans (e8.trans e8_17)
  have noA:k2<rr->okB C s' k2=true->tsB (wdC C) (litP l) e ⟨k2,nxN C s' k2,wvals C s' k2⟩=false:=fun h1 h2=>hr5 k2 h1 h2
  have hit:k2=rr->∀ {h18:Heap},h18=h17->J21_6 Tryz.prog h (some k) h12 (s':Int) (e:Int) (fun st' h'=>∃ m',m'<e+1/\I st' h' m') (k2:Int) h18:=fun hkr {h18} h18e=>by
   subst h18e
   subst hkr
   refine sh_hit (init:=bitsN s C.lats.length) w11 hb11 q1 hI hs' hk3 (by omega) m17 fun h' a' c' ad m'=>⟨e,by omega,e,nxN C s' k2,_,a',on+1,c',rfl,w64 (by omega) (by omega),rfl,m',hnx,fun e' he'=>?_,?_,by omega⟩
   ·subst he';exact hr3
   ·rw [<- hrows]
    show _=_++(ltP (wdC C) (litP l) e s').map _
    rw [ltP_eq hr4]
    simp
  refine w17.rdH hs' hk3 ?_
  cases ho:okB C s' k2 with
  | false=>
   refine BIf.t (hK3 _ ?_ ⟨e17,m17⟩)
   refine Nat.lt_of_le_of_ne hk2 fun h=>?_
   rw [h,hr2] at ho
   cases ho
  | true=>
   have step:k2<rr->_:=fun h1=>hK3 h17 h1 ⟨e17,m17⟩
   refine BIf.f ⟨fun hd0=>?_,fun hd0=>⟨fun hpos=>?_,fun hneg=>absurd (by omega) hneg⟩⟩
   ·obtain rfl:e=0:=by omega
    refine w17.rdV hs' hk3 fun va vc rv=>⟨_,_,_,(hb.ext e2_17).fld 4 rfl,by omega,hbad (e2.trans e2_17) fun ad hcell=>⟨_,hcell,use (c58 rv hb0 (by omega) (by omega)) ⟨_,rfl,?_⟩⟩⟩
    cases hlv:lit (wvals C s' k2) l with
    | false=>
     refine BIf.t (step (Nat.lt_of_le_of_ne hk2 fun h=>?_))
     have:lit (wvals C s' rr) l=true:=hr3
     rw [<- h,hlv] at this
     cases this
    | true=>
     refine BIf.f ⟨fun hh=>absurd hh (by omega),fun _=>hit ?_ rfl⟩
     refine Decidable.byContradiction fun hne=>?_
     have:lit (wvals C s' k2) l=false:=noA (by omega) ho
     rw [hlv] at this
     cases this
   ·obtain ⟨e',rfl⟩:∃ e',e=e'+1:=⟨e-1,by omega⟩
    rw [show IntKind.wrap .i64 (((e'+1:Nat):Int)-1)=(e':Int) by rw [w64 (by omega) (by omega)];omega]
    have hn2:=nxN_lt (C:=C) (s:=s') (i:=k2)
    refine ⟨by omega,by omega,?_⟩
    refine (ry.ext e8_17).getn (i:=e') (by omega) fun ad hl1 hc=>?_
    obtain ⟨a1,a2⟩:=hy e' _ (List.getElem?_eq_getElem hl1)
    refine ⟨_,_,_,hc,w17.rdN hs' hk3 ⟨by omega,by omega,((a2.ext e8_17).getq (j:=(nxN C s' k2:Int)) (by omega) (x:=ldB (wdC C) (litP l) e' (nxN C s' k2)) ?_ fun ad2 hc2=>⟨_,hc2,?_⟩).2⟩⟩
    ·rw [Int.toNat_natCast,ldL,List.getElem?_map,List.getElem?_range hn2];rfl
    cases hlv:ldB (wdC C) (litP l) e' (nxN C s' k2) with
    | false=>
     refine BIf.t (step (Nat.lt_of_le_of_ne hk2 fun h=>?_))
     have:ldB (wdC C) (litP l) e' (nxN C s' rr)=true:=hr3
     rw [<- h,hlv] at this
     cases this
    | true=>
     refine BIf.f (hit ?_ rfl)
     refine Decidable.byContradiction fun hne=>?_
     have:ldB (wdC C) (litP l) e' (nxN C s' k2)=false:=noA (by omega) ho
     rw [hlv] at this
     cases this
end
end Go.Proofs.YtdpbdjdgdmheiaaGreat
