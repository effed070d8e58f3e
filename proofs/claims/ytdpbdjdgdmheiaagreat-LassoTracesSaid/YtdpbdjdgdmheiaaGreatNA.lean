/- Words and facts that the claim's proof leans on. No condition. -/
import Derived.Test.YtdpbdjdgdmheiaaGreatMC
import Derived.Test.YtdpbdjdgdmheiaaGreatMF
import Derived.Test.YtdpbdjdgdmheiaaGreatDL
import Derived.Test.YtdpbdjdgdmheiaaGreatKLa
import Derived.Test.YtdpbdjdgdmheiaaGreatMJ
import Derived.Test.YtdpbdjdgdmheiaaGreatCR
import Derived.Test.YtdpbdjdgdmheiaaGreatDE
set_option linter.unusedVariables false
set_option linter.unusedSimpArgs false
namespace Go.Proofs.YtdpbdjdgdmheiaaGreat
open Go.Hx
structure Nx (h0 h:Heap) (k:Addr) (v:CV) (S:Circ) (X:List Itm):Prop where
 mx:v.mx=S.mx
 mem:Mem h0 h (⟨1,some k,11,11,v.cs⟩::⟨1,v.i.a,v.i.n,v.i.c,ints S.ins⟩::⟨3,v.l.a,v.l.n,v.l.c,S.lats.flatMap L3.cs⟩::⟨1,v.b.a,v.b.n,v.b.c,ints S.bads⟩::⟨1,v.c.a,v.c.n,v.c.c,ints S.cons⟩::⟨3,v.g.a,v.g.n,v.g.c,S.ands.flatMap L3.cs⟩::X)
 z:v.o=⟨none,0,0⟩/\v.j=⟨none,0,0⟩/\v.f=⟨none,0,0⟩/\v.s=⟨none,0,0⟩/\v.m=⟨none,0,0⟩
section
variable {h0 h:Heap} {k:Addr} {v:CV} {S:Circ} {X:List Itm}
theorem Nx.ext {h':Heap} (m:Nx h0 h k v S X) (u:Ext h h'):Nx h0 h' k v S X:=⟨m.mx,m.mem.ext' u,m.z⟩
theorem Nx.f (m:Nx h0 h k v S X) (i:Nat) {x:Value} (hx:v.cs[i]?=some x):cellH h (k.add i)=some x:=(m.mem.get 0 rfl).rd.fld i hx
theorem Nx.lt (m:Nx h0 h k v S X):k.block<h.size:=(m.mem.get 0 rfl).own.lt
theorem Nx.glen (m:Nx h0 h k v S X):S.ands.length=v.g.n:=(m.mem.get 5 rfl).own.rd.elen L3.csl (by omega)
theorem Nx.llen (m:Nx h0 h k v S X):S.lats.length=v.l.n:=(m.mem.get 2 rfl).own.rd.elen L3.csl (by omega)
theorem n117 (m:Nx h0 h k v S X) (hS:Sm S) (x y:Int) :
  CallsH Tryz.prog 117 #[.pointer (some k),.int .i64 x,.int .i64 y] h fun w h'=>w=.int .i64 (nL S)/\∃ v',v'.l=v.l/\Nx h0 h' k v' (gate1 S x y) X/\Upd (fun b=>b=k.block∨atb v.g.a b) h h':=by
 obtain ⟨s1,s2,s3,s4⟩:=hS
 have hmx:=m.mx
 have q8:=m.glen
 refine run117 (some k) x y _ h ⟨v.mx,m.f 0 rfl,AtP.mk rfl ?_⟩
 have hw:IntKind.wrap .i64 (v.mx+1)=S.mx+1:=by rw [hmx,w64 (by omega) (by omega)]
 have hw2:IntKind.wrap .i64 (2*(S.mx+1))=2*(S.mx+1):=w64 (by omega) (by omega)
 rw [hw]
 refine (m.mem.get 0 rfl).cellAt 0 (by omega) rfl fun h1 u1 f1=>?_
 let v1:CV:={ v with mx:=S.mx+1 }
 have m1:Nx h0 h1 k v1 { S with mx:=S.mx+1 } X:=⟨rfl,m.mem.setAt 0 (t':=⟨1,some k,11,11,_⟩) rfl f1 u1 (.inl rfl),m.z⟩
 refine ⟨by simp only [add_block];exact m1.lt,_,_,_,m1.f 8 rfl,by simp only [add_block];exact m1.lt,_,m1.f 0 rfl,?_⟩
 dsimp only
 rw [hw2]
 have e2:=Ext.push h1 (.cells #[.int .i64 (2*(S.mx+1)),.int .i64 (max x y),.int .i64 (min x y)] 67)
 obtain ⟨h2,hh2⟩:∃ h2,h2=h1.push (.cells #[.int .i64 (2*(S.mx+1)),.int .i64 (max x y),.int .i64 (min x y)] 67):=⟨_,rfl⟩
 have r2:Rd h2 (some ⟨h1.size,0,none⟩) 3 (L3.cs ⟨2*(S.mx+1),max x y,min x y⟩):=by rw [hh2];exact (Fr.lit (.refl h1) (L3.cs ⟨2*(S.mx+1),max x y,min x y⟩) 67 3 rfl).rd
 rw [<- hh2] at e2 ⊢
 have m2:=m1.ext e2
 refine ⟨fun b hb=>e2.2 b hb fun x=>x,_,r2.read,rfl,?_⟩
 refine (m2.mem.get 5 rfl).app rfl (by simp [L3.cs,Value.oneCell']) (by show (v.g.n+1)*24≤_;omega) fun a' c' h3 f u hor=>AtP.mk rfl ?_
 have m3:=m2.mem.setAt 5 (t':=⟨3,a',v.g.n+1,c',S.ands.flatMap L3.cs++L3.cs ⟨2*(S.mx+1),max x y,min x y⟩⟩) rfl f u hor
 refine (m3.get 0 rfl).cellAt 8 (by omega) rfl fun h4 u4 f4=>?_
 have m4:=m3.setAt 0 (t':=⟨1,some k,11,11,_⟩) rfl f4 u4 (.inl rfl)
 have e:S.ands.flatMap L3.cs++L3.cs ⟨2*(S.mx+1),max x y,min x y⟩=(S.ands++[(⟨2*(S.mx+1),max x y,min x y⟩:L3)]).flatMap L3.cs:=by rw [List.flatMap_append];simp
 rw [e] at m4
 have m5:Nx h0 h4 k { v1 with g:=⟨a',v.g.n+1,c'⟩ } (gate1 S x y) X:=⟨rfl,m4,m.z⟩
 refine ⟨_,m5.f 0 rfl,by simp only [nL];rw [hw2],{ v1 with g:=⟨a',v.g.n+1,c'⟩ },rfl,m5,?_⟩
 have ua:Upd (fun b=>b=k.block∨atb v.g.a b) h h1:=u1.mono fun b _ ⟨ad,ha,e⟩=>by cases ha;exact .inl e
 have ub:Upd (fun b=>b=k.block∨atb v.g.a b) h2 h3:=u.mono fun b _ hb=>.inr hb
 have uc:Upd (fun b=>b=k.block∨atb v.g.a b) h3 h4:=u4.mono fun b _ ⟨ad,ha,e⟩=>by cases ha;exact .inl e
 exact ((ua.trans (Upd.wide e2)).trans ub).trans uc
theorem c118 {l:Int} (h0:0≤l) (h1:l≤1000000000):CallsH Tryz.prog 118 #[.int .i64 l] h (Ret (.int .i64 (neg1 l)) h):=by
 refine run118 l _ h ⟨?_,rfl⟩
 have e:Int.tmod l 2=l % 2:=Int.tmod_eq_emod_of_nonneg h0
 rw [e,w64 (x:=l+1) (by omega) (by omega),w64 (x:=l % 2*2) (by omega) (by omega),w64 (by omega) (by omega)]
 rfl
theorem n119 (m:Nx h0 h k v S X) (hS:Sm S) {x y:Int} (hx:0≤x/\x≤4000000) (hy:0≤y/\y≤4000000) :
  CallsH Tryz.prog 119 #[.pointer (some k),.int .i64 x,.int .i64 y] h fun w h'=>w=.int .i64 (neg1 (nL S))/\∃ v',v'.l=v.l/\Nx h0 h' k v' (gate1 S (neg1 x) (neg1 y)) X/\Upd (fun b=>b=k.block∨atb v.g.a b) h h':=by
 refine run119 (some k) x y _ h (use (c118 hx.1 (by omega)) ⟨_,rfl,use (c118 hy.1 (by omega)) ⟨_,rfl,(n117 m hS _ _).mono ?_⟩⟩)
 rintro _ h' ⟨rfl,v',hl,m',u⟩
 have:=nL_rng hS
 exact ⟨_,rfl,use (c118 this.1 (by omega)) ⟨_,rfl,rfl,v',hl,m',u⟩⟩
end
end Go.Proofs.YtdpbdjdgdmheiaaGreat
namespace Go.Proofs.YtdpbdjdgdmheiaaGreat
open Go.Hx Go.Deep
theorem c79 {h:Heap} {w:TV} {T:Tr} (q:TIs h w T) {nl ni most:Nat} (hn:T.ins.length<9223372036854775807):CallsH Tryz.prog 79 #[w.v,.int .i64 (nl:Int),.int .i64 (ni:Int),.int .i64 (most:Int)] h (Xt (.bool (decide (FitN T nl ni most))) h):=by
 have ql:=q.i.ilen
 have qs:=q.s.len
 refine run79 w nl ni most _ h ?_
 unfold VC79
 intro h1
 have e1:Ext h h1:=Ext.push h _
 have hw:Rd h1 (some ⟨h.size,0,none⟩) 3 w.cs:=boxT w 49
 have no:¬ FitN T nl ni most->Xt (.bool (decide (FitN T nl ni most))) h (.bool false) h1:=fun hn=>⟨by rw [decide_eq_false hn],e1⟩
 refine ⟨_,_,_,hw.fld 0 rfl,fun h3=>⟨_,_,_,hw.fld 1 rfl,fun h4=>no fun hf=>by have:=hf.2.1;omega,fun h4=>⟨_,_,_,hw.fld 1 rfl,fun h5=>no fun hf=>by have:=hf.2.2.1;omega,fun h5=>?_⟩⟩,fun h3=>no fun hf=>by have:=hf.1;omega⟩
 refine LoopT.to (n:=w.s.n) (by omega) (fun i h'=>h'=h1/\∀ r∈T.ins.take i,r.length=ni) ⟨rfl,by simp⟩ ?_
 rintro i h2 K hi ⟨rfl,hI⟩ hK
 refine ⟨_,_,_,hw.fld 1 rfl,fun hlt=>⟨_,_,_,hw.fld 1 rfl,by omega,hlt,(q.s.ext e1).get (i:=i) (by omega) fun ad hl1 s hc hr _ hs hsn=>⟨_,_,_,hc,fun he=>hK _ (by omega) ⟨rfl,fun r hr=>?_⟩,fun hne=>no fun hf=>hne ?_⟩⟩,fun hlt=>?_⟩
 ·rw [List.take_succ_eq_append_getElem hl1,List.mem_append,List.mem_singleton] at hr
  rcases hr with hr | rfl
  ·exact hI r hr
  ·omega
 ·have:=hf.2.2.2 _ (List.getElem_mem hl1);omega
 ·rw [List.take_of_length_le (by omega)] at hI
  exact ⟨by rw [decide_eq_true (show FitN T nl ni most from ⟨by omega,by omega,by omega,hI⟩)],e1⟩
end Go.Proofs.YtdpbdjdgdmheiaaGreat
namespace Go.Proofs.YtdpbdjdgdmheiaaGreat
open Go.Hx
theorem lat_step {h0 h:Heap} {k:Addr} {v:CV} {S:Circ} {X:List Itm} (m:Nx h0 h k v S X) (hS:Sm S) {x y l:Int} (hx:0≤x/\x≤4000000) (hy:0≤y/\y≤4000000) {K:Heap->Prop}
  (hK:∀ h' v',Nx h0 h' k v' { gate1 S (neg1 x) (neg1 y) with lats:=S.lats++[⟨l,neg1 (nL S),0⟩] } X->K h') :
  ∃ zn1:Zone,Zone.hasL zn1 h (k.add 2)/\∃ (A:Option Addr),∃ (N:Nat),∃ (C:Nat),cellH h (k.add 2)=some (.slice A N C)/\CallsH Tryz.prog 119 #[.pointer (some k),.int .i64 x,.int .i64 y] h fun w h42=>∃ (t22:Int),w=.int .i64 t22/\Zone.r zn1 h h42 /\
   let h43:Heap:=h42.push (.cells #[.int .i64 l,.int .i64 t22,.int .i64 0] 65);Zone.r zn1 h42 h43/\∃ ys5:List Value,ReadL h43 (some (Addr.mk h42.size 0 none)) ys5/\ys5.length=1*3/\AppS h43 A N C 65 24 3 #[.int .i64 0,.int .i64 0,.int .i64 0] ys5 1 fun apA apN apC h44=>Zone.r zn1 h43 h44/\StoreH h44 (k.add 2) [.slice apA apN apC] K:=by
 refine ⟨Zone.cl [k.add 2],Zone.cl_has (List.mem_singleton.2 rfl),_,_,_,m.f 2 rfl,(n119 m hS hx hy).mono ?_⟩
 rintro _ h42 ⟨rfl,v',hl,m',u⟩
 have zr:∀ {ha hb:Heap} {x:Value},cellH ha (k.add 2)=some x->cellH hb (k.add 2)=some x->(Zone.cl [k.add 2]).r ha hb:=fun {ha hb x} ca cb y hy=>by
  rw [List.mem_singleton] at hy;subst hy;rw [ca,cb]
 have c42:cellH h42 (k.add 2)=some (.slice v.l.a v.l.n v.l.c):=by rw [<- hl];exact m'.f 2 rfl
 refine ⟨_,rfl,zr (m.f 2 rfl) c42,?_⟩
 intro h43
 have e3:Ext h42 h43:=Ext.push h42 _
 have r3:Rd h43 (some ⟨h42.size,0,none⟩) 3 (L3.cs ⟨l,neg1 (nL S),0⟩):=(Fr.lit (.refl h42) (L3.cs ⟨l,neg1 (nL S),0⟩) 65 3 rfl).rd
 have m3:=m'.ext e3
 refine ⟨zr c42 (Ext.cell e3 c42),_,r3.read,rfl,?_⟩
 have q8:=m3.llen
 have hsl:(gate1 S (neg1 x) (neg1 y)).lats.length≤1000000:=hS.2.2.2
 rw [<- hl]
 refine (m3.mem.get 2 rfl).app rfl (by simp [L3.cs,Value.oneCell']) (by show (v'.l.n+1)*24≤_;omega) fun a' c' h44 f u4 hor=>?_
 have m4:=m3.mem.setAt 2 (t':=⟨3,a',v'.l.n+1,c',S.lats.flatMap L3.cs++L3.cs ⟨l,neg1 (nL S),0⟩⟩) rfl f u4 hor
 refine ⟨zr (m3.f 2 rfl) ((m4.get 0 rfl).rd.fld 2 rfl),(m4.get 0 rfl).cellAt 2 (by omega) rfl fun h45 u5 f5=>hK h45 { v' with l:=⟨a',v'.l.n+1,c'⟩ } ⟨m'.mx,?_,m'.z⟩⟩
 have m5:=m4.setAt 0 (t':=⟨1,some k,11,11,_⟩) rfl f5 u5 (.inl rfl)
 have e:S.lats.flatMap L3.cs++L3.cs ⟨l,neg1 (nL S),0⟩=(S.lats++[(⟨l,neg1 (nL S),0⟩:L3)]).flatMap L3.cs:=by rw [List.flatMap_append];simp
 rw [e] at m5
 exact m5
end Go.Proofs.YtdpbdjdgdmheiaaGreat
namespace Go.Proofs.YtdpbdjdgdmheiaaGreat
open Go.Hx
structure Sz (S:Circ):Prop where
 a:0≤S.mx
 b:S.mx≤200000
 c:S.ands.length≤200000
 d:S.lats.length≤200000
theorem n_9 {R:Value->Heap->Prop} {hA h_ h0 h:Heap} {apN N45 b2:Nat} {t15 b:Int} {v:CV} {S:Circ} {X:List Itm} {C:Circ} (m:Nx h0 h ⟨b2,0,none⟩ v S X) (hb:cellH h0 ((Addr.mk hA.size 0 none).add 0)=some (.int .i64 C.mx))
  (hn:N45=C.lats.length) (hm0:0≤C.mx) (hm1:C.mx≤16384) (hl:C.lats.length≤16384) (hk:apN≤32768) (sz:Sz S) {Z:Circ×Int} (hZ:chainG ((List.range apN).map (lsSe C)) b S=Z)
  (hR:∀ h' v',Nx h0 h' ⟨b2,0,none⟩ v' Z.1 X->J69_11 R h_ b2 t15 Z.2 h'):J69_9 Tryz.prog R hA h_ apN N45 b2 t15 b h:=by
 unfold J69_9
 refine LoopT.to2 (n:=apN) (by omega) (fun i b h'=>∃ (S':Circ) (v:CV),Nx h0 h' ⟨b2,0,none⟩ v S' X/\S'.mx=S.mx+i/\S'.ands.length=S.ands.length+i/\S'.lats.length=S.lats.length /\
  chainG (((List.range apN).map (lsSe C)).drop i) b S'=Z) ⟨S,v,m,by omega,by omega,rfl,hZ⟩ ?_
 rintro i b h' K hi ⟨S',v',m',x1,x2,x3,hG⟩ hK
 obtain ⟨z1,z2,z3,z4⟩:=sz
 refine ⟨fun hlt=>?_,fun hlt=>?_⟩
 ·have hi':i<apN:=by omega
  have e:IntKind.wrap .i64 (2*IntKind.wrap .i64 (IntKind.wrap .i64 (IntKind.wrap .i64 (C.mx+3)+((N45:Nat):Int))+(i:Int)))=lsSe C i:=by
   rw [hn,w64 (x:=C.mx+3) (by omega) (by omega),w64 (x:=C.mx+3+_) (by omega) (by omega),w64 (x:=C.mx+3+_+_) (by omega) (by omega),w64 (by omega) (by omega)]
   unfold lsSe
   omega
  refine ⟨_,Ext.cell m'.mem.ext hb,?_⟩
  show CallsH Tryz.prog 117 #[_,_,.int .i64 (IntKind.wrap .i64 (2*IntKind.wrap .i64 (IntKind.wrap .i64 (IntKind.wrap .i64 (C.mx+3)+((N45:Nat):Int))+(i:Int))))] h' _
  rw [e]
  refine (n117 m' ⟨by omega,by omega,by omega,by omega⟩ _ _).mono ?_
  rintro _ h2 ⟨rfl,v2,_,m2,_⟩
  refine ⟨_,rfl,hK _ _ (by omega) ⟨_,v2,m2,?_,?_,x3,?_⟩⟩
  ·simp only [gate1];omega
  ·simp [gate1];omega
  ·rw [<- hG,List.drop_eq_getElem_cons (i:=i) (l:=(List.range apN).map (lsSe C)) (by simpa using hi'),chainG]
   simp
 ·obtain rfl:i=apN:=by omega
  rw [List.drop_of_length_le (by simp),chainG] at hG
  subst hG
  exact hR _ v' m'
theorem n_7 {R:Value->Heap->Prop} {hA h_ h0 h:Heap} {apN N45 b2:Nat} {t15:Int} {v:CV} {S:Circ} {sa:Option Addr} {sn sc:Nat} {L:List Int} {X:List Itm} {C:Circ} (m:Nx h0 h ⟨b2,0,none⟩ v S (⟨1,sa,sn,sc,ints L⟩::X)) (hb:cellH h0 ((Addr.mk hA.size 0 none).add 0)=some (.int .i64 C.mx))
  (hn:N45=C.lats.length) (hL:L.length=C.lats.length) (hm0:0≤C.mx) (hm1:C.mx≤16384) (hl:C.lats.length≤16384) (hk:apN≤32768) (a:0≤S.mx) (b:S.mx≤180000) (c:S.ands.length≤180000) (d:S.lats.length≤180000) {Z:Circ×Int} (hZ:chainG (L++(List.range apN).map (lsSe C)) (lsSaved C) S=Z)
  (hR:∀ h' v',Nx h0 h' ⟨b2,0,none⟩ v' Z.1 (⟨1,sa,sn,sc,ints L⟩::X)->J69_11 R h_ b2 t15 Z.2 h'):J69_7 Tryz.prog R hA h_ apN N45 b2 C.mx t15 sa sn sc h:=by
 unfold J69_7
 have e:IntKind.wrap .i64 (2*IntKind.wrap .i64 (C.mx+2))=lsSaved C:=by
  rw [w64 (x:=C.mx+2) (by omega) (by omega),w64 (by omega) (by omega)];rfl
 rw [e]
 have hsn:L.length=sn:=(m.mem.get 6 rfl).rd.ilen
 refine LoopT.to2 (n:=N45) (by omega) (fun i b h'=>∃ (S':Circ) (v:CV),Nx h0 h' ⟨b2,0,none⟩ v S' (⟨1,sa,sn,sc,ints L⟩::X)/\S'.mx=S.mx+i/\S'.ands.length=S.ands.length+i/\S'.lats.length=S.lats.length /\
  chainG (L.drop i++(List.range apN).map (lsSe C)) b S'=Z) ⟨S,v,m,by omega,by omega,rfl,hZ⟩ ?_
 rintro i b h' K hi ⟨S',v',m',x1,x2,x3,hG⟩ hK
 refine ⟨fun hlt=>?_,fun hlt=>?_⟩
 ·have hi':i<L.length:=by omega
  refine ⟨by omega,by omega,(m'.mem.get 6 rfl).rd.getn (i:=i) (by omega) fun ad hl1 hc=>⟨_,hc,(n117 m' ⟨by omega,by omega,by omega,by omega⟩ _ _).mono ?_⟩⟩
  rintro _ h2 ⟨rfl,v2,_,m2,_⟩
  refine ⟨_,rfl,hK _ _ (by omega) ⟨_,v2,m2,?_,?_,x3,?_⟩⟩
  ·simp only [gate1];omega
  ·simp [gate1];omega
  ·rw [<- hG,List.drop_eq_getElem_cons hi',List.cons_append,chainG]
 ·obtain rfl:i=N45:=by omega
  rw [List.drop_of_length_le (by omega),List.nil_append] at hG
  exact n_9 m' hb hn hm0 hm1 hl hk ⟨by omega,by omega,by omega,by omega⟩ hG hR
end Go.Proofs.YtdpbdjdgdmheiaaGreat
namespace Go.Proofs.YtdpbdjdgdmheiaaGreat
open Go.Hx
theorem n_5 {R:Value->Heap->Prop} {hA h_ h0 h:Heap} {apN N45 b2:Nat} {t15:Int} {cv v:CV} {S:Circ} {X:List Itm} {C:Circ} (m:Nx h0 h ⟨b2,0,none⟩ v S X) (hb:Rd h0 (some ⟨hA.size,0,none⟩) 11 cv.cs) (r:CIs h0 cv C)
  (hla:∀ x∈C.lats,0≤x.a/\x.a≤40000) (hn:N45=C.lats.length) (hm0:0≤C.mx) (hm1:C.mx≤16384) (hl:C.lats.length≤16384) (hk:apN≤32768) (a:0≤S.mx) (b:S.mx≤120000) (c:S.ands.length≤120000) (d:S.lats.length≤120000) {Z:Circ×Int}
  (hZ:chainG ((sameG (lsSh C) C.lats 0 S).2++(List.range apN).map (lsSe C)) (lsSaved C) (sameG (lsSh C) C.lats 0 S).1=Z)
  (hR:∀ h' v' t,Nx h0 h' ⟨b2,0,none⟩ v' Z.1 (t::X)->J69_11 R h_ b2 t15 Z.2 h'):J69_5 Tryz.prog R hA h_ apN N45 b2 C.mx t15 h:=by
 unfold J69_5
 have hmx:=r.mx
 have hln:=r.len.l
 have hb0:cellH h0 ((Addr.mk hA.size 0 none).add 0)=some (.int .i64 C.mx):=by rw [<- hmx];exact hb.fld 0 rfl
 have m':Nx h0 h ⟨b2,0,none⟩ v S (⟨1,none,0,0,ints []⟩::X):=by
  refine ⟨m.mx,?_,m.z⟩
  have:=m.mem.add (t:=⟨1,none,0,0,ints []⟩) (.nil (.refl h))
  refine this.perm ?_
  exact (List.perm_middle (l₁:=[_,_,_,_,_,_])).symm
 refine LoopT.to2 (n:=N45) (by omega) (fun i (s:Option Addr×Nat×Nat) h'=>∃ (S':Circ) (v:CV) (L:List Int),Nx h0 h' ⟨b2,0,none⟩ v S' (⟨1,s.1,s.2.1,s.2.2,ints L⟩::X)/\L.length=i/\S'.mx=S.mx+3*i/\S'.ands.length=S.ands.length+3*i/\S'.lats.length=S.lats.length /\
  (sameG (lsSh C) (C.lats.drop i) i S').1=(sameG (lsSh C) C.lats 0 S).1/\L++(sameG (lsSh C) (C.lats.drop i) i S').2=(sameG (lsSh C) C.lats 0 S).2) ⟨S,v,[],m',rfl,by omega,by omega,rfl,rfl,rfl⟩ ?_
 rintro i ⟨sa,sn,sc⟩ h1 K hi ⟨S',v1,L,m1,hLl,x1,x2,x3,hF1,hF2⟩ hK
 have hsn:L.length=sn:=(m1.mem.get 6 rfl).rd.ilen
 refine ⟨fun hlt=>?_,fun hlt=>?_⟩
 ·have hic:i<C.lats.length:=by omega
  have e:IntKind.wrap .i64 (2*IntKind.wrap .i64 (IntKind.wrap .i64 (C.mx+3)+(i:Int)))=lsSh C i:=by
   rw [w64 (x:=C.mx+3) (by omega) (by omega),w64 (x:=C.mx+3+_) (by omega) (by omega),w64 (by omega) (by omega)]
   rfl
  have hsi:0≤lsSh C i/\lsSh C i≤4000000:=by unfold lsSh;omega
  refine ⟨_,_,_,(hb.ext m1.mem.ext).fld 2 rfl,by omega,by omega,((r.ext m1.mem.ext).l).elem L3.csl (by omega) (i:=i) (by omega) fun ad hl1 re=>⟨_,re.fld 0 rfl,_,Ext.cell m1.mem.ext hb0,?_⟩⟩
  rw [e]
  have hxa:=hla _ (List.getElem_mem hl1)
  have q0:Sm S':=⟨by omega,by omega,by omega,by omega⟩
  refine use (c118 hsi.1 (by omega)) ⟨_,rfl,(n117 m1 q0 _ _).mono ?_⟩
  rintro _ h2 ⟨rfl,v2,_,m2,_⟩
  have q1:Sm (gate1 S' C.lats[i].a (neg1 (lsSh C i))):=⟨by simp only [gate1];omega,by simp only [gate1];omega,by simp [gate1];omega,by show S'.lats.length≤_;omega⟩
  refine ⟨_,rfl,use (c118 hxa.1 (by omega)) ⟨_,rfl,(n117 m2 q1 _ _).mono ?_⟩⟩
  rintro _ h3 ⟨rfl,v3,_,m3,_⟩
  have q2:Sm (gate1 (gate1 S' C.lats[i].a (neg1 (lsSh C i))) (neg1 C.lats[i].a) (lsSh C i)):=⟨by simp only [gate1];omega,by simp only [gate1];omega,by simp [gate1];omega,by show S'.lats.length≤_;omega⟩
  have n0:=nL_rng q0
  have n1:=nL_rng q1
  refine ⟨_,rfl,use (c118 n0.1 (by omega)) ⟨_,rfl,use (c118 n1.1 (by omega)) ⟨_,rfl,(n117 m3 q2 _ _).mono ?_⟩⟩⟩
  rintro _ h4 ⟨rfl,v4,_,m4,_⟩
  refine ⟨_,rfl,?_⟩
  have h7:sn≤16384:=by omega
  intro h5
  have e5:Ext h4 h5:=Ext.push h4 _
  have f5:=(Fr.lit (.refl h4) [Value.int .i64 (nL (gate1 (gate1 S' C.lats[i].a (neg1 (lsSh C i))) (neg1 C.lats[i].a) (lsSh C i)))] 3 1 rfl).rd
  have m5:=m4.ext e5
  have h8:(sn+1)*8≤140737488355328:=by omega
  refine ⟨_,f5.read,rfl,(m5.mem.get 6 rfl).app rfl (by simp [Value.oneCell']) h8 fun a' c' h6 f6 u6 hor=>hK _ _ (by omega) ⟨gate1 (gate1 (gate1 S' C.lats[i].a (neg1 (lsSh C i))) (neg1 C.lats[i].a) (lsSh C i)) (neg1 (nL S')) (neg1 (nL (gate1 S' C.lats[i].a (neg1 (lsSh C i))))),v4,L++[nL (gate1 (gate1 S' C.lats[i].a (neg1 (lsSh C i))) (neg1 C.lats[i].a) (lsSh C i))],⟨m5.mx,?_,m5.z⟩,by simp;omega,?_,?_,x3,?_,?_⟩⟩
  ·have m6:=m5.mem.setAt 6 (t':=⟨1,a',sn+1,c',_⟩) rfl f6 u6 hor
   have eL:ints L++[Value.int .i64 (nL (gate1 (gate1 S' C.lats[i].a (neg1 (lsSh C i))) (neg1 C.lats[i].a) (lsSh C i)))]=ints (L++[nL (gate1 (gate1 S' C.lats[i].a (neg1 (lsSh C i))) (neg1 C.lats[i].a) (lsSh C i))]):=by simp [ints]
   rw [eL] at m6
   exact m6
  ·simp only [gate1];omega
  ·simp [gate1];omega
  ·rw [<- hF1,List.drop_eq_getElem_cons hic,sameG]
  ·rw [<- hF2,List.drop_eq_getElem_cons hic,sameG,List.append_assoc]
   rfl
 ·obtain rfl:i=N45:=by omega
  rw [List.drop_of_length_le (by omega),sameG] at hF1 hF2
  simp only [List.append_nil] at hF1 hF2
  subst hF1
  refine n_7 m1 hb0 hn (by omega) hm0 hm1 hl hk (by omega) (by omega) (by omega) (by omega) (by rw [hF2];exact hZ) fun h' v' mm=>hR h' v' _ mm
end Go.Proofs.YtdpbdjdgdmheiaaGreat
namespace Go.Proofs.YtdpbdjdgdmheiaaGreat
open Go.Hx
theorem n_3 {R:Value->Heap->Prop} {hA h_ h0 h:Heap} {apA:Option Addr} {apN N45 b2:Nat} {t15 held:Int} {cv v:CV} {S:Circ} {X:List Itm} {C:Circ} {must:List Int} (m:Nx h0 h ⟨b2,0,none⟩ v S X) (hb:Rd h0 (some ⟨hA.size,0,none⟩) 11 cv.cs) (r:CIs h0 cv C) (rm:Rd h0 apA apN (ints must))
  (hla:∀ x∈C.lats,0≤x.a/\x.a≤40000) (hn:N45=C.lats.length) (hm0:0≤C.mx) (hm1:C.mx≤16384) (hl:C.lats.length≤16384) (hk:apN≤16384) (a:0≤S.mx) (b:S.mx≤80000) (c:S.ands.length≤80000) (d:S.lats.length≤80000) {Z:Circ×Int}
  (hZ:chainG ((sameG (lsSh C) C.lats 0 (seenG held (lsSe C) must 0 S)).2++(List.range apN).map (lsSe C)) (lsSaved C) (sameG (lsSh C) C.lats 0 (seenG held (lsSe C) must 0 S)).1=Z)
  (hR:∀ h' v' t,Nx h0 h' ⟨b2,0,none⟩ v' Z.1 (t::X)->J69_11 R h_ b2 t15 Z.2 h'):J69_3 Tryz.prog R hA h_ apA apN N45 b2 C.mx t15 held h:=by
 unfold J69_3
 have hmx:=r.mx
 have hmn:=rm.ilen
 have hb0:cellH h0 ((Addr.mk hA.size 0 none).add 0)=some (.int .i64 C.mx):=by rw [<- hmx];exact hb.fld 0 rfl
 refine LoopT.to (n:=apN) (by omega) (fun i h'=>∃ (S':Circ) (v:CV),Nx h0 h' ⟨b2,0,none⟩ v S' X/\S'.mx=S.mx+2*i/\S'.ands.length=S.ands.length+2*i/\S'.lats.length=S.lats.length+i /\
  seenG held (lsSe C) (must.drop i) i S'=seenG held (lsSe C) must 0 S) ⟨S,v,m,by omega,by omega,by omega,rfl⟩ ?_
 rintro i h1 K hi ⟨S',v1,m1,x1,x2,x3,hF⟩ hK
 refine ⟨fun hlt=>?_,fun hlt=>?_⟩
 ·have hic:i<must.length:=by omega
  have e:IntKind.wrap .i64 (2*IntKind.wrap .i64 (IntKind.wrap .i64 (IntKind.wrap .i64 (C.mx+3)+((N45:Nat):Int))+(i:Int)))=lsSe C i:=by
   rw [hn,w64 (x:=C.mx+3) (by omega) (by omega),w64 (x:=C.mx+3+_) (by omega) (by omega),w64 (x:=C.mx+3+_+_) (by omega) (by omega),w64 (by omega) (by omega)]
   unfold lsSe
   omega
  have hsi:0≤lsSe C i/\lsSe C i≤4000000:=by unfold lsSe;omega
  have q0:Sm S':=⟨by omega,by omega,by omega,by omega⟩
  refine ⟨_,Ext.cell m1.mem.ext hb0,by omega,hlt,(rm.ext m1.mem.ext).getn (i:=i) (by omega) fun ad hl1 hc=>⟨_,hc,(n117 m1 q0 _ _).mono ?_⟩⟩
  rintro _ h2 ⟨rfl,v2,_,m2,_⟩
  have q1:Sm (gate1 S' held must[i]):=⟨by simp only [gate1];omega,by simp only [gate1];omega,by simp [gate1];omega,by show S'.lats.length≤_;omega⟩
  refine ⟨_,rfl,?_⟩
  rw [e]
  refine lat_step (l:=lsSe C i) m2 q1 hsi (nL_rng q0) fun h' v' m'=>hK _ (by omega) ⟨_,v',m',?_,?_,?_,?_⟩
  ·simp only [gate1];omega
  ·simp [gate1];omega
  ·simp [gate1];omega
  ·rw [<- hF,List.drop_eq_getElem_cons hic,seenG]
   rfl
 ·obtain rfl:i=apN:=by omega
  rw [List.drop_of_length_le (by omega),seenG] at hF
  subst hF
  exact n_5 m1 hb r hla hn hm0 hm1 hl (by omega) (by omega) (by omega) (by omega) (by omega) hZ hR
end Go.Proofs.YtdpbdjdgdmheiaaGreat
namespace Go.Proofs.YtdpbdjdgdmheiaaGreat
open Go.Hx
theorem n_2 {R:Value->Heap->Prop} {hA h_ h0 h:Heap} {apA:Option Addr} {apN N45 b2:Nat} {now held:Int} {cv v:CV} {S:Circ} {X:List Itm} {C:Circ} {must:List Int} (m:Nx h0 h ⟨b2,0,none⟩ v S X) (hb:Rd h0 (some ⟨hA.size,0,none⟩) 11 cv.cs) (r:CIs h0 cv C) (rm:Rd h0 apA apN (ints must))
  (hla:∀ x∈C.lats,0≤x.a/\x.a≤40000) (hnow:0≤now/\now≤4000000) (hn:N45=C.lats.length) (hm0:0≤C.mx) (hm1:C.mx≤16384) (hl:C.lats.length≤8192) (hk:apN≤16384) (a:0≤S.mx) (b:S.mx≤50000) (c:S.ands.length≤50000) (d:S.lats.length≤50000) {Z:Circ×Int}
  (hZ:chainG ((sameG (lsSh C) C.lats 0 (seenG held (lsSe C) must 0 (shadG now (lsSh C) C.lats 0 S))).2++(List.range apN).map (lsSe C)) (lsSaved C) (sameG (lsSh C) C.lats 0 (seenG held (lsSe C) must 0 (shadG now (lsSh C) C.lats 0 S))).1=Z)
  (hR:∀ h' v' t,Nx h0 h' ⟨b2,0,none⟩ v' Z.1 (t::X)->J69_11 R h_ b2 now Z.2 h'):LoopT (σ:=Int) (fun st_ h_st nx_st=>B69_17 Tryz.prog R hA h_ apA apN N45 b2 C.mx now held st_ h_st nx_st) 0 h:=by
 have hmx:=r.mx
 have hln:=r.len.l
 have hb0:cellH h0 ((Addr.mk hA.size 0 none).add 0)=some (.int .i64 C.mx):=by rw [<- hmx];exact hb.fld 0 rfl
 refine LoopT.to (n:=N45) (by omega) (fun i h'=>∃ (S':Circ) (v:CV),Nx h0 h' ⟨b2,0,none⟩ v S' X/\S'.mx=S.mx+3*i/\S'.ands.length=S.ands.length+3*i/\S'.lats.length=S.lats.length+i /\
  shadG now (lsSh C) (C.lats.drop i) i S'=shadG now (lsSh C) C.lats 0 S) ⟨S,v,m,by omega,by omega,by omega,rfl⟩ ?_
 rintro i h1 K hi ⟨S',v1,m1,x1,x2,x3,hF⟩ hK
 refine ⟨fun hlt=>?_,fun hlt=>?_⟩
 ·have hic:i<C.lats.length:=by omega
  have e:IntKind.wrap .i64 (2*IntKind.wrap .i64 (IntKind.wrap .i64 (C.mx+3)+(i:Int)))=lsSh C i:=by
   rw [w64 (x:=C.mx+3) (by omega) (by omega),w64 (x:=C.mx+3+_) (by omega) (by omega),w64 (by omega) (by omega)]
   rfl
  have q0:Sm S':=⟨by omega,by omega,by omega,by omega⟩
  refine ⟨_,_,_,(hb.ext m1.mem.ext).fld 2 rfl,by omega,by omega,((r.ext m1.mem.ext).l).elem L3.csl (by omega) (i:=i) (by omega) fun ad hl1 re=>⟨_,re.fld 0 rfl,_,Ext.cell m1.mem.ext hb0,(n117 m1 q0 _ _).mono ?_⟩⟩
  rintro _ h2 ⟨rfl,v2,_,m2,_⟩
  have q1:Sm (gate1 S' now C.lats[i].a):=⟨by simp only [gate1];omega,by simp only [gate1];omega,by simp [gate1];omega,by show S'.lats.length≤_;omega⟩
  refine ⟨_,rfl,use (c118 hnow.1 (by omega)) ⟨_,rfl,?_⟩⟩
  rw [e]
  refine (n117 m2 q1 _ _).mono ?_
  rintro _ h3 ⟨rfl,v3,_,m3,_⟩
  have q2:Sm (gate1 (gate1 S' now C.lats[i].a) (neg1 now) (lsSh C i)):=⟨by simp only [gate1];omega,by simp only [gate1];omega,by simp [gate1];omega,by show S'.lats.length≤_;omega⟩
  refine ⟨_,rfl,lat_step (l:=lsSh C i) m3 q2 (nL_rng q0) (nL_rng q1) fun h' v' m'=>hK _ (by omega) ⟨_,v',m',?_,?_,?_,?_⟩⟩
  ·simp only [gate1];omega
  ·simp [gate1];omega
  ·simp [gate1];omega
  ·rw [<- hF,List.drop_eq_getElem_cons hic,shadG]
   rfl
 ·obtain rfl:i=N45:=by omega
  rw [List.drop_of_length_le (by omega),shadG] at hF
  subst hF
  exact n_3 m1 hb r rm hla hn hm0 hm1 (by omega) (by omega) (by omega) (by omega) (by omega) (by omega) hZ hR
end Go.Proofs.YtdpbdjdgdmheiaaGreat
namespace Go.Proofs.YtdpbdjdgdmheiaaGreat
open Go.Hx
theorem n_2h {R:Value->Heap->Prop} {hA h_ h:Heap} {apA:Option Addr} {apN N45:Nat} {cv:CV} {C:Circ} {must:List Int} (hb:Rd h (some ⟨hA.size,0,none⟩) 11 cv.cs) (r:CIs h cv C) (rm:Rd h apA apN (ints must))
  (hla:∀ x∈C.lats,0≤x.a/\x.a≤40000) (hn:N45=C.lats.length) (sm:LsSm C must) (hi:C.ins.length≤16384) (hco:C.cons.length≤16384)
  (hR:∀ b2 h' v' X,Nx h h' ⟨b2,0,none⟩ v' (ls7 C must).1 X->J69_11 R h_ b2 (nL (ls0 C must)) (ls7 C must).2 h'):J69_2 Tryz.prog R hA h_ apA apN N45 h:=by
 obtain ⟨g0,g1,g2,g3⟩:=sm
 obtain ⟨q1,q2,q3,q4,q5,q6,q7,q8,q9,q10⟩:=r.len
 have hmx:=r.mx
 have hmn:=rm.ilen
 have hsv:0≤lsSave C/\lsSave C≤4000000:=by unfold lsSave;omega
 have hsd:0≤lsSaved C/\lsSaved C≤4000000:=by unfold lsSaved;omega
 have hmx0:(ls0 C must).mx=C.mx+2+C.lats.length+must.length:=rfl
 have s0:Sm (ls0 C must):=⟨by omega,by omega,by show C.ands.length≤_;omega,by show C.lats.length≤_;omega⟩
 have s1:Sm (ls1 C must):=⟨by simp only [ls1,gate1];omega,by simp only [ls1,gate1];omega,by simp [ls1,gate1,ls0];omega,by show C.lats.length≤_;omega⟩
 have blt:∀ k,(Addr.add ⟨hA.size,0,none⟩ k).block<h.size:=fun k=>by have:=cellH_lt (hb.fld 0 rfl);rw [add_block] at this ⊢;exact this
 unfold J69_2
 have m:=MemU.start (Mem.nil (.refl h))
 refine ⟨blt 1,_,_,_,hb.fld 1 rfl,fun U h3 g=>(c41 (r.i.ext g.ext) (by omega)).mono ?_⟩
 rintro _ h4 ⟨a1,c1,rfl,f⟩
 obtain ⟨k,m1⟩:=(m.grow g).add1 (t:=⟨1,a1,cv.i.n,c1,ints C.ins⟩) f
 refine ⟨_,_,_,rfl,k,fun U1 h5 b g hU ho=>?_⟩
 have m2:=flt0 (m1.grow g) rfl hU ho 3
 refine ⟨blt 2,_,_,_,(hb.ext m2.mem.ext).fld 2 rfl,fun U2 h6 g=>?_⟩
 have m3:=m2.grow g
 have e3:=m3.mem.ext
 refine ⟨C.lats.flatMap L3.cs,(r.l.ext e3).read,(r.l).len,app0 (m3.mem.at' 0 rfl) (r.l).len L3.one (by omega) fun a2 c2 h7 f u hor=>?_⟩
 obtain ⟨k,m4⟩:=m3.setAt 0 (t':=⟨3,a2,cv.l.n,c2,C.lats.flatMap L3.cs⟩) rfl f u hor
 refine ⟨k,blt 5,_,_,_,(hb.ext m4.mem.ext).fld 5 rfl,fun U5 h12 g=>(c41 (r.c.ext ((m4.grow g).mem.ext)) (by omega)).mono ?_⟩
 rintro _ h13 ⟨a5,c10005,rfl,f⟩
 obtain ⟨k,m7⟩:=(m4.grow g).add1 (t:=⟨1,a5,cv.c.n,c10005,ints C.cons⟩) f
 refine ⟨_,_,_,rfl,k,fun U8 h18 b1 g hU ho=>?_⟩
 have m10:=flt0 (m7.grow g) rfl hU ho 3
 refine ⟨blt 8,_,_,_,(hb.ext m10.mem.ext).fld 8 rfl,fun U9 h19 g=>?_⟩
 have m11:=m10.grow g
 refine ⟨C.ands.flatMap L3.cs,(r.g.ext m11.mem.ext).read,(r.g).len,app0 (m11.mem.at' 0 rfl) (r.g).len L3.one (by omega) fun a8 c10008 h20 f u hor=>?_⟩
 obtain ⟨k,m12⟩:=m11.setAt 0 (t':=⟨3,a8,cv.g.n,c10008,C.ands.flatMap L3.cs⟩) rfl f u hor
 refine ⟨k,blt 0,_,(hb.ext m12.mem.ext).fld 0 rfl,fun U10 h21 b2 g hU ho U11 h22 g'=>?_⟩
 have m13:=m12.grow g
 have hlt:=m13.lt b2 hU
 have m14:=(m13.take hU hlt.1 (t:=⟨1,some ⟨b2,0,none⟩,11,11,CV.zero.cs⟩) ⟨Own.row ho rfl,(fun ad ha=>by cases ha;exact hlt.1),m13.mem.ext⟩ fun ad ha=>by cases ha;rfl).grow g'
 let v1:CV:=⟨lsN C must,⟨a1,cv.i.n,c1⟩,⟨a2,cv.l.n,c2⟩,⟨none,0,0⟩,⟨none,0,0⟩,⟨a5,cv.c.n,c10005⟩,⟨none,0,0⟩,⟨none,0,0⟩,⟨a8,cv.g.n,c10008⟩,⟨none,0,0⟩,⟨none,0,0⟩⟩
 have wN:IntKind.wrap .i64 (IntKind.wrap .i64 (IntKind.wrap .i64 (cv.mx+2)+((N45:Nat):Int))+((apN:Nat):Int))=lsN C must:=by
  rw [w64 (x:=cv.mx+2) (by omega) (by omega),w64 (x:=cv.mx+2+_) (by omega) (by omega),w64 (by omega) (by omega)]
  unfold lsN
  omega
 rw [wN]
 refine (m14.mem.get 0 rfl).put (ws:=v1.cs) rfl (CV.one v1) fun h27 f u=>⟨u.1,?_⟩
 have mm:=m14.mem.setAt 0 (t':=⟨1,some ⟨b2,0,none⟩,11,11,v1.cs⟩) rfl f u (.inl rfl)
 have hb27:=hb.ext mm.ext
 have w1:IntKind.wrap .i64 (2*IntKind.wrap .i64 (cv.mx+1))=lsSave C:=by rw [w64 (x:=cv.mx+1) (by omega) (by omega),w64 (by omega) (by omega),hmx];rfl
 have w2:IntKind.wrap .i64 (2*IntKind.wrap .i64 (cv.mx+2))=lsSaved C:=by rw [w64 (x:=cv.mx+2) (by omega) (by omega),w64 (by omega) (by omega),hmx];rfl
 refine ⟨_,hb27.fld 0 rfl,_,hb27.fld 0 rfl,_,_,_,(mm.get 0 rfl).rd.fld 1 rfl,?_⟩
 rw [w1,w2]
 intro h28
 have e28:Ext h27 h28:=Ext.push h27 _
 have f28:=(Fr.lit (.refl h27) [Value.int .i64 (lsSave C)] 3 1 rfl).rd
 have m28:=mm.ext' e28
 refine ⟨[.int .i64 (lsSave C)],f28.read,rfl,(m28.get 4 rfl).app rfl (by simp [Value.oneCell']) (by omega) fun a3 c3 h29 f29 u29 hor=>?_⟩
 have m29:=m28.setAt 4 (t':=⟨1,a3,cv.i.n+1,c3,ints C.ins++[.int .i64 (lsSave C)]⟩) rfl f29 u29 hor
 refine (m29.get 0 rfl).cellAt 1 (by omega) rfl fun h30 u30 f30=>?_
 have m30:=m29.setAt 0 (t':=⟨1,some ⟨b2,0,none⟩,11,11,_⟩) rfl f30 u30 (.inl rfl)
 have ei:ints C.ins++[Value.int .i64 (lsSave C)]=ints (ls0 C must).ins:=by simp [ints,ls0]
 rw [ei] at m30
 let v2:CV:={ v1 with i:=⟨a3,cv.i.n+1,c3⟩ }
 have n30:Nx h h30 ⟨b2,0,none⟩ v2 (ls0 C must) []:=by
  refine ⟨rfl,?_,rfl,rfl,rfl,rfl,rfl⟩
  have ma:=m30.add (t:=⟨1,none,0,0,[]⟩) (.nil (.refl h30))
  refine ma.perm ?_
  have p:∀ {n k g c l i:Itm},[n,k,g,c,l,i].Perm [k,i,l,n,c,g]:=fun {n k g c l i}=>by
   have h1:[n,k,g,c,l,i].Perm [k,n,g,c,l,i]:=.swap _ _ _
   have h2:[n,g,c,l,i].Perm ([i,l,c,g,n]):=(List.reverse_perm [i,l,c,g,n])
   have h3:[c,g,n].Perm [n,c,g]:=List.perm_append_comm (l₁:=[c,g]) (l₂:=[n])
   exact h1.trans (.cons _ (h2.trans (.cons _ (.cons _ h3))))
  exact p
 clear m30 m29 m28 mm m14 m13 m12 m11 m10 m7 m4 m3 m2 m1 m
 refine use (c118 hsd.1 (by omega)) ⟨_,rfl,(n117 n30 s0 _ _).mono ?_⟩
 rintro _ h32 ⟨rfl,v3,hl3,n32,_⟩
 refine ⟨_,rfl,(n119 (S:=ls1 C must) n32 s1 hsv hsd).mono ?_⟩
 rintro _ h33 ⟨rfl,v4,hl4,n33,_⟩
 have n33:Nx h h33 ⟨b2,0,none⟩ v4 (ls2 C must) []:=n33
 refine ⟨_,rfl,_,_,_,n33.f 2 rfl,?_⟩
 intro h34
 have e34:Ext h33 h34:=Ext.push h33 _
 have r34:Rd h34 (some ⟨h33.size,0,none⟩) 3 (L3.cs ⟨lsSaved C,neg1 (nL (ls1 C must)),0⟩):=(Fr.lit (.refl h33) (L3.cs ⟨lsSaved C,neg1 (nL (ls1 C must)),0⟩) 65 3 rfl).rd
 have n34:=n33.ext e34
 have q8:=n34.llen
 have hll:(ls2 C must).lats.length=C.lats.length:=rfl
 refine ⟨_,r34.read,rfl,(n34.mem.get 2 rfl).app rfl (by simp [L3.cs,Value.oneCell']) (by show (v4.l.n+1)*24≤_;omega) fun a4 c4 h35 f35 u35 hor=>?_⟩
 have m35:=n34.mem.setAt 2 (t':=⟨3,a4,v4.l.n+1,c4,(ls2 C must).lats.flatMap L3.cs++L3.cs ⟨lsSaved C,neg1 (nL (ls1 C must)),0⟩⟩) rfl f35 u35 hor
 refine (m35.get 0 rfl).cellAt 2 (by omega) rfl fun h36 u36 f36=>?_
 have m36:=m35.setAt 0 (t':=⟨1,some ⟨b2,0,none⟩,11,11,_⟩) rfl f36 u36 (.inl rfl)
 have e:(ls2 C must).lats.flatMap L3.cs++L3.cs ⟨lsSaved C,neg1 (nL (ls1 C must)),0⟩=(ls3 C must).lats.flatMap L3.cs:=by
  show _=(C.lats++[(⟨lsSaved C,lsHeld C must,0⟩:L3)]).flatMap L3.cs
  rw [List.flatMap_append];simp;rfl
 rw [e] at m36
 have n36:Nx h h36 ⟨b2,0,none⟩ { v4 with l:=⟨a4,v4.l.n+1,c4⟩ } (ls3 C must) []:=⟨n33.mx,m36,n33.z⟩
 have m3x:(ls3 C must).mx=C.mx+2+C.lats.length+must.length+2:=by simp only [ls3,ls2,ls1,gate1,hmx0];omega
 have m3a:(ls3 C must).ands.length=C.ands.length+2:=by simp [ls3,ls2,ls1,gate1,ls0]
 have m3l:(ls3 C must).lats.length=C.lats.length+1:=by simp [ls3]
 rw [hmx]
 refine n_2 (Z:=ls7 C must) n36 hb r rm hla (nL_rng s0) hn g0 (by omega) (by omega) (by omega) (by omega) (by omega) (by omega) (by omega) ?_ fun h' v' t mm=>hR b2 h' v' _ mm
 rw [<- hmn]
 rfl
end Go.Proofs.YtdpbdjdgdmheiaaGreat
namespace Go.Proofs.YtdpbdjdgdmheiaaGreat
open Go.Hx Go.Deep
section
variable {h0 h:Heap} {k:Addr} {v:CV} {S:Circ} {X:List Itm}
theorem Nx.noX (m:Nx h0 h k v S X):Nx h0 h k v S []:=⟨m.mx,m.mem.sub (.cons_cons _ (.cons_cons _ (.cons_cons _ (.cons_cons _ (.cons_cons _ (.cons_cons _ (List.nil_sublist _))))))),m.z⟩
theorem Nx.cisF (m:Nx h0 h k v S X) (ho:S.outs=[]) (hj:S.just=[]) (hf:S.fair=[]) (hs:S.syms=[]) (hm:S.coms=[]) {p:Nat} (hp:p≤h0.size):Far h p h.size fun h'=>CIs h' v S:=by
 intro Q h' u hQ
 obtain ⟨z1,z2,z3,z4,z5⟩:=m.z
 have z:=(CNew.zero (.refl h')).cis
 have key:∀ {i:Nat} {t:Itm},(⟨1,some k,11,11,v.cs⟩::⟨1,v.i.a,v.i.n,v.i.c,ints S.ins⟩::⟨3,v.l.a,v.l.n,v.l.c,S.lats.flatMap L3.cs⟩::⟨1,v.b.a,v.b.n,v.b.c,ints S.bads⟩::⟨1,v.c.a,v.c.n,v.c.c,ints S.cons⟩::⟨3,v.g.a,v.g.n,v.g.c,S.ands.flatMap L3.cs⟩::X:List Itm)[i]?=some t->Rd h' t.a (t.n*t.sz) t.vs:=fun hk=>(m.mem.get _ hk).own.rd.upd u fun ad ha hS=>
  hQ _ (Nat.le_trans hp ((m.mem.get _ hk).new ad ha)) (m.mem.lt (List.mem_of_getElem? hk) ha) hS
 refine ⟨m.mx,Rd.one (key (i:=1) rfl),key (i:=2) rfl,?_,Rd.one (key (i:=3) rfl),Rd.one (key (i:=4) rfl),?_,?_,key (i:=5) rfl,?_,?_⟩
 ·rw [z1,ho];exact z.o
 ·rw [z2,hj];exact z.j
 ·rw [z3,hf];exact z.f
 ·rw [z4,hs];exact z.s
 ·rw [z5,hm];exact z.m
theorem Nx.bad (m:Nx h0 h k v S []) (b:Int) {K:Heap->Prop} (hK:∀ h' v',Nx h0 h' k v' { S with bads:=[b] } []->K h') :
  let h_75:Heap:=h.push (.cells #[.int .i64 b] 3);StoreH h_75 (k.add 4) [.slice (some (Addr.mk h.size 0 none)) 1 1] K:=by
 intro h44
 have f44:Fr h 1 h44 (some ⟨h.size,0,none⟩) 1 1 (ints [b]):=Fr.lit (.refl h) [.int .i64 b] 3 1 rfl
 have m44:=m.mem.add (t:=⟨1,some ⟨h.size,0,none⟩,1,1,ints [b]⟩) f44
 refine (m44.get 1 rfl).cellAt 4 (by omega) rfl fun h45 u45 f45=>hK h45 { v with b:=⟨some ⟨h.size,0,none⟩,1,1⟩ } ?_
 have m45:=m44.setAt 1 (t':=⟨1,some k,11,11,_⟩) rfl f45 u45 (.inl rfl)
 refine ⟨m.mx,?_,m.z⟩
 have pp:∀ {a i l b' c g n:Itm},[n,a,i,l,b',c,g].Perm ([b']++[a,i,l,n,c,g]):=fun {a i l b' c g n}=>by
  have h1:[n,a,i,l,b',c,g].Perm [a,i,l,n,b',c,g]:=(List.perm_middle (l₁:=[a,i,l]) (a:=n) (l₂:=[b',c,g])).symm
  exact h1.trans (List.perm_middle (l₁:=[a,i,l,n]) (a:=b') (l₂:=[c,g]))
 exact (m45.perm pp).sub (List.sublist_append_right _ _)
end
noncomputable def nowI (C:Circ) (j:Int):Int:=if lsE C j=0 then nL (ls0 C (mustOf C j)) else 0
def SafeD (C:Circ) (j:Int) (h:Heap) (w:Value) (h':Heap):Prop:=Ext h h'/\∃ v':CV,w=.tuple #[v'.v,.int .i64 (nowI C j),.int .i64 (lsE C j)]/\Far h' h.size h'.size fun h'=>CIs h' v' (safeC C j)
section
variable {h:Heap} {v:CV} {C:Circ} {j:Int}
set_option maxRecDepth 4000 in
theorem c69 (r:CIs h v C) (ok:C.Ok):CallsH Tryz.prog 69 #[v.v,.int .i64 j] h (SafeD C j h):=by
 obtain ⟨q1,q2,q3,q4,q5,q6,q7,q8,q9,q10⟩:=r.len
 have hmx:=r.mx
 refine run69 v j _ h ?_
 unfold VC69
 intro h1 h2
 have e1:Ext h h1:=Ext.box h _
 have e2:Ext h h2:=e1.trans (Ext.push h1 _)
 have hb:Rd h2 (some ⟨h.size,0,none⟩) 11 v.cs:=(boxC v 29).ext (Ext.push h1 _)
 have fb:Fr h1 1 h2 (some ⟨h1.size,0,none⟩) 11 11 CV.zero.cs:=Fr.lit (.refl h1) CV.zero.cs 29 11 rfl
 have bad:∀ {hx:Heap} {e:Int},Fr h1 1 hx (some ⟨h1.size,0,none⟩) 11 11 CV.zero.cs->lsE C j=e->e≠0->StoreH hx (Addr.mk h1.size 0 none) CV.zero.cs fun h4=>LdC h4 (Addr.mk h1.size 0 none) fun t=>
   SafeD C j h (.tuple #[t.v,.int .i64 0,.int .i64 e]) h4:=fun {hx e} f he hne=>by
  refine f.put (ws:=CV.zero.cs) rfl (CV.one _) fun h4 f4 u4=>ldC f4.rd ⟨e1.trans f4.ext,CV.zero,?_,?_⟩
  ·rw [he,show nowI C j=0 by unfold nowI;rw [if_neg (by rw [he];exact hne)]] <;> rfl
  ·rw [safeC_ne (by rw [he];exact hne)]
   exact fun S h' u hS=>(CNew.zero (.refl _)).cis
 refine ldC hb (useX (c93 (r.ext e2) ok) fun h3 e3=>⟨_,_,rfl,fun hz=>?_,fun hz=>bad (fb.upd e3) (by unfold lsE;rw [if_pos hz]) hz⟩)
 have e03:=e2.trans e3
 have hb3:=hb.ext e3
 have r3:=r.ext e03
 have fb3:=fb.upd e3
 obtain ⟨⟨b0,b1⟩,b2,b3,b4,b5,b6,b7,b8,b9,b10,b11,b12⟩:=chk_bounds hz
 have noj:¬ (0≤j/\j<C.just.length)->lsE C j=5:=fun hn=>by unfold lsE;rw [if_neg (by simp [hz]),if_pos hn]
 unfold J69_0
 refine ⟨fun hj=>bad fb3 (noj (by omega)) (by omega),fun hj=>⟨_,_,_,hb3.fld 6 rfl,fun hj2=>bad fb3 (noj (by omega)) (by omega),fun hj2=>?_⟩⟩
 have hjj:0≤j/\j<C.just.length:=by omega
 unfold J69_1
 have hk3:∀ k,(Addr.add ⟨h.size,0,none⟩ k).block<h3.size:=fun k=>by have:=cellH_lt (hb3.fld 0 rfl);rw [add_block] at this ⊢;exact this
 refine ⟨hk3 6,_,_,_,hb3.fld 6 rfl,by omega,by omega,r3.j.get (i:=j.toNat) (by omega) fun ad hl x hc hr hxc hx1 hxn=>⟨cellH_lt hc,_,_,_,hc,?_⟩⟩
 have hmust:mustOf C j=x.l++C.fair:=by unfold mustOf;rw [List.getD_eq_getElem?_getD,List.getElem?_eq_getElem hl,hx1];rfl
 have hxl:x.l.length≤16384:=by rw [hx1];have:=le_sumS (List.getElem_mem hl);omega
 have hxn2:=hr.ilen
 refine (c41 hr (by omega)).mono ?_
 rintro _ h4 ⟨a4,c4,rfl,f4⟩
 have e4:=f4.ext
 refine ⟨_,_,_,rfl,fun b hb=>e4.2 b hb fun x=>x,hk3 7,_,_,_,(hb3.ext e4).fld 7 rfl,ints C.fair,(r3.f.ext e4).read,by rw [(r3.f).len];omega,?_⟩
 refine f4.app (by rw [(r3.f).len];omega) ints_one (by omega) fun a5 c5 h5 f5 u5 hor=>?_
 have e35:Ext h3 h5:=f5.ext
 have e05:=e03.trans e35
 have em:ints x.l++ints C.fair=ints (mustOf C j):=by rw [hmust,ints,ints,ints,List.map_append]
 rw [em] at f5
 have hml:(mustOf C j).length=x.n+v.f.n:=f5.rd.ilen
 have hb5:=hb3.ext e35
 have fb5:=fb3.upd e35
 refine ⟨_,_,_,hb5.fld 2 rfl,_,hb5.fld 0 rfl,?_⟩
 have hxn3:x.n≤16384:=by omega
 have w1:IntKind.wrap .i64 (6*((v.l.n:Nat):Int))=6*(v.l.n:Nat):=w64 (by omega) (by omega)
 have w2:IntKind.wrap .i64 (2*((x.n+v.f.n:Nat):Int))=2*(x.n+v.f.n:Nat):=w64 (by omega) (by omega)
 have w3:IntKind.wrap .i64 (2+(6*((v.l.n:Nat):Int)))=2+6*(v.l.n:Nat):=w64 (by omega) (by omega)
 have w4:IntKind.wrap .i64 (2+6*((v.l.n:Nat):Int)+2*(x.n+v.f.n:Nat))=2+6*(v.l.n:Nat)+2*(x.n+v.f.n:Nat):=w64 (by omega) (by omega)
 have w4b:IntKind.wrap .i64 (2+6*((v.l.n:Nat):Int)+2*(x.n+v.f.n:Nat)+(v.l.n:Nat))=2+7*(v.l.n:Nat)+2*(x.n+v.f.n:Nat):=by rw [w64 (by omega) (by omega)];omega
 have w4c:IntKind.wrap .i64 (2+7*((v.l.n:Nat):Int)+2*(x.n+v.f.n:Nat)+(x.n+v.f.n:Nat))=2+7*(v.l.n:Nat)+3*(x.n+v.f.n:Nat):=by rw [w64 (by omega) (by omega)];omega
 have w5:IntKind.wrap .i64 (v.mx+2)=v.mx+2:=w64 (by omega) (by omega)
 have w6:IntKind.wrap .i64 (v.mx+2+((v.l.n:Nat):Int))=v.mx+2+(v.l.n:Nat):=w64 (by omega) (by omega)
 have w7:IntKind.wrap .i64 (v.mx+2+((v.l.n:Nat):Int)+(x.n+v.f.n:Nat))=v.mx+2+(v.l.n:Nat)+(x.n+v.f.n:Nat):=w64 (by omega) (by omega)
 have w8:IntKind.wrap .i64 (v.mx+2+((v.l.n:Nat):Int)+(x.n+v.f.n:Nat)+(2+7*((v.l.n:Nat):Int)+3*(x.n+v.f.n:Nat)))=v.mx+2+(v.l.n:Nat)+(x.n+v.f.n:Nat)+(2+7*(v.l.n:Nat)+3*(x.n+v.f.n:Nat)):=w64 (by omega) (by omega)
 have w9:IntKind.wrap .i64 (((v.l.n:Nat):Int)+1)=(v.l.n:Nat)+1:=w64 (by omega) (by omega)
 have w10:IntKind.wrap .i64 (((v.l.n:Nat):Int)+1+(v.l.n:Nat))=(v.l.n:Nat)+1+(v.l.n:Nat):=w64 (by omega) (by omega)
 have w11:IntKind.wrap .i64 (((v.l.n:Nat):Int)+1+(v.l.n:Nat)+(x.n+v.f.n:Nat))=(v.l.n:Nat)+1+(v.l.n:Nat)+(x.n+v.f.n:Nat):=w64 (by omega) (by omega)
 have w12:IntKind.wrap .i64 (((v.g.n:Nat):Int)+(2+7*((v.l.n:Nat):Int)+3*(x.n+v.f.n:Nat)))=(v.g.n:Nat)+(2+7*(v.l.n:Nat)+3*(x.n+v.f.n:Nat)):=w64 (by omega) (by omega)
 have long:LLong C (mustOf C j)->lsE C j=2:=fun hl=>by unfold lsE;rw [if_neg (by simp [hz]),if_neg (fun h=>h hjj),if_pos hl]
 rw [w1,w2,w3,w4,w4b,w4c,w5,w6,w7,w8,w9,w10,w11]
 refine ⟨fun hp=>bad fb5 (long (.inl (by omega))) (by omega),fun n1=>⟨_,_,_,hb5.fld 1 rfl,?_⟩⟩
 rw [w64 (x:=((v.i.n:Nat):Int)+1) (by omega) (by omega)]
 refine ⟨fun hp=>bad fb5 (long (.inr (.inl (by omega)))) (by omega),fun n2=>⟨fun hp=>bad fb5 (long (.inr (.inr (.inl (by omega))))) (by omega),fun n3=>⟨_,_,_,hb5.fld 8 rfl,?_⟩⟩⟩
 rw [w12]
 refine ⟨fun hp=>bad fb5 (long (.inr (.inr (.inr (by omega))))) (by omega),fun n4=>?_⟩
 have hE:lsE C j=0:=by unfold lsE;rw [if_neg (by simp [hz]),if_neg (fun h=>h hjj),if_neg (by unfold LLong;omega)]
 have hla:∀ x∈C.lats,0≤x.a/\x.a≤40000:=fun x hx=>by
  obtain ⟨i,hi⟩:=List.mem_iff_getElem?.1 hx
  have:=(dn hz).l i x hi
  omega
 refine n_2h (must:=mustOf C j) (cv:=v) (C:=C) hb5 (r.ext e05) f5.rd hla (by omega) ⟨b0,by omega,by omega,by omega⟩ b2 (by omega) fun bk h6 v6 X n6=>?_
 unfold J69_11
 refine n6.noX.bad _ fun h7 v7 n7=>?_
 have n7:Nx h5 h7 ⟨bk,0,none⟩ v7 (lassoX C (mustOf C j)) []:=n7
 have mb:Mem h1 h5 [⟨1,some ⟨h1.size,0,none⟩,11,11,CV.zero.cs⟩]:=(Mem.nil (.refl h1)).add fb5
 have nb:Nx h1 h7 ⟨bk,0,none⟩ v7 (lassoX C (mustOf C j)) [⟨1,some ⟨h1.size,0,none⟩,11,11,CV.zero.cs⟩]:=⟨n7.mx,mb.app n7.mem,n7.z⟩
 refine ldC (nb.mem.get 0 rfl).rd ((nb.mem.get 6 rfl).put (ws:=v7.cs) rfl (CV.one v7) fun h8 f8 u8=>?_)
 have m8:=nb.mem.setAt 6 (t':=⟨1,some ⟨h1.size,0,none⟩,11,11,v7.cs⟩) rfl f8 u8 (.inl rfl)
 have n8:Nx h1 h8 ⟨bk,0,none⟩ v7 (lassoX C (mustOf C j)) [⟨1,some ⟨h1.size,0,none⟩,11,11,v7.cs⟩]:=⟨n7.mx,m8,n7.z⟩
 obtain ⟨o1,o2,o3,o4,o5⟩:=lsX_nil hE
 refine ldC f8.rd ⟨e1.trans f8.ext,v7,?_,?_⟩
 ·rw [hE,show nowI C j=nL (ls0 C (mustOf C j)) by unfold nowI;rw [if_pos hE]] <;> rfl
 ·rw [safeC_0 hE]
  exact n8.cisF o1 o2 o3 o4 o5 e1.1
end
end Go.Proofs.YtdpbdjdgdmheiaaGreat
