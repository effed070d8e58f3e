/- Words and facts that the claim's proof leans on. No condition. -/
import Derived.Test.YtdpbdjdgdmheiaaMA
import Derived.Test.YtdpbdjdgdmheiaaDA
import Derived.Test.YtdpbdjdgdmheiaaKAa
import Derived.Test.YtdpbdjdgdmheiaaCH
import Derived.Test.YtdpbdjdgdmheiaaCR
set_option linter.unusedVariables false
set_option linter.unusedSimpArgs false
namespace Go.Hx
theorem xor1_nat (n:Nat):n ^^^ 1=n+1-n % 2*2:=by
 have h1:(n ^^^ 1) / 2=n / 2:=by
  have:=Nat.xor_div_two (a:=n) (b:=1)
  simpa using this
 have h2:=@Nat.xor_mod_two_eq_one n 1
 have h3:(n ^^^ 1) % 2<2:=Nat.mod_lt _ (by omega)
 have h4:(n ^^^ 1) % 2=1↔¬ (n % 2=1):=by rw [h2];simp
 omega
theorem xor1 {x:Int} (h0:0≤x) (h1:x≤4611686018427387904):bop .xor .i64 x 1=neg1 x:=by
 obtain ⟨n,rfl⟩:∃ n:Nat,x=n:=⟨x.toNat,by omega⟩
 show IntKind.i64.wrap ((BitVec.ofInt 64 (n:Int) ^^^ BitVec.ofInt 64 1).toNat:Int)=_
 rw [BitVec.toNat_xor,ofInt64 n (by omega),show (BitVec.ofInt 64 1).toNat=1 from rfl,xor1_nat]
 rw [w64 (by omega) (by omega)]
 unfold neg1
 omega
end Go.Hx
namespace Go.Proofs.Ytdpbdjdgdmheiaa
open Go.Hx
structure Mx (h0 h:Heap) (k:Addr) (v:CV) (S:Circ) (vf:CV) (ms:Sl) (sv sd nw:Int) (X:List Itm):Prop where
 mx:v.mx=S.mx
 mem:Mem h0 h (⟨1,some k,26,26,v.cs++(vf.cs++[.slice ms.a ms.n ms.c,.int .i64 sv,.int .i64 sd,.int .i64 nw])⟩::⟨1,v.i.a,v.i.n,v.i.c,ints S.ins⟩::⟨3,v.l.a,v.l.n,v.l.c,S.lats.flatMap L3.cs⟩::⟨1,v.b.a,v.b.n,v.b.c,ints S.bads⟩::⟨1,v.c.a,v.c.n,v.c.c,ints S.cons⟩::⟨3,v.g.a,v.g.n,v.g.c,S.ands.flatMap L3.cs⟩::X)
 z:v.o=⟨none,0,0⟩/\v.j=⟨none,0,0⟩/\v.f=⟨none,0,0⟩/\v.s=⟨none,0,0⟩/\v.m=⟨none,0,0⟩
def Sm (S:Circ):Prop:=0≤S.mx/\S.mx≤1000000/\S.ands.length≤1000000/\S.lats.length≤1000000
section
variable {h0 h:Heap} {k:Addr} {v:CV} {S:Circ} {vf:CV} {ms:Sl} {sv sd nw:Int} {X:List Itm}
theorem Mx.ext {h':Heap} (m:Mx h0 h k v S vf ms sv sd nw X) (u:Ext h h'):Mx h0 h' k v S vf ms sv sd nw X:=⟨m.mx,m.mem.ext' u,m.z⟩
theorem Mx.rd (m:Mx h0 h k v S vf ms sv sd nw X):Rd h (some k) 26 (v.cs++(vf.cs++[.slice ms.a ms.n ms.c,.int .i64 sv,.int .i64 sd,.int .i64 nw])):=(m.mem.get 0 rfl).rd
theorem Mx.f (m:Mx h0 h k v S vf ms sv sd nw X) (i:Nat) {x:Value} (hx:(v.cs++(vf.cs++[.slice ms.a ms.n ms.c,.int .i64 sv,.int .i64 sd,.int .i64 nw]))[i]?=some x):cellH h (k.add i)=some x:=m.rd.fld i hx
theorem Mx.f0 (m:Mx h0 h k v S vf ms sv sd nw X) (i:Nat) {x:Value} (hx:(v.cs++(vf.cs++[.slice ms.a ms.n ms.c,.int .i64 sv,.int .i64 sd,.int .i64 nw]))[i]?=some x):cellH h (((k.add 0).add 0).add i)=some x:=by rw [addr_add0,addr_add0];exact m.f i hx
theorem Mx.f11 (m:Mx h0 h k v S vf ms sv sd nw X) (i:Nat) {x:Value} (hx:vf.cs[i]?=some x):cellH h ((k.add 11).add i)=some x:=by
 rw [Addr.add_add]
 refine m.f (11+i) ?_
 have hi:=(List.getElem?_eq_some_iff.1 hx).1
 rw [List.getElem?_append_right (by simp [CV.cs]),show 11+i-v.cs.length=i by simp [CV.cs],List.getElem?_append_left hi]
 exact hx
theorem Mx.lt (m:Mx h0 h k v S vf ms sv sd nw X):k.block<h.size:=(m.mem.get 0 rfl).own.lt
theorem Mx.glen (m:Mx h0 h k v S vf ms sv sd nw X):S.ands.length=v.g.n:=(m.mem.get 5 rfl).own.rd.elen L3.csl (by omega)
theorem Mx.llen (m:Mx h0 h k v S vf ms sv sd nw X):S.lats.length=v.l.n:=(m.mem.get 2 rfl).own.rd.elen L3.csl (by omega)
theorem c102 (m:Mx h0 h k v S vf ms sv sd nw X) (hS:Sm S) (x y:Int) :
  CallsH Try.prog 102 #[.pointer (some (k.add 0)),.int .i64 x,.int .i64 y] h fun w h'=>w=.int .i64 (nL S)/\∃ v',Mx h0 h' k v' (gate1 S x y) vf ms sv sd nw X/\Upd (fun b=>b=k.block∨atb v.g.a b) h h':=by
 obtain ⟨s1,s2,s3,s4⟩:=hS
 have hmx:=m.mx
 have q8:=m.glen
 refine run102 (some (k.add 0)) x y _ h (AtP.mk rfl ⟨v.mx,m.f0 0 rfl,AtP.mk rfl ?_⟩)
 rw [addr_add0,addr_add0,addr_add0]
 have hw:IntKind.wrap .i64 (v.mx+1)=S.mx+1:=by rw [hmx,w64 (by omega) (by omega)]
 have hw2:IntKind.wrap .i64 (2*(S.mx+1))=2*(S.mx+1):=w64 (by omega) (by omega)
 rw [hw,<- addr_add0 k]
 refine (m.mem.get 0 rfl).cellAt 0 (by omega) rfl fun h1 u1 f1=>AtP.mk rfl ?_
 let v1:CV:={ v with mx:=S.mx+1 }
 have m1:Mx h0 h1 k v1 { S with mx:=S.mx+1 } vf ms sv sd nw X:=⟨rfl,m.mem.setAt 0 (t':=⟨1,some k,26,26,_⟩) rfl f1 u1 (.inl rfl),m.z⟩
 refine ⟨by simp only [add_block];exact m1.lt,_,_,_,m1.f0 8 rfl,AtP.mk rfl ⟨by simp only [add_block];exact m1.lt,_,m1.f0 0 rfl,?_⟩⟩
 dsimp only
 rw [hw2]
 have e2:=Ext.push h1 (.cells #[.int .i64 (2*(S.mx+1)),.int .i64 (max x y),.int .i64 (min x y)] 120)
 obtain ⟨h2,hh2⟩:∃ h2,h2=h1.push (.cells #[.int .i64 (2*(S.mx+1)),.int .i64 (max x y),.int .i64 (min x y)] 120):=⟨_,rfl⟩
 have r2:Rd h2 (some ⟨h1.size,0,none⟩) 3 (L3.cs ⟨2*(S.mx+1),max x y,min x y⟩):=by rw [hh2];exact (Fr.lit (.refl h1) (L3.cs ⟨2*(S.mx+1),max x y,min x y⟩) 120 3 rfl).rd
 rw [<- hh2] at e2 ⊢
 have m2:=m1.ext e2
 refine ⟨fun b hb=>e2.2 b hb fun x=>x,_,r2.read,rfl,?_⟩
 refine (m2.mem.get 5 rfl).app rfl (by simp [L3.cs,Value.oneCell']) (by show (v.g.n+1)*24≤_;omega) fun a' c' h3 f u hor=>AtP.mk rfl ?_
 have m3:=m2.mem.setAt 5 (t':=⟨3,a',v.g.n+1,c',S.ands.flatMap L3.cs++L3.cs ⟨2*(S.mx+1),max x y,min x y⟩⟩) rfl f u hor
 rw [addr_add0,addr_add0]
 refine (m3.get 0 rfl).cellAt 8 (by omega) rfl fun h4 u4 f4=>AtP.mk rfl ?_
 have m4:=m3.setAt 0 (t':=⟨1,some k,26,26,_⟩) rfl f4 u4 (.inl rfl)
 have e:S.ands.flatMap L3.cs++L3.cs ⟨2*(S.mx+1),max x y,min x y⟩=(S.ands++[(⟨2*(S.mx+1),max x y,min x y⟩:L3)]).flatMap L3.cs:=by rw [List.flatMap_append];simp
 rw [e] at m4
 have m5:Mx h0 h4 k { v1 with g:=⟨a',v.g.n+1,c'⟩ } (gate1 S x y) vf ms sv sd nw X:=⟨rfl,m4,m.z⟩
 refine ⟨_,m5.f0 0 rfl,by simp only [nL];rw [hw2],_,m5,?_⟩
 have ua:Upd (fun b=>b=k.block∨atb v.g.a b) h h1:=u1.mono fun b _ ⟨ad,ha,e⟩=>by cases ha;exact .inl e
 have ub:Upd (fun b=>b=k.block∨atb v.g.a b) h2 h3:=u.mono fun b _ hb=>.inr hb
 have uc:Upd (fun b=>b=k.block∨atb v.g.a b) h3 h4:=u4.mono fun b _ ⟨ad,ha,e⟩=>by cases ha;exact .inl e
 exact ((ua.trans (Upd.wide e2)).trans ub).trans uc
theorem nL_rng (hS:Sm S):0≤nL S/\nL S≤4000000:=by unfold nL;have:=hS.1;have:=hS.2.1;omega
theorem c103 (m:Mx h0 h k v S vf ms sv sd nw X) (hS:Sm S) {x y:Int} (hx:0≤x/\x≤4000000) (hy:0≤y/\y≤4000000) :
  CallsH Try.prog 103 #[.pointer (some (k.add 0)),.int .i64 x,.int .i64 y] h fun w h'=>w=.int .i64 (neg1 (nL S))/\∃ v',Mx h0 h' k v' (gate1 S (neg1 x) (neg1 y)) vf ms sv sd nw X/\Upd (fun b=>b=k.block∨atb v.g.a b) h h':=by
 refine run103 (some (k.add 0)) x y _ h ?_
 unfold VC103
 rw [xor1 hx.1 (by omega),xor1 hy.1 (by omega)]
 refine (c102 m hS _ _).mono ?_
 rintro _ h' ⟨rfl,v',m',u⟩
 have:=nL_rng hS
 exact ⟨_,rfl,by rw [xor1 this.1 (by omega)],v',m',u⟩
theorem c104 (m:Mx h0 h k v S vf ms sv sd nw X) (hS:Sm S) (x y:Int) :
  CallsH Try.prog 104 #[.pointer (some (k.add 0)),.int .i64 x,.int .i64 y] h fun w h'=>w=.tuple #[]/\∃ v',Mx h0 h' k v' { S with lats:=S.lats++[⟨x,y,0⟩] } vf ms sv sd nw X/\Upd (fun b=>b=k.block∨atb v.l.a b) h h':=by
 obtain ⟨s1,s2,s3,s4⟩:=hS
 have q8:=m.llen
 refine run104 (some (k.add 0)) x y _ h (AtP.mk rfl ⟨_,_,_,m.f0 2 rfl,?_⟩)
 intro h2
 have e2:Ext h h2:=Ext.push h _
 have r2:Rd h2 (some ⟨h.size,0,none⟩) 3 (L3.cs ⟨x,y,0⟩):=(Fr.lit (.refl h) (L3.cs ⟨x,y,0⟩) 63 3 rfl).rd
 have m2:=m.ext e2
 refine ⟨_,r2.read,rfl,?_⟩
 refine (m2.mem.get 2 rfl).app rfl (by simp [L3.cs,Value.oneCell']) (by show (v.l.n+1)*24≤_;omega) fun a' c' h3 f u hor=>AtP.mk rfl ?_
 have m3:=m2.mem.setAt 2 (t':=⟨3,a',v.l.n+1,c',S.lats.flatMap L3.cs++L3.cs ⟨x,y,0⟩⟩) rfl f u hor
 rw [addr_add0,addr_add0]
 refine (m3.get 0 rfl).cellAt 2 (by omega) rfl fun h4 u4 f4=>⟨rfl,?_⟩
 have m4:=m3.setAt 0 (t':=⟨1,some k,26,26,_⟩) rfl f4 u4 (.inl rfl)
 have e:S.lats.flatMap L3.cs++L3.cs ⟨x,y,0⟩=(S.lats++[(⟨x,y,0⟩:L3)]).flatMap L3.cs:=by rw [List.flatMap_append];simp
 rw [e] at m4
 have ub:Upd (fun b=>b=k.block∨atb v.l.a b) h2 h3:=u.mono fun b _ hb=>.inr hb
 have uc:Upd (fun b=>b=k.block∨atb v.l.a b) h3 h4:=u4.mono fun b _ ⟨ad,ha,e⟩=>by cases ha;exact .inl e
 exact ⟨{ v with l:=⟨a',v.l.n+1,c'⟩ },⟨m.mx,m4,m.z⟩,((Upd.wide e2).trans ub).trans uc⟩
variable {C:Circ}
theorem c105 (m:Mx h0 h k v S vf ms sv sd nw X) (r:CIs h0 vf C) (hm:0≤C.mx/\C.mx≤16384) {i:Nat} (hi:i≤100000):CallsH Try.prog 105 #[.pointer (some k),.int .i64 (i:Int)] h (Ret (.int .i64 (lsSh C i)) h):=by
 have hmx:=r.mx
 refine run105 (some k) i _ h (AtP.mk rfl ⟨_,m.f11 0 rfl,?_,rfl⟩)
 rw [hmx,w64 (x:=C.mx+3) (by omega) (by omega),w64 (x:=C.mx+3+i) (by omega) (by omega),w64 (by omega) (by omega)]
 rfl
theorem c106 (m:Mx h0 h k v S vf ms sv sd nw X) (r:CIs h0 vf C) (hm:0≤C.mx/\C.mx≤16384) (hl:C.lats.length≤16384) {i:Nat} (hi:i≤50000):CallsH Try.prog 106 #[.pointer (some k),.int .i64 (i:Int)] h (Ret (.int .i64 (lsSe C i)) h):=by
 have hln:=r.len.l
 refine run106 (some k) i _ h (AtP.mk rfl ⟨_,_,_,m.f11 2 rfl,?_⟩)
 have e:IntKind.wrap .i64 (((vf.l.n:Nat):Int)+i)=((C.lats.length+i:Nat):Int):=by rw [w64 (by omega) (by omega)];omega
 rw [e]
 exact use (c105 m r hm (by omega)) ⟨_,rfl,rfl,rfl⟩
end
end Go.Proofs.Ytdpbdjdgdmheiaa
namespace Go.Hx
def Zone.cl (l:List Addr):Zone:=⟨fun a c=>∀ x∈l,cellH c x=cellH a x,fun _ _ _=>rfl,fun h x hx=>(h x hx).symm,fun h k x hx=>(k x hx).trans (h x hx)⟩
theorem Zone.cl_has {l:List Addr} {h:Heap} {x:Addr} (hx:x∈l):Zone.hasL (Zone.cl l) h x:=fun h' hz=>hz x hx
theorem Zone.cl_refl {l:List Addr} {h:Heap}:(Zone.cl l).r h h:=(Zone.cl l).refl h
end Go.Hx
namespace Go.Proofs.Ytdpbdjdgdmheiaa
open Go.Hx
section
variable {h0 h:Heap} {k:Addr} {v:CV} {S:Circ} {vf:CV} {ms:Sl} {sv sd nw:Int} {X:List Itm}
theorem Mx.at25 (m:Mx h0 h k v S vf ms sv sd nw X):cellH h (k.add 25)=some (.int .i64 nw):=m.f 25 rfl
theorem Mx.st25 (m:Mx h0 h k v S vf ms sv sd nw X) (x:Int) {K:Heap->Prop} (hK:∀ h',Mx h0 h' k v S vf ms sv sd x X->K h'):AtP (some k) fun ad=>StoreH h (ad.add 25) [.int .i64 x] K:=
 AtP.mk rfl ((m.mem.get 0 rfl).cellAt 25 (by omega) rfl fun h1 u1 f1=>hK h1 ⟨m.mx,m.mem.setAt 0 (t':=⟨1,some k,26,26,_⟩) rfl f1 u1 (.inl rfl),m.z⟩)
theorem Mx.z25 {h':Heap} {v':CV} {S':Circ} (m:Mx h0 h k v S vf ms sv sd nw X) (m':Mx h0 h' k v' S' vf ms sv sd nw X):(Zone.cl [k.add 25]).r h h':=fun x hx=>by
 rw [List.mem_singleton] at hx
 subst hx
 rw [m'.at25,m.at25]
theorem Mx.addX {h':Heap} (m:Mx h0 h k v S vf ms sv sd nw X) {t:Itm} (f:t.Fr h h'):Mx h0 h' k v S vf ms sv sd nw (X++[t]):=
 ⟨m.mx,(m.mem.add f).perm ((List.perm_append_singleton t _).symm),m.z⟩
theorem Mx.dropX {t:Itm} (m:Mx h0 h k v S vf ms sv sd nw (X++[t])):Mx h0 h k v S vf ms sv sd nw X:=
 ⟨m.mx,m.mem.sub (.cons_cons _ (.cons_cons _ (.cons_cons _ (.cons_cons _ (.cons_cons _ (.cons_cons _ (List.sublist_append_left _ _))))))),m.z⟩
theorem Mx.setX {h':Heap} (m:Mx h0 h k v S vf ms sv sd nw X) (i:Nat) {t t':Itm} (hi:X[i]?=some t) (f:t'.Fr h0 h') (u:Upd (atb t.a) h h') (hor:t'.a=t.a∨∃ ad,t'.a=some ad/\h.size≤ad.block):Mx h0 h' k v S vf ms sv sd nw (X.set i t'):=
 ⟨m.mx,m.mem.setAt (6+i) (t:=t) (by rw [show 6+i=i+6 by omega];exact hi) f u hor |> fun h=>by rw [show 6+i=i+6 by omega] at h;exact h,m.z⟩
theorem Mx.x (m:Mx h0 h k v S vf ms sv sd nw X) (i:Nat) {sz n c:Nat} {a:Option Addr} {vs:List Value} (hi:X[i]?=some ⟨sz,a,n,c,vs⟩):Fr h0 sz h a n c vs:=m.mem.get (6+i) (by rw [show 6+i=i+6 by omega];exact hi)
variable {C:Circ} {must:List Int}
structure LsSm (C:Circ) (must:List Int):Prop where
 mx:0≤C.mx
 tot:C.mx+2+C.lats.length+must.length+(2+7*C.lats.length+3*must.length:Nat)≤16384
 lt:2*C.lats.length+1+must.length≤16384
 ga:C.ands.length+(2+7*C.lats.length+3*must.length)≤16384
theorem boxLF {h:Heap} (x:L3) {K:Heap->Prop} (hK:∀ h',Fr h 1 h' (some ⟨h.size,0,none⟩) 3 3 x.cs->K h') :
  StoreH (h.push (.cells #[.int .i64 0,.int .i64 0,.int .i64 0] 63)) ⟨h.size,0,none⟩ [.int .i64 x.a,.int .i64 x.b,.int .i64 x.c] K:=
 (Fr.lit (.refl h) [.int .i64 0,.int .i64 0,.int .i64 0] 63 3 rfl).put (ws:=x.cs) rfl (by simp [L3.cs,Value.oneCell']) fun h' f _=>hK h' f
theorem boxL {h:Heap} (x:L3) {K:Heap->Prop} (hK:∀ h',Ext h h'->h.size<h'.size->Rd h' (some ⟨h.size,0,none⟩) 3 x.cs->K h') :
  StoreH (h.push (.cells #[.int .i64 0,.int .i64 0,.int .i64 0] 63)) ⟨h.size,0,none⟩ [.int .i64 x.a,.int .i64 x.b,.int .i64 x.c] K:=
 box3 x fun h' e b=>hK h' e (by have:=cellH_lt (b.fld 0 rfl);rwa [add_block] at this) b
theorem W1 {i:Nat} (hi:i≤1000000):IntKind.wrap .i64 ((i:Int)+1)=((i+1:Nat):Int):=by rw [w64 (by omega) (by omega)];rfl
theorem sh_rng {i:Nat} (h1:0≤C.mx) (h2:C.mx≤16384) (hi:i≤16384):0≤lsSh C i/\lsSh C i≤4000000:=by unfold lsSh;omega
theorem se_rng {i:Nat} (h1:0≤C.mx) (h2:C.mx≤16384) (hl:C.lats.length≤16384) (hi:i≤16384):0≤lsSe C i/\lsSe C i≤4000000:=by unfold lsSe;omega
set_option maxRecDepth 4000 in
theorem c75 (m:Mx h0 h k v (ls0 C must) vf ms (lsSave C) (lsSaved C) nw []) (r:CIs h0 vf C) (rm:Rd h0 ms.a ms.n (ints must)) (sm:LsSm C must) (hla:∀ x∈C.lats,0≤x.a/\x.a≤40000) :
  CallsH Try.prog 75 #[.pointer (some k)] h fun w h'=>w=.tuple #[]/\∃ v' nw',Mx h0 h' k v' (lassoX C must) vf ms (lsSave C) (lsSaved C) nw' []:=by
 obtain ⟨g0,g1,g2,g3⟩:=sm
 have hln:=r.len.l
 have hmn:=rm.ilen
 have hsv:0≤lsSave C/\lsSave C≤4000000:=by unfold lsSave;omega
 have hsd:0≤lsSaved C/\lsSaved C≤4000000:=by unfold lsSaved;omega
 have hmx0:(ls0 C must).mx=C.mx+2+C.lats.length+must.length:=rfl
 have s0:Sm (ls0 C must):=⟨by omega,by omega,by show C.ands.length≤_;omega,by show C.lats.length≤_;omega⟩
 have s1:Sm (ls1 C must):=⟨by simp only [ls1,gate1];omega,by simp only [ls1,gate1];omega,by simp [ls1,gate1,ls0];omega,by show C.lats.length≤_;omega⟩
 have s2:Sm (ls2 C must):=⟨by simp only [ls2,ls1,gate1];omega,by simp only [ls2,ls1,gate1];omega,by simp [ls2,ls1,gate1,ls0];omega,by show C.lats.length≤_;omega⟩
 refine run75 (some k) _ h (AtP.mk rfl ⟨_,_,_,m.f11 2 rfl,AtP.mk rfl (AtP.mk rfl ⟨_,m.f 23 rfl,AtP.mk rfl ⟨_,m.f 24 rfl,?_⟩⟩)⟩)
 rw [xor1 hsd.1 (by omega)]
 refine (c102 m s0 _ _).mono ?_
 rintro _ h1 ⟨rfl,v1,m1,_⟩
 refine ⟨_,rfl,m1.st25 (nL (ls0 C must)) fun h2 m2=>AtP.mk rfl (AtP.mk rfl ⟨_,m2.f 23 rfl,AtP.mk rfl ⟨_,m2.f 24 rfl,(c103 (S:=ls1 C must) m2 s1 hsv hsd).mono ?_⟩⟩)⟩
 rintro _ h3 ⟨rfl,v3,m3,_⟩
 refine ⟨_,rfl,AtP.mk rfl (AtP.mk rfl ⟨_,m3.f 24 rfl,(c104 (S:=ls2 C must) m3 s2 _ _).mono ?_⟩)⟩
 rintro _ h4 ⟨rfl,v4,m4,_⟩
 replace m4:Mx h0 h4 k v4 (ls3 C must) vf ms (lsSave C) (lsSaved C) (nL (ls0 C must)) []:=m4
 refine ⟨rfl,AtP.mk rfl ⟨_,_,_,m4.f11 2 rfl,?_⟩⟩
 have m3x:(ls3 C must).mx=C.mx+2+C.lats.length+must.length+2:=by simp only [ls3,ls2,ls1,gate1,hmx0];omega
 have m3a:(ls3 C must).ands.length=C.ands.length+2:=by simp [ls3,ls2,ls1,gate1,ls0]
 have m3l:(ls3 C must).lats.length=C.lats.length+1:=by simp [ls3]
 have hnw:0≤nL (ls0 C must)/\nL (ls0 C must)≤4000000:=nL_rng s0
 clear m m1 m2 m3
 refine LoopT.to (n:=vf.l.n) (by omega) (fun i h'=>∃ (S:Circ) (v:CV),Mx h0 h' k v S vf ms (lsSave C) (lsSaved C) (nL (ls0 C must)) []/\S.mx=(ls3 C must).mx+3*i/\S.ands.length=(ls3 C must).ands.length+3*i/\S.lats.length=(ls3 C must).lats.length+i /\
  shadG (nL (ls0 C must)) (lsSh C) (C.lats.drop i) i S=ls4 C must) ⟨ls3 C must,v4,m4,by omega,by omega,by omega,rfl⟩ ?_
 rintro i h5 K hi ⟨S,v5,m5,x1,x2,x3,hF⟩ hK
 refine ⟨fun hlt=>?_,fun hlt=>?_⟩
 ·have hic:i<C.lats.length:=by omega
  have hsi:=sh_rng (C:=C) (i:=i) g0 (by omega) (by omega)
  have ss:Sm S:=⟨by omega,by omega,by omega,by omega⟩
  refine ⟨by omega,hlt,((r.ext m5.mem.ext).l).elem L3.csl (by omega) (i:=i) (by omega) fun ad hl1 re=>⟨_,_,_,re.cells,?_⟩⟩
  have hxa:=hla _ (List.getElem_mem hl1)
  refine boxL C.lats[i] fun h7 e7 z7 b7=>AtP.mk rfl (AtP.mk rfl ⟨_,(m5.ext e7).f 25 rfl,_,b7.fld 0 rfl,(c102 (m5.ext e7) ss _ _).mono ?_⟩)
  rintro _ h8 ⟨rfl,v8,m8,_⟩
  have ss1:Sm (gate1 S (nL (ls0 C must)) C.lats[i].a):=⟨by simp only [gate1];omega,by simp only [gate1];omega,by simp [gate1];omega,by show S.lats.length≤_;omega⟩
  refine ⟨_,rfl,Zone.cl [k.add 25],AtP.mk rfl (AtP.mk rfl ⟨Zone.cl_has (List.mem_singleton.2 rfl),_,m8.f 25 rfl,use (c105 m8 r (by omega) (i:=i) (by omega)) ⟨_,rfl,Zone.cl_refl,?_⟩⟩)⟩
  rw [xor1 hnw.1 (by omega)]
  refine (c102 m8 ss1 _ _).mono ?_
  rintro _ h10 ⟨rfl,v10,m10,_⟩
  have ss2:Sm (gate1 (gate1 S (nL (ls0 C must)) C.lats[i].a) (neg1 (nL (ls0 C must))) (lsSh C i)):=⟨by simp only [gate1];omega,by simp only [gate1];omega,by simp [gate1];omega,by show S.lats.length≤_;omega⟩
  refine ⟨_,rfl,m8.z25 m10,AtP.mk rfl (use (c105 m10 r (by omega) (i:=i) (by omega)) ⟨_,rfl,AtP.mk rfl ((c103 m10 ss2 (nL_rng ss) (nL_rng ss1)).mono ?_)⟩)⟩
  rintro _ h12 ⟨rfl,v12,m12,_⟩
  have ss3:Sm (gate1 (gate1 (gate1 S (nL (ls0 C must)) C.lats[i].a) (neg1 (nL (ls0 C must))) (lsSh C i)) (neg1 (nL S)) (neg1 (nL (gate1 S (nL (ls0 C must)) C.lats[i].a)))):=⟨by simp only [gate1];omega,by simp only [gate1];omega,by simp [gate1];omega,by show S.lats.length≤_;omega⟩
  refine ⟨_,rfl,(c104 m12 ss3 _ _).mono ?_⟩
  rintro _ h13 ⟨rfl,v13,m13,_⟩
  refine ⟨rfl,hK _ (by omega) ⟨_,v13,m13,?_,?_,?_,?_⟩⟩
  ·simp only [gate1];omega
  ·simp [gate1];omega
  ·simp [gate1];omega
  ·rw [<- hF,List.drop_eq_getElem_cons hic,shadG]
 have hin:i=C.lats.length:=by omega
 subst hin
 rw [List.drop_length,shadG] at hF
 subst hF
 clear hK hlt hi m4
 unfold J75_0
 refine AtP.mk rfl ⟨_,_,_,m5.f 22 rfl,?_⟩
 clear K
 have hhd:0≤neg1 (nL (ls1 C must))/\neg1 (nL (ls1 C must))≤4000000:=by have a:=s1.1;have b:=s1.2.1;unfold neg1 nL;omega
 refine LoopT.to (n:=ms.n) (by omega) (fun i h'=>∃ (S:Circ) (v:CV),Mx h0 h' k v S vf ms (lsSave C) (lsSaved C) (nL (ls0 C must)) []/\S.mx=(ls4 C must).mx+2*i/\S.ands.length=(ls4 C must).ands.length+2*i/\S.lats.length=(ls4 C must).lats.length+i /\
  seenG (lsHeld C must) (lsSe C) (must.drop i) i S=ls5 C must) ⟨ls4 C must,v5,m5,by omega,by omega,by omega,rfl⟩ ?_
 rintro i h6 K hi ⟨S,v6,m6,y1,y2,y3,hF⟩ hK
 refine ⟨fun hlt=>?_,fun hlt=>?_⟩
 ·have hic:i<must.length:=by omega
  have hsi:=se_rng (C:=C) (i:=i) g0 (by omega) (by omega) (by omega)
  have ss:Sm S:=⟨by omega,by omega,by omega,by omega⟩
  refine ⟨by omega,hlt,(rm.ext m6.mem.ext).getn (i:=i) (by omega) fun ad hl1 hc=>⟨_,hc,AtP.mk rfl ((c102 m6 ss _ _).mono ?_)⟩⟩
  rintro _ h8 ⟨rfl,v8,m8,_⟩
  have ss1:Sm (gate1 S (neg1 (nL (ls1 C must))) must[i]):=⟨by simp only [gate1];omega,by simp only [gate1];omega,by simp [gate1];omega,by show S.lats.length≤_;omega⟩
  refine ⟨_,rfl,AtP.mk rfl (use (c106 m8 r (by omega) (by omega) (i:=i) (by omega)) ⟨_,rfl,AtP.mk rfl (use (c106 m8 r (by omega) (by omega) (i:=i) (by omega)) ⟨_,rfl,(c103 m8 ss1 hsi (nL_rng ss)).mono ?_⟩)⟩)⟩
  rintro _ h12 ⟨rfl,v12,m12,_⟩
  have ss2:Sm (gate1 (gate1 S (neg1 (nL (ls1 C must))) must[i]) (neg1 (lsSe C i)) (neg1 (nL S))):=⟨by simp only [gate1];omega,by simp only [gate1];omega,by simp [gate1];omega,by show S.lats.length≤_;omega⟩
  refine ⟨_,rfl,(c104 m12 ss2 _ _).mono ?_⟩
  rintro _ h13 ⟨rfl,v13,m13,_⟩
  refine ⟨rfl,hK _ (by omega) ⟨_,v13,m13,?_,?_,?_,?_⟩⟩
  ·simp only [gate1];omega
  ·simp [gate1];omega
  ·simp [gate1];omega
  ·rw [<- hF,List.drop_eq_getElem_cons hic,seenG]
   rfl
 have hin:i=must.length:=by omega
 subst hin
 rw [List.drop_length,seenG] at hF
 subst hF
 clear hK hlt hi m5
 clear K
 unfold J75_3
 refine ⟨by omega,Int.le_refl _,by omega,?_⟩
 intro h23
 have f23:Fr h6 1 h23 (some ⟨h6.size,0,none⟩) vf.l.n vf.l.n (ints (List.replicate vf.l.n 0)):=by
  rw [show ints (List.replicate vf.l.n 0)=List.replicate vf.l.n (Value.int .i64 0) by rw [ints,List.map_replicate]]
  exact Fr.zeros (h:=h6) (.int .i64 0) 3 vf.l.n
 have m23:=m6.addX (t:=⟨1,some ⟨h6.size,0,none⟩,vf.l.n,vf.l.n,ints (List.replicate vf.l.n 0)⟩) f23
 refine AtP.mk rfl ⟨_,_,_,m23.f11 2 rfl,?_⟩
 refine LoopT.to (n:=vf.l.n) (by omega) (fun i h'=>∃ (S:Circ) (v:CV) (L:List Int),Mx h0 h' k v S vf ms (lsSave C) (lsSaved C) (nL (ls0 C must)) [⟨1,some ⟨h6.size,0,none⟩,vf.l.n,vf.l.n,ints L⟩]/\S.mx=(ls5 C must).mx+3*i/\S.ands.length=(ls5 C must).ands.length+3*i/\S.lats.length=(ls5 C must).lats.length /\
  (sameG (lsSh C) (C.lats.drop i) i S).1=(ls6 C must).1/\L.take i++(sameG (lsSh C) (C.lats.drop i) i S).2=(ls6 C must).2) ⟨ls5 C must,v6,_,m23,by omega,by omega,rfl,rfl,rfl⟩ ?_
 clear m23 f23
 rintro i h24 K hi ⟨S,v24,L,m24,z1,z2,z3,hF1,hF2⟩ hK
 have hLl:L.length=vf.l.n:=(m24.x 0 rfl).own.rd.ilen |> fun h=>by omega
 refine ⟨fun hlt=>?_,fun hlt=>?_⟩
 ·have hic:i<C.lats.length:=by omega
  have hsi:=sh_rng (C:=C) (i:=i) g0 (by omega) (by omega)
  have ss:Sm S:=⟨by omega,by omega,by omega,by omega⟩
  refine ⟨by omega,hlt,((r.ext m24.mem.ext).l).elem L3.csl (by omega) (i:=i) (by omega) fun ad hl1 re=>⟨_,_,_,re.cells,?_⟩⟩
  have hxa:=hla _ (List.getElem_mem hl1)
  refine boxLF C.lats[i] fun h27 f27=>?_
  have m27:=m24.addX (t:=⟨1,some ⟨h24.size,0,none⟩,3,3,C.lats[i].cs⟩) f27
  have bx:∀ {h':Heap} {S':Circ} {v':CV} {L':List Int},Mx h0 h' k v' S' vf ms (lsSave C) (lsSaved C) (nL (ls0 C must)) ([⟨1,some ⟨h6.size,0,none⟩,vf.l.n,vf.l.n,ints L'⟩]++[⟨1,some ⟨h24.size,0,none⟩,3,3,C.lats[i].cs⟩])->cellH h' ((Addr.mk h24.size 0 none).add 0)=some (.int .i64 C.lats[i].a):=fun m=>(m.x 1 rfl).rd.fld 0 rfl
  refine ⟨Zone.cl [(Addr.mk h24.size 0 none).add 0],AtP.mk rfl ⟨Zone.cl_has (List.mem_singleton.2 rfl),_,bx m27,use (c105 m27 r (by omega) (i:=i) (by omega)) ⟨_,rfl,Zone.cl_refl,?_⟩⟩⟩
  rw [xor1 hsi.1 (by omega)]
  refine (c102 m27 ss _ _).mono ?_
  rintro _ h29 ⟨rfl,v29,m29,_⟩
  have ss1:Sm (gate1 S C.lats[i].a (neg1 (lsSh C i))):=⟨by simp only [gate1];omega,by simp only [gate1];omega,by simp [gate1];omega,by show S.lats.length≤_;omega⟩
  refine ⟨_,rfl,fun x hx=>by rw [List.mem_singleton] at hx;subst hx;rw [bx m29,bx m27],Zone.cl [(Addr.mk h24.size 0 none).add 0],AtP.mk rfl ⟨Zone.cl_has (List.mem_singleton.2 rfl),_,bx m29,use (c105 m29 r (by omega) (i:=i) (by omega)) ⟨_,rfl,Zone.cl_refl,?_⟩⟩⟩
  rw [xor1 hxa.1 (by omega)]
  refine (c102 m29 ss1 _ _).mono ?_
  rintro _ h31 ⟨rfl,v31,m31,_⟩
  have ss2:Sm (gate1 (gate1 S C.lats[i].a (neg1 (lsSh C i))) (neg1 C.lats[i].a) (lsSh C i)):=⟨by simp only [gate1];omega,by simp only [gate1];omega,by simp [gate1];omega,by show S.lats.length≤_;omega⟩
  refine ⟨_,rfl,(fun x hx=>by rw [List.mem_singleton] at hx;subst hx;rw [bx m31,bx m29]),AtP.mk rfl ?_⟩
  rw [xor1 (nL_rng ss).1 (by have:=(nL_rng ss).2;omega),xor1 (nL_rng ss1).1 (by have:=(nL_rng ss1).2;omega)]
  refine (c102 m31 ss2 _ _).mono ?_
  rintro _ h32 ⟨rfl,v32,m32,_⟩
  refine ⟨_,rfl,by omega,by omega,?_⟩
  refine (m32.x 0 rfl).at1 (j:=(i:Int)) (by omega) (by omega) rfl fun h33 u33 f33=>hK _ (by omega) ⟨gate1 (gate1 (gate1 S C.lats[i].a (neg1 (lsSh C i))) (neg1 C.lats[i].a) (lsSh C i)) (neg1 (nL S)) (neg1 (nL (gate1 S C.lats[i].a (neg1 (lsSh C i))))),v32,L.set i (nL (gate1 (gate1 S C.lats[i].a (neg1 (lsSh C i))) (neg1 C.lats[i].a) (lsSh C i))),?_,?_,?_,?_,?_,?_⟩
  ·have:=(m32.setX 0 (t':=⟨1,some ⟨h6.size,0,none⟩,vf.l.n,vf.l.n,(ints L).set i (.int .i64 _)⟩) rfl f33 u33 (.inl rfl)).dropX (X:=[_])
   rw [show (ints L).set i (.int .i64 (nL (gate1 (gate1 S C.lats[i].a (neg1 (lsSh C i))) (neg1 C.lats[i].a) (lsSh C i))))=ints (L.set i (nL (gate1 (gate1 S C.lats[i].a (neg1 (lsSh C i))) (neg1 C.lats[i].a) (lsSh C i)))) by rw [ints,ints,List.map_set]] at this
   exact this
  ·simp only [gate1];omega
  ·simp [gate1];omega
  ·exact z3
  ·rw [<- hF1,List.drop_eq_getElem_cons hic,sameG]
  ·rw [<- hF2,List.drop_eq_getElem_cons hic,sameG,List.take_succ_eq_append_getElem (by simp;omega),List.getElem_set_self,List.take_set_of_le (Nat.le_refl _),List.append_assoc]
   rfl
 have hin:i=C.lats.length:=by omega
 subst hin
 rw [List.drop_length,sameG] at hF1 hF2
 simp only [List.append_nil] at hF2
 rw [List.take_of_length_le (by omega)] at hF2
 simp only at hF1
 subst hF1
 clear hK hlt hi m6
 clear K
 unfold J75_6
 refine AtP.mk rfl ⟨_,m24.f 24 rfl,?_⟩
 have sm6:(ls6 C must).1.lats.length≤40000:=by omega
 refine LoopT.to2 (n:=vf.l.n) (by omega) (fun i b h'=>∃ (S:Circ) (v:CV),Mx h0 h' k v S vf ms (lsSave C) (lsSaved C) (nL (ls0 C must)) [⟨1,some ⟨h6.size,0,none⟩,vf.l.n,vf.l.n,ints L⟩]/\S.mx=(ls6 C must).1.mx+i/\S.ands.length=(ls6 C must).1.ands.length+i/\S.lats.length=(ls6 C must).1.lats.length /\
  chainG (L.drop i++(List.range must.length).map (lsSe C)) b S=ls7 C must) ⟨(ls6 C must).1,v24,m24,by omega,by omega,rfl,by rw [List.drop_zero,hF2];rfl⟩ ?_
 clear m24
 rintro i b h35 K hi ⟨S,v35,m35,w1,w2,w3,hG⟩ hK
 refine ⟨fun hlt=>?_,fun hlt=>?_⟩
 ·have hil:i<L.length:=by omega
  have ss:Sm S:=⟨by omega,by omega,by omega,by omega⟩
  refine ⟨by omega,by simp only [Int.toNat_natCast];omega,L[i],?_,AtP.mk rfl ((c102 m35 ss _ _).mono ?_)⟩
  ·have:=(m35.x 0 rfl).rd.fld i (v:=.int .i64 L[i]) (by rw [ints,List.getElem?_map,List.getElem?_eq_getElem hil];rfl)
   rw [Int.toNat_natCast,Nat.mul_one]
   exact this
  rintro _ h37 ⟨rfl,v37,m37,_⟩
  refine ⟨_,rfl,hK _ _ (by omega) ⟨_,v37,m37,?_,?_,w3,?_⟩⟩
  ·simp only [gate1];omega
  ·simp [gate1];omega
  ·rw [<- hG,List.drop_eq_getElem_cons hil,List.cons_append,chainG]
 have hin:i=vf.l.n:=by omega
 subst hin
 rw [List.drop_of_length_le (by omega),List.nil_append] at hG
 clear hK hlt hi
 clear K
 unfold J75_9
 refine AtP.mk rfl ⟨_,_,_,m35.f 22 rfl,?_⟩
 refine LoopT.to2 (n:=ms.n) (by omega) (fun i b h'=>∃ (S:Circ) (v:CV),Mx h0 h' k v S vf ms (lsSave C) (lsSaved C) (nL (ls0 C must)) [⟨1,some ⟨h6.size,0,none⟩,vf.l.n,vf.l.n,ints L⟩]/\S.mx=(ls6 C must).1.mx+vf.l.n+i/\S.ands.length=(ls6 C must).1.ands.length+vf.l.n+i/\S.lats.length=(ls6 C must).1.lats.length /\
  chainG (((List.range must.length).map (lsSe C)).drop i) b S=ls7 C must) ⟨S,v35,m35,by omega,by omega,w3,hG⟩ ?_
 clear m35 w1 w2 w3 hG
 rintro i b h39 K hi ⟨S,v39,m39,w1,w2,w3,hG⟩ hK
 refine ⟨fun hlt=>?_,fun hlt=>?_⟩
 ·have hil:i<must.length:=by omega
  have ss:Sm S:=⟨by omega,by omega,by omega,by omega⟩
  refine AtP.mk rfl (use (c106 m39 r (by omega) (by omega) (i:=i) (by omega)) ⟨_,rfl,(c102 m39 ss _ _).mono ?_⟩)
  rintro _ h37 ⟨rfl,v37,m37,_⟩
  refine ⟨_,rfl,hK _ _ (by omega) ⟨_,v37,m37,?_,?_,w3,?_⟩⟩
  ·simp only [gate1];omega
  ·simp [gate1];omega
  ·rw [<- hG,List.drop_eq_getElem_cons (i:=i) (l:=(List.range must.length).map (lsSe C)) (by simpa using hil),chainG]
   simp
 have hin:i=must.length:=by omega
 subst hin
 rw [List.drop_of_length_le (by simp),chainG] at hG
 unfold J75_12
 intro h44
 have f44:Fr h39 1 h44 (some ⟨h39.size,0,none⟩) 1 1 (ints [b]):=Fr.lit (.refl h39) [.int .i64 b] 3 1 rfl
 have m44:=(m39.dropX (X:=[])).addX (X:=[]) (t:=⟨1,some ⟨h39.size,0,none⟩,1,1,ints [b]⟩) f44
 refine AtP.mk rfl ?_
 rw [addr_add0,addr_add0]
 refine (m44.mem.get 0 rfl).cellAt 4 (by omega) rfl fun h45 u45 f45=>⟨rfl,{ v39 with b:=⟨some ⟨h39.size,0,none⟩,1,1⟩ },nL (ls0 C must),?_⟩
 have m45:=m44.mem.setAt 0 (t':=⟨1,some k,26,26,_⟩) rfl f45 u45 (.inl rfl)
 have hX:lassoX C must={ S with bads:=[b] }:=by unfold lassoX;rw [<- hG]
 rw [hX]
 refine ⟨m39.mx,?_,m39.z⟩
 have pp:∀ {a i l b' c g n:Itm},[a,i,l,b',c,g,n].Perm ([b']++[a,i,l,n,c,g]):=fun {a i l b' c g n}=>by
  have h1:[a,i,l,b',c,g,n].Perm [a,i,l,b',n,c,g]:=.cons _ (.cons _ (.cons _ (.cons _ (List.perm_append_comm (l₁:=[c,g]) (l₂:=[n])))))
  exact h1.trans (List.perm_append_comm_assoc [a,i,l] [b'] [n,c,g])
 exact (m45.perm pp).sub (List.sublist_append_right _ _)
end
end Go.Proofs.Ytdpbdjdgdmheiaa
namespace Go.Proofs.Ytdpbdjdgdmheiaa
open Go.Hx
theorem zr_len1 (n:Nat):(zeroRow #[Value.int .i64 0] (n*1)).length=n:=by rw [zeroRow_one];simp
theorem c94 {h:Heap} {n:Nat} (hn:n≤1000000):CallsH Try.prog 94 #[.slice none 0 0,.int .i64 (n:Int)] h fun w h'=>∃ a c,w=.slice a 0 c/\Fr h 1 h' a 0 c []:=by
 refine run94 none 0 0 n _ h ⟨fun h=>absurd h (by omega),fun _=>?_⟩
 unfold J94_0
 have e0:IntKind.wrap .i64 (((0:Nat):Int)-((0:Nat):Int))=0:=rfl
 rw [e0,show IntKind.wrap .i64 ((n:Int)-0)=(n:Int) by rw [w64 (by omega) (by omega)];omega]
 refine ⟨fun hp=>⟨Int.le_refl _,by omega,by omega,by omega,by omega,?_⟩,fun hp=>⟨none,0,rfl,.nil (.refl h)⟩⟩
 rw [show cutA 1 none 0 (Int.toNat 0)=none by rw [cutA0]]
 have f0:Fr h 1 h none 0 0 []:=.nil (.refl h)
 refine f0.app (by rw [zr_len1];simp) (fun y hy=>by rw [zeroRow_one] at hy;rw [(List.mem_replicate.1 hy).2];rfl) (by simp;omega) fun a' c' h1 f u hor=>⟨Int.le_refl _,by omega,by omega,a',c',?_,?_⟩
 ·rw [cutA0];rfl
 ·refine ⟨?_,f.new,f.ext⟩
  have:=f.own.take (m:=0) (by omega)
  simpa using this
theorem flat_take_len {L:List (List Int)} (hL:∀ l∈L,l.length≤16384):L.flatten.length≤L.length*16384:=by
 induction L with
 | nil=>simp
 | cons x L ih=>
  rw [List.flatten_cons,List.length_append,List.length_cons]
  have:=ih fun l hl=>hL l (List.mem_cons_of_mem _ hl)
  have:=hL x (List.mem_cons_self ..)
  omega
theorem c67 {h:Heap} {a:Option Addr} {n c:Nat} {rows:List Rw} (r:Rd h a n (rows.map Rw.v)) (hr:∀ s∈rows,Rd h s.a s.n (ints s.l)) {L:List (List Int)} (hRL:rows.map Rw.l=L) (hn:n≤10) (hL:∀ l∈L,l.length≤16384):CallsH Try.prog 67 #[.slice a n c] h fun w h'=>∃ a' c',w=.slice a' L.flatten.length c'/\Fr h 1 h' a' L.flatten.length c' (ints L.flatten):=by
 have hl:L.length=n:=by have:=r.ilen;rw [<- hRL];simpa using this
 have get:∀ {h':Heap} {i:Nat} {K:Addr->Prop},Ext h h'->i<n->(∀ ad (hl:i<L.length) (x:Rw),cellH h' (ad.add (i*1))=some (.slice x.a x.n x.c)->Rd h' x.a x.n (ints x.l)->x.l=L[i]->x.n=L[i].length->K ad)->AtP a K:=fun {h' i K} e hi hK=>(r.ext e).getn hi fun ad hli hc=>by
  have hx:rows[i].l=L[i]'(by omega):=by simp only [<- hRL,List.getElem_map]
  have h1:=hr _ (List.getElem_mem hli)
  exact hK ad (by omega) rows[i] hc (h1.ext e) hx (by rw [<- hx];exact h1.ilen.symm)
 have tk:∀ i,(L.take i).flatten.length≤163840:=fun i=>by
  have:=flat_take_len (L:=L.take i) fun l hl=>hL l (List.mem_of_mem_take hl)
  rw [List.length_take] at this
  omega
 refine run67 a n c _ h (LoopT.to2 (n:=n) (by omega) (fun i s h'=>h'=h/\s=((L.take i).flatten.length:Int)) ⟨rfl,by simp⟩ ?_)
 rintro i s h2 K hi ⟨hh,rfl⟩ hK
 replace hh:=hh.symm
 subst hh
 refine ⟨fun hlt=>⟨by omega,hlt,get (i:=i) (.refl h) (by omega) fun ad hl1 x hc hr hx1 hxn=>⟨_,_,_,hc,?_⟩⟩,fun hge=>?_⟩
 ·have hb:=tk (i+1)
  rw [List.take_succ_eq_append_getElem hl1,List.flatten_append,List.length_append] at hb
  simp only [List.flatten_cons,List.flatten_nil,List.append_nil] at hb
  have e:IntKind.wrap .i64 (((L.take i).flatten.length:Int)+((x.n:Nat):Int))=((L.take (i+1)).flatten.length:Int):=by
   rw [w64 (by omega) (by omega),List.take_succ_eq_append_getElem hl1,List.flatten_append,List.length_append]
   simp only [List.flatten_cons,List.flatten_nil,List.append_nil]
   omega
  rw [e]
  exact ⟨fun h=>absurd h (by omega),fun _=>hK _ _ (by omega) ⟨rfl,rfl⟩⟩
 ·rw [List.take_of_length_le (by omega)]
  have hb:=tk n
  rw [List.take_of_length_le (by omega)] at hb
  refine (c94 (n:=L.flatten.length) (by omega)).mono ?_
  rintro _ h3 ⟨a1,c1,rfl,f3⟩
  refine ⟨_,_,_,rfl,LoopT.to2 (n:=n) (by omega) (fun i s h'=>Fr h 1 h' s.1 s.2.1 s.2.2 (ints (L.take i).flatten)) f3 ?_⟩
  rintro j ⟨sa,sn,sc⟩ h5 K2 hj f hK2
  dsimp only at f ⊢
  have fl:=f.rd.ilen
  refine ⟨fun hlt=>⟨by omega,hlt,get (i:=j) f.ext (by omega) fun ad hl1 x hc hr hx1 hxn=>⟨_,_,_,hc,ints x.l,hr.read,by have:=hr.len;omega,?_⟩⟩,fun hge=>?_⟩
  ·have hb:=tk (j+1)
   rw [List.take_succ_eq_append_getElem hl1,List.flatten_append,List.length_append] at hb
   simp only [List.flatten_cons,List.flatten_nil,List.append_nil] at hb
   refine f.app (by have:=hr.len;omega) ints_one (by omega) fun a' c' h6 f6 u6 hor=>hK2 _ _ (by omega) ?_
   rw [List.take_succ_eq_append_getElem hl1,List.flatten_append,<- hx1]
   simp only [List.flatten_cons,List.flatten_nil,List.append_nil]
   rw [ints,List.map_append]
   exact f6
  ·rw [List.take_of_length_le (by omega)] at f fl
   subst fl
   exact ⟨_,_,rfl,f⟩
def mustOf (C:Circ) (j:Int):List Int:=C.just.getD j.toNat []++C.fair
def LLong (C:Circ) (must:List Int):Prop:=16384<C.mx+2+C.lats.length+must.length+(2+7*C.lats.length+3*must.length:Nat)∨16384≤C.ins.length∨16384<2*C.lats.length+1+must.length∨16384<C.ands.length+(2+7*C.lats.length+3*must.length)
open Classical in
noncomputable def lsE (C:Circ) (j:Int):Int:=if (chk C).2≠0 then (chk C).2 else if ¬ (0≤j/\j<C.just.length) then 5 else if LLong C (mustOf C j) then 2 else 0
def MadeP (C:Circ) (j:Int) (h:Heap) (w:Value) (h':Heap):Prop:=
 (lsE C j≠0/\w=.tuple #[.pointer none,.int .i64 (lsE C j)]/\Ext h h')∨(lsE C j=0/\∃ k v vf ms nw,w=.tuple #[.pointer (some k),.int .i64 0]/\Mx h h' k v (lassoX C (mustOf C j)) vf ms (lsSave C) (lsSaved C) nw []/\CIs h' vf C)
theorem lsE_ok {C:Circ} {j:Int} (h:lsE C j=0):(chk C).2=0/\(0≤j/\j<C.just.length)/\¬ LLong C (mustOf C j):=by
 unfold lsE at h
 split at h
 ·rename_i h1;exact absurd h h1
 ·rename_i h1
  split at h
  ·simp at h
  ·rename_i h2
   split at h
   ·simp at h
   ·rename_i h3
    exact ⟨Decidable.not_not.1 h1,Decidable.not_not.1 h2,h3⟩
section
variable {h:Heap} {v:CV} {C:Circ}
set_option maxRecDepth 4000 in
theorem c48 (r:CIs h v C) (ok:C.Ok) (j:Int):CallsH Try.prog 48 #[v.v,.int .i64 j] h (MadeP C j h):=by
 obtain ⟨q1,q2,q3,q4,q5,q6,q7,q8,q9,q10⟩:=r.len
 have hmx:=r.mx
 refine run48 v j _ h ?_
 unfold VC48
 intro h1
 have e1:Ext h h1:=Ext.box h _
 have hb:Rd h1 (some ⟨h.size,0,none⟩) 11 v.cs:=boxC v 29
 have bad:∀ {h':Heap} {e:Int},lsE C j=e->e≠0->Ext h h'->MadeP C j h (.tuple #[.pointer none,.int .i64 e]) h':=fun {h' e} he hne e'=>.inl ⟨by rw [he];exact hne,by rw [he],e'⟩
 refine ldC hb (useX (c27 (r.ext e1) ok) fun h3 e3=>⟨_,_,rfl,fun hz=>?_,fun hz=>bad (by unfold lsE;rw [if_pos hz]) hz (e1.trans e3)⟩)
 have e03:=e1.trans e3
 have hb3:=hb.ext e3
 have r3:=r.ext e03
 obtain ⟨⟨b0,b1⟩,b2,b3,b4,b5,b6,b7,b8,b9,b10,b11,b12⟩:=chk_bounds hz
 have noj:¬ (0≤j/\j<C.just.length)->MadeP C j h (.tuple #[.pointer none,.int .i64 5]) h3:=fun hn=>bad (by unfold lsE;rw [if_neg (by simp [hz]),if_pos hn]) (by omega) e03
 refine ⟨fun hj=>noj (by omega),fun hj=>⟨_,_,_,hb3.fld 6 rfl,fun hj2=>noj (by omega),fun hj2=>?_⟩⟩
 have hjj:0≤j/\j<C.just.length:=by omega
 have hs1:h1.size=h.size+1:=by simp [h1]
 have hs3:h.size<h3.size:=by have:=e3.1;omega
 unfold J48_1
 refine ⟨by simpa using hs3,ldC hb3 ⟨by simpa using hs3,_,_,_,hb3.fld 6 rfl,by omega,by omega,?_⟩⟩
 have hjt:((j.toNat:Nat):Int)=j:=by omega
 refine r3.j.get (i:=j.toNat) (by omega) fun ad hl x hc hr hxc hx1 hxn=>⟨cellH_lt hc,_,_,_,hc,by simpa using hs3,_,_,_,hb3.fld 7 rfl,?_⟩
 intro h4
 have e4:Ext h3 h4:=Ext.push h3 _
 have z4:h3.size≤h4.size:=e4.1
 have hmust:mustOf C j=x.l++C.fair:=by unfold mustOf;rw [List.getD_eq_getElem?_getD,List.getElem?_eq_getElem hl,hx1];rfl
 have hxl:x.l.length≤16384:=by rw [hx1];have:=le_sumS (List.getElem_mem hl);omega
 refine ⟨fun b hb=>e4.2 b hb fun x=>x,(c67 (rows:=[x,⟨v.f.a,v.f.n,v.f.c,C.fair⟩]) (L:=[x.l,C.fair]) (Fr.lit (.refl h3) [.slice x.a x.n x.c,.slice v.f.a v.f.n v.f.c] 22 2 rfl).rd (fun s hs=>?_) rfl (by omega) (fun l hl=>?_)).mono ?_⟩
 ·simp only [List.mem_cons,List.not_mem_nil,or_false] at hs
  rcases hs with rfl | rfl
  ·exact hr.ext e4
  ·exact r3.f.ext e4
 ·simp only [List.mem_cons,List.not_mem_nil,or_false] at hl
  rcases hl with rfl | rfl
  ·exact hxl
  ·exact b8
 rintro _ h5 ⟨ma,mc,rfl,f5⟩
 have hflat:[x.l,C.fair].flatten=mustOf C j:=by rw [hmust];simp
 rw [hflat] at f5 ⊢
 have e5:Ext h4 h5:=f5.ext
 have e35:Ext h3 h5:=Upd.trans e4 e5
 have hml:(mustOf C j).length≤32768:=by rw [hmust,List.length_append];omega
 refine ⟨_,_,_,rfl,fun b hb=>e5.2 b (Nat.lt_of_lt_of_le hb z4) fun x=>x,?_⟩
 let ms:Sl:=⟨ma,(mustOf C j).length,mc⟩
 intro h6
 have e6:Ext h5 h6:=Ext.push h5 _
 have z6:h5.size≤h6.size:=e6.1
 have e36:Ext h3 h6:=Upd.trans e35 e6
 have hb6:=hb3.ext e36
 let v0:CV:=CV.zero
 have f6:Fr h5 1 h6 (some ⟨h5.size,0,none⟩) 26 26 (CV.zero.cs++(v.cs++[.slice ms.a ms.n ms.c,.int .i64 0,.int .i64 0,.int .i64 0])):=Fr.lit (.refl h5) (CV.zero.cs++(v.cs++[.slice ms.a ms.n ms.c,.int .i64 0,.int .i64 0,.int .i64 0])) 105 26 rfl
 refine ⟨fun b hb=>e6.2 b (by have:=e35.1;omega) fun x=>x,_,_,_,hb6.fld 2 rfl,_,_,_,f6.rd.fld 22 rfl,_,hb6.fld 0 rfl,?_⟩
 have hN:(mustOf C j).length=ms.n:=rfl
 have w1:IntKind.wrap .i64 (7*((v.l.n:Nat):Int))=7*(v.l.n:Nat):=w64 (by omega) (by omega)
 have w2:IntKind.wrap .i64 (3*((ms.n:Nat):Int))=3*(ms.n:Nat):=w64 (by omega) (by omega)
 have w3:IntKind.wrap .i64 (2+(7*((v.l.n:Nat):Int)))=2+7*(v.l.n:Nat):=w64 (by omega) (by omega)
 have w4:IntKind.wrap .i64 (2+7*((v.l.n:Nat):Int)+3*(ms.n:Nat))=2+7*(v.l.n:Nat)+3*(ms.n:Nat):=w64 (by omega) (by omega)
 have w5:IntKind.wrap .i64 (v.mx+2)=v.mx+2:=w64 (by omega) (by omega)
 have w6:IntKind.wrap .i64 (v.mx+2+((v.l.n:Nat):Int))=v.mx+2+(v.l.n:Nat):=w64 (by omega) (by omega)
 have w7:IntKind.wrap .i64 (v.mx+2+((v.l.n:Nat):Int)+(ms.n:Nat))=v.mx+2+(v.l.n:Nat)+(ms.n:Nat):=w64 (by omega) (by omega)
 have w8:IntKind.wrap .i64 (v.mx+2+((v.l.n:Nat):Int)+(ms.n:Nat)+(2+7*((v.l.n:Nat):Int)+3*(ms.n:Nat)))=v.mx+2+(v.l.n:Nat)+(ms.n:Nat)+(2+7*(v.l.n:Nat)+3*(ms.n:Nat)):=w64 (by omega) (by omega)
 have w9:IntKind.wrap .i64 (2*((v.l.n:Nat):Int))=2*(v.l.n:Nat):=w64 (by omega) (by omega)
 have w10:IntKind.wrap .i64 (2*((v.l.n:Nat):Int)+1)=2*(v.l.n:Nat)+1:=w64 (by omega) (by omega)
 have w11:IntKind.wrap .i64 (2*((v.l.n:Nat):Int)+1+(ms.n:Nat))=2*(v.l.n:Nat)+1+(ms.n:Nat):=w64 (by omega) (by omega)
 have w12:IntKind.wrap .i64 (((v.g.n:Nat):Int)+(2+7*((v.l.n:Nat):Int)+3*(ms.n:Nat)))=(v.g.n:Nat)+(2+7*(v.l.n:Nat)+3*(ms.n:Nat)):=w64 (by omega) (by omega)
 have e06:=e03.trans e36
 have long:LLong C (mustOf C j)->MadeP C j h (.tuple #[.pointer none,.int .i64 2]) h6:=fun hl=>bad (by unfold lsE;rw [if_neg (by simp [hz]),if_neg (fun h=>h hjj),if_pos hl]) (by omega) e06
 rw [w1,w2,w3,w4,w5,w6,w7,w8]
 refine ⟨fun hp=>long (.inl (by omega)),fun n1=>⟨_,_,_,hb6.fld 1 rfl,fun hp=>long (.inr (.inl (by omega))),fun n2=>?_⟩⟩
 rw [w9,w10,w11]
 refine ⟨fun hp=>long (.inr (.inr (.inl (by omega)))),fun n3=>⟨_,_,_,hb6.fld 8 rfl,?_⟩⟩
 rw [w12]
 refine ⟨fun hp=>long (.inr (.inr (.inr (by omega)))),fun n4=>?_⟩
 have hE:lsE C j=0:=by unfold lsE;rw [if_neg (by simp [hz]),if_neg (fun h=>h hjj),if_neg (by unfold LLong;omega)]
 refine ldC hb6 ((c55 (r.ext e06) ok).mono ?_)
 rintro _ h8 ⟨v2,rfl,cn⟩
 obtain ⟨rows,hrows,mm⟩:=cn.ex
 have hmx2:=cn.mx
 have m6:Mem h5 h6 [⟨1,some ⟨h5.size,0,none⟩,26,26,CV.zero.cs++(v.cs++[.slice ms.a ms.n ms.c,.int .i64 0,.int .i64 0,.int .i64 0])⟩]:=(Mem.nil (.refl h5)).add f6
 have m8:Mem h5 h8 [⟨1,some ⟨h5.size,0,none⟩,26,26,CV.zero.cs++(v.cs++[.slice ms.a ms.n ms.c,.int .i64 0,.int .i64 0,.int .i64 0])⟩,⟨1,v2.i.a,v2.i.n,v2.i.c,ints C.ins⟩,⟨3,v2.l.a,v2.l.n,v2.l.c,C.lats.flatMap L3.cs⟩,⟨1,none,0,0,[]⟩,⟨1,v2.c.a,v2.c.n,v2.c.c,ints C.cons⟩,⟨3,v2.g.a,v2.g.n,v2.g.c,C.ands.flatMap L3.cs⟩]:=by
  have ma:=(m6.app mm).sub (List.Sublist.append (List.sublist_append_left _ _) (List.Sublist.refl _))
  have mb:=ma.sub (l':=[⟨1,v2.i.a,v2.i.n,v2.i.c,ints C.ins⟩,⟨3,v2.l.a,v2.l.n,v2.l.c,C.lats.flatMap L3.cs⟩,⟨1,v2.c.a,v2.c.n,v2.c.c,ints C.cons⟩,⟨3,v2.g.a,v2.g.n,v2.g.c,C.ands.flatMap L3.cs⟩,⟨1,some ⟨h5.size,0,none⟩,26,26,CV.zero.cs++(v.cs++[.slice ms.a ms.n ms.c,.int .i64 0,.int .i64 0,.int .i64 0])⟩])
   (.cons_cons _ (.cons_cons _ (.cons _ (.cons _ (.cons_cons _ (.cons _ (.cons _ (.cons_cons _ (.cons _ (.cons _ (.cons_cons _ .slnil)))))))))))
  have mc:=mb.add (t:=⟨1,none,0,0,[]⟩) (.nil (.refl h8))
  refine mc.perm ?_
  have p:∀ {a i l n c g:Itm},[n,i,l,c,g,a].Perm [a,i,l,n,c,g]:=fun {a i l n c g}=>by
   have h1:[n,i,l,c,g,a].Perm [a,n,i,l,c,g]:=List.perm_append_comm (l₁:=[n,i,l,c,g]) (l₂:=[a])
   exact h1.trans (.cons _ (List.perm_append_comm_assoc [n] [i,l] [c,g]))
  exact p
 have hn4:¬ LLong C (mustOf C j):=fun hl=>by have:=(lsE_ok hE).2.2;exact this hl
 refine ⟨_,_,_,_,_,_,_,_,_,_,_,_,_,_,_,_,_,_,_,_,_,_,_,_,_,_,_,_,_,_,_,rfl,boxN (zs:=CV.zero.cs) (ws:=v2.cs) rfl (CV.one v2) fun h10 e10 b10=>?_⟩
 have m10:=m8.ext' e10
 have e6_10:=m8.ext |> fun _=>(cn.heap).trans e10
 have hb10:=hb6.ext e6_10
 have hk5:h5.size<h10.size:=(m10.get 0 rfl).own.lt
 have hk8:h8.size<h10.size:=by have:=cellH_lt (b10.fld 0 rfl);rwa [add_block] at this
 have h01:h.size<h5.size:=by have:=e35.1;omega
 have h58:h5.size<h8.size:=(m8.get 0 rfl).own.lt
 have sv1:IntKind.wrap .i64 (2*IntKind.wrap .i64 (v.mx+1))=lsSave C:=by rw [w64 (x:=v.mx+1) (by omega) (by omega),w64 (by omega) (by omega),hmx];rfl
 have sd1:IntKind.wrap .i64 (2*IntKind.wrap .i64 (v.mx+2))=lsSaved C:=by rw [w5,w64 (by omega) (by omega),hmx];rfl
 have keep:∀ {ha hb:Heap} {b:Nat} (l:List Addr),Upd (fun x=>x=b) ha hb->(∀ x∈l,x.block≠b/\x.block<ha.size)->(Zone.cl l).r ha hb:=fun {ha hb b} l u hl x hx=>cellH_congr (u.2 _ (hl x hx).2 (hl x hx).1)
 have atk:∀ {ha hb:Heap} {k:Addr},Upd (atb (some k)) ha hb->Upd (fun x=>x=k.block) ha hb:=fun {ha hb k} u=>u.mono fun b _ ⟨ad,ha,e⟩=>by cases ha;exact e
 refine ⟨Zone.cl [(Addr.mk h.size 0 none).add 0],Zone.cl_has (List.mem_singleton.2 rfl),_,hb10.fld 0 rfl,Zone.cl_has (List.mem_singleton.2 rfl),_,hb10.fld 0 rfl,?_⟩
 rw [sv1,sd1]
 refine (m10.get 0 rfl).cellAt 23 (by omega) rfl fun h11 u11 f11=>⟨keep _ (atk u11) (fun x hx=>by rw [List.mem_singleton] at hx;subst hx;rw [add_block];simp only;omega),?_⟩
 have m11:=m10.setAt 0 (t':=⟨1,some ⟨h5.size,0,none⟩,26,26,_⟩) rfl f11 u11 (.inl rfl)
 have z11:=u11.1
 refine (m11.get 0 rfl).cellAt 24 (by omega) rfl fun h12 u12 f12=>⟨keep _ (atk u12) (fun x hx=>by rw [List.mem_singleton] at hx;subst hx;rw [add_block];simp only;omega),?_⟩
 have m12:=m11.setAt 0 (t':=⟨1,some ⟨h5.size,0,none⟩,26,26,_⟩) rfl f12 u12 (.inl rfl)
 have z12:=u12.1
 have bk:∀ {n:Nat} {a:Addr} {vs:List Value},Rd h10 (some a) n vs->a.block≠h5.size->Rd h12 (some a) n vs:=fun {n a vs} r hne=>(r.upd (atk u11) fun ad ha hh=>by cases ha;exact hne hh).upd (atk u12) fun ad ha hh=>by cases ha;exact hne hh
 have hb12:=bk hb10 (by simp only;omega)
 have b12':=bk b10 (by simp only;omega)
 let zl:List Addr:=[(Addr.mk h.size 0 none).add 0,(Addr.mk h8.size 0 none).add 1,(Addr.mk h5.size 0 none).add 23,(Addr.mk h8.size 0 none).add 2,(Addr.mk h8.size 0 none).add 5,(Addr.mk h8.size 0 none).add 8]
 have zh:∀ {ha:Heap} (i:Nat) {x:Addr},zl[i]?=some x->Zone.hasL (Zone.cl zl) ha x:=fun {ha} i {x} hx=>Zone.cl_has (List.mem_of_getElem? hx)
 have hil:C.ins.length=v2.i.n:=cn.cis.len.i
 refine ⟨Zone.cl zl,zh 0 rfl,_,hb12.fld 0 rfl,zh 1 rfl,_,_,_,b12'.fld 1 rfl,zh 2 rfl,_,(m12.get 0 rfl).rd.fld 23 rfl,?_⟩
 intro h13
 have e13:Ext h12 h13:=Ext.push h12 _
 have r13:Rd h13 (some ⟨h12.size,0,none⟩) 1 [.int .i64 (lsSave C)]:=(Fr.lit (.refl h12) [.int .i64 (lsSave C)] 3 1 rfl).rd
 have zlt:∀ x∈zl,x.block<h12.size/\(x.block=h.size∨x.block=h8.size∨x.block=h5.size):=fun x hx=>by
  simp only [zl,List.mem_cons,List.not_mem_nil,or_false] at hx
  have a1:h.size<h12.size:=by omega
  have a2:h8.size<h12.size:=by omega
  have a3:h5.size<h12.size:=by omega
  rcases hx with rfl | rfl | rfl | rfl | rfl | rfl
  ·exact ⟨a1,.inl rfl⟩
  ·exact ⟨a2,.inr (.inl rfl)⟩
  ·exact ⟨a3,.inr (.inr rfl)⟩
  ·exact ⟨a2,.inr (.inl rfl)⟩
  ·exact ⟨a2,.inr (.inl rfl)⟩
  ·exact ⟨a2,.inr (.inl rfl)⟩
 have m13:=m12.ext' e13
 refine ⟨fun x hx=>cellH_congr (e13.2 _ (zlt x hx).1 fun x=>x),[.int .i64 (lsSave C)],r13.read,rfl,?_⟩
 have f13:=m13.get 1 rfl
 have ilt:∀ ad,v2.i.a=some ad->ad.block<h8.size/\h5.size<ad.block:=fun ad ha=>by
  have h1:=m8.lt (List.mem_cons_of_mem _ (List.mem_cons_self ..)) ha
  have h2:=cn.ex
  obtain ⟨rows',_,mm'⟩:=h2
  have h3:=(mm'.at' 0 rfl).new ad ha
  have:h6.size=h5.size+1:=by simp [h6]
  exact ⟨h1,by omega⟩
 refine f13.app rfl (by simp [Value.oneCell']) (by omega) fun a' c' h14 f14 u14 hor=>?_
 have m14:=m13.setAt 1 (t':=⟨1,a',v2.i.n+1,c',ints C.ins++[.int .i64 (lsSave C)]⟩) rfl f14 u14 hor
 have z13:h12.size≤h13.size:=e13.1
 have z14:=u14.1
 refine ⟨fun x hx=>cellH_congr (u14.2 _ (by have:=(zlt x hx).1;omega) fun ⟨ad,ha,e⟩=>?_),zh 3 rfl,?_⟩
 ·have:=zlt x hx
  have:=ilt ad ha
  omega
 have b14:Rd h14 (some ⟨h8.size,0,none⟩) 11 v2.cs:=((show Rd h12 (some ⟨h8.size,0,none⟩) 11 v2.cs from b12').ext e13).upd u14 fun ad ha ⟨ad',ha',e⟩=>by
  cases ha
  have:=ilt ad' ha'
  simp only at e
  omega
 refine ⟨_,_,_,b14.fld 2 rfl,zh 4 rfl,_,_,_,b14.fld 5 rfl,zh 5 rfl,_,_,_,b14.fld 8 rfl,?_⟩
 rw [addr_add0,addr_add0]
 have wN:IntKind.wrap .i64 (IntKind.wrap .i64 (IntKind.wrap .i64 (v.mx+2)+((v.l.n:Nat):Int))+(((mustOf C j).length:Nat):Int))=lsN C (mustOf C j):=by
  rw [w5,w6,show (((mustOf C j).length:Nat):Int)=(ms.n:Nat) from rfl,w7]
  unfold lsN
  omega
 rw [wN]
 let v3:CV:=⟨lsN C (mustOf C j),⟨a',v2.i.n+1,c'⟩,v2.l,⟨none,0,0⟩,⟨none,0,0⟩,v2.c,⟨none,0,0⟩,⟨none,0,0⟩,v2.g,⟨none,0,0⟩,⟨none,0,0⟩⟩
 have hla:∀ x∈C.lats,0≤x.a/\x.a≤40000:=fun x hx=>by
  obtain ⟨i,hi⟩:=List.mem_iff_getElem?.1 hx
  have:=(dn hz).l i x hi
  omega
 have fb:=m14.get 0 rfl
 have:=fb.own.write 0 v3.cs (by simp [CV.cs]) (CV.one v3) (K:=fun h_15=>CallsH Try.prog 75 #[.pointer (some (Addr.mk h5.size 0 none))] h_15 fun v3_1 h_16=>v3_1=.tuple #[]/\MadeP C j h (.tuple #[.pointer (some (Addr.mk h5.size 0 none)),.int .i64 0]) h_16) fun h15 u15 w15=>?_
 ·rw [addr_add0] at this
  exact this
 have hus:∀ i,i<26*1->(v3.cs++(v.cs++[Value.slice ms.a ms.n ms.c,.int .i64 (lsSave C),.int .i64 (lsSaved C),.int .i64 0]))[i]?=if 0≤i/\i<0+v3.cs.length then v3.cs[i-0]? else (((CV.zero.cs++(v.cs++[Value.slice ms.a ms.n ms.c,.int .i64 0,.int .i64 0,.int .i64 0])).set 23 (.int .i64 (lsSave C))).set 24 (.int .i64 (lsSaved C)))[i]?:=fun i hi=>by
  have hL:v3.cs.length=11:=rfl
  by_cases h:i<11
  ·rw [if_pos (by omega),List.getElem?_append_left (by omega),Nat.sub_zero]
  ·rw [if_neg (by omega),List.getElem?_append_right (by omega),hL]
   obtain ⟨k,rfl⟩:∃ k,i=11+k:=⟨i-11,by omega⟩
   rw [<- List.getElem?_drop,show 11+k-11=k by omega]
   rfl
 have u15':Upd (atb (some (Addr.mk h5.size 0 none))) h14 h15:=u15.mono fun b _ hb=>⟨_,rfl,hb⟩
 have f15:Fr h5 1 h15 (some ⟨h5.size,0,none⟩) 26 26 (v3.cs++(v.cs++[Value.slice ms.a ms.n ms.c,.int .i64 (lsSave C),.int .i64 (lsSaved C),.int .i64 0])):=⟨w15 26 _ rfl (Nat.le_refl _) hus,fb.new,Fr.ext_of fb.ext fb.new u15'⟩
 have m15:=m14.setAt 0 (t':=⟨1,some ⟨h5.size,0,none⟩,26,26,_⟩) rfl f15 u15' (.inl rfl)
 have ei:ints C.ins++[Value.int .i64 (lsSave C)]=ints (C.ins++[lsSave C]):=by simp [ints]
 rw [ei] at m15
 have x15:Mx h5 h15 ⟨h5.size,0,none⟩ v3 (ls0 C (mustOf C j)) v ms (lsSave C) (lsSaved C) 0 []:=⟨rfl,m15,rfl,rfl,rfl,rfl,rfl⟩
 have sm:LsSm C (mustOf C j):=by
  have hg:C.ands.length=v.g.n:=q8.symm▸rfl
  refine ⟨b0,?_,?_,?_⟩
  ·exact Int.not_lt.1 fun hl=>hn4 (.inl hl)
  ·exact Nat.not_lt.1 fun hl=>hn4 (.inr (.inr (.inl hl)))
  ·exact Nat.not_lt.1 fun hl=>hn4 (.inr (.inr (.inr hl)))
 refine (c75 x15 (r.ext (e03.trans e35)) f5.rd sm hla).mono ?_
 rintro _ h16 ⟨rfl,v4,nw,m16⟩
 exact ⟨rfl,.inr ⟨hE,_,v4,v,ms,nw,rfl,⟨m16.mx,m16.mem.base (e03.trans e35),m16.z⟩,(r.ext (e03.trans e35)).ext m16.mem.ext⟩⟩
end
end Go.Proofs.Ytdpbdjdgdmheiaa
