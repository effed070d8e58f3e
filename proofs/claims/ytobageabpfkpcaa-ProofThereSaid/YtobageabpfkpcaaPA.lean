/- A clause comes by propagation: walked. No condition. -/
import Derived.Test.YtobageabpfkpcaaGK
import Derived.Test.YtobageabpfkpcaaFS
import Derived.Test.YtobageabpfkpcaaCAl
set_option linter.unusedVariables false
set_option linter.unusedSimpArgs false
set_option maxRecDepth 100000
namespace Go.Hx
def gr (n:Int) (l:List Int):Int:=l.foldl (fun n x=>max (max n x) (-x)) n
theorem gr_app (n:Int) (l m:List Int):gr n (l++m)=gr (gr n l) m:=by unfold gr;rw [List.foldl_append]
theorem gr_ge:∀ (l:List Int) (n:Int),n≤gr n l/\∀ x∈l,x≤gr n l /\-x≤gr n l
 | [],n=>⟨Int.le_refl _,by simp⟩
 | x::r,n=>by
  have e:gr n (x::r)=gr (max (max n x) (-x)) r:=rfl
  obtain ⟨h1,h2⟩:=gr_ge r (max (max n x) (-x))
  rw [e]
  refine ⟨by omega,fun y hy=>?_⟩
  rcases List.mem_cons.1 hy with rfl | hy
  ·omega
  ·exact h2 y hy
theorem gr_le:∀ (l:List Int) (n m:Int),n≤m->(∀ x∈l,x≤m /\-x≤m)->gr n l≤m
 | [],n,m,h,_=>h
 | x::r,n,m,h,hx=>by
  have e:gr n (x::r)=gr (max (max n x) (-x)) r:=rfl
  have:=hx x (by simp)
  rw [e]
  exact gr_le r _ m (by omega) fun y hy=>hx y (by simp [hy])
def singles (l:List Int):List (List Int):=l.map fun x=>[x]
def frcB (F:Fm) (lits:List Int):Bool:=if lits.length≤16384 then (frcR F lits).2.1 else (frcR ⟨F.vars,F.cls++singles lits⟩ []).2.1
def negs (l:List Int):List Int:=l.map fun x =>-x
theorem negs_snoc (l:List Int) (x:Int):negs (l++[x])=negs l++[-x]:=by simp [negs]
def propB (F:Fm) (c:List Int):Bool:=!frcB ⟨gr F.vars c,F.cls⟩ (negs c)
end Go.Hx
namespace Go.Proofs.Ytobageabpfkpcaa
open Go.Hx Go.RowKit
section
variable {h:Heap} {v:FV} {F:Fm}
theorem c43 {a:Option Addr} {m d:Nat} {l:List Int} (r:Rd h a m (ints l)) (hm:m<9223372036854775807) {n:Int} (hn0:-262144≤n) (hx:∀ x∈l,-262144≤x/\x≤262144):CallsH Try.prog 43 #[.int .i64 n,.slice a m d] h (Ret (.int .i64 (gr n l)) h):=by
 have hl:=r.ilen
 refine run43 n a m d _ h (LoopT.to2 (n:=m) hm (fun i (x:Int) h'=>h=h'/\x=gr n (l.take i)) ⟨rfl,rfl⟩ ?_)
 rintro i x _ K hi ⟨rfl,rfl⟩ hK
 refine ⟨fun hlt=>?_,fun hlt=>?_⟩
 ·have hlt':(i:Int)<(m:Nat):=hlt
  have hil:i<l.length:=by omega
  have hb:=hx _ (List.getElem_mem hil)
  refine ⟨by simp only;omega,hlt',r.getn (i:=i) (by omega) fun ad hl1 hc=>⟨_,hc,?_⟩⟩
  rw [w64 (x:=0-l[i]) (by omega) (by omega)]
  refine hK _ h (by omega) ⟨rfl,?_⟩
  rw [List.take_succ_eq_append_getElem hil,gr_app]
  show max (max _ _) (0-l[i])=max (max _ _) (-l[i])
  rw [Int.zero_sub]
 ·have hlt':¬ (i:Int)<(m:Nat):=hlt
  refine ⟨?_,rfl⟩
  rw [List.take_of_length_le (by omega)]
theorem c38 {a:Option Addr} {n c:Nat} {vs:List Value} (r:Rd h a n vs) (h1:∀ y∈vs,y.oneCell'=true) (hn:n≤5864062014800):CallsH Try.prog 38 #[.slice a n c] h fun w h'=>∃ a' n' c',w=.slice a' n' c'/\vs.length=n'/\Fr h 1 h' a' n' c' vs:=by
 refine run38 a n c _ h ⟨fun hnone=>?_,fun hs=>?_⟩
 ·subst hnone
  have:vs=[]:=r.read
  subst this
  exact ⟨none,0,0,rfl,rfl,.nil (.refl h)⟩
 ·intro h2
  exact ⟨vs,(r.ext (Ext.push h _)).read,by rw [r.len];omega,app0n (by rw [r.len];omega) h1 (by omega) fun a' c' h' f=>⟨a',n,c',rfl,r.len,f⟩⟩
set_option maxHeartbeats 1000000 in
theorem c44 (r:FIs h v F) (ok:F.Ok) (hF:F.cls.length≤1000000000) {b:Option Addr} {m d:Nat} {lits:List Int} (rl:Rd h b m (ints lits)) (hm:m≤1000000000) (hx:∀ x∈lits,-9223372036854775808≤x/\x≤9223372036854775807) :
  CallsH Try.prog 44 #[v.v,.slice b m d] h fun w h'=>∃ a n c,w=.tuple #[.slice a n c,.bool (frcB F lits)]/\Ext h h':=by
 have hlen:=r.r.len
 have hll:=rl.ilen
 have rn:=r.n
 refine run44 v.n v.s.a v.s.n v.s.c b m d _ h ?_
 unfold VC44
 intro h1
 have e1:Ext h h1:=Ext.box h _
 have hb:Rd h1 (some ⟨h.size,0,none⟩) 2 v.cs:=boxF v 24
 refine ⟨fun hs=>?_,fun hs=>?_⟩
 ·refine ldF hb ((c59 sortAbs (r.ext e1) ok (rl.ext e1) (by omega)).mono ?_)
  rintro _ h2 ⟨a2,n2,c2,rfl,f2⟩
  refine ⟨_,_,_,_,_,rfl,a2,n2,c2,?_,e1.trans f2.ext⟩
  unfold frcB;rw [if_pos (by omega)]
 ·unfold J44_0
  have c1:=hb.fld 1 rfl
  have c0:=hb.fld 0 rfl
  have lt1:h.size<h1.size:=by have:=cellH_lt c1;rwa [add_block] at this
  refine ⟨by rw [add_block];exact lt1,_,_,_,c1,fun U h3 g3=>?_⟩
  have mu3:=(MemU.start (Mem.nil (.refl h1))).grow g3
  obtain ⟨rows,a1,a2,a3⟩:=r.r.ex
  refine (c38 (a1.ext (e1.trans mu3.mem.ext)) Rw.one (by omega)).mono ?_
  rintro _ h4 ⟨a4,n4,c10004,rfl,hl4,f4⟩
  obtain ⟨k4,mu4⟩:=mu3.add1 (t:=⟨1,a4,n4,c10004,rows.map Rw.v⟩) f4
  refine ⟨_,_,_,rfl,k4,by rw [add_block];exact lt1,_,(hb.ext mu4.mem.ext).fld 0 rfl,fun U1 h5 b5 g5 hb5 hc5 U2 h6 g6=>?_⟩
  have mu5:=mu4.grow g5
  have mu5':=mu5.take2 hb5 (by have:=mu5.lt _ hb5;exact this.1) (vs:=[.int .i64 0,.slice none 0 0]) hc5 rfl
  have m6:=(mu5'.grow g6).mem
  refine (m6.get 0 rfl).put (ws:=[.int .i64 v.n,.slice a4 n4 c10004]) rfl (by simp [Value.oneCell']) fun h7 f7 u7=>⟨u7.1,?_⟩
  have m7:=m6.setAt 0 (t':=⟨1,some ⟨b5,0,none⟩,2,2,[.int .i64 v.n,.slice a4 n4 c10004]⟩) rfl f7 u7 (.inl rfl)
  have hn4:n4=F.cls.length:=by rw [<- hl4,List.length_map,<- a3,List.length_map]
  refine LoopT.to (n:=m) (by omega) (fun i h'=>∃ (rs:List Rw) (a:Option Addr) (n c:Nat),rs.map Rw.l=singles (lits.take i)/\n=n4+i/\(∀ s∈rs,s.n≤s.c)/\Mem h1 h' (⟨1,some ⟨b5,0,none⟩,2,2,[.int .i64 v.n,.slice a n c]⟩::⟨1,a,n,c,rows.map Rw.v++rs.map Rw.v⟩::rs.map Rw.it)) ⟨[],a4,n4,c10004,rfl,rfl,by simp,by simpa using m7⟩ ?_
  rintro i h8 K hi ⟨rs,a,n,c,hrs,hn,hcap,m8⟩ hK
  have e18:=m8.ext
  refine ⟨fun hlt=>?_,fun hlt=>?_⟩
  ·have hil:i<lits.length:=by omega
   unfold J44_2
   refine ⟨by omega,hlt,(rl.ext (e1.trans e18)).getn (i:=i) (by omega) fun ad hl1 hc=>⟨_,hc,_,_,_,(m8.get 0 rfl).rd.fld 1 rfl,?_⟩⟩
   intro h10 h11
   have f10:Fr h8 1 h10 (some ⟨h8.size,0,none⟩) 1 1 (ints [lits[i]]):=Fr.lit (.refl h8) [.int .i64 lits[i]] 3 1 rfl
   let x:Rw:=⟨some ⟨h8.size,0,none⟩,1,1,[lits[i]]⟩
   have m11:=(m8.add (t:=x.it) f10).ext' (Ext.push h10 (.cells #[x.v] 26))
   refine ⟨[x.v],(Fr.lit (.refl h10) [x.v] 26 1 rfl).rd.read,rfl,?_⟩
   refine (m11.get 2 rfl).app rfl (by simp [x,Rw.v,Value.oneCell']) (by omega) fun a' c' h12 f12 u12 hor=>?_
   have m12:=m11.setAt 2 (t':=⟨1,a',n+1,c',rows.map Rw.v++(rs++[x]).map Rw.v⟩) rfl (by rw [List.map_append,<- List.append_assoc];exact f12) u12 hor
   refine (m12.get 1 rfl).cellAt 1 (by omega) rfl fun h13 u13 f13=>?_
   have m13:=m12.setAt 1 (t':=⟨1,some ⟨b5,0,none⟩,2,2,[.int .i64 v.n,.slice a' (n+1) c']⟩) rfl f13 u13 (.inl rfl)
   refine hK h13 (by omega) ⟨rs++[x],a',n+1,c',?_,by omega,fun s hs=>?_,m13.perm ?_⟩
   ·rw [List.map_append,hrs,List.take_succ_eq_append_getElem hil]
    unfold singles;rw [List.map_append];rfl
   ·rcases List.mem_append.1 hs with hs | hs
    ·exact hcap s hs
    ·rw [List.mem_singleton] at hs;subst hs;exact Nat.le_refl _
   ·show (x.it::_::_::rs.map Rw.it).Perm _
    have e:(rs++[x]).map Rw.it=rs.map Rw.it++[x.it]:=by simp
    rw [e]
    exact (List.perm_middle (l₁:=[_,_]) (a:=x.it)).symm.trans (List.Perm.append_left [_,_] (List.perm_append_singleton _ _).symm)
  ·rw [List.take_of_length_le (by omega)] at hrs
   unfold J44_1
   let u:FV:=⟨v.n,⟨a,n,c⟩⟩
   have fis:FIs h8 u ⟨F.vars,F.cls++singles lits⟩:=⟨rn,⟨rows++rs,by rw [List.map_append];exact (m8.get 1 rfl).rd,fun s hs=>by
    rcases List.mem_append.1 hs with hs | hs
    ·exact ⟨(a2 s hs).1.ext (e1.trans e18),(a2 s hs).2⟩
    ·have fs:=m8.fr s.it (by simp only [List.mem_cons,List.mem_map];exact .inr (.inr ⟨s,hs,rfl⟩))
     exact ⟨Rd.one fs.own.rd,hcap s hs⟩,by rw [List.map_append,a3,hrs]⟩⟩
   have okG:Fm.Ok ⟨F.vars,F.cls++singles lits⟩:=⟨ok.v0,ok.v1,by show (F.cls++singles lits).length≤_;rw [List.length_append];simp only [singles,List.length_map];omega,fun c hc=>by
    rcases List.mem_append.1 hc with hc | hc
    ·exact ok.l c hc
    ·obtain ⟨x,_,rfl⟩:=List.mem_map.1 hc;simp,fun c hc y hy=>by
    rcases List.mem_append.1 hc with hc | hc
    ·exact ok.x c hc y hy
    ·obtain ⟨x,hxl,rfl⟩:=List.mem_map.1 hc
     rw [List.mem_singleton] at hy;subst hy;exact hx _ hxl⟩
   refine ldF (v:=u) (m8.get 0 rfl).rd ((c59 sortAbs fis okG (lits:=[]) (b:=none) (m:=0) (d:=0) .nil (by decide)).mono ?_)
   rintro _ h9 ⟨a9,n9,c10009,rfl,f9⟩
   refine ⟨_,_,_,_,_,rfl,a9,n9,c10009,?_,(e1.trans e18).trans f9.ext⟩
   unfold frcB;rw [if_neg (by omega)]
set_option maxHeartbeats 1000000 in
theorem c31 {A:Nat} (rs:Rd h (some ⟨A,0,none⟩) 2 v.cs) (r:FIs h v F) (ok:F.Ok) (hv0:-262144≤F.vars) (hF:F.cls.length≤1000000000) {a:Option Addr} {m d:Nat} {c:List Int} (rl:Rd h a m (ints c)) (hm:m≤1000000000) (hx:∀ x∈c,-262144≤x/\x≤262144) :
  CallsH Try.prog 31 #[.pointer (some ⟨A,0,none⟩),.slice a m d] h (Xt (.bool (propB F c)) h):=by
 have hll:=rl.ilen
 have rn:=r.n
 have hlen:=r.r.len
 refine run31 (some ⟨A,0,none⟩) a m d _ h ?_
 unfold VC31
 refine ⟨by omega,by omega,by omega,?_⟩
 intro h1
 have f1:Fr h 1 h1 (some ⟨h.size,0,none⟩) m m (List.replicate m (.int .i64 0)):=Fr.zeros _ 3 m
 refine LoopT.to (n:=m) (by omega) (fun i h'=>Fr h 1 h' (some ⟨h.size,0,none⟩) m m ((ints (negs (c.take i)))++List.replicate (m-i) (.int .i64 0))) (by simpa [negs] using f1) ?_
 rintro i h2 K hi f2 hK
 have e02:=f2.ext
 refine ⟨fun hlt=>?_,fun hlt=>?_⟩
 ·have hil:i<c.length:=by omega
  have hb:=hx _ (List.getElem_mem hil)
  unfold J31_1
  refine ⟨by omega,hlt,(rl.ext e02).getn (i:=i) (by omega) fun ad hl1 hc=>⟨_,hc,by omega,by omega,?_⟩⟩
  rw [w64 (x:=0-c[i]) (by omega) (by omega),Int.zero_sub]
  have:=f2.set1 (j:=(i:Int)) (by omega) (by omega) (v:=.int .i64 (-c[i])) rfl (K:=fun h'=>K (IntKind.wrap .i64 ((i:Int)+1)) h') fun h3 u3 f3=>hK h3 (by omega) (by
   rw [Int.toNat_natCast] at f3
   have e:(ints (negs (c.take i))++List.replicate (m-i) (Value.int .i64 0)).set i (.int .i64 (-c[i]))=ints (negs (c.take (i+1)))++List.replicate (m-(i+1)) (.int .i64 0):=by
    have hl1:(ints (negs (c.take i))).length=i:=by simp [negs];omega
    rw [List.set_append_right _ _ (by omega),hl1,Nat.sub_self,show m-i=(m-(i+1))+1 by omega,List.replicate_succ,List.set_cons_zero,List.take_succ_eq_append_getElem hil,negs_snoc]
    show ints (negs (c.take i))++_=ints (negs (c.take i)++[-c[i]])++_
    unfold ints
    rw [List.map_append,List.append_assoc];rfl
   rw [e] at f3;exact f3)
  exact this
 ·obtain rfl:i=m:=by omega
  rw [List.take_of_length_le (by omega),Nat.sub_self,List.replicate_zero,List.append_nil] at f2
  have rs2:=rs.ext e02
  have c0:cellH h2 (Addr.add (Addr.add ⟨A,0,none⟩ 0) 0)=some (.int .i64 v.n):=by rw [add00];exact rs2.fld 0 rfl
  have c1:cellH h2 (Addr.add (Addr.add ⟨A,0,none⟩ 0) 1)=some (.slice v.s.a v.s.n v.s.c):=by rw [add00];exact rs2.fld 1 rfl
  unfold J31_0
  refine AtP.mk rfl ⟨cellH_lt c0,_,c0,fun U h3 g3=>?_⟩
  have mu3:=(MemU.start (Mem.nil (.refl h2))).grow g3
  refine use (c43 (rl.ext (e02.trans g3.ext)) (by omega) (n:=v.n) (by omega) hx) ⟨_,rfl,?_,AtP.mk rfl ⟨cellH_lt c1,_,_,_,g3.ext.cell c1,fun U1 h5 b5 g5 hb5 hc5 U2 h6 g6=>?_⟩⟩
  ·exact (mu3.ext (.refl h3)).1
  have mu5:=mu3.grow g5
  have mu5':=mu5.take2 hb5 (by have:=mu5.lt _ hb5;exact this.1) (vs:=[.int .i64 0,.slice none 0 0]) hc5 rfl
  have m6:=(mu5'.grow g6).mem
  let u:FV:=⟨gr v.n c,v.s⟩
  refine (m6.get 0 rfl).put (ws:=u.cs) rfl (by simp [u,FV.cs,Value.oneCell']) fun h7 f7 u7=>⟨u7.1,?_⟩
  have m7:=m6.setAt 0 (t':=⟨1,some ⟨b5,0,none⟩,2,2,u.cs⟩) rfl f7 u7 (.inl rfl)
  have e07:=e02.trans m7.ext
  have g1:=gr_ge c F.vars
  have g2:gr F.vars c≤9223372036854775807:=gr_le c F.vars _ ok.v1 fun x hxc=>by have:=hx x hxc;omega
  refine ldF (v:=u) f7.rd ((c44 (v:=u) (F:=⟨gr F.vars c,F.cls⟩) ⟨by show gr v.n c=_;rw [rn],r.r.ext e07⟩ ⟨by show _≤gr F.vars c;omega,g2,ok.n,ok.l,ok.x⟩ hF (lits:=negs c) ((f2.upd m7.ext).rd) (by omega) (fun y hy=>by
   obtain ⟨x,hxc,rfl⟩:=List.mem_map.1 hy
   have:=hx x hxc;omega)).mono ?_)
  rintro _ h8 ⟨a8,n8,c10008,rfl,e8⟩
  exact ⟨_,_,_,_,rfl,rfl,e07.trans e8⟩
end
end Go.Proofs.Ytobageabpfkpcaa
