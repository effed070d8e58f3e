/- Words and facts that the claim's proof leans on. No condition. -/
import Derived.Test.YtobageabpfkpcaaFA
import Derived.Test.YtobageabpfkpcaaCAf
import Derived.Test.YtobageabpfkpcaaFI
import Derived.Test.YtobageabpfkpcaaCSh
import Derived.Test.YtobageabpfkpcaaHxV
import Derived.Below
import Derived.Lib.AtoiAllCases
import Derived.Lib.SplitLaws
import Derived.Test.YtobageabpfkpcaaFS
import Derived.Test.YtobageabpfkpcaaFE
set_option linter.unusedVariables false
set_option linter.unusedSimpArgs false
set_option maxRecDepth 100000
namespace Go.Hx
def joiR (F G:Fm):Fm×Int:=if (chkF F).2≠0 then (⟨0,[]⟩,(chkF F).2) else if (chkF G).2≠0 then (⟨0,[]⟩,(chkF G).2) else if 524288<F.cls.length+G.cls.length then (⟨0,[]⟩,2) else (⟨max F.vars G.vars,F.cls++G.cls⟩,0)
theorem joiR_1 {F G:Fm} (h:(chkF F).2≠0):joiR F G=(⟨0,[]⟩,(chkF F).2):=by unfold joiR;rw [if_pos h]
theorem joiR_2 {F G:Fm} (h0:(chkF F).2=0) (h:(chkF G).2≠0):joiR F G=(⟨0,[]⟩,(chkF G).2):=by unfold joiR;rw [if_neg (by simp [h0]),if_pos h]
theorem joiR_3 {F G:Fm} (h0:(chkF F).2=0) (h1:(chkF G).2=0) (h:524288<F.cls.length+G.cls.length):joiR F G=(⟨0,[]⟩,2):=by unfold joiR;rw [if_neg (by simp [h0]),if_neg (by simp [h1]),if_pos h]
theorem joiR_4 {F G:Fm} (h0:(chkF F).2=0) (h1:(chkF G).2=0) (h:¬ 524288<F.cls.length+G.cls.length):joiR F G=(⟨max F.vars G.vars,F.cls++G.cls⟩,0):=by unfold joiR;rw [if_neg (by simp [h0]),if_neg (by simp [h1]),if_neg h]
theorem empF_new {h h':Heap} (e:Ext h h'):FNew h h' ⟨0,⟨none,0,0⟩⟩ ⟨0,[]⟩:=
 ⟨rfl,[],rfl,(Mem.nil e).add (t:=⟨1,none,0,0,[]⟩) (Fr.nil (.refl h'))⟩
theorem Fr.take0 {h0 h:Heap} {a:Option Addr} {n c:Nat} {vs:List Value} (f:Fr h0 1 h a n c vs):Fr h0 1 h a 0 c []:=
 ⟨by have:=f.own.take (m:=0) (Nat.zero_le _);simpa using this,f.new,f.ext⟩
end Go.Hx
namespace Go.Proofs.Ytobageabpfkpcaa
open Go.Hx
section
variable {h:Heap} {v w:FV} {F G:Fm}
theorem c68 {a b:Option Addr} {n c m d:Nat} {A B:List Int} (r:Rd h a n (ints A)) (s:Rd h b m (ints B)) (hn:n<9223372036854775807) (hm:m<9223372036854775807) :
  CallsH Try.prog 68 #[.slice a n c,.slice b m d] h (Ret (.bool (decide (A=B))) h):=by
 have la:=r.ilen
 have lb:=s.ilen
 refine run68 a n c b m d _ h ⟨fun hl=>?_,fun hl=>⟨by rw [decide_eq_false];intro e;subst e;omega,rfl⟩⟩
 refine LoopT.to (n:=n) hn (fun i h'=>h'=h/\∀ j,j<i->A[j]?=B[j]?) ⟨rfl,fun j hj=>by omega⟩ ?_
 rintro i _ K hi ⟨rfl,hI⟩ hK
 refine ⟨fun hlt=>?_,fun hlt=>?_⟩
 ·refine ⟨by omega,hlt,r.getn (by omega) fun ad hl1 hc=>⟨_,hc,by omega,by omega,s.getn (by omega) fun ad2 hl2 hc2=>⟨_,hc2,fun e=>?_,fun e=>?_⟩⟩⟩
  ·refine hK _ (by omega) ⟨rfl,fun j hj=>?_⟩
   by_cases hji:j=i
   ·subst hji;rw [List.getElem?_eq_getElem (show j<A.length from hl1),List.getElem?_eq_getElem (show j<B.length from hl2)];exact congrArg some e
   ·exact hI j (by omega)
  ·refine ⟨?_,rfl⟩
   rw [decide_eq_false]
   intro e2;subst e2;exact e rfl
 ·refine ⟨?_,rfl⟩
  rw [decide_eq_true]
  exact eq_of_at (by omega) fun j hj=>hI j (by omega)
theorem c29 {a:Option Addr} {n c:Nat} {l:List Int} (r:Rd h a n (ints l)) (hn:n≤17592186044416):CallsH Try.prog 29 #[.slice a n c] h fun w h'=>∃ a' n' c',w=.slice a' n' c'/\Fr h 1 h' a' n' c' (ints l):=by
 refine run29 a n c _ h ⟨fun hnone=>?_,fun hs=>?_⟩
 ·subst hnone
  have:ints l=[]:=r.read
  rw [this]
  exact ⟨none,0,0,rfl,.nil (.refl h)⟩
 ·intro h1
  exact ⟨ints l,(r.ext (Ext.push h _)).read,by rw [r.len];omega,app0n (by rw [r.len];omega) ints_one (by omega) fun a' c' h' f=>⟨a',n,c',rfl,f⟩⟩
theorem c40 {size:Nat} (hs:size≤5864062014804):CallsH Try.prog 40 #[.slice none 0 0,.int .i64 (size:Int)] h fun w h'=>∃ a c,w=.slice a 0 c/\Fr h 1 h' a 0 c []:=by
 refine run40 none 0 0 (size:Int) _ h ⟨fun hlt=>by omega,fun _=>?_⟩
 unfold J40_0
 have w0:IntKind.wrap .i64 (((0:Nat):Int)-((0:Nat):Int))=0:=by decide
 rw [w0,w64 (x:=(size:Int)-0) (by omega) (by omega),Int.sub_zero]
 refine ⟨fun hpos=>⟨by omega,by omega,by omega,by omega,by omega,?_⟩,fun _=>⟨none,0,rfl,.nil (.refl h)⟩⟩
 have hz:(zeroRow #[Value.slice none 0 0] (Int.toNat (size:Int)*1)).length=Int.toNat (size:Int)*1:=by rw [zeroRow_one];simp
 refine (Fr.nil (h0:=h) (sz:=1) (.refl h)).app hz (by intro y hy;rw [zeroRow_one] at hy;rw [List.eq_of_mem_replicate hy];rfl) (by omega) fun a' c' h' f u hor=>⟨by omega,by omega,by omega,?_⟩
 rw [cutA0]
 exact ⟨a',c',rfl,f.take0⟩
theorem c28 {sa:Option Addr} {sc:Nat} {s1 s2:Sl} {v1 v2:List Value} (r:Rd h sa 2 ([s1,s2].map Sl.v)) (r1:Rd h s1.a s1.n v1) (r2:Rd h s2.a s2.n v2) (o1:∀ y∈v1,y.oneCell'=true) (o2:∀ y∈v2,y.oneCell'=true) (hn:s1.n+s2.n≤5864062014804) :
  CallsH Try.prog 28 #[.slice sa 2 sc] h fun w h'=>∃ a c,w=.slice a (s1.n+s2.n) c/\Fr h 1 h' a (s1.n+s2.n) c (v1++v2):=by
 refine run28 sa 2 sc _ h (LoopT.to2 (n:=2) (by omega) (fun i (size:Int) h'=>h=h'/\size=if i=0 then 0 else if i=1 then (s1.n:Int) else ((s1.n+s2.n:Nat):Int)) ⟨rfl,rfl⟩ ?_)
 rintro i size _ K hi ⟨rfl,hsz⟩ hK
 refine ⟨fun hlt=>⟨by simp only;omega,by simp only;omega,r.getn (i:=i) (by simp only at hlt;omega) fun ad hl hc=>⟨_,_,_,hc,?_⟩⟩,fun hlt=>?_⟩
 ·have hlt':(i:Int)<((2:Nat):Int):=hlt
  rcases (by omega:i=0∨i=1) with rfl | rfl
  ·simp only [if_true] at hsz
   subst hsz
   have e:IntKind.wrap .i64 ((0:Int)+((s1.n:Nat):Int))=(s1.n:Int):=by rw [w64 (by omega) (by omega)];omega
   refine ⟨fun hneg=>?_,fun _=>?_⟩
   ·have hneg':IntKind.wrap .i64 ((0:Int)+((s1.n:Nat):Int))<0:=hneg
    omega
   ·have:=hK (s1.n:Int) h (by omega) ⟨rfl,by simp⟩
    show K (IntKind.wrap .i64 ((0:Int)+((s1.n:Nat):Int)),_) h
    rw [e];exact this
  ·simp only [if_neg (show ¬ (1:Nat)=0 by omega),if_true] at hsz
   subst hsz
   have e:IntKind.wrap .i64 (((s1.n:Nat):Int)+((s2.n:Nat):Int))=((s1.n+s2.n:Nat):Int):=by rw [w64 (by omega) (by omega)];omega
   refine ⟨fun hneg=>?_,fun _=>?_⟩
   ·have hneg':IntKind.wrap .i64 (((s1.n:Nat):Int)+((s2.n:Nat):Int))<0:=hneg
    omega
   ·have:=hK ((s1.n+s2.n:Nat):Int) h (by omega) ⟨rfl,by simp⟩
    show K (IntKind.wrap .i64 (((s1.n:Nat):Int)+((s2.n:Nat):Int)),_) h
    rw [e];exact this
 ·have hlt':¬ (i:Int)<((2:Nat):Int):=hlt
  obtain rfl:i=2:=by omega
  simp only [if_neg (show ¬ (2:Nat)=0 by omega),if_neg (show ¬ (2:Nat)=1 by omega)] at hsz
  subst hsz
  unfold J28_0
  refine (c40 (size:=s1.n+s2.n) hn).mono ?_
  rintro _ h1 ⟨a1,c1,rfl,f1⟩
  refine ⟨_,_,_,rfl,?_⟩
  refine LoopT.to2 (n:=2) (by omega) (fun i (t:Option Addr×Nat×Nat) h'=>t.2.1=(if i=0 then 0 else if i=1 then s1.n else s1.n+s2.n)/\Fr h 1 h' t.1 t.2.1 t.2.2 (if i=0 then [] else if i=1 then v1 else v1++v2)) ⟨rfl,f1⟩ ?_
  rintro i ⟨a,n,c⟩ h2 K hi ⟨hn2,f⟩ hK
  refine ⟨fun hlt=>⟨by simp only;omega,by simp only;omega,(r.ext f.ext).getn (i:=i) (by simp only at hlt;omega) fun ad hl hc=>⟨_,_,_,hc,?_⟩⟩,fun hlt=>?_⟩
  ·have hlt':(i:Int)<((2:Nat):Int):=hlt
   simp only at hn2 f
   rcases (by omega:i=0∨i=1) with rfl | rfl
   ·simp only [if_true] at hn2 f
    subst hn2
    refine ⟨v1,(r1.ext f.ext).read,by rw [r1.len];show s1.n=s1.n*1;omega,f.app (by rw [r1.len];show s1.n=s1.n*1;omega) o1 (by show (0+s1.n)*24≤_;omega) fun a' c' h' f' u hor=>?_⟩
    exact hK (a',0+s1.n,c') h' (by omega) ⟨by simp,by simpa using f'⟩
   ·simp only [if_neg (show ¬ (1:Nat)=0 by omega),if_true] at hn2 f
    subst hn2
    refine ⟨v2,(r2.ext f.ext).read,by rw [r2.len];show s2.n=s2.n*1;omega,f.app (by rw [r2.len];show s2.n=s2.n*1;omega) o2 (by show (s1.n+s2.n)*24≤_;omega) fun a' c' h' f' u hor=>?_⟩
    exact hK (a',s1.n+s2.n,c') h' (by omega) ⟨by simp,by simpa using f'⟩
  ·have hlt':¬ (i:Int)<((2:Nat):Int):=hlt
   obtain rfl:i=2:=by omega
   simp only [if_neg (show ¬ (2:Nat)=0 by omega),if_neg (show ¬ (2:Nat)=1 by omega)] at hn2 f
   subst hn2
   exact ⟨a,c,rfl,f⟩
theorem cpx_step {h0 h5 h6:Heap} {A:Nat} {vn:Int} {X:List Itm} {a:Option Addr} {n c:Nat} {rows:List Rw} (m:Mem h0 h5 (⟨1,some ⟨A,0,none⟩,2,2,[.int .i64 vn,.slice a n c]⟩::⟨1,a,n,c,rows.map Rw.v⟩::(rows.map Rw.it++X))) (x:Rw) (f:x.it.Fr h5 h6) (hn:n≤5864062014804)
  {K:Heap->Prop} (hK:∀ h' a' c',Mem h0 h' (⟨1,some ⟨A,0,none⟩,2,2,[.int .i64 vn,.slice a' (n+1) c']⟩::⟨1,a',n+1,c',(rows++[x]).map Rw.v⟩::((rows++[x]).map Rw.it++X))->K h') :
  ∃ ys:List Value,ReadL (h6.push (.cells #[x.v] 26)) (some ⟨h6.size,0,none⟩) ys/\ys.length=1*1/\AppS (h6.push (.cells #[x.v] 26)) a n c 26 24 1 #[.slice none 0 0] ys 1 fun a' n' c' h8=>StoreH h8 ((Addr.mk A 0 none).add 1) [.slice a' n' c'] K:=by
 have m6:Mem h0 h6 (⟨1,some ⟨A,0,none⟩,2,2,[.int .i64 vn,.slice a n c]⟩::⟨1,a,n,c,rows.map Rw.v⟩::((rows++[x]).map Rw.it++X)):=(m.add f).perm (by
  rw [List.map_append,List.append_assoc]
  exact (List.perm_middle (l₁:=_::_::rows.map Rw.it)).symm)
 have m7:=m6.ext' (Ext.push h6 (.cells #[x.v] 26))
 refine ⟨[x.v],(Fr.lit (.refl h6) [x.v] 26 1 rfl).rd.read,rfl,?_⟩
 refine (m7.get 1 rfl).app rfl (by simp [Rw.v,Value.oneCell']) (by omega) fun a' c' h8 f8 u8 hor=>?_
 have m8:=m7.setAt 1 (t':=⟨1,a',n+1,c',(rows++[x]).map Rw.v⟩) rfl (by rw [List.map_append];exact f8) u8 hor
 refine (m8.get 0 rfl).cellAt 1 (by omega) rfl fun h9 u9 f9=>?_
 exact hK h9 a' c' (m8.setAt 0 (t':=⟨1,some ⟨A,0,none⟩,2,2,[.int .i64 vn,.slice a' (n+1) c']⟩) rfl f9 u9 (.inl rfl))
set_option maxHeartbeats 1000000 in
theorem c15 (r:FIs h v F) (s:FIs h w G) (ok:F.Ok) (ok2:G.Ok):CallsH Try.prog 15 #[v.v,w.v] h fun x h'=>∃ u,x=.tuple #[FV.v u,.int .i64 (joiR F G).2]/\FNew h h' u (joiR F G).1:=by
 have hlen:=r.r.len
 have hlen2:=s.r.len
 have rn:=r.n
 have sn:=s.n
 refine run15 v.n v.s.a v.s.n v.s.c w.n w.s.a w.s.n w.s.c _ h ?_
 unfold VC15
 intro h1 h2 h3
 have e1:Ext h h1:=Ext.box h _
 have e12:Ext h1 h2:=Ext.box h1 _
 have e02:=e1.trans e12
 have f3:Fr h2 1 h3 (some ⟨h2.size,0,none⟩) 2 2 [.int .i64 0,.slice none 0 0]:=Fr.lit (.refl h2) [.int .i64 0,.slice none 0 0] 24 2 rfl
 have e23:=f3.ext
 have hb:Rd h3 (some ⟨h.size,0,none⟩) 2 v.cs:=((boxF v 24).ext e12).ext e23
 have hw:Rd h3 (some ⟨h1.size,0,none⟩) 2 w.cs:=(boxF w 24).ext e23
 have e03:=e02.trans e23
 have err:∀ {h':Heap} (x:Int),Ext h3 h'->joiR F G=(⟨0,[]⟩,x)->StoreH h' ⟨h2.size,0,none⟩ [.int .i64 0,.slice none 0 0] fun h9=>∃ (t8:Int),∃ (A6:Option Addr),∃ (N6:Nat),∃ (C6:Nat),cellsH h9 ⟨h2.size,0,none⟩ 0 [.int .i64 t8,.slice A6 N6 C6]/\∃ u,Value.tuple #[.agg #[.int .i64 t8,.slice A6 N6 C6],.int .i64 x]=.tuple #[FV.v u,.int .i64 (joiR F G).2]/\FNew h h9 u (joiR F G).1:=fun x e he=>by
  refine (f3.upd e).put (ws:=[.int .i64 0,.slice none 0 0]) rfl (by simp [Value.oneCell']) fun h9 f9 u9=>ldF (v:=⟨0,⟨none,0,0⟩⟩) f9.rd ⟨⟨0,⟨none,0,0⟩⟩,?_,?_⟩
  ·rw [he];rfl
  ·rw [he];exact empF_new (e02.trans f9.ext)
 refine ldF hb (useX (c17 (r.ext e03) ok) fun h4 e4=>⟨_,_,rfl,fun hz=>?_,fun hz=>err _ e4 (joiR_1 hz)⟩)
 unfold J15_0
 refine ldF (hw.ext e4) (useX (c17 (s.ext (e03.trans e4)) ok2) fun h5 e5=>⟨_,_,rfl,fun hz2=>?_,fun hz2=>err _ (e4.trans e5) (joiR_2 hz hz2)⟩)
 unfold J15_1
 have e35:=e4.trans e5
 have hb5:=hb.ext e35
 have hw5:=hw.ext e35
 obtain ⟨p0,p1,p2,p3⟩:=chkF_ok hz
 obtain ⟨q0,q1,q2,q3⟩:=chkF_ok hz2
 refine ⟨_,_,_,hb5.fld 1 rfl,_,_,_,hw5.fld 1 rfl,?_⟩
 rw [w64 (by omega) (by omega)]
 refine ⟨fun hbig=>err _ e35 (joiR_3 hz hz2 (by omega)),fun hbig=>?_⟩
 have hj:=joiR_4 hz hz2 (show ¬ 524288<F.cls.length+G.cls.length by omega)
 rw [hj]
 unfold J15_2
 refine ⟨_,hb5.fld 0 rfl,_,hw5.fld 0 rfl,?_⟩
 intro h6
 have f6:Fr h5 1 h6 (some ⟨h5.size,0,none⟩) 2 2 [.int .i64 0,.slice none 0 0]:=Fr.lit (.refl h5) [.int .i64 0,.slice none 0 0] 24 2 rfl
 have f35:=f3.upd e35
 have m6:=(((Mem.nil (.refl h2)).add (t:=⟨1,some ⟨h2.size,0,none⟩,2,2,[.int .i64 0,.slice none 0 0]⟩) f35).add (t:=⟨1,none,0,0,[]⟩) (Fr.nil (.refl h5))).add (t:=⟨1,some ⟨h5.size,0,none⟩,2,2,[.int .i64 0,.slice none 0 0]⟩) f6
 refine (m6.get 0 rfl).put (ws:=[.int .i64 (max v.n w.n),.slice none 0 0]) rfl (by simp [Value.oneCell']) fun h7 f7 u7=>?_
 have m7:=m6.setAt 0 (t':=⟨1,some ⟨h5.size,0,none⟩,2,2,[.int .i64 (max v.n w.n),.slice none 0 0]⟩) rfl f7 u7 (.inl rfl)
 have e27:=m7.ext
 have hb7:Rd h7 (some ⟨h.size,0,none⟩) 2 v.cs:=((boxF v 24).ext e12).ext e27
 have hw7:Rd h7 (some ⟨h1.size,0,none⟩) 2 w.cs:=(boxF w 24).ext e27
 refine ⟨_,_,_,hb7.fld 1 rfl,_,_,_,hw7.fld 1 rfl,?_⟩
 intro h8
 have e78:Ext h7 h8:=Ext.push h7 _
 have e08:=(e02.trans e27).trans e78
 obtain ⟨R1,a1,a2,a3⟩:=r.r.ex
 obtain ⟨R2,b1,b2,b3⟩:=s.r.ex
 refine (c28 (s1:=v.s) (s2:=w.s) (Fr.lit (.refl h7) [v.s.v,w.s.v] 22 2 rfl).rd (a1.ext e08) (b1.ext e08) Rw.one Rw.one (by omega)).mono ?_
 rintro _ h9 ⟨a9,c10009,rfl,f9⟩
 refine ⟨_,_,_,rfl,?_⟩
 have m9:=((m7.ext' e78).add (t:=⟨1,a9,v.s.n+w.s.n,c10009,R1.map Rw.v++R2.map Rw.v⟩) f9).perm (List.perm_append_singleton _ _).symm
 have hall:∀ {h'},Mem h2 h' [⟨1,some ⟨h2.size,0,none⟩,2,2,[.int .i64 0,.slice none 0 0]⟩,⟨1,a9,v.s.n+w.s.n,c10009,R1.map Rw.v++R2.map Rw.v⟩]->RdRs h' a9 (v.s.n+w.s.n) (F.cls++G.cls):=fun {h'} m=>⟨⟨R1++R2,by rw [List.map_append];exact (m.get 1 rfl).rd,fun x hx=>by
  rcases List.mem_append.1 hx with hx | hx
  ·exact ⟨(a2 x hx).1.ext (e02.trans m.ext),(a2 x hx).2⟩
  ·exact ⟨(b2 x hx).1.ext (e02.trans m.ext),(b2 x hx).2⟩,by rw [List.map_append,a3,b3]⟩⟩
 have hal:∀ x∈F.cls++G.cls,x.length≤16384:=fun x hx=>by
  rcases List.mem_append.1 hx with hx | hx
  ·exact (p3 x hx).1
  ·exact (q3 x hx).1
 have hel:(F.cls++G.cls).length=v.s.n+w.s.n:=by rw [List.length_append];omega
 have hvm:max v.n w.n=max F.vars G.vars:=by rw [rn,sn]
 have hsm:v.s.n+w.s.n≤1048576:=by omega
 clear hj hbig
 generalize F.cls++G.cls=L at *
 generalize v.s.n+w.s.n=N at *
 generalize R1.map Rw.v++R2.map Rw.v=V9 at *
 refine LoopT.to (n:=N) (by omega) (fun i h'=>∃ (rows:List Rw) (a:Option Addr) (c:Nat),rows.map Rw.l=L.take i/\Mem h2 h' (⟨1,some ⟨h5.size,0,none⟩,2,2,[.int .i64 (max v.n w.n),.slice a i c]⟩::⟨1,a,i,c,rows.map Rw.v⟩::(rows.map Rw.it++([⟨1,some ⟨h2.size,0,none⟩,2,2,[.int .i64 0,.slice none 0 0]⟩,⟨1,a9,N,c10009,V9⟩]:List Itm)))) ⟨[],none,0,rfl,m9⟩ ?_
 rintro i h10 K hi ⟨rows,a,c,hrows,m⟩ hK
 refine ⟨fun hlt=>?_,fun hlt=>?_⟩
 ·have hi2:i<L.length:=by omega
  unfold J15_4
  have cA:=(m.get 0 rfl).rd.fld 1 rfl
  refine ⟨by omega,hlt,(hall (m.sub (.cons _ (.cons _ (List.sublist_append_right _ _))))).get (i:=i) (by omega) fun ad hl sx hc hs hsc hsl hsn=>⟨_,_,_,hc,cellH_lt cA,_,_,_,cA,?_⟩⟩
  have hll:=hal _ (List.getElem_mem hl)
  refine (c29 hs (by omega)).mono ?_
  rintro _ h11 ⟨a6,n6,c10006,rfl,f6⟩
  refine ⟨_,_,_,rfl,agrH f6.ext (Nat.le_refl _),?_⟩
  intro h12
  refine ⟨agrH (Ext.push h11 _) f6.ext.1,cpx_step m ⟨a6,n6,c10006,sx.l⟩ f6 (by omega) fun h' a' c' m'=>hK h' (by omega) ⟨rows++[⟨a6,n6,c10006,sx.l⟩],a',c',?_,m'⟩⟩
  rw [List.map_append,hrows,List.take_succ_eq_append_getElem hi2,hsl];rfl
 ·obtain rfl:i=N:=by omega
  unfold J15_3
  rw [List.take_of_length_le (by omega)] at hrows
  let u:FV:=⟨max v.n w.n,⟨a,i,c⟩⟩
  have mm:=m.perm (l':=⟨1,some ⟨h2.size,0,none⟩,2,2,[.int .i64 0,.slice none 0 0]⟩::(⟨1,some ⟨h5.size,0,none⟩,2,2,[.int .i64 (max v.n w.n),.slice a i c]⟩::⟨1,a,i,c,rows.map Rw.v⟩::(rows.map Rw.it++[(⟨1,a9,i,c10009,V9⟩:Itm)]))) (List.perm_middle (l₁:=_::_::rows.map Rw.it) (l₂:=[_]))
  refine ldF (v:=u) (m.get 0 rfl).rd ((mm.get 0 rfl).put (ws:=u.cs) rfl (by simp [u,FV.cs,Value.oneCell']) fun h11 f11 u11=>?_)
  have m11:=mm.setAt 0 (t':=⟨1,some ⟨h2.size,0,none⟩,2,2,u.cs⟩) rfl f11 u11 (.inl rfl)
  refine ldF (v:=u) f11.rd ⟨u,rfl,hvm,rows,hrows,(m11.sub (.cons _ (.cons _ (.cons_cons _ (List.sublist_append_left _ _))))).base e02⟩
end
end Go.Proofs.Ytobageabpfkpcaa
set_option maxRecDepth 100000
namespace Go.Hx
def val (acc:Nat) (l:List UInt8):Nat:=l.foldl (fun a c=>a*10+(c.toNat-48)) acc
end Go.Hx
namespace Go.Proofs.Ytobageabpfkpcaa
open Go.Hx Go.RowKit
structure Gl (h:Heap):Prop where
 max:∃ m,cellH h ⟨0,0,none⟩=some (.int .i64 m)
 syn:∃ te pe,cellH h ⟨2,0,none⟩=some (.iface te pe)
 ran:∃ te pe,cellH h ⟨3,0,none⟩=some (.iface te pe)
theorem Gl.ext {h h':Heap} (g:Gl h) (x:Ext h h'):Gl h':=by
 obtain ⟨⟨m,hm⟩,⟨a,b,hs⟩,⟨c,d,hr⟩⟩:=g
 exact ⟨⟨m,x.cell hm⟩,⟨a,b,x.cell hs⟩,⟨c,d,x.cell hr⟩⟩
section
variable {h:Heap}
end
end Go.Proofs.Ytobageabpfkpcaa
set_option maxRecDepth 100000
namespace Go.Hx
structure RS where
 vars:Int
 cls:List (List Int)
 want:Int
 cur:List Int
 op:Bool
structure RS.Ok (s:RS):Prop where
 v0:0≤s.vars
 v1:s.vars≤262144
 w:s.want≤524288
 n:(s.cls.length:Int)≤s.want
 o:s.op=true->(s.cls.length:Int)<s.want
 e:s.op=false->s.cur=[]
 k:s.cur.length≤16384
def Rdr (h0 h:Heap) (A:Nat) (s:RS) (X:List Itm):Prop:=
 ∃ (rows:List Rw) (a:Option Addr) (n c:Nat) (b:Option Addr) (m d:Nat),rows.map Rw.l=s.cls /\
  Mem h0 h (⟨1,some ⟨A,0,none⟩,5,5,[.int .i64 s.vars,.slice a n c,.int .i64 s.want,.slice b m d,.bool s.op]⟩::⟨1,a,n,c,rows.map Rw.v⟩::⟨1,b,m,d,ints s.cur⟩::(rows.map Rw.it++X))
theorem Rdr.ext' {h0 h h':Heap} {A:Nat} {s:RS} {X:List Itm} (r:Rdr h0 h A s X) (u:Ext h h'):Rdr h0 h' A s X:=by
 obtain ⟨rows,a,n,c,b,m,d,h1,me⟩:=r
 exact ⟨rows,a,n,c,b,m,d,h1,me.ext' u⟩
theorem Rdr.ext {h0 h:Heap} {A:Nat} {s:RS} {X:List Itm} (r:Rdr h0 h A s X):Ext h0 h:=by
 obtain ⟨rows,a,n,c,b,m,d,h1,me⟩:=r
 exact me.ext
theorem add00 (A:Nat) (k:Nat):Addr.add (Addr.add ⟨A,0,none⟩ 0) k=Addr.add ⟨A,0,none⟩ k:=by rw [addr_add0]
theorem Rdr.get {h0 h:Heap} {A:Nat} {s:RS} {X:List Itm} (r:Rdr h0 h A s X):A<h.size/\cellH h (Addr.add ⟨A,0,none⟩ 0)=some (.int .i64 s.vars)/\(∃ a c,cellH h (Addr.add ⟨A,0,none⟩ 1)=some (.slice a s.cls.length c)) /\
  cellH h (Addr.add ⟨A,0,none⟩ 2)=some (.int .i64 s.want)/\(∃ b d,cellH h (Addr.add ⟨A,0,none⟩ 3)=some (.slice b s.cur.length d))/\cellH h (Addr.add ⟨A,0,none⟩ 4)=some (.bool s.op):=by
 obtain ⟨rows,a,n,c,b,m,d,h1,me⟩:=r
 have f:=(me.get 0 rfl).rd
 have l1:rows.length=n:=by have:=(me.get 1 rfl).rd.len;simpa using this
 have l2:s.cur.length=m:=(me.get 2 rfl).rd.ilen
 have l3:s.cls.length=n:=by rw [<- h1,List.length_map];exact l1
 subst l2 l3
 exact ⟨(me.get 0 rfl).own.lt,f.fld 0 rfl,⟨_,_,f.fld 1 rfl⟩,f.fld 2 rfl,⟨_,_,f.fld 3 rfl⟩,f.fld 4 rfl⟩
end Go.Hx
namespace Go.Proofs.Ytobageabpfkpcaa
open Go.Hx Go.RowKit
section
variable {h0 h:Heap} {A:Nat} {s:RS} {X:List Itm}
end
end Go.Proofs.Ytobageabpfkpcaa
set_option maxRecDepth 100000
namespace Go.Hx
theorem MemU.take2 {n:Nat} {h0 h:Heap} {U:Nat->Prop} {l:List Itm} (m:MemU n h0 h U l) {b:Nat} (hb:U b) (hn:h0.size≤b) {vs:List Value} {e:TypeId} {k:Nat} (hc:h[b]?=some (.cells vs.toArray e (0,0))) (hl:vs.length=k):MemU n h0 h (minus U b) (⟨1,some ⟨b,0,none⟩,k,k,vs⟩::l):=
 m.take hb hn (t:=⟨1,some ⟨b,0,none⟩,k,k,vs⟩) ⟨Own.row hc hl,fun ad ha=>by cases ha;exact hn,m.mem.ext⟩ fun ad ha=>by cases ha;rfl
end Go.Hx
namespace Go.Proofs.Ytobageabpfkpcaa
open Go.Hx Go.RowKit
section
variable {h:Heap} {v w:FV} {F G:Fm}
end
end Go.Proofs.Ytobageabpfkpcaa
set_option maxRecDepth 100000
namespace Go.Hx
theorem litB_neg {m:List Bool} {x:Int} (h:x≠0):litB m (-x)=!litB m x:=by
 unfold litB
 rw [Int.natAbs_neg]
 by_cases h1:0<x
 ·rw [decide_eq_true h1,decide_eq_false (by omega)];cases m.getD (x.natAbs-1) false <;> rfl
 ·rw [decide_eq_false h1,decide_eq_true (by omega)];cases m.getD (x.natAbs-1) false <;> rfl
theorem unitL_true {m:List Bool} {T:List Int} (hT:∀ t∈T,litB m t=true):∀ {c:List Int} {l x:Int},(∀ y∈c,y≠0)->unitL T c l=(x,true)->(clsB m c=true∨(l≠0/\litB m l=true))->x≠0/\litB m x=true
 | [],l,x,_,h,hor=>by
  cases h
  rcases hor with h | h
  ·cases h
  ·exact h
 | y::r,l,x,h0,h,hor=>by
  have hy:=h0 y (by simp)
  have hr:∀ z∈r,z≠0:=fun z hz=>h0 z (by simp [hz])
  have hc:clsB m (y::r)=(litB m y || clsB m r):=by unfold clsB;rw [List.any_cons]
  rw [hc] at hor
  unfold unitL at h
  by_cases h1:y∈T
  ·rw [if_pos h1] at h;cases h
  ·rw [if_neg h1] at h
   by_cases h2:-y∈T∨y=l
   ·rw [if_pos h2] at h
    refine unitL_true hT hr h ?_
    rcases hor with hor | hor
    ·cases hy1:litB m y with
     | true=>
      rcases h2 with h2 | h2
      ·have:=hT _ h2
       rw [litB_neg hy,hy1] at this;cases this
      ·subst h2;exact .inr ⟨hy,hy1⟩
     | false=>rw [hy1] at hor;exact .inl (by simpa using hor)
    ·exact .inr hor
   ·rw [if_neg h2] at h
    by_cases h3:l=0
    ·rw [if_pos h3] at h
     refine unitL_true hT hr h ?_
     rcases hor with hor | hor
     ·by_cases hy1:litB m y=true
      ·exact .inr ⟨hy,hy1⟩
      ·exact .inl (by simpa [hy1] using hor)
     ·exact absurd h3 hor.1
    ·rw [if_neg h3] at h;cases h
theorem passL_true {m:List Bool}:∀ {cs:List (List Int)} {T:List Int} {b:Bool},(∀ c∈cs,clsB m c=true/\∀ y∈c,y≠0)->(∀ t∈T,litB m t=true)->∃ T' b',passL cs T b=some (T',b')/\∀ t∈T',litB m t=true
 | [],T,b,_,hT=>⟨T,b,rfl,hT⟩
 | c::r,T,b,hc,hT=>by
  have hr:∀ c∈r,clsB m c=true/\∀ y∈c,y≠0:=fun d hd=>hc d (by simp [hd])
  unfold passL
  cases h2:(unitL T c 0).2 with
  | false=>rw [if_pos rfl];exact passL_true hr hT
  | true=>
   have hu:unitL T c 0=((unitL T c 0).1,true):=by rw [<- h2]
   obtain ⟨k1,k2⟩:=unitL_true hT (hc c (by simp)).2 hu (.inl (hc c (by simp)).1)
   rw [if_neg (by simp),if_neg k1]
   refine passL_true hr fun t ht=>?_
   rcases List.mem_append.1 ht with ht | ht
   ·exact hT t ht
   ·rw [List.mem_singleton] at ht;subst ht;exact k2
theorem seqP_true {m:List Bool} {cs:List (List Int)} {T0:List Int} (hc:∀ c∈cs,clsB m c=true/\∀ y∈c,y≠0) (hT:∀ t∈T0,litB m t=true):∀ k,∃ T b,seqP cs T0 k=some (T,b)/\∀ t∈T,litB m t=true
 | 0=>⟨T0,true,rfl,hT⟩
 | k+1=>by
  obtain ⟨T,b,h1,h2⟩:=seqP_true hc hT k
  unfold seqP
  rw [h1]
  cases b with
  | true=>exact passL_true hc h2
  | false=>exact ⟨T,false,rfl,h2⟩
theorem litsL_true {m:List Bool}:∀ {l T:List Int},(∀ x∈l,x≠0/\litB m x=true)->(∀ t∈T,litB m t=true)->∃ T',litsL l T=some T'/\∀ t∈T',litB m t=true
 | [],T,_,hT=>⟨T,rfl,hT⟩
 | x::r,T,hl,hT=>by
  obtain ⟨x0,x1⟩:=hl x (by simp)
  unfold litsL
  rw [if_neg fun h=>by have:=hT _ h;rw [litB_neg x0,x1] at this;cases this]
  refine litsL_true (fun y hy=>hl y (by simp [hy])) fun t ht=>?_
  split at ht
  ·exact hT t ht
  ·rcases List.mem_append.1 ht with ht | ht
   ·exact hT t ht
   ·rw [List.mem_singleton] at ht;subst ht;exact x1
theorem forceT_true {m:List Bool} {F:Fm} {lits:List Int} (hc:∀ c∈F.cls,clsB m c=true/\∀ y∈c,y≠0) (hl:∀ x∈lits,x≠0/\litB m x=true):∃ T,forceT F lits=some T/\∀ t∈T,litB m t=true:=by
 obtain ⟨T0,h0,h1⟩:=litsL_true (T:=[]) hl (by simp)
 obtain ⟨T,b,h2,h3⟩:=seqP_true hc h1 (F.vars.toNat+2)
 exact ⟨T,by unfold forceT;rw [h0];simp only;rw [h2];rfl,h3⟩
theorem firL_neg {m:List Bool}:∀ {L:List (List Int)} {i:Int},0≤i->(firL m L i<0↔∀ c∈L,clsB m c=true)
 | [],i,hi=>by simp [firL]
 | c::r,i,hi=>by
  unfold firL
  by_cases h:clsB m c=true
  ·rw [if_pos h,firL_neg (by omega)]
   simp [h]
  ·rw [if_neg h]
   constructor
   ·intro h1;omega
   ·intro h1;exact absurd (h1 c (by simp)) h
theorem clsB_take {m:List Bool} {n:Nat} {c:List Int} (h:∀ x∈c,x≠0 /\-(n:Int)≤x/\x≤n):clsB (m.take n) c=clsB m c:=by
 unfold clsB
 have:∀ x∈c,litB (m.take n) x=litB m x:=fun x hx=>by
  obtain ⟨a,b,d⟩:=h x hx
  unfold litB
  rw [List.getD_eq_getElem?_getD,List.getD_eq_getElem?_getD,List.getElem?_take_of_lt (by omega)]
 induction c with
 | nil=>rfl
 | cons x r ih=>rw [List.any_cons,List.any_cons,this x (by simp),ih (fun y hy=>h y (by simp [hy])) fun y hy=>this y (by simp [hy])]
theorem litE_of {n:Int} {l:List Int} (h1:l.length≤16384) (h2:∀ x∈l,x≠0 /\-n≤x/\x≤n):litE n l=0:=by
 unfold litE
 rw [if_neg (by omega),if_neg]
 intro h
 rw [List.any_eq_true] at h
 obtain ⟨x,hx,h3⟩:=h
 have:=h2 x hx
 simp only [badX,decide_eq_true_eq] at h3
 omega
theorem clsE_of {n:Int}:∀ {L:List (List Int)} {i:Int},(∀ c∈L,litE n c=0)->clsE n L i=(0,0)
 | [],i,_=>rfl
 | c::r,i,h=>by
  unfold clsE
  rw [if_neg (by simp [h c (by simp)])]
  exact clsE_of fun d hd=>h d (by simp [hd])
theorem chkF_of {F:Fm} (h0:0≤F.vars) (h1:F.vars≤262144) (h2:F.cls.length≤524288) (h3:∀ c∈F.cls,c.length≤16384/\∀ x∈c,x≠0 /\-F.vars≤x/\x≤F.vars):chkF F=(0,0):=by
 unfold chkF
 rw [if_neg (by omega),if_neg (by omega)]
 exact clsE_of fun c hc=>litE_of (h3 c hc).1 (h3 c hc).2
end Go.Hx
set_option maxRecDepth 100000
namespace Go.Hx
theorem modB_all:∀ (l:List Bool),∃ m,m<2 ^ l.length/\modB l.length m=l
 | []=>⟨0,by simp,rfl⟩
 | b::r=>by
  obtain ⟨m,hm,hr⟩:=modB_all r
  refine ⟨2 ^ r.length*b.toNat+m,?_,?_⟩
  ·rw [List.length_cons,Nat.pow_succ]
   cases b <;> simp <;> omega
  ·refine eq_of_at' (by simp [modB_len]) fun i hi=>?_
   rw [modB_len,List.length_cons] at hi
   rw [List.length_cons,modB_at hi,Nat.testBit_two_pow_mul_add _ hm]
   cases i with
   | zero=>rw [if_neg (by omega)];cases b <;> simp
   | succ i=>
    rw [if_pos (by omega),List.getElem?_cons_succ,<- hr,modB_at (by omega)]
    rw [hr]
    congr 2
    omega
where
 eq_of_at' {A B:List Bool} (hl:A.length=B.length) (h:∀ j,j<A.length->A[j]?=B[j]?):A=B:=by
  apply List.ext_getElem? fun j=>?_
  rcases Nat.lt_or_ge j A.length with hj | hj
  ·exact h j hj
  ·rw [List.getElem?_eq_none hj,List.getElem?_eq_none (by omega)]
end Go.Hx
namespace Go.Proofs.Ytobageabpfkpcaa
open Go.Hx Go.RowKit
section
variable {h:Heap} {v:FV} {F:Fm}
end
end Go.Proofs.Ytobageabpfkpcaa
