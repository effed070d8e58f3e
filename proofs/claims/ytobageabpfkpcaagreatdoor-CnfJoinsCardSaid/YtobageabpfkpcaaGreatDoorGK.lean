/- Words and facts that the claim's proof leans on. No condition. -/
import Derived.Test.YtobageabpfkpcaaGreatDoorFA
import Derived.Test.YtobageabpfkpcaaGreatDoorCAf
import Derived.Test.YtobageabpfkpcaaGreatDoorFI
import Derived.Test.YtobageabpfkpcaaGreatDoorFE
set_option linter.unusedVariables false
set_option linter.unusedSimpArgs false
set_option maxRecDepth 100000
namespace Go.Hx
def joiR (F G:Fm):Fm×Int:=if (chkF F).2≠0 then (⟨0,[]⟩,(chkF F).2) else if (chkF G).2≠0 then (⟨0,[]⟩,(chkF G).2) else if 524288<F.cls.length+G.cls.length then (⟨0,[]⟩,2) else (⟨max F.vars G.vars,F.cls++G.cls⟩,0)
theorem joiR_1 {F G:Fm} (h:(chkF F).2≠0):joiR F G=(⟨0,[]⟩,(chkF F).2):=by unfold joiR;rw [if_pos h]
theorem joiR_2 {F G:Fm} (h0:(chkF F).2=0) (h:(chkF G).2≠0):joiR F G=(⟨0,[]⟩,(chkF G).2):=by unfold joiR;rw [if_neg (by simp [h0]),if_pos h]
theorem joiR_3 {F G:Fm} (h0:(chkF F).2=0) (h1:(chkF G).2=0) (h:524288<F.cls.length+G.cls.length):joiR F G=(⟨0,[]⟩,2):=by unfold joiR;rw [if_neg (by simp [h0]),if_neg (by simp [h1]),if_pos h]
theorem joiR_4 {F G:Fm} (h0:(chkF F).2=0) (h1:(chkF G).2=0) (h:¬ 524288<F.cls.length+G.cls.length):joiR F G=(⟨max F.vars G.vars,F.cls++G.cls⟩,0):=by unfold joiR;rw [if_neg (by simp [h0]),if_neg (by simp [h1]),if_neg h]
theorem empF_new {h h':Heap} (e:Ext h h'):FNew h h' ⟨0,⟨none,0,0⟩⟩ ⟨0,[]⟩:=
 ⟨rfl,[],rfl,(Mem.nil e).add (t:=⟨1,none,0,0,[]⟩) (Fr.nil (.refl h'))⟩
theorem Fr.take0 {h0 h:Heap} {a:Option Addr} {n c:Nat} {vs:List Value} (f:Fr h0 1 h a n c vs):Fr h0 1 h a 0 c []:=
 ⟨by have:=f.own.take (m:=0) (Nat.zero_le _);simpa using this,f.new,f.ext⟩
end Go.Hx
namespace Go.Proofs.YtobageabpfkpcaaGreatDoor
open Go.Hx
section
variable {h:Heap} {v w:FV} {F G:Fm}
theorem c76 {a b:Option Addr} {n c m d:Nat} {A B:List Int} (r:Rd h a n (ints A)) (s:Rd h b m (ints B)) (hn:n<9223372036854775807) (hm:m<9223372036854775807) :
  CallsH Tryz.prog 76 #[.slice a n c,.slice b m d] h (Ret (.bool (decide (A=B))) h):=by
 have la:=r.ilen
 have lb:=s.ilen
 refine run76 a n c b m d _ h ⟨fun hl=>?_,fun hl=>⟨by rw [decide_eq_false];intro e;subst e;omega,rfl⟩⟩
 refine LoopT.to (n:=n) hn (fun i h'=>h'=h/\∀ j,j<i->A[j]?=B[j]?) ⟨rfl,fun j hj=>by omega⟩ ?_
 rintro i _ K hi ⟨rfl,hI⟩ hK
 refine ⟨fun hlt=>?_,fun hlt=>?_⟩
 ·refine ⟨by omega,hlt,r.getn (by omega) fun ad hl1 hc=>⟨_,hc,by omega,by omega,s.getn (by omega) fun ad2 hl2 hc2=>⟨_,hc2,fun e=>?_,fun e=>?_⟩⟩⟩
  ·refine hK _ (by omega) ⟨rfl,fun j hj=>?_⟩
   by_cases hji:j=i
   ·subst hji;rw [List.getElem?_eq_getElem (show j<A.length from hl1),List.getElem?_eq_getElem (show j<B.length from hl2)];exact congrArg some e
   ·exact hI j (by omega)
  ·refine ⟨?_,rfl⟩
   rw [decide_eq_false]
   intro e2;subst e2;exact e rfl
 ·refine ⟨?_,rfl⟩
  rw [decide_eq_true]
  exact eq_of_at (by omega) fun j hj=>hI j (by omega)
theorem c75 {a b:Option Addr} {n c m d:Nat} {A B:List Int} (r:Rd h a n (ints A)) (s:Rd h b m (ints B)) (hn:n<9223372036854775807) (hm:m<9223372036854775807) :
  CallsH Tryz.prog 75 #[.slice a n c,.slice b m d] h (Ret (.bool (decide (A=B))) h):=
 run75 a n c b m d _ h (use (c76 r s hn hm) ⟨_,rfl,rfl,rfl⟩)
theorem ok75:callOk Tryz.prog 75=true:=by kernel_rfl
theorem c74 {a b:Option Addr} {n c m d:Nat} {A B:List (List Int)} (r:RdRs h a n A) (s:RdRs h b m B) (hn:n<9223372036854775807) (hx:∀ x∈A,x.length<9223372036854775807) (hy:∀ x∈B,x.length<9223372036854775807) :
  CallsH Tryz.prog 74 #[.slice a n c,.slice b m d,.func (.func 75) #[] #[]] h (Ret (.bool (decide (A=B))) h):=by
 have la:=r.len
 have lb:=s.len
 refine run74 a n c b m d _ _ h ⟨fun hl=>?_,fun hl=>⟨by rw [decide_eq_false];intro e;subst e;omega,rfl⟩⟩
 refine LoopT.to (n:=n) hn (fun i h'=>h=h'/\∀ j,j<i->A[j]?=B[j]?) ⟨rfl,fun j hj=>by omega⟩ ?_
 rintro i _ K hi ⟨rfl,hI⟩ hK
 refine ⟨fun hlt=>?_,fun hlt=>⟨by rw [decide_eq_true];exact eq_of_at (by omega) fun j hj=>hI j (by omega),rfl⟩⟩
 refine ⟨by omega,hlt,r.get (i:=i) (by omega) fun ad hl1 s1 hc hs hsc hsl hsn=>⟨_,_,_,hc,by omega,by omega,s.get (i:=i) (by omega) fun ad2 hl2 s2 hc2 hs2 hsc2 hsl2 hsn2=>⟨_,_,_,hc2,?_⟩⟩⟩
 have:=hx _ (List.getElem_mem hl1)
 have:=hy _ (List.getElem_mem hl2)
 refine CallV.func ok75 (use (c75 hs hs2 (by omega) (by omega)) ⟨_,rfl,?_⟩)
 rw [hsl,hsl2]
 by_cases he:A[i]=B[i]
 ·rw [decide_eq_true he]
  refine BIf.f (hK _ (by omega) ⟨rfl,fun j hj=>?_⟩)
  by_cases hji:j=i
  ·subst hji;rw [List.getElem?_eq_getElem hl1,List.getElem?_eq_getElem hl2,he]
  ·exact hI j (by omega)
 ·rw [decide_eq_false he]
  refine BIf.t ⟨by rw [decide_eq_false];intro e;subst e;exact he rfl,rfl⟩
theorem c39 (r:FIs h v F) (s:FIs h w G) (ok:F.Ok) (ok2:G.Ok):CallsH Tryz.prog 39 #[v.v,w.v] h (Xt (.bool (decide (F.vars=G.vars/\F.cls=G.cls))) h):=by
 have hok:=ok.n
 have hlen:=r.r.len
 refine run39 v.n v.s.a v.s.n v.s.c w.n w.s.a w.s.n w.s.c _ h ?_
 unfold VC39
 intro h1 h2
 have e1:Ext h h1:=Ext.box h _
 have e12:Ext h1 h2:=Ext.box h1 _
 have hb:Rd h2 (some ⟨h.size,0,none⟩) 2 v.cs:=(boxF v 24).ext e12
 have hw:Rd h2 (some ⟨h1.size,0,none⟩) 2 w.cs:=boxF w 24
 have e2:=e1.trans e12
 refine ⟨_,hb.fld 0 rfl,_,hw.fld 0 rfl,fun he=>⟨_,_,_,hb.fld 1 rfl,_,_,_,hw.fld 1 rfl,use (c74 (r.r.ext e2) (s.r.ext e2) (by omega) (fun x hx=>by have:=ok.l x hx;omega) (fun x hx=>by have:=ok2.l x hx;omega)) ⟨_,rfl,?_,e2⟩⟩,fun hne=>⟨?_,e2⟩⟩
 ·by_cases hc:F.cls=G.cls
  ·rw [decide_eq_true hc,decide_eq_true ⟨by rw [<- r.n,<- s.n];exact he,hc⟩]
  ·rw [decide_eq_false hc,decide_eq_false fun h=>hc h.2]
 ·rw [decide_eq_false]
  rintro ⟨h1,_⟩
  exact hne (by rw [r.n,s.n];exact h1)
theorem c73 {a:Option Addr} {n c:Nat} {l:List Int} (r:Rd h a n (ints l)) (hn:n≤17592186044416):CallsH Tryz.prog 73 #[.slice a n c] h fun w h'=>∃ a' n' c',w=.slice a' n' c'/\Fr h 1 h' a' n' c' (ints l):=by
 refine run73 a n c _ h ⟨fun hnone=>?_,fun hs=>?_⟩
 ·subst hnone
  have:ints l=[]:=r.read
  rw [this]
  exact ⟨none,0,0,rfl,.nil (.refl h)⟩
 ·intro h1
  exact ⟨ints l,(r.ext (Ext.push h _)).read,by rw [r.len];omega,app0n (by rw [r.len];omega) ints_one (by omega) fun a' c' h' f=>⟨a',n,c',rfl,f⟩⟩
theorem c108 {size:Nat} (hs:size≤5864062014804):CallsH Tryz.prog 108 #[.slice none 0 0,.int .i64 (size:Int)] h fun w h'=>∃ a c,w=.slice a 0 c/\Fr h 1 h' a 0 c []:=by
 refine run108 none 0 0 (size:Int) _ h ⟨fun hlt=>by omega,fun _=>?_⟩
 unfold J108_0
 have w0:IntKind.wrap .i64 (((0:Nat):Int)-((0:Nat):Int))=0:=by decide
 rw [w0,w64 (x:=(size:Int)-0) (by omega) (by omega),Int.sub_zero]
 refine ⟨fun hpos=>⟨by omega,by omega,by omega,by omega,by omega,?_⟩,fun _=>⟨none,0,rfl,.nil (.refl h)⟩⟩
 have hz:(zeroRow #[Value.slice none 0 0] (Int.toNat (size:Int)*1)).length=Int.toNat (size:Int)*1:=by rw [zeroRow_one];simp
 refine (Fr.nil (h0:=h) (sz:=1) (.refl h)).app hz (by intro y hy;rw [zeroRow_one] at hy;rw [List.eq_of_mem_replicate hy];rfl) (by omega) fun a' c' h' f u hor=>⟨by omega,by omega,by omega,?_⟩
 rw [cutA0]
 exact ⟨a',c',rfl,f.take0⟩
theorem c72 {sa:Option Addr} {sc:Nat} {s1 s2:Sl} {v1 v2:List Value} (r:Rd h sa 2 ([s1,s2].map Sl.v)) (r1:Rd h s1.a s1.n v1) (r2:Rd h s2.a s2.n v2) (o1:∀ y∈v1,y.oneCell'=true) (o2:∀ y∈v2,y.oneCell'=true) (hn:s1.n+s2.n≤5864062014804) :
  CallsH Tryz.prog 72 #[.slice sa 2 sc] h fun w h'=>∃ a c,w=.slice a (s1.n+s2.n) c/\Fr h 1 h' a (s1.n+s2.n) c (v1++v2):=by
 refine run72 sa 2 sc _ h (LoopT.to2 (n:=2) (by omega) (fun i (size:Int) h'=>h=h'/\size=if i=0 then 0 else if i=1 then (s1.n:Int) else ((s1.n+s2.n:Nat):Int)) ⟨rfl,rfl⟩ ?_)
 rintro i size _ K hi ⟨rfl,hsz⟩ hK
 refine ⟨fun hlt=>⟨by simp only;omega,by simp only;omega,r.getn (i:=i) (by simp only at hlt;omega) fun ad hl hc=>⟨_,_,_,hc,?_⟩⟩,fun hlt=>?_⟩
 ·have hlt':(i:Int)<((2:Nat):Int):=hlt
  rcases (by omega:i=0∨i=1) with rfl | rfl
  ·simp only [if_true] at hsz
   subst hsz
   have e:IntKind.wrap .i64 ((0:Int)+((s1.n:Nat):Int))=(s1.n:Int):=by rw [w64 (by omega) (by omega)];omega
   refine ⟨fun hneg=>?_,fun _=>?_⟩
   ·have hneg':IntKind.wrap .i64 ((0:Int)+((s1.n:Nat):Int))<0:=hneg
    omega
   ·have:=hK (s1.n:Int) h (by omega) ⟨rfl,by simp⟩
    show K (IntKind.wrap .i64 ((0:Int)+((s1.n:Nat):Int)),_) h
    rw [e];exact this
  ·simp only [if_neg (show ¬ (1:Nat)=0 by omega),if_true] at hsz
   subst hsz
   have e:IntKind.wrap .i64 (((s1.n:Nat):Int)+((s2.n:Nat):Int))=((s1.n+s2.n:Nat):Int):=by rw [w64 (by omega) (by omega)];omega
   refine ⟨fun hneg=>?_,fun _=>?_⟩
   ·have hneg':IntKind.wrap .i64 (((s1.n:Nat):Int)+((s2.n:Nat):Int))<0:=hneg
    omega
   ·have:=hK ((s1.n+s2.n:Nat):Int) h (by omega) ⟨rfl,by simp⟩
    show K (IntKind.wrap .i64 (((s1.n:Nat):Int)+((s2.n:Nat):Int)),_) h
    rw [e];exact this
 ·have hlt':¬ (i:Int)<((2:Nat):Int):=hlt
  obtain rfl:i=2:=by omega
  simp only [if_neg (show ¬ (2:Nat)=0 by omega),if_neg (show ¬ (2:Nat)=1 by omega)] at hsz
  subst hsz
  unfold J72_0
  refine (c108 (size:=s1.n+s2.n) hn).mono ?_
  rintro _ h1 ⟨a1,c1,rfl,f1⟩
  refine ⟨_,_,_,rfl,?_⟩
  refine LoopT.to2 (n:=2) (by omega) (fun i (t:Option Addr×Nat×Nat) h'=>t.2.1=(if i=0 then 0 else if i=1 then s1.n else s1.n+s2.n)/\Fr h 1 h' t.1 t.2.1 t.2.2 (if i=0 then [] else if i=1 then v1 else v1++v2)) ⟨rfl,f1⟩ ?_
  rintro i ⟨a,n,c⟩ h2 K hi ⟨hn2,f⟩ hK
  refine ⟨fun hlt=>⟨by simp only;omega,by simp only;omega,(r.ext f.ext).getn (i:=i) (by simp only at hlt;omega) fun ad hl hc=>⟨_,_,_,hc,?_⟩⟩,fun hlt=>?_⟩
  ·have hlt':(i:Int)<((2:Nat):Int):=hlt
   simp only at hn2 f
   rcases (by omega:i=0∨i=1) with rfl | rfl
   ·simp only [if_true] at hn2 f
    subst hn2
    refine ⟨v1,(r1.ext f.ext).read,by rw [r1.len];show s1.n=s1.n*1;omega,f.app (by rw [r1.len];show s1.n=s1.n*1;omega) o1 (by show (0+s1.n)*24≤_;omega) fun a' c' h' f' u hor=>?_⟩
    exact hK (a',0+s1.n,c') h' (by omega) ⟨by simp,by simpa using f'⟩
   ·simp only [if_neg (show ¬ (1:Nat)=0 by omega),if_true] at hn2 f
    subst hn2
    refine ⟨v2,(r2.ext f.ext).read,by rw [r2.len];show s2.n=s2.n*1;omega,f.app (by rw [r2.len];show s2.n=s2.n*1;omega) o2 (by show (s1.n+s2.n)*24≤_;omega) fun a' c' h' f' u hor=>?_⟩
    exact hK (a',s1.n+s2.n,c') h' (by omega) ⟨by simp,by simpa using f'⟩
  ·have hlt':¬ (i:Int)<((2:Nat):Int):=hlt
   obtain rfl:i=2:=by omega
   simp only [if_neg (show ¬ (2:Nat)=0 by omega),if_neg (show ¬ (2:Nat)=1 by omega)] at hn2 f
   subst hn2
   exact ⟨a,c,rfl,f⟩
theorem cpx_step {h0 h5 h6:Heap} {A:Nat} {vn:Int} {X:List Itm} {a:Option Addr} {n c:Nat} {rows:List Rw} (m:Mem h0 h5 (⟨1,some ⟨A,0,none⟩,2,2,[.int .i64 vn,.slice a n c]⟩::⟨1,a,n,c,rows.map Rw.v⟩::(rows.map Rw.it++X))) (x:Rw) (f:x.it.Fr h5 h6) (hn:n≤5864062014804)
  {K:Heap->Prop} (hK:∀ h' a' c',Mem h0 h' (⟨1,some ⟨A,0,none⟩,2,2,[.int .i64 vn,.slice a' (n+1) c']⟩::⟨1,a',n+1,c',(rows++[x]).map Rw.v⟩::((rows++[x]).map Rw.it++X))->K h') :
  ∃ ys:List Value,ReadL (h6.push (.cells #[x.v] 65)) (some ⟨h6.size,0,none⟩) ys/\ys.length=1*1/\AppS (h6.push (.cells #[x.v] 65)) a n c 65 24 1 #[.slice none 0 0] ys 1 fun a' n' c' h8=>StoreH h8 ((Addr.mk A 0 none).add 1) [.slice a' n' c'] K:=by
 have m6:Mem h0 h6 (⟨1,some ⟨A,0,none⟩,2,2,[.int .i64 vn,.slice a n c]⟩::⟨1,a,n,c,rows.map Rw.v⟩::((rows++[x]).map Rw.it++X)):=(m.add f).perm (by
  rw [List.map_append,List.append_assoc]
  exact (List.perm_middle (l₁:=_::_::rows.map Rw.it)).symm)
 have m7:=m6.ext' (Ext.push h6 (.cells #[x.v] 65))
 refine ⟨[x.v],(Fr.lit (.refl h6) [x.v] 65 1 rfl).rd.read,rfl,?_⟩
 refine (m7.get 1 rfl).app rfl (by simp [Rw.v,Value.oneCell']) (by omega) fun a' c' h8 f8 u8 hor=>?_
 have m8:=m7.setAt 1 (t':=⟨1,a',n+1,c',(rows++[x]).map Rw.v⟩) rfl (by rw [List.map_append];exact f8) u8 hor
 refine (m8.get 0 rfl).cellAt 1 (by omega) rfl fun h9 u9 f9=>?_
 exact hK h9 a' c' (m8.setAt 0 (t':=⟨1,some ⟨A,0,none⟩,2,2,[.int .i64 vn,.slice a' (n+1) c']⟩) rfl f9 u9 (.inl rfl))
set_option maxHeartbeats 1000000 in
theorem c38 (r:FIs h v F) (s:FIs h w G) (ok:F.Ok) (ok2:G.Ok):CallsH Tryz.prog 38 #[v.v,w.v] h fun x h'=>∃ u,x=.tuple #[FV.v u,.int .i64 (joiR F G).2]/\FNew h h' u (joiR F G).1:=by
 have hlen:=r.r.len
 have hlen2:=s.r.len
 have rn:=r.n
 have sn:=s.n
 refine run38 v.n v.s.a v.s.n v.s.c w.n w.s.a w.s.n w.s.c _ h ?_
 unfold VC38
 intro h1 h2 h3
 have e1:Ext h h1:=Ext.box h _
 have e12:Ext h1 h2:=Ext.box h1 _
 have e02:=e1.trans e12
 have f3:Fr h2 1 h3 (some ⟨h2.size,0,none⟩) 2 2 [.int .i64 0,.slice none 0 0]:=Fr.lit (.refl h2) [.int .i64 0,.slice none 0 0] 24 2 rfl
 have e23:=f3.ext
 have hb:Rd h3 (some ⟨h.size,0,none⟩) 2 v.cs:=((boxF v 24).ext e12).ext e23
 have hw:Rd h3 (some ⟨h1.size,0,none⟩) 2 w.cs:=(boxF w 24).ext e23
 have e03:=e02.trans e23
 have err:∀ {h':Heap} (x:Int),Ext h3 h'->joiR F G=(⟨0,[]⟩,x)->StoreH h' ⟨h2.size,0,none⟩ [.int .i64 0,.slice none 0 0] fun h9=>∃ (t8:Int),∃ (A6:Option Addr),∃ (N6:Nat),∃ (C6:Nat),cellsH h9 ⟨h2.size,0,none⟩ 0 [.int .i64 t8,.slice A6 N6 C6]/\∃ u,Value.tuple #[.agg #[.int .i64 t8,.slice A6 N6 C6],.int .i64 x]=.tuple #[FV.v u,.int .i64 (joiR F G).2]/\FNew h h9 u (joiR F G).1:=fun x e he=>by
  refine (f3.upd e).put (ws:=[.int .i64 0,.slice none 0 0]) rfl (by simp [Value.oneCell']) fun h9 f9 u9=>ldF (v:=⟨0,⟨none,0,0⟩⟩) f9.rd ⟨⟨0,⟨none,0,0⟩⟩,?_,?_⟩
  ·rw [he];rfl
  ·rw [he];exact empF_new (e02.trans f9.ext)
 refine ldF hb (useX (c34 (r.ext e03) ok) fun h4 e4=>⟨_,_,rfl,fun hz=>?_,fun hz=>err _ e4 (joiR_1 hz)⟩)
 unfold J38_0
 refine ldF (hw.ext e4) (useX (c34 (s.ext (e03.trans e4)) ok2) fun h5 e5=>⟨_,_,rfl,fun hz2=>?_,fun hz2=>err _ (e4.trans e5) (joiR_2 hz hz2)⟩)
 unfold J38_1
 have e35:=e4.trans e5
 have hb5:=hb.ext e35
 have hw5:=hw.ext e35
 obtain ⟨p0,p1,p2,p3⟩:=chkF_ok hz
 obtain ⟨q0,q1,q2,q3⟩:=chkF_ok hz2
 refine ⟨_,_,_,hb5.fld 1 rfl,_,_,_,hw5.fld 1 rfl,?_⟩
 rw [w64 (by omega) (by omega)]
 refine ⟨fun hbig=>err _ e35 (joiR_3 hz hz2 (by omega)),fun hbig=>?_⟩
 have hj:=joiR_4 hz hz2 (show ¬ 524288<F.cls.length+G.cls.length by omega)
 rw [hj]
 unfold J38_2
 refine ⟨_,hb5.fld 0 rfl,_,hw5.fld 0 rfl,?_⟩
 intro h6
 have f6:Fr h5 1 h6 (some ⟨h5.size,0,none⟩) 2 2 [.int .i64 0,.slice none 0 0]:=Fr.lit (.refl h5) [.int .i64 0,.slice none 0 0] 24 2 rfl
 have f35:=f3.upd e35
 have m6:=(((Mem.nil (.refl h2)).add (t:=⟨1,some ⟨h2.size,0,none⟩,2,2,[.int .i64 0,.slice none 0 0]⟩) f35).add (t:=⟨1,none,0,0,[]⟩) (Fr.nil (.refl h5))).add (t:=⟨1,some ⟨h5.size,0,none⟩,2,2,[.int .i64 0,.slice none 0 0]⟩) f6
 refine (m6.get 0 rfl).put (ws:=[.int .i64 (max v.n w.n),.slice none 0 0]) rfl (by simp [Value.oneCell']) fun h7 f7 u7=>?_
 have m7:=m6.setAt 0 (t':=⟨1,some ⟨h5.size,0,none⟩,2,2,[.int .i64 (max v.n w.n),.slice none 0 0]⟩) rfl f7 u7 (.inl rfl)
 have e27:=m7.ext
 have hb7:Rd h7 (some ⟨h.size,0,none⟩) 2 v.cs:=((boxF v 24).ext e12).ext e27
 have hw7:Rd h7 (some ⟨h1.size,0,none⟩) 2 w.cs:=(boxF w 24).ext e27
 refine ⟨_,_,_,hb7.fld 1 rfl,_,_,_,hw7.fld 1 rfl,?_⟩
 intro h8
 have e78:Ext h7 h8:=Ext.push h7 _
 have e08:=(e02.trans e27).trans e78
 obtain ⟨R1,a1,a2,a3⟩:=r.r.ex
 obtain ⟨R2,b1,b2,b3⟩:=s.r.ex
 refine (c72 (s1:=v.s) (s2:=w.s) (Fr.lit (.refl h7) [v.s.v,w.s.v] 22 2 rfl).rd (a1.ext e08) (b1.ext e08) Rw.one Rw.one (by omega)).mono ?_
 rintro _ h9 ⟨a9,c9,rfl,f9⟩
 refine ⟨_,_,_,rfl,?_⟩
 have m9:=((m7.ext' e78).add (t:=⟨1,a9,v.s.n+w.s.n,c9,R1.map Rw.v++R2.map Rw.v⟩) f9).perm (List.perm_append_singleton _ _).symm
 have hall:∀ {h'},Mem h2 h' [⟨1,some ⟨h2.size,0,none⟩,2,2,[.int .i64 0,.slice none 0 0]⟩,⟨1,a9,v.s.n+w.s.n,c9,R1.map Rw.v++R2.map Rw.v⟩]->RdRs h' a9 (v.s.n+w.s.n) (F.cls++G.cls):=fun {h'} m=>⟨⟨R1++R2,by rw [List.map_append];exact (m.get 1 rfl).rd,fun x hx=>by
  rcases List.mem_append.1 hx with hx | hx
  ·exact ⟨(a2 x hx).1.ext (e02.trans m.ext),(a2 x hx).2⟩
  ·exact ⟨(b2 x hx).1.ext (e02.trans m.ext),(b2 x hx).2⟩,by rw [List.map_append,a3,b3]⟩⟩
 have hal:∀ x∈F.cls++G.cls,x.length≤16384:=fun x hx=>by
  rcases List.mem_append.1 hx with hx | hx
  ·exact (p3 x hx).1
  ·exact (q3 x hx).1
 have hel:(F.cls++G.cls).length=v.s.n+w.s.n:=by rw [List.length_append];omega
 have hvm:max v.n w.n=max F.vars G.vars:=by rw [rn,sn]
 have hsm:v.s.n+w.s.n≤1048576:=by omega
 clear hj hbig
 generalize F.cls++G.cls=L at *
 generalize v.s.n+w.s.n=N at *
 generalize R1.map Rw.v++R2.map Rw.v=V9 at *
 refine LoopT.to (n:=N) (by omega) (fun i h'=>∃ (rows:List Rw) (a:Option Addr) (c:Nat),rows.map Rw.l=L.take i/\Mem h2 h' (⟨1,some ⟨h5.size,0,none⟩,2,2,[.int .i64 (max v.n w.n),.slice a i c]⟩::⟨1,a,i,c,rows.map Rw.v⟩::(rows.map Rw.it++([⟨1,some ⟨h2.size,0,none⟩,2,2,[.int .i64 0,.slice none 0 0]⟩,⟨1,a9,N,c9,V9⟩]:List Itm)))) ⟨[],none,0,rfl,m9⟩ ?_
 rintro i h10 K hi ⟨rows,a,c,hrows,m⟩ hK
 refine ⟨fun hlt=>?_,fun hlt=>?_⟩
 ·have hi2:i<L.length:=by omega
  unfold J38_4
  have cA:=(m.get 0 rfl).rd.fld 1 rfl
  refine ⟨by omega,hlt,(hall (m.sub (.cons _ (.cons _ (List.sublist_append_right _ _))))).get (i:=i) (by omega) fun ad hl sx hc hs hsc hsl hsn=>⟨_,_,_,hc,cellH_lt cA,_,_,_,cA,?_⟩⟩
  have hll:=hal _ (List.getElem_mem hl)
  refine (c73 hs (by omega)).mono ?_
  rintro _ h11 ⟨a6,n6,c6,rfl,f6⟩
  refine ⟨_,_,_,rfl,agrH f6.ext (Nat.le_refl _),?_⟩
  intro h12
  refine ⟨agrH (Ext.push h11 _) f6.ext.1,cpx_step m ⟨a6,n6,c6,sx.l⟩ f6 (by omega) fun h' a' c' m'=>hK h' (by omega) ⟨rows++[⟨a6,n6,c6,sx.l⟩],a',c',?_,m'⟩⟩
  rw [List.map_append,hrows,List.take_succ_eq_append_getElem hi2,hsl];rfl
 ·obtain rfl:i=N:=by omega
  unfold J38_3
  rw [List.take_of_length_le (by omega)] at hrows
  let u:FV:=⟨max v.n w.n,⟨a,i,c⟩⟩
  have mm:=m.perm (l':=⟨1,some ⟨h2.size,0,none⟩,2,2,[.int .i64 0,.slice none 0 0]⟩::(⟨1,some ⟨h5.size,0,none⟩,2,2,[.int .i64 (max v.n w.n),.slice a i c]⟩::⟨1,a,i,c,rows.map Rw.v⟩::(rows.map Rw.it++[(⟨1,a9,i,c9,V9⟩:Itm)]))) (List.perm_middle (l₁:=_::_::rows.map Rw.it) (l₂:=[_]))
  refine ldF (v:=u) (m.get 0 rfl).rd ((mm.get 0 rfl).put (ws:=u.cs) rfl (by simp [u,FV.cs,Value.oneCell']) fun h11 f11 u11=>?_)
  have m11:=mm.setAt 0 (t':=⟨1,some ⟨h2.size,0,none⟩,2,2,u.cs⟩) rfl f11 u11 (.inl rfl)
  refine ldF (v:=u) f11.rd ⟨u,rfl,hvm,rows,hrows,(m11.sub (.cons _ (.cons _ (.cons_cons _ (List.sublist_append_left _ _))))).base e02⟩
end
end Go.Proofs.YtobageabpfkpcaaGreatDoor
set_option maxRecDepth 100000
namespace Go.Proofs.YtobageabpfkpcaaGreatDoor
open Go.Hx
section
variable {h:Heap} {v w:FV} {F G:Fm}
set_option maxHeartbeats 1000000 in
theorem c40 (r:FIs h v F) (s:FIs h w G) (ok:F.Ok) (ok2:G.Ok):CallsH Tryz.prog 40 #[v.v,w.v] h fun x h'=>∃ u,x=.tuple #[FV.v u,.int .i64 (joiR F G).2]/\FNew h h' u (joiR F G).1:=by
 have hlen:=r.r.len
 have hlen2:=s.r.len
 have rn:=r.n
 have sn:=s.n
 refine run40 v.n v.s.a v.s.n v.s.c w.n w.s.a w.s.n w.s.c _ h ?_
 unfold VC40
 intro h1 h2 h3
 have e1:Ext h h1:=Ext.box h _
 have e12:Ext h1 h2:=Ext.box h1 _
 have e02:=e1.trans e12
 have f3:Fr h2 1 h3 (some ⟨h2.size,0,none⟩) 2 2 [.int .i64 0,.slice none 0 0]:=Fr.lit (.refl h2) [.int .i64 0,.slice none 0 0] 24 2 rfl
 have e23:=f3.ext
 have hb:Rd h3 (some ⟨h.size,0,none⟩) 2 v.cs:=((boxF v 24).ext e12).ext e23
 have hw:Rd h3 (some ⟨h1.size,0,none⟩) 2 w.cs:=(boxF w 24).ext e23
 have e03:=e02.trans e23
 have err:∀ {h':Heap} (x:Int),Ext h3 h'->joiR F G=(⟨0,[]⟩,x)->StoreH h' ⟨h2.size,0,none⟩ [.int .i64 0,.slice none 0 0] fun h9=>∃ (t8:Int),∃ (A6:Option Addr),∃ (N6:Nat),∃ (C6:Nat),cellsH h9 ⟨h2.size,0,none⟩ 0 [.int .i64 t8,.slice A6 N6 C6]/\∃ u,Value.tuple #[.agg #[.int .i64 t8,.slice A6 N6 C6],.int .i64 x]=.tuple #[FV.v u,.int .i64 (joiR F G).2]/\FNew h h9 u (joiR F G).1:=fun x e he=>by
  refine (f3.upd e).put (ws:=[.int .i64 0,.slice none 0 0]) rfl (by simp [Value.oneCell']) fun h9 f9 u9=>ldF (v:=⟨0,⟨none,0,0⟩⟩) f9.rd ⟨⟨0,⟨none,0,0⟩⟩,?_,?_⟩
  ·rw [he];rfl
  ·rw [he];exact empF_new (e02.trans f9.ext)
 refine ldF hb (useX (c35 (r.ext e03) ok) fun h4 e4=>⟨_,_,rfl,fun hz=>?_,fun hz=>err _ e4 (joiR_1 hz)⟩)
 unfold J40_0
 refine ldF (hw.ext e4) (useX (c35 (s.ext (e03.trans e4)) ok2) fun h5 e5=>⟨_,_,rfl,fun hz2=>?_,fun hz2=>err _ (e4.trans e5) (joiR_2 hz hz2)⟩)
 unfold J40_1
 have e35:=e4.trans e5
 have hb5:=hb.ext e35
 have hw5:=hw.ext e35
 obtain ⟨p0,p1,p2,p3⟩:=chkF_ok hz
 obtain ⟨q0,q1,q2,q3⟩:=chkF_ok hz2
 refine ⟨_,_,_,hb5.fld 1 rfl,_,_,_,hw5.fld 1 rfl,?_⟩
 rw [w64 (by omega) (by omega)]
 refine ⟨fun hbig=>err _ e35 (joiR_3 hz hz2 (by omega)),fun hbig=>?_⟩
 have hj:=joiR_4 hz hz2 (show ¬ 524288<F.cls.length+G.cls.length by omega)
 rw [hj]
 unfold J40_2
 refine ldF hb5 ((c77 (r.ext (e03.trans e35)) ok).mono ?_)
 rintro _ h6 ⟨u6,rfl,fn6⟩
 obtain ⟨rows1,hr1,mF⟩:=fn6.ex
 have f35:=f3.upd e35
 have m6:=((Mem.nil (.refl h2)).add (t:=⟨1,some ⟨h2.size,0,none⟩,2,2,[.int .i64 0,.slice none 0 0]⟩) f35).app mF
 refine ⟨_,_,_,_,rfl,?_⟩
 intro h7
 have f7:Fr h6 1 h7 (some ⟨h6.size,0,none⟩) 2 2 [.int .i64 0,.slice none 0 0]:=Fr.lit (.refl h6) [.int .i64 0,.slice none 0 0] 24 2 rfl
 have m7:=m6.add (t:=⟨1,some ⟨h6.size,0,none⟩,2,2,[.int .i64 0,.slice none 0 0]⟩) f7
 refine (m7.get 0 rfl).put (ws:=u6.cs) rfl (by simp [FV.cs,Value.oneCell']) fun h8 f8 u8=>?_
 have m8:=m7.setAt 0 (t':=⟨1,some ⟨h6.size,0,none⟩,2,2,u6.cs⟩) rfl f8 u8 (.inl rfl)
 have hb8:Rd h8 (some ⟨h.size,0,none⟩) 2 v.cs:=((boxF v 24).ext e12).ext m8.ext
 have hw8:Rd h8 (some ⟨h1.size,0,none⟩) 2 w.cs:=(boxF w 24).ext m8.ext
 refine ⟨_,hb8.fld 0 rfl,_,hw8.fld 0 rfl,?_⟩
 refine (m8.get 0 rfl).cellAt 0 (by omega) rfl fun h9 u9 f9=>?_
 have m9:=m8.setAt 0 (t':=⟨1,some ⟨h6.size,0,none⟩,2,2,[.int .i64 (max v.n w.n),.slice u6.s.a u6.s.n u6.s.c]⟩) rfl f9 u9 (.inl rfl)
 have cA:=(m9.get 0 rfl).rd.fld 1 rfl
 have hw9:Rd h9 (some ⟨h1.size,0,none⟩) 2 w.cs:=(boxF w 24).ext m9.ext
 refine ⟨cellH_lt cA,_,_,_,cA,by have:=cellH_lt (hw9.fld 1 rfl);rwa [add_block] at this,ldF hw9 ((c77 (s.ext (e02.trans m9.ext)) ok2).mono ?_)⟩
 rintro _ h10 ⟨u10,rfl,fn10⟩
 obtain ⟨rows2,hr2,mG⟩:=fn10.ex
 have hl1:=fn6.fis.r.len
 have hl2:=fn10.fis.r.len
 refine ⟨_,_,_,_,rfl,agrH fn10.heap (Nat.le_refl _),?_⟩
 have m10:Mem h2 h10 ((⟨1,u10.s.a,u10.s.n,u10.s.c,rows2.map Rw.v⟩::rows2.map Rw.it)++(⟨1,some ⟨h6.size,0,none⟩,2,2,[.int .i64 (max v.n w.n),.slice u6.s.a u6.s.n u6.s.c]⟩::⟨1,u6.s.a,u6.s.n,u6.s.c,rows1.map Rw.v⟩::(rows1.map Rw.it++([⟨1,some ⟨h2.size,0,none⟩,2,2,[.int .i64 0,.slice none 0 0]⟩]:List Itm)))):=m9.app mG
 have m11:=m10.perm (l':=(⟨1,some ⟨h6.size,0,none⟩,2,2,[.int .i64 (max v.n w.n),.slice u6.s.a u6.s.n u6.s.c]⟩::⟨1,u6.s.a,u6.s.n,u6.s.c,rows1.map Rw.v⟩::((rows1++rows2).map Rw.it++([⟨1,some ⟨h2.size,0,none⟩,2,2,[.int .i64 0,.slice none 0 0]⟩,⟨1,u10.s.a,u10.s.n,u10.s.c,rows2.map Rw.v⟩]:List Itm)))) (by
  refine List.perm_append_comm.trans ?_
  rw [List.cons_append,List.cons_append]
  refine .cons _ (.cons _ ?_)
  rw [List.map_append,List.append_assoc,List.append_assoc]
  exact List.Perm.append_left _ (List.perm_append_comm (l₁:=[_,_])))
 have o2:(rows2.map Rw.v).length=u10.s.n*1:=by have:=(mG.get 0 rfl).own.rd.len;exact this
 refine ⟨rows2.map Rw.v,(mG.get 0 rfl).rd.read,o2,?_⟩
 refine (m11.get 1 rfl).app o2 Rw.one (by omega) fun a' c' h11 f11 u11 hor=>?_
 have m12:=m11.setAt 1 (t':=⟨1,a',u6.s.n+u10.s.n,c',(rows1++rows2).map Rw.v⟩) rfl (by rw [List.map_append];exact f11) u11 hor
 refine (m12.get 0 rfl).cellAt 1 (by omega) rfl fun h12 u12 f12=>?_
 have m13:=m12.setAt 0 (t':=⟨1,some ⟨h6.size,0,none⟩,2,2,[.int .i64 (max v.n w.n),.slice a' (u6.s.n+u10.s.n) c']⟩) rfl f12 u12 (.inl rfl)
 let u:FV:=⟨max v.n w.n,⟨a',u6.s.n+u10.s.n,c'⟩⟩
 refine ldF (v:=u) (m13.get 0 rfl).rd ?_
 have mm:Mem h2 h12 (⟨1,some ⟨h2.size,0,none⟩,2,2,[.int .i64 0,.slice none 0 0]⟩::(⟨1,some ⟨h6.size,0,none⟩,2,2,[.int .i64 (max v.n w.n),.slice a' (u6.s.n+u10.s.n) c']⟩::⟨1,a',u6.s.n+u10.s.n,c',(rows1++rows2).map Rw.v⟩::((rows1++rows2).map Rw.it++([⟨1,u10.s.a,u10.s.n,u10.s.c,rows2.map Rw.v⟩]:List Itm)))):=
  m13.perm (List.perm_middle (l₁:=_::_::(rows1++rows2).map Rw.it) (l₂:=[_]))
 refine (mm.get 0 rfl).put (ws:=u.cs) rfl (by simp [u,FV.cs,Value.oneCell']) fun h13 f13 u13=>?_
 have m14:=mm.setAt 0 (t':=⟨1,some ⟨h2.size,0,none⟩,2,2,u.cs⟩) rfl f13 u13 (.inl rfl)
 refine ldF (v:=u) f13.rd ⟨u,rfl,by show max v.n w.n=max F.vars G.vars;rw [rn,sn],rows1++rows2,by rw [List.map_append,hr1,hr2],(m14.sub (.cons _ (.cons _ (.cons_cons _ (List.sublist_append_left _ _))))).base e02⟩
theorem c15 {h0:Heap} (fn:FNew h0 h v F) (hn:F.cls.length<9223372036854775807) (hl:∀ x∈F.cls,x.length<9223372036854775807) (mk:Int):CallsH Tryz.prog 15 #[v.v,.int .i64 mk] h fun w h'=>w=.tuple #[]/\Ext h0 h':=by
 obtain ⟨rows,hr,m⟩:=fn.ex
 have hlen:=fn.fis.r.len
 refine run15 v.n v.s.a v.s.n v.s.c mk _ h ?_
 unfold VC15
 intro h1
 have f1:Fr h 1 h1 (some ⟨h.size,0,none⟩) 2 2 v.cs:=boxFf (.refl h) v 24
 have m1:=m.add (t:=⟨1,some ⟨h.size,0,none⟩,2,2,v.cs⟩) f1
 have hrl:rows.length=v.s.n:=by rw [<- hlen,<- hr,List.length_map]
 refine LoopT.to (n:=v.s.n) (by omega) (fun i h'=>∃ vals:List Value,vals.length=rows.length/\vals.drop i=(rows.drop i).map Rw.v/\Mem h0 h' (⟨1,some ⟨h.size,0,none⟩,2,2,v.cs⟩::⟨1,v.s.a,v.s.n,v.s.c,vals⟩::(rows.drop i).map Rw.it)) ⟨rows.map Rw.v,by simp,by simp,by simpa using m1⟩ ?_
 rintro i h2 K hi ⟨vals,hvl,hvd,m2⟩ hK
 have hb:=(m2.get 0 rfl).rd
 refine ⟨_,_,_,hb.fld 1 rfl,fun hlt=>?_,fun hlt=>⟨rfl,m2.ext⟩⟩
 have hi2:i<rows.length:=by omega
 unfold J15_0
 refine ⟨_,_,_,hb.fld 1 rfl,by omega,hlt,?_⟩
 have hv:vals[i]?=some (rows[i].v):=by
  have:=congrArg (fun l=>l[0]?) hvd
  simp only [List.getElem?_drop,List.getElem?_map,Nat.add_zero,List.getElem?_eq_getElem hi2,Option.map_some] at this
  exact this
 have hat:=(m2.get 1 rfl).rd.at hv
 obtain ⟨ad,had,hc⟩:∃ ad,v.s.a=some ad/\cellH h2 (ad.add i)=some (rows[i].v):=by
  unfold AtP at hat
  split at hat
  ·rename_i ad h9;exact ⟨ad,h9,hat⟩
  ·exact hat.elim
 have hmem:rows[i]∈rows:=List.getElem_mem hi2
 have hlx:rows[i].n<9223372036854775807:=by
  have h3:=hl rows[i].l (by rw [<- hr];exact List.mem_map_of_mem hmem)
  have:=(m.fr rows[i].it (by simp;exact .inr ⟨_,hmem,rfl⟩)).own.rd.len
  simp only [Rw.it,ints,List.length_map,Nat.mul_one] at this
  omega
 refine AtP.mk had ⟨_,_,_,by rw [Int.toNat_natCast,Nat.mul_one];exact hc,?_⟩
 have hd:(rows.drop i).map Rw.it=rows[i].it::(rows.drop (i+1)).map Rw.it:=by rw [List.drop_eq_getElem_cons hi2,List.map_cons]
 rw [hd] at m2
 refine (c22 (m2.get 2 rfl) hlx mk).mono ?_
 rintro _ h3 ⟨rfl,vs',f3,u3⟩
 have m3:=m2.setAt 2 (t':=⟨1,rows[i].a,rows[i].n,rows[i].c,vs'⟩) rfl f3 u3 (.inl rfl)
 refine ⟨rfl,_,_,_,(m3.get 0 rfl).rd.fld 1 rfl,?_⟩
 intro h4
 have m4:=m3.ext' (Ext.push h3 (.cells #[.int .i64 mk] 3))
 refine ⟨by omega,hlt,?_⟩
 refine (m4.get 1 rfl).set1 (j:=(i:Int)) (by omega) hlt (v:=.slice (some ⟨h3.size,0,none⟩) 1 1) rfl fun h5 u5 f5=>?_
 have m5:=m4.setAt 1 (t':=⟨1,v.s.a,v.s.n,v.s.c,vals.set i (.slice (some ⟨h3.size,0,none⟩) 1 1)⟩) rfl (by rw [Int.toNat_natCast] at f5;exact f5) u5 (.inl rfl)
 refine hK h5 (by omega) ⟨_,by rw [List.length_set];exact hvl,?_,m5.sub (.cons_cons _ (.cons_cons _ (.cons _ (.refl _))))⟩
 rw [List.drop_set_of_lt (by omega)]
 have:=congrArg (List.drop 1) hvd
 rw [List.drop_drop,<- List.map_drop,List.drop_drop] at this
 exact this
end
end Go.Proofs.YtobageabpfkpcaaGreatDoor
