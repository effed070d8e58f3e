/- Words and facts that the claim's proof leans on. No condition. -/
import Derived.Test.YtobageabpfkpcaaHxC
set_option linter.unusedVariables false
set_option linter.unusedSimpArgs false
namespace Go.Hx
section
variable {P:Program} {N:Nat} {a:Act} {s:SF}
theorem get_out {x:Operand} {K:Value->Prop} (hk:Knows N a s) (h:get s x K):∃ v,a.eval x=v/\K v:=by
 unfold get at h
 cases hx:s.ev x with
 | none=>simp [hx] at h
 | some v=>simp only [hx] at h;exact ⟨v,hk.ev hx,h⟩
theorem getI_out {k:IntKind} {x:Operand} {K:Int->Prop} (hk:Knows N a s) (h:getI k s x K):∃ n,a.eval x=.int k n/\K n:=by
 unfold getI at h
 split at h
 ·rename_i k' n hx
  cases hkk:k' == k with
  | false=>simp [hkk] at h
  | true=>
   simp only [hkk] at h
   obtain rfl:k'=k:=by simpa using hkk
   exact ⟨n,hk.ev hx,h⟩
 ·exact h.elim
theorem getZ_out {x:Operand} {K:Int->Prop} (hk:Knows N a s) (h:getZ s x K):∃ k n,a.eval x=.int k n/\K n:=by
 unfold getZ at h
 split at h
 ·rename_i k' n hx;exact ⟨k',n,hk.ev hx,h⟩
 ·exact h.elim
theorem getB_out {x:Operand} {K:Bool->Prop} (hk:Knows N a s) (h:getB s x K):∃ n,a.eval x=.bool n/\K n:=by
 unfold getB at h
 split at h
 ·rename_i n hx;exact ⟨n,hk.ev hx,h⟩
 ·exact h.elim
theorem getS_out {x:Operand} {K:ByteArray->Prop} (hk:Knows N a s) (h:getS s x K):∃ n,a.eval x=.string n/\K n:=by
 unfold getS at h
 split at h
 ·rename_i n hx;exact ⟨n,hk.ev hx,h⟩
 ·exact h.elim
theorem getSl_out {x:Operand} {K:Option Addr->Nat->Nat->Prop} (hk:Knows N a s) (h:getSl s x K):∃ p n c,a.eval x=.slice p n c/\K p n c:=by
 unfold getSl at h
 split at h
 ·rename_i p n c hx;exact ⟨p,n,c,hk.ev hx,h⟩
 ·exact h.elim
theorem getP_out {x:Operand} {K:Option Addr->Prop} (hk:Knows N a s) (h:getP s x K):∃ p,a.eval x=.pointer p/\K p:=by
 unfold getP at h
 split at h
 ·rename_i p hx;exact ⟨p,hk.ev hx,h⟩
 ·exact h.elim
theorem getM_out {x:Operand} {K:Option Nat->Prop} (hk:Knows N a s) (h:getM s x K):∃ p,a.eval x=.map p/\K p:=by
 unfold getM at h
 split at h
 ·rename_i p hx;exact ⟨p,hk.ev hx,h⟩
 ·exact h.elim
theorem getA_out {x:Operand} {K:Array Value->Prop} (hk:Knows N a s) (h:getA s x K):∃ p,a.eval x=.agg p/\K p:=by
 unfold getA at h
 split at h
 ·rename_i p hx;exact ⟨p,hk.ev hx,h⟩
 ·exact h.elim
theorem getT_out {x:Operand} {K:Array Value->Prop} (hk:Knows N a s) (h:getT s x K):∃ p,a.eval x=.tuple p/\K p:=by
 unfold getT at h
 split at h
 ·rename_i p hx;exact ⟨p,hk.ev hx,h⟩
 ·exact h.elim
theorem getAll_out (hk:Knows N a s):∀ {xs:List Operand} {K:List Value->Prop},getAll s xs K->∃ vs,xs.map a.eval=vs/\K vs
 | [],K,h=>⟨[],rfl,h⟩
 | x::r,K,h=>by
  obtain ⟨v,hv,h⟩:=get_out hk (show get s x _ from h)
  obtain ⟨vs,hvs,h⟩:=getAll_out hk h
  exact ⟨v::vs,by simp [hv,hvs],h⟩
theorem AtP_out {p:Option Addr} {K:Addr->Prop} (h:AtP p K):∃ ad,p=some ad/\K ad:=by
 cases p with
 | none=>exact h.elim
 | some ad=>exact ⟨ad,rfl,h⟩
theorem loc_out {lo:Option Operand} {K:Int->Prop} (hk:Knows N a s) (h:loc s lo K) :
  (lo=none/\K 0)∨∃ x k n,lo=some x/\a.eval x=.int k n/\K n:=by
 cases lo with
 | none=>exact .inl ⟨rfl,h⟩
 | some x=>obtain ⟨k,n,h1,h2⟩:=getZ_out hk (show getZ s x K from h);exact .inr ⟨x,k,n,rfl,h1,h2⟩
theorem hic_out {hi:Option Operand} {m:Nat} {K:Int->Prop} (hk:Knows N a s) (h:hic s hi m K) :
  (hi=none/\K m)∨∃ x k n,hi=some x/\a.eval x=.int k n/\K n:=by
 cases hi with
 | none=>exact .inl ⟨rfl,h⟩
 | some x=>obtain ⟨k,n,h1,h2⟩:=getZ_out hk (show getZ s x K from h);exact .inr ⟨x,k,n,rfl,h1,h2⟩
theorem partsC_out (hk:Knows N a s):∀ {l:List (Nat×Nat×Operand)} {K:List (Nat×Nat×Value)->Prop},
  partsC s l K->K (l.map fun x=>(x.1,x.2.1,a.eval x.2.2))
 | [],K,h=>h
 | (o,n,x)::l,K,h=>by
  obtain ⟨v,hv,h⟩:=get_out hk (show get s x _ from h)
  have:=partsC_out hk h
  simpa [hv] using this
theorem writeL_length (c:List Value) (off:Nat) (vs:List Value) (h:off+vs.length≤c.length):(writeL c off vs).length=c.length:=by
 unfold writeL
 simp
 omega
theorem writeL_nil (c:List Value) (off:Nat):writeL c off []=c:=by simp [writeL]
theorem writeL_cons (c:List Value) (off:Nat) (v:Value) (vs:List Value) (h:off<c.length):writeL c off (v::vs)=writeL (c.set off v) (off+1) vs:=by
 unfold writeL
 have h1:(c.set off v).take (off+1)=c.take off++[v]:=by
  rw [List.set_eq_take_append_cons_drop,if_pos h,List.take_append]
  simp [List.length_take,Nat.min_eq_left (Nat.le_of_lt h),List.take_take,Nat.min_eq_right (Nat.le_succ off)]
 have h2:(c.set off v).drop (off+1+vs.length)=c.drop (off+(v::vs).length):=by
  rw [List.drop_set_of_lt (by omega)]
  congr 1
  simp;omega
 rw [h1,h2]
 simp
theorem foldl_writeL (off:Nat):∀ (vs:List Value) (k:Nat) (cs:Array Value),off+k+vs.length≤cs.size ->
  ((vs.zipIdx k).foldl (fun cs (p:Value×Nat)=>cs.setIfInBounds (off+p.2) p.1) cs).toList=writeL cs.toList (off+k) vs:=by
 intro vs
 induction vs with
 | nil=>intro k cs h;simp [writeL]
 | cons v vs ih=>
  intro k cs h
  simp only [List.length_cons] at h
  rw [List.zipIdx_cons,List.foldl_cons,ih (k+1) _ (by simp;omega),writeL_cons _ _ _ _ (by simp;omega)]
  simp [Nat.add_assoc]
theorem fill_of {place:Nat->Option (Nat×Nat)} {ev:Operand->Value}:∀ {ps:List (Nat×Operand)} {l:List (Nat×Nat×Operand)} {cells c:List Value},
  partsOf P place ps=some l->fillL cells (l.map fun x=>(x.1,x.2.1,ev x.2.2))=some c ->
  Instr.fill place cells.toArray (ps.map fun p=>(p.1,ev p.2))=some c.toArray
 | [],l,cells,c,hl,h=>by
  obtain rfl:l=[]:=by simpa [partsOf] using hl.symm
  have:cells=c:=by simpa [fillL] using h
  simp [Instr.fill,this]
 | (i,x)::ps,l,cells,c,hl,h=>by
  simp only [partsOf] at hl
  split at hl
  ·rename_i o n l' hp hr
   obtain rfl:(o,n,x)::l'=l:=by simpa using hl
   simp only [List.map_cons,fillL] at h
   split at h
   ·rename_i hc
    simp only [Bool.and_eq_true,beq_iff_eq,decide_eq_true_eq] at hc
    simp only [List.map_cons,Instr.fill,hp]
    rw [if_neg (by simp [hc.1];omega)]
    have e:((ev x).cells.zipIdx.foldl (fun cs (p:Value×Nat)=>cs.setIfInBounds (o+p.2) p.1) cells.toArray)=(writeL cells o (ev x).cells.toList).toArray:=by
     apply Array.toList_inj.1
     rw [<- Array.foldl_toList,Array.toList_zipIdx,foldl_writeL o _ 0 _ (by simp [hc.1];omega)]
     simp
    rw [e]
    exact fill_of hr h
   ·cases h
  ·cases hl
theorem PIf_out {p:Prop} {A B:Prop} (h:PIf p A B):(p/\A)∨(¬ p/\B):=by
 by_cases hp:p
 ·exact .inl ⟨hp,h.1 hp⟩
 ·exact .inr ⟨hp,h.2 hp⟩
end
end Go.Hx
namespace Go.Hx
section
variable {P:Program} {N:Nat} {a:Act} {s:SF}
theorem PureS.value {e:Sem Value} {v:Value} (h:PureS P e v):PureS P (do pure (.value (<- e)):Sem Next) (.value v):=fun w=>by simp [h w]
theorem toList_beq {x y:ByteArray}:(x.toList == y.toList)=decide (x=y):=by
 rw [<- beq_toListBytes,Bool.eq_iff_iff,decide_eq_true_iff]
 constructor
 ·intro h
  obtain ⟨⟨x⟩⟩:=x
  obtain ⟨⟨y⟩⟩:=y
  have h':((⟨x⟩:Array UInt8) == ⟨y⟩)=true:=h
  have:x=y:=by simpa using h'
  rw [this]
 ·rintro rfl
  obtain ⟨⟨x⟩⟩:=x
  show ((⟨x⟩:Array UInt8) == ⟨x⟩)=true
  simp
theorem fdiv_two (x:Int) (n:Nat):x.fdiv (2 ^ n)=x / 2 ^ n:=Int.fdiv_eq_ediv_of_nonneg _ (Int.le_of_lt (Int.pow_pos (by decide)))
def NilSays (P:Program) (t:TypeId) (x y:Operand) (v u:Value) (p:Prop):Prop:=
 ∃ b:Bool,(b=true↔p)/\PureS P (do eqGuard .eql t x y v u;binOp .eql t v u) (.bool b) /\
   PureS P (do eqGuard .neq t x y v u;binOp .neq t v u) (.bool !b)
theorem eq_says {t:TypeId} {x y:Operand} {v u:Value} {b:Bool} {p:Prop} (hp:b=true↔p) (hg:∀ op,PureS P (eqGuard op t x y v u) ())
  (he:binOp .eql t v u=(do pure (.bool (<- Op.equal t v u)))) (hn:binOp .neq t v u=(do pure (.bool (!(<- Op.equal t v u)))))
  (h:PureS P (Op.equalIn (9999+1) t v u) b):NilSays P t x y v u p:=by
 have h':PureS P (Op.equal t v u) b:=h
 exact ⟨b,hp,(hg _).bind (by rw [he];exact h'.bind (.ret _)),(hg _).bind (by rw [hn];exact h'.bind (.ret _))⟩
theorem eqGuard_plain {t:TypeId} {x y:Operand} {v u:Value} (hv:match v with | .nilIface | .agg _=>False | _=>True) (op:BinOp):PureS P (eqGuard op t x y v u) ():=fun w=>by
 cases op <;> cases v <;> first | exact hv.elim | (simp [eqGuard])
theorem in_ptr (d:Nat) {t e:TypeId} (hu:P.underlying t=some (.pointer e)) (p:Option Addr):PureS P (Op.equalIn (d+1) t (.pointer p) (.pointer none)) p.isNone:=fun w=>by cases p <;> simp [Op.equalIn,run_underlying hu]
theorem in_sl (d:Nat) {t e:TypeId} (hu:P.underlying t=some (.slice e)) (p:Option Addr) (n c n' c':Nat):PureS P (Op.equalIn (d+1) t (.slice p n c) (.slice none n' c')) p.isNone:=fun w=>by cases p <;> simp [Op.equalIn,run_underlying hu]
theorem in_map (d:Nat) {t k e:TypeId} (hu:P.underlying t=some (.map k e)) (p:Option Nat):PureS P (Op.equalIn (d+1) t (.map p) (.map none)) p.isNone:=fun w=>by cases p <;> simp [Op.equalIn,run_underlying hu]
theorem in_nil (d:Nat) {t:TypeId} {ms:Array (String×TypeId)} (hu:P.underlying t=some (.interface ms)):PureS P (Op.equalIn (d+1) t .nilIface .nilIface) true:=fun w=>by simp [Op.equalIn,run_underlying hu]
theorem in_held (d:Nat) {t:TypeId} {ms:Array (String×TypeId)} (hu:P.underlying t=some (.interface ms)) (u:TypeId) (v:Value):PureS P (Op.equalIn (d+1) t (.iface u v) .nilIface) false:=fun w=>by simp [Op.equalIn,run_underlying hu]
theorem in_nilf (d:Nat) {t:TypeId} {ps rs:Array TypeId} {vr:Bool} (hu:P.underlying t=some (.func ps rs vr)):PureS P (Op.equalIn (d+1) t .nilFunc .nilFunc) true:=fun w=>by simp [Op.equalIn,run_underlying hu]
theorem in_func (d:Nat) {t:TypeId} {ps rs:Array TypeId} {vr:Bool} (hu:P.underlying t=some (.func ps rs vr)) (f:Fn) (u v:Array Value):PureS P (Op.equalIn (d+1) t (.func f u v) .nilFunc) false:=fun w=>by simp [Op.equalIn,run_underlying hu]
theorem nil_ptr {t e:TypeId} {x y:Operand} (hu:P.underlying t=some (.pointer e)) (p:Option Addr):NilSays P t x y (.pointer p) (.pointer none) (p=none):=
 eq_says (b:=p.isNone) (by simp) (eqGuard_plain trivial) (by simp only [binOp]) (by simp only [binOp]) (in_ptr 9999 hu p)
theorem nil_sl {t e:TypeId} {x y:Operand} (hu:P.underlying t=some (.slice e)) (p:Option Addr) (n c n' c':Nat):NilSays P t x y (.slice p n c) (.slice none n' c') (p=none):=
 eq_says (b:=p.isNone) (by simp) (eqGuard_plain trivial) (by simp only [binOp]) (by simp only [binOp]) (in_sl 9999 hu p n c n' c')
theorem nil_map {t k e:TypeId} {x y:Operand} (hu:P.underlying t=some (.map k e)) (p:Option Nat):NilSays P t x y (.map p) (.map none) (p=none):=
 eq_says (b:=p.isNone) (by simp) (eqGuard_plain trivial) (by simp only [binOp]) (by simp only [binOp]) (in_map 9999 hu p)
theorem nil_ifc {t:TypeId} {ms:Array (String×TypeId)} {x:Operand} {c:Value} (hu:P.underlying t=some (.interface ms)):NilSays P t x (.const c) .nilIface .nilIface True:=
 eq_says (b:=true) (by simp) (fun op w=>by rw [eqGuard_nil_constR] <;> rfl) (by simp only [binOp]) (by simp only [binOp]) (in_nil 9999 hu)
theorem held_ifc {t:TypeId} {ms:Array (String×TypeId)} {x y:Operand} (hu:P.underlying t=some (.interface ms)) (u:TypeId) (v:Value):NilSays P t x y (.iface u v) .nilIface False:=
 eq_says (b:=false) (by simp) (eqGuard_plain trivial) (by simp only [binOp]) (by simp only [binOp]) (in_held 9999 hu u v)
theorem nil_fn {t:TypeId} {ps rs:Array TypeId} {vr:Bool} {x y:Operand} (hu:P.underlying t=some (.func ps rs vr)):NilSays P t x y .nilFunc .nilFunc True:=
 eq_says (b:=true) (by simp) (eqGuard_plain trivial) (by simp only [binOp]) (by simp only [binOp]) (in_nilf 9999 hu)
theorem held_fn {t:TypeId} {ps rs:Array TypeId} {vr:Bool} {x y:Operand} (hu:P.underlying t=some (.func ps rs vr)) (f:Fn) (u v:Array Value):NilSays P t x y (.func f u v) .nilFunc False:=
 eq_says (b:=false) (by simp) (eqGuard_plain trivial) (by simp only [binOp]) (by simp only [binOp]) (in_func 9999 hu f u v)
theorem isNil_sound {kd:NilK} {t:TypeId} {x y:Operand} (hy:nilK P t y=some kd) {v:Value} {K:Prop->Prop} (h:isNilP kd v K) :
  ∃ p:Prop,K p/\NilSays P t x y v (a.eval y) p:=by
 unfold nilK at hy
 split at hy
 all_goals (first | (cases hy;done) | skip)
 all_goals (obtain rfl:=Option.some.inj hy)
 all_goals (unfold isNilP at h;split at h)
 all_goals (first | exact h.elim | skip)
 all_goals (first | (exfalso;simp at *;done) | skip)
 all_goals refine ⟨_,h,?_⟩
 all_goals simp only [Act.eval]
 ·exact nil_ptr ‹_› _
 ·exact nil_sl ‹_› _ _ _ _ _
 ·exact nil_map ‹_› _
 ·exact nil_ifc ‹_›
 ·exact held_ifc ‹_› _ _
 ·exact nil_fn ‹_›
 ·exact held_fn ‹_› _ _ _
theorem fit_cons {sh:Shp} {l:List Shp} {vs:List Value} (h:fitB (sh::l) vs=true):∃ u r,vs=u::r/\fitB [sh] [u]=true/\fitB l r=true:=by
 cases vs with
 | nil=>cases sh <;> simp [fitB] at h
 | cons u r=>
  refine ⟨u,r,rfl,?_⟩
  cases sh <;> cases u <;> simp_all [fitB]
theorem scalar_eq (d:Nat) {t:TypeId} {sh:Shp} (hs:scalarS P t=some sh) {u v:Value} (hu:fitB [sh] [u]=true) (hv:fitB [sh] [v]=true) :
  ∃ b:Bool,(b=true↔u=v)/\PureS P (Op.equalIn (d+1) t u v) b:=by
 unfold scalarS at hs
 split at hs
 all_goals (first | (cases hs;done) | skip)
 all_goals (obtain rfl:=Option.some.inj hs)
 ·rename_i hty
  cases u <;> simp [fitB] at hu
  cases v <;> simp [fitB] at hv
  rename_i x y
  exact ⟨x == y,by simp,fun w=>by simp [Op.equalIn,run_underlying hty]⟩
 ·rename_i k hty
  cases u <;> simp [fitB] at hu
  cases v <;> simp [fitB] at hv
  subst hu;subst hv
  rename_i x _ y
  exact ⟨x == y,by simp,fun w=>by simp [Op.equalIn,run_underlying hty]⟩
 ·rename_i hty
  cases u <;> simp [fitB] at hu
  cases v <;> simp [fitB] at hv
  rename_i x y
  refine ⟨decide (x=y),by simp,fun w=>?_⟩
  rw [run_equalIn_string w d t x y hty,toList_beq]
theorem part_scalar {t:TypeId} {sh:Shp} (hs:scalarS P t=some sh) {xs:Array Value} {i:Nat} {u:Value} (hx:xs[i]?=some u):PureS P (part t xs i) u:=by
 intro w
 unfold scalarS at hs
 split at hs
 all_goals (first | (cases hs;done) | skip)
 all_goals (rename_i hty;simp [part,isAgg,run_underlying hty,hx])
theorem eqFields_flat (d:Nat) {xs ys:Array Value}:∀ {fs:List Field} {i:Nat} {l:List Shp},flatL P fs i=some l->fitB l (xs.toList.drop i)=true->fitB l (ys.toList.drop i)=true ->
  ∃ b:Bool,(b=true↔xs.toList.drop i=ys.toList.drop i)/\PureS P (Op.eqFields (d+1) xs ys fs) b
 | [],i,l,hl,hx,hy=>by
  obtain rfl:l=[]:=by simpa [flatL] using hl.symm
  have e:∀ {zs:List Value},fitB [] zs=true->zs=[]:=by intro zs h;cases zs;rfl;simp [fitB] at h
  exact ⟨true,by simp [e hx,e hy],fun w=>by simp [Op.eqFields]⟩
 | f::fs,i,l,hl,hx,hy=>by
  simp only [flatL] at hl
  split at hl
  ·rename_i sh l' hn hsc hr
   obtain rfl:=Option.some.inj hl
   simp only [Bool.and_eq_true,bne_iff_ne,ne_eq,beq_iff_eq] at hn
   obtain ⟨u,rx,ex,hu,hx⟩:=fit_cons hx
   obtain ⟨v,ry,ey,hv,hy⟩:=fit_cons hy
   have hxi:xs[i]?=some u:=by
    have:=congrArg (·[0]?) ex
    simpa using this
   have hyi:ys[i]?=some v:=by
    have:=congrArg (·[0]?) ey
    simpa using this
   have dx:xs.toList.drop (i+1)=rx:=by rw [<- List.drop_drop,ex];rfl
   have dy:ys.toList.drop (i+1)=ry:=by rw [<- List.drop_drop,ey];rfl
   obtain ⟨b1,h1,p1⟩:=scalar_eq d hsc hu hv
   obtain ⟨b2,h2,p2⟩:=eqFields_flat d hr (by rw [dx];exact hx) (by rw [dy];exact hy)
   rw [dx,dy] at h2
   have q1:=part_scalar hsc hxi
   have q2:=part_scalar hsc hyi
   refine ⟨b1 && b2,?_,fun w=>?_⟩
   ·rw [ex,ey,Bool.and_eq_true,h1,h2,List.cons.injEq]
   ·simp only [Op.eqFields,hn.1,ne_eq,not_false_eq_true,if_true,hn.2,Sem.run_bind,q1 w,q2 w,p1 w,Result.andThen_ok]
    cases b1
    ·simp
    ·simp [p2 w]
  ·cases hl
theorem bin_sound {op:BinOp} {t:TypeId} {x y:Operand} {sop:SOp} (hc:copBin P op t x y=some sop) (hk:Knows N a s) {K:Value->Prop} (h:pureC sop s K) :
  ∃ v,PureS P (do eqGuard op t x y (a.eval x) (a.eval y);binOp op t (a.eval x) (a.eval y)) v/\K v:=by
 unfold copBin at hc
 split at hc
 ·
  rename_i k hu
  cases op <;> simp only at hc
  case add | sub | mul=>
   obtain rfl:=Option.some.inj hc
   obtain ⟨m,hx,h⟩:=getI_out hk h
   obtain ⟨n,hy,h⟩:=getI_out hk h
   exact ⟨_,fun w=>by simp [hx,hy,eqGuard,binOp,Op.intArith,aop],h⟩
  case quo=>
   split at hc
   ·rename_i k' c
    cases hcc:(k' == k && c != 0) with
    | false=>simp [hcc] at hc
    | true=>
     simp only [hcc] at hc
     obtain rfl:=Option.some.inj hc
     simp only [Bool.and_eq_true,beq_iff_eq,bne_iff_ne,ne_eq] at hcc
     obtain ⟨m,hx,h⟩:=getI_out hk h
     have hy:a.eval (.const (.int k' c))=.int k c:=by rw [hcc.1];rfl
     exact ⟨_,fun w=>by simp [hx,hy,eqGuard,binOp,Op.intDiv,hcc.2],h⟩
   ·obtain rfl:=Option.some.inj hc
    obtain ⟨m,hx,h⟩:=getI_out hk h
    obtain ⟨n,hy,h0,h⟩:=getI_out hk h
    exact ⟨_,fun w=>by simp [hx,hy,eqGuard,binOp,Op.intDiv,h0],h⟩
  case rem=>
   split at hc
   ·rename_i k' c
    cases hcc:(k' == k && c != 0) with
    | false=>simp [hcc] at hc
    | true=>
     simp only [hcc] at hc
     obtain rfl:=Option.some.inj hc
     simp only [Bool.and_eq_true,beq_iff_eq,bne_iff_ne,ne_eq] at hcc
     obtain ⟨m,hx,h⟩:=getI_out hk h
     have hy:a.eval (.const (.int k' c))=.int k c:=by rw [hcc.1];rfl
     exact ⟨_,fun w=>by simp [hx,hy,eqGuard,binOp,Op.intDiv,hcc.2],h⟩
   ·obtain rfl:=Option.some.inj hc
    obtain ⟨m,hx,h⟩:=getI_out hk h
    obtain ⟨n,hy,h0,h⟩:=getI_out hk h
    exact ⟨_,fun w=>by simp [hx,hy,eqGuard,binOp,Op.intDiv,h0],h⟩
  case and | or | xor | andNot=>
   obtain rfl:=Option.some.inj hc
   obtain ⟨m,hx,h⟩:=getI_out hk h
   obtain ⟨n,hy,h⟩:=getI_out hk h
   exact ⟨_,fun w=>by simp [hx,hy,eqGuard,binOp,Op.intBits,bop],h⟩
  case shl | shr=>
   split at hc
   ·rename_i k' c
    cases hcc:(decide (0≤c) && decide (c≤k.bits)) with
    | false=>simp [hcc] at hc
    | true=>
     simp only [hcc] at hc
     obtain rfl:=Option.some.inj hc
     simp only [Bool.and_eq_true,decide_eq_true_eq] at hcc
     obtain ⟨m,hx,h⟩:=getI_out hk h
     have hmin:min c.toNat k.bits=c.toNat:=by omega
     have hy:a.eval (.const (.int k' c))=.int k' c:=rfl
     exact ⟨_,fun w=>by simp [hx,hy,eqGuard,binOp,Op.shift,hmin,fdiv_two,show ¬ c<0 by omega],h⟩
   ·obtain rfl:=Option.some.inj hc
    obtain ⟨m,hx,h⟩:=getI_out hk h
    obtain ⟨k',n,hy,h0,h⟩:=getZ_out hk h
    exact ⟨_,fun w=>by simp [hx,hy,eqGuard,binOp,Op.shift,fdiv_two,show ¬ n<0 by omega],h⟩
  case neq=>
   obtain rfl:=Option.some.inj hc
   obtain ⟨m,hx,h⟩:=getI_out hk h
   obtain ⟨n,hy,h⟩:=getI_out hk h
   rcases PIf_out h with ⟨hp,h⟩ | ⟨hp,h⟩
   ·exact ⟨_,fun w=>by simp [hx,hy,eqGuard,binOp,Op.intCmp,hp],h⟩
   ·exact ⟨_,fun w=>by simp [hx,hy,eqGuard,binOp,Op.intCmp,hp],h⟩
  all_goals
   obtain rfl:=Option.some.inj hc
   obtain ⟨m,hx,h⟩:=getI_out hk h
   obtain ⟨n,hy,h⟩:=getI_out hk h
   rcases PIf_out h with ⟨hp,h⟩ | ⟨hp,h⟩
   ·simp only [cmpP] at hp
    exact ⟨_,fun w=>by simp [hx,hy,eqGuard,binOp,Op.intCmp,hp] <;> omega,h⟩
   ·simp only [cmpP] at hp
    exact ⟨_,fun w=>by simp [hx,hy,eqGuard,binOp,Op.intCmp,hp] <;> omega,h⟩
 ·
  rename_i hu
  cases op <;> simp only at hc <;> first | (cases hc;done) | (obtain rfl:=Option.some.inj hc)
  ·obtain ⟨m,hx,h⟩:=getS_out hk h
   obtain ⟨n,hy,h0,h⟩:=getS_out hk h
   refine ⟨_,fun w=>?_,h⟩
   simp [hx,hy,eqGuard,binOp,Op.stringOp]
   omega
  all_goals
   obtain ⟨m,hx,h⟩:=getS_out hk h
   obtain ⟨n,hy,h⟩:=getS_out hk h
   rcases PIf_out h with ⟨hp,h⟩ | ⟨hp,h⟩
   ·exact ⟨_,fun w=>by simp [hx,hy,eqGuard,binOp,Op.stringOp,toList_beq,hp],h⟩
   ·exact ⟨_,fun w=>by simp [hx,hy,eqGuard,binOp,Op.stringOp,toList_beq,hp],h⟩
 ·
  rename_i hu
  cases op <;> simp only at hc <;> first | (cases hc;done) | (obtain rfl:=Option.some.inj hc)
  all_goals
   obtain ⟨m,hx,h⟩:=getB_out hk h
   obtain ⟨n,hy,h⟩:=getB_out hk h
   rcases PIf_out h with ⟨hp,h⟩ | ⟨hp,h⟩
   ·exact ⟨_,fun w=>by simp only [hx,hy,Sem.run_bind,eqGuard_at_bool,Sem.run_pure,Result.andThen_ok];(first | rw [run_eql_bool _ _ _ _ hu] | rw [run_neq_bool _ _ _ _ hu]);simp [hp],h⟩
   ·exact ⟨_,fun w=>by simp only [hx,hy,Sem.run_bind,eqGuard_at_bool,Sem.run_pure,Result.andThen_ok];(first | rw [run_eql_bool _ _ _ _ hu] | rw [run_neq_bool _ _ _ _ hu]);simp [hp],h⟩
 ·
  rename_i fs hu
  have hfo:P.underlying t=some (.struct (P.fieldsOf t)):=by simp [Program.fieldsOf,hu]
  have key:∀ {l:List Shp},flatS P t=some l->∀ {xs ys:Array Value},(fitB l xs.toList && fitB l ys.toList)=true ->
    ∃ b:Bool,(b=true↔xs=ys)/\PureS P (Op.equalIn (9999+1) t (.agg xs) (.agg ys)) b/\∀ op,PureS P (eqGuard op t x y (.agg xs) (.agg ys)) ():=by
   intro l hl xs ys hf
   unfold flatS at hl
   rw [hu] at hl
   simp only at hl
   split at hl
   ·rename_i h1 h2
    simp only [Bool.and_eq_true] at hf
    obtain ⟨b,hb,hp⟩:=eqFields_flat 9998 (xs:=xs) (ys:=ys) hl (by simpa using hf.1) (by simpa using hf.2)
    refine ⟨b,?_,fun w=>?_,fun op w=>run_eqGuard_agg w op t x y xs ys h2⟩
    ·rw [hb];simp [Array.toList_inj]
    ·have:=run_equalIn_struct w 9999 t xs ys hfo h1
     rw [this,Program.fieldsOf,hu]
     exact hp w
   ·cases hl
  split at hc
  all_goals (first | (cases hc;done) | skip)
  all_goals
   rename_i l hl
   obtain rfl:=Option.some.inj hc
   obtain ⟨xs,hx,h⟩:=getA_out hk h
   obtain ⟨ys,hy,h⟩:=getA_out hk h
   split at h
   case h_2=>exact h.elim
   rename_i hf
   obtain ⟨b,hb,he,hg⟩:=key hl hf
   simp only at h
   have he':PureS P (Op.equal t (.agg xs) (.agg ys)) b:=he
   rw [hx,hy]
   simp only [binOp]
   rcases PIf_out h with ⟨hp,h⟩ | ⟨hp,h⟩
   ·refine ⟨_,(hg _).bind (he'.bind (.ret _)),?_⟩
    rw [hb.2 hp];exact h
   ·refine ⟨_,(hg _).bind (he'.bind (.ret _)),?_⟩
    have:b=false:=by cases b;rfl;exact absurd (hb.1 rfl) hp
    rw [this];exact h
 ·
  split at hc
  all_goals (first | (cases hc;done) | skip)
  all_goals
   rename_i kd hkd
   obtain rfl:=Option.some.inj hc
   obtain ⟨v,hx,h⟩:=get_out hk h
   obtain ⟨p,h,b,hb,h1,h2⟩:=isNil_sound (P:=P) (a:=a) (x:=x) hkd h
   simp only at h
   rw [hx]
   rcases PIf_out h with ⟨hp,h⟩ | ⟨hp,h⟩
   ·have hbt:=hb.2 hp
    subst hbt
    first | exact ⟨_,h1,h⟩ | exact ⟨_,h2,h⟩
   ·have hbt:b=false:=by cases b;rfl;exact absurd (hb.1 rfl) hp
    subst hbt
    first | exact ⟨_,h1,h⟩ | exact ⟨_,h2,h⟩
end
end Go.Hx
namespace Go.Hx
section
variable {P:Program} {N:Nat} {a:Act} {s:SF}
theorem isAgg_true {t:TypeId} (h:isAggB P t=some true):PureS P (isAgg t) true:=by
 unfold isAggB at h
 split at h <;> first | (cases h;done) | (rename_i hu;exact fun w=>by simp [isAgg,run_underlying hu])
theorem isAgg_false {t:TypeId} (h:isAggB P t=some false):PureS P (isAgg t) false:=by
 unfold isAggB at h
 split at h
 all_goals first | (cases h;done) | skip
 rename_i d h1 h2 hu
 intro w
 cases d <;> simp_all [isAgg,run_underlying hu]
theorem sliceBound_pure (k:IntKind) (i:Int) (y:Nat) (code:BoundsCode) (h0:0≤i) (h1:i≤y):PureS P (Instr.sliceBound (.int k i) y code) i.toNat:=
 fun w=>run_sliceBound (P:=P) w k i y code h0 h1
theorem slc_sound {t e:TypeId} {j:TypeInfo} {x:Operand} {lo hi:Option Operand} (hu:P.underlying t=some (.slice e)) (hj:P.info? e=some j) (hk:Knows N a s) {K:Value->Prop}
  (h:pureC (.slc j.size x lo hi) s K):∃ v,PureS P (Instr.sliceAt t (a.eval x) (lo.map a.eval) (hi.map a.eval) none) v/\K v:=by
 obtain ⟨p,n,c,hx,h⟩:=getSl_out hk h
 have key:∀ (l m:Int),0≤l->l≤m->m≤c->PureS P (Instr.sliceBounds true n c (lo.map a.eval) (hi.map a.eval) none) (l.toNat,m.toNat,c) ->
   PureS P (Instr.sliceAt t (a.eval x) (lo.map a.eval) (hi.map a.eval) none) (.slice (cutA j.size p c l.toNat) (m.toNat-l.toNat) (c-l.toNat)):=by
  intro l m h0 h1 h2 hb w
  have hsz:=PureS.sizeOf (P:=P) hj w
  simp [Instr.sliceAt,run_underlying hu,Instr.slice,hx,hb w,hsz,cutA]
 rcases loc_out hk h with ⟨el,g⟩ | ⟨xl,kl,l,el,hl,g⟩ <;> subst el
 ·rcases hic_out hk g with ⟨eh,r⟩ | ⟨xh,kh,m,eh,hm,r⟩ <;> subst eh
  ·obtain ⟨h0,h1,h2,r⟩:=r
   exact ⟨_,key 0 n h0 h1 h2 (fun w=>by simp [Instr.sliceBounds]),r⟩
  ·obtain ⟨h0,h1,h2,r⟩:=r
   exact ⟨_,key 0 m h0 h1 h2 (fun w=>by simp [Instr.sliceBounds,hm,sliceBound_pure (P:=P) kh m c _ h1 h2 w]),r⟩
 ·rcases hic_out hk g with ⟨eh,r⟩ | ⟨xh,kh,m,eh,hm,r⟩ <;> subst eh
  ·obtain ⟨h0,h1,h2,r⟩:=r
   exact ⟨_,key l n h0 h1 h2 (fun w=>by simp [Instr.sliceBounds,hl,sliceBound_pure (P:=P) kl l n _ h0 h1 w]),r⟩
  ·obtain ⟨h0,h1,h2,r⟩:=r
   exact ⟨_,key l m h0 h1 h2 (fun w=>by simp [Instr.sliceBounds,hl,hm,sliceBound_pure (P:=P) kh m c _ (by omega) h2 w,sliceBound_pure (P:=P) kl l m.toNat _ h0 (by omega) w]),r⟩
theorem slc3_sound {t e:TypeId} {j:TypeInfo} {x hi mx:Operand} {lo:Option Operand} (hu:P.underlying t=some (.slice e)) (hj:P.info? e=some j) (hk:Knows N a s) {K:Value->Prop}
  (h:pureC (.slc3 j.size x lo hi mx) s K):∃ v,PureS P (Instr.sliceAt t (a.eval x) (lo.map a.eval) (some (a.eval hi)) (some (a.eval mx))) v/\K v:=by
 obtain ⟨p,n,c,hx,h⟩:=getSl_out hk h
 obtain ⟨km,m,hm,h⟩:=getZ_out hk h
 obtain ⟨kh,u,hh,h⟩:=getZ_out hk h
 have key:∀ (l:Int),0≤l->l≤u->u≤m->m≤c->PureS P (Instr.sliceBounds true n c (lo.map a.eval) (some (a.eval hi)) (some (a.eval mx))) (l.toNat,u.toNat,m.toNat) ->
   PureS P (Instr.sliceAt t (a.eval x) (lo.map a.eval) (some (a.eval hi)) (some (a.eval mx))) (.slice (cutA j.size p m.toNat l.toNat) (u.toNat-l.toNat) (m.toNat-l.toNat)):=by
  intro l h0 h1 h2 h3 hb w
  have hsz:=PureS.sizeOf (P:=P) hj w
  simp [Instr.sliceAt,run_underlying hu,Instr.slice,hx,hb w,hsz,cutA]
 rcases loc_out hk h with ⟨el,g⟩ | ⟨xl,kl,l,el,hl,g⟩ <;> subst el
 ·obtain ⟨h0,h1,h2,h3,r⟩:=g
  exact ⟨_,key 0 h0 h1 h2 h3 (fun w=>by
   simp [Instr.sliceBounds,hh,hm,sliceBound_pure (P:=P) km m c _ (by omega) h3 w,sliceBound_pure (P:=P) kh u m.toNat _ h1 (by omega) w]),r⟩
 ·obtain ⟨h0,h1,h2,h3,r⟩:=g
  exact ⟨_,key l h0 h1 h2 h3 (fun w=>by
   simp [Instr.sliceBounds,hl,hh,hm,sliceBound_pure (P:=P) km m c _ (by omega) h3 w,sliceBound_pure (P:=P) kh u m.toNat _ (by omega) (by omega) w,sliceBound_pure (P:=P) kl l u.toNat _ h0 (by omega) w]),r⟩
theorem slcS_sound {t:TypeId} {x:Operand} {lo hi:Option Operand} (hu:P.underlying t=some .string) (hk:Knows N a s) {K:Value->Prop}
  (h:pureC (.slcS x lo hi) s K):∃ v,PureS P (Instr.sliceAt t (a.eval x) (lo.map a.eval) (hi.map a.eval) none) v/\K v:=by
 obtain ⟨b,hx,h⟩:=getS_out hk h
 have key:∀ (l m:Int),0≤l->l≤m->m≤b.size->PureS P (Instr.sliceBounds false b.size b.size (lo.map a.eval) (hi.map a.eval) none) (l.toNat,m.toNat,b.size) ->
   PureS P (Instr.sliceAt t (a.eval x) (lo.map a.eval) (hi.map a.eval) none) (.string (b.extract l.toNat m.toNat)):=by
  intro l m h0 h1 h2 hb w
  simp [Instr.sliceAt,run_underlying hu,Instr.slice,hx,hb w]
 rcases loc_out hk h with ⟨el,g⟩ | ⟨xl,kl,l,el,hl,g⟩ <;> subst el
 ·rcases hic_out hk g with ⟨eh,r⟩ | ⟨xh,kh,m,eh,hm,r⟩ <;> subst eh
  ·obtain ⟨h0,h1,h2,r⟩:=r
   exact ⟨_,key 0 b.size h0 h1 h2 (fun w=>by simp [Instr.sliceBounds]),r⟩
  ·obtain ⟨h0,h1,h2,r⟩:=r
   exact ⟨_,key 0 m h0 h1 h2 (fun w=>by simp [Instr.sliceBounds,hm,sliceBound_pure (P:=P) kh m b.size _ h1 h2 w]),r⟩
 ·rcases hic_out hk g with ⟨eh,r⟩ | ⟨xh,kh,m,eh,hm,r⟩ <;> subst eh
  ·obtain ⟨h0,h1,h2,r⟩:=r
   exact ⟨_,key l b.size h0 h1 h2 (fun w=>by simp [Instr.sliceBounds,hl,sliceBound_pure (P:=P) kl l b.size _ h0 h1 w]),r⟩
  ·obtain ⟨h0,h1,h2,r⟩:=r
   exact ⟨_,key l m h0 h1 h2 (fun w=>by simp [Instr.sliceBounds,hl,hm,sliceBound_pure (P:=P) kh m b.size _ (by omega) h2 w,sliceBound_pure (P:=P) kl l m.toNat _ h0 (by omega) w]),r⟩
theorem slcA_sound {t e:TypeId} {n:Nat} {j:TypeInfo} {x:Operand} {lo hi:Option Operand} (hu:P.underlying t=some (.array n e)) (hj:P.info? e=some j) (hk:Knows N a s) {K:Value->Prop}
  (h:pureC (.slcA n j.size x lo hi) s K):∃ v,PureS P (Instr.sliceAt t (a.eval x) (lo.map a.eval) (hi.map a.eval) none) v/\K v:=by
 obtain ⟨p,hx,h⟩:=getP_out hk h
 have key:∀ (l m:Int) (ad:Addr),p=some ad->0≤l->l≤m->m≤n->PureS P (Instr.sliceBounds false n n (lo.map a.eval) (hi.map a.eval) none) (l.toNat,m.toNat,n) ->
   PureS P (Instr.sliceAt t (a.eval x) (lo.map a.eval) (hi.map a.eval) none) (.slice (some (cutR j.size ad n l.toNat)) (m.toNat-l.toNat) (n-l.toNat)):=by
  intro l m ad hp h0 h1 h2 hb w
  have hsz:=PureS.sizeOf (P:=P) hj w
  simp [Instr.sliceAt,run_underlying hu,hx,hp,Instr.sureAddr,hb w,hsz,cutR]
 rcases loc_out hk h with ⟨el,g⟩ | ⟨xl,kl,l,el,hl,g⟩ <;> subst el
 ·rcases hic_out hk g with ⟨eh,r⟩ | ⟨xh,kh,m,eh,hm,r⟩ <;> subst eh
  ·obtain ⟨h0,h1,h2,r⟩:=r
   obtain ⟨ad,hp,r⟩:=AtP_out r
   exact ⟨_,key 0 n ad hp h0 h1 h2 (fun w=>by simp [Instr.sliceBounds]),r⟩
  ·obtain ⟨h0,h1,h2,r⟩:=r
   obtain ⟨ad,hp,r⟩:=AtP_out r
   exact ⟨_,key 0 m ad hp h0 h1 h2 (fun w=>by simp [Instr.sliceBounds,hm,sliceBound_pure (P:=P) kh m n _ h1 h2 w]),r⟩
 ·rcases hic_out hk g with ⟨eh,r⟩ | ⟨xh,kh,m,eh,hm,r⟩ <;> subst eh
  ·obtain ⟨h0,h1,h2,r⟩:=r
   obtain ⟨ad,hp,r⟩:=AtP_out r
   exact ⟨_,key l n ad hp h0 h1 h2 (fun w=>by simp [Instr.sliceBounds,hl,sliceBound_pure (P:=P) kl l n _ h0 h1 w]),r⟩
  ·obtain ⟨h0,h1,h2,r⟩:=r
   obtain ⟨ad,hp,r⟩:=AtP_out r
   exact ⟨_,key l m ad hp h0 h1 h2 (fun w=>by simp [Instr.sliceBounds,hl,hm,sliceBound_pure (P:=P) kh m n _ (by omega) h2 w,sliceBound_pure (P:=P) kl l m.toNat _ h0 (by omega) w]),r⟩
theorem mnx_sound (isMax:Bool) {k:IntKind} (hk:Knows N a s):∀ {xs:List Operand} {m:Int} {K:Int->Prop},mnxC isMax k s m xs K ->
  ∃ r,K r/\PureS P ((xs.map a.eval).foldlM (match isMax with | true=>Builtin.max2 | false=>Builtin.min2) (.int k m)) (.int k r)
 | [],m,K,h=>⟨m,h,fun w=>by simp⟩
 | x::xs,m,K,h=>by
  obtain ⟨n,hx,h⟩:=getI_out hk (show getI k s x _ from h)
  obtain ⟨r,hK,hp⟩:=mnx_sound isMax hk h
  refine ⟨r,hK,fun w=>?_⟩
  have hp':=hp w
  cases isMax
  ·simp only [List.map_cons,hx,List.foldlM_cons,Builtin.min2,Sem.run_bind,Sem.run_pure,Result.andThen_ok]
   have:(if n<m then n else m)=min m n:=by rw [Int.min_def];split <;> split <;> omega
   rw [this]
   exact hp'
  ·simp only [List.map_cons,hx,List.foldlM_cons,Builtin.max2,Sem.run_bind,Sem.run_pure,Result.andThen_ok]
   have:(if n > m then n else m)=max m n:=by rw [Int.max_def];split <;> split <;> omega
   rw [this]
   exact hp'
theorem build_sound {ps:Array (Nat×Operand)} {l:List (Nat×Nat×Operand)} {place:Nat->Option (Nat×Nat)} {zero:Array Value} (hl:partsOf P place ps.toList=some l) (hk:Knows N a s)
  {K:List Value->Prop} (h:fillC s zero l K):∃ c,K c/\Instr.fill place zero (ps.map fun (i,x)=>(i,a.eval x)).toList=some c.toArray:=by
 have h2:=partsC_out hk h
 split at h2
 ·rename_i c hc
  refine ⟨c,h2,?_⟩
  have:=fill_of (ev:=a.eval) hl hc
  simpa using this
 ·exact h2.elim
theorem mapM_places (fs:Array Field) (g:Field->Option Nat) (hg:∀ f∈fs.toList,∃ n,g f=some n/\PureS P (sizeOf f.type) n) :
  PureS P (fs.mapM fun f=>do pure (f.offset,<- sizeOf f.type)) (fs.map fun f=>(f.offset,(g f).getD 0)):=by
 have key:∀ l:List Field,(∀ f∈l,∃ n,g f=some n/\PureS P (sizeOf f.type) n)->PureS P (l.mapM fun f=>do pure (f.offset,<- sizeOf f.type)) (l.map fun f=>(f.offset,(g f).getD 0)):=by
  intro l
  induction l with
  | nil=>intro _ w;simp
  | cons f l ih=>
   intro hl w
   obtain ⟨n,h1,h2⟩:=hl f (List.mem_cons_self ..)
   have h3:=ih (fun g hg=>hl g (List.mem_cons_of_mem _ hg)) w
   simp only [List.mapM_cons,Sem.run_bind,h2 w,Result.andThen_ok,Sem.run_pure,h3,List.map_cons,h1,Option.getD_some]
 intro w
 have h:=key fs.toList hg w
 rw [Array.mapM_eq_mapM_toList]
 simp only [Sem.run_map,h,Result.andThen_ok]
 congr 1
 apply Array.toList_inj.1
 simp
theorem pure_sound {o:Oper} {op:SOp} {x:Md} (hc:cop P o=some op) (hcl:op.cls x=.pure) (hk:Knows N a s) {K:Value->Prop} (h:pureC op s K) :
  ∃ v,PureS P (execOp a.eval o) (.value v)/\K v:=by
 obtain ⟨dst,o,ty,pos,after,guard⟩:=o
 cases o <;> simp only [cop] at hc <;> simp only [execOp] <;> first | (cases hc;done) | skip
 case move x=>
  obtain rfl:=Option.some.inj hc
  obtain ⟨v,hx,h⟩:=get_out hk h
  exact ⟨v,by rw [hx];exact .ret _,h⟩
 case assign x=>
  obtain rfl:=Option.some.inj hc
  obtain ⟨v,hx,h⟩:=get_out hk h
  exact ⟨v,by rw [hx];exact .ret _,h⟩
 case pick c y z=>
  obtain rfl:=Option.some.inj hc
  obtain ⟨t,ht,h⟩:=getB_out hk h
  cases t
  ·obtain ⟨v,hx,h⟩:=get_out hk h
   exact ⟨v,fun w=>by simp [ht,hx,asBool],h⟩
  ·obtain ⟨v,hx,h⟩:=get_out hk h
   exact ⟨v,fun w=>by simp [ht,hx,asBool],h⟩
 case alloc e=>
  cases hz:zeroOf P e <;> simp [hz] at hc
  subst hc;cases x <;> simp [SOp.cls] at hcl
 case box e y=>obtain rfl:=Option.some.inj hc;cases x <;> simp [SOp.cls] at hcl
 case build t parts=>
  split at hc
  ·cases hc
  ·rename_i z hz
   split at hc
   ·rename_i fs hu
    split at hc
    ·rename_i hall
     cases hl:partsOf P (fun i=>(fs[i]?).bind fun (f:Field)=>(P.info? f.type).map fun j=>(f.offset,j.size)) parts.toList with
     | none=>simp [hl] at hc
     | some l=>
      simp only [hl,Option.map_some,Option.some.injEq] at hc
      subst hc
      obtain ⟨c,h,hf⟩:=build_sound hl hk h
      have hz':∃ i,P.info? t=some i/\i.zero=some z:=by
       unfold zeroOf at hz
       cases hi:P.info? t with
       | none=>simp [hi] at hz
       | some i=>simp only [hi,Option.bind_some] at hz;exact ⟨i,rfl,hz⟩
      obtain ⟨ti,hi,hzz⟩:=hz'
      have hm:=mapM_places (P:=P) fs (fun f=>(P.info? f.type).map (·.size)) (fun f hf=>by
       have:=List.all_eq_true.1 hall f hf
       obtain ⟨j,hj⟩:=Option.isSome_iff_exists.1 this
       exact ⟨j.size,by simp [hj],PureS.sizeOf hj⟩)
      refine ⟨.agg c.toArray,fun w=>?_,h⟩
      have hpl:(fun (i:Nat)=>(fs.map fun (f:Field)=>(f.offset,((P.info? f.type).map (·.size)).getD 0))[i]?)=(fun (i:Nat)=>(fs[i]?).bind fun (f:Field)=>(P.info? f.type).map fun j=>(f.offset,j.size)):=by
       funext i
       simp only [Array.getElem?_map]
       cases hfi:fs[i]? with
       | none=>simp
       | some f=>
        have:=List.all_eq_true.1 hall f (Array.mem_toList_iff.2 (Array.mem_of_getElem? hfi))
        obtain ⟨j,hj⟩:=Option.isSome_iff_exists.1 this
        simp [hj]
      have hz3:=PureS.zeroValue (P:=P) hi hzz w
      unfold Instr.build
      simp only [Sem.run_bind,hz3,Result.andThen_ok,run_underlying hu,hm w]
      rw [show (fun (x:Nat)=>(fs.map fun (f:Field)=>(f.offset,((P.info? f.type).map (·.size)).getD 0))[x]?)=_ from hpl]
      rw [hf]
      simp
    ·cases hc
   ·rename_i n e hu
    split at hc
    ·rename_i j hj
     cases hl:partsOf P (fun i=>some (i*j.size,j.size)) parts.toList with
     | none=>simp [hl] at hc
     | some l=>
      simp only [hl,Option.map_some,Option.some.injEq] at hc
      subst hc
      obtain ⟨c,h,hf⟩:=build_sound hl hk h
      have hz':∃ i,P.info? t=some i/\i.zero=some z:=by
       unfold zeroOf at hz
       cases hi:P.info? t with
       | none=>simp [hi] at hz
       | some i=>simp only [hi,Option.bind_some] at hz;exact ⟨i,rfl,hz⟩
      obtain ⟨ti,hi,hzz⟩:=hz'
      refine ⟨.agg c.toArray,fun w=>?_,h⟩
      have hz3:=PureS.zeroValue (P:=P) hi hzz w
      have hsz:=PureS.sizeOf (P:=P) hj w
      unfold Instr.build
      simp only [Sem.run_bind,hz3,Result.andThen_ok,run_underlying hu,hsz]
      rw [hf]
      simp
    ·cases hc
   ·cases hc
 case buildSlice t len parts=>
  exfalso
  repeat' (first | (cases hc;done) | (split at hc))
  all_goals first | (cases hc;done) | skip
  rename_i z _ _ hz
  cases hl:partsOf P (fun i=>some (i*_,_)) parts.toList with
  | none=>rw [hl] at hc;cases hc
  | some l=>rw [hl] at hc;obtain rfl:=Option.some.inj hc;cases x <;> simp [SOp.cls] at hcl
 case load t y=>
  exfalso
  repeat' (first | (cases hc;done) | (split at hc))
  all_goals first | (cases hc;done) | (obtain rfl:=Option.some.inj hc;cases x <;> simp [SOp.cls] at hcl)
 case store t y z=>
  exfalso
  repeat' (first | (cases hc;done) | (split at hc))
  all_goals first | (cases hc;done) | (obtain rfl:=Option.some.inj hc;cases x <;> simp [SOp.cls] at hcl)
 case nilCheck y=>
  obtain rfl:=Option.some.inj hc
  obtain ⟨v,hy,h⟩:=get_out hk h
  rw [hy]
  split at h
  ·obtain ⟨ad,hp,h⟩:=AtP_out h
   subst hp
   exact ⟨_,.ret _,h⟩
  ·exact ⟨_,.ret _,h⟩
  ·exact ⟨_,.ret _,h⟩
  ·exact h.elim
 case binOp op' t y z yt=>
  obtain ⟨v,hv,h⟩:=bin_sound hc hk h
  exact ⟨v,PureS.value hv,h⟩
 case unOp op' t y=>
  split at hc
  all_goals first | (cases hc;done) | (obtain rfl:=Option.some.inj hc)
  ·obtain ⟨m,hy,h⟩:=getI_out hk h
   exact ⟨.int _ (IntKind.wrap _ (0-m)),PureS.value (fun w=>by simp [hy,Op.unary,Op.intArith]),h⟩
  ·obtain ⟨m,hy,h⟩:=getI_out hk h
   exact ⟨_,PureS.value (fun w=>by simp [hy,Op.unary,Op.intBits,bop]),h⟩
  ·obtain ⟨m,hy,h⟩:=getB_out hk h
   exact ⟨_,PureS.value (fun w=>by simp [hy,Op.unary]),h⟩
 case convert src dst y=>
  split at hc
  ·rename_i k k' h1 h2
   obtain rfl:=Option.some.inj hc
   obtain ⟨k2,m,hy,h⟩:=getZ_out hk h
   exact ⟨_,PureS.value (fun w=>by simp [hy,convert,run_underlying h1,run_underlying h2,Conv.intToInt]),h⟩
  ·rename_i h1 h2
   obtain rfl:=Option.some.inj hc
   obtain ⟨b,hy,h⟩:=getS_out hk h
   exact ⟨_,PureS.value (fun w=>by simp [hy,convert,run_underlying h1,run_underlying h2]),h⟩
  ·split at hc
   all_goals first | (cases hc;done) | (obtain rfl:=Option.some.inj hc;cases x <;> simp [SOp.cls] at hcl)
  ·split at hc
   all_goals first | (cases hc;done) | (obtain rfl:=Option.some.inj hc;cases x <;> simp [SOp.cls] at hcl)
  ·split at hc
   all_goals first | (cases hc;done) | (obtain rfl:=Option.some.inj hc;cases x <;> simp [SOp.cls] at hcl)
  ·cases hc
 case makeInterface t y=>
  split at hc
  ·cases hc
  ·rename_i d hne hu
   obtain rfl:=Option.some.inj hc
   obtain ⟨v,hy,h⟩:=get_out hk h
   refine ⟨_,PureS.value (fun w=>?_),h⟩
   unfold Instr.makeInterface
   simp only [Sem.run_bind,run_underlying hu,Result.andThen_ok,hy]
   cases d <;> first | rfl | (exact absurd rfl (hne _))
  ·cases hc
 case makeFunc fn first cap=>
  obtain rfl:=Option.some.inj hc
  obtain ⟨xs,hx,h⟩:=getAll_out hk h
  obtain ⟨ys,hy,h⟩:=getAll_out hk h
  refine ⟨_,PureS.value (fun w=>?_),h⟩
  subst hx;subst hy
  have e1:first.map a.eval=(first.toList.map a.eval).toArray:=by apply Array.toList_inj.1;simp
  have e2:cap.map a.eval=(cap.toList.map a.eval).toArray:=by apply Array.toList_inj.1;simp
  rw [e1,e2]
  rfl
 case makeMap t r=>
  cases r <;> simp only at hc
  ·obtain rfl:=Option.some.inj hc;cases x <;> simp [SOp.cls] at hcl
  ·cases hc
 case makeSlice t l c=>
  exfalso
  repeat' (first | (cases hc;done) | (split at hc))
  all_goals first | (cases hc;done) | (obtain rfl:=Option.some.inj hc;cases x <;> simp [SOp.cls] at hcl)
 case slice t y lo hi mx=>
  unfold copSlice at hc
  cases mx <;> simp only at hc
  rotate_left
  ·cases hi <;> simp only at hc
   ·cases hc
   ·split at hc
    ·rename_i e hu
     split at hc
     ·rename_i j hj
      obtain rfl:=Option.some.inj hc
      obtain ⟨v,hv,h⟩:=slc3_sound hu hj hk h
      exact ⟨v,PureS.value hv,h⟩
     ·cases hc
    ·cases hc
  ·split at hc
   ·rename_i e hu
    split at hc
    ·rename_i j hj
     obtain rfl:=Option.some.inj hc
     obtain ⟨v,hv,h⟩:=slc_sound hu hj hk h
     exact ⟨v,PureS.value hv,h⟩
    ·cases hc
   ·rename_i hu
    obtain rfl:=Option.some.inj hc
    obtain ⟨v,hv,h⟩:=slcS_sound hu hk h
    exact ⟨v,PureS.value hv,h⟩
   ·rename_i n e hu
    split at hc
    ·rename_i j hj
     obtain rfl:=Option.some.inj hc
     obtain ⟨v,hv,h⟩:=slcA_sound hu hj hk h
     exact ⟨v,PureS.value hv,h⟩
    ·cases hc
   ·cases hc
 case lookup t y i ok=>
  exfalso
  repeat' (first | (cases hc;done) | (split at hc))
  all_goals first | (cases hc;done) | (obtain rfl:=Option.some.inj hc;cases x <;> simp [SOp.cls] at hcl)
 case entry it=>
  exfalso
  obtain rfl:=Option.some.inj hc
  cases x <;> simp [SOp.cls] at hcl
 case next it b=>
  exfalso
  repeat' (first | (cases hc;done) | (split at hc))
  all_goals first | (cases hc;done) | (obtain rfl:=Option.some.inj hc;cases x <;> simp [SOp.cls] at hcl)
 case range t y=>
  exfalso
  repeat' (first | (cases hc;done) | (split at hc))
  all_goals first | (cases hc;done) | (obtain rfl:=Option.some.inj hc;cases x <;> simp [SOp.cls] at hcl)
 case mapEntry t m k=>
  exfalso
  repeat' (first | (cases hc;done) | (split at hc))
  all_goals first | (cases hc;done) | (obtain rfl:=Option.some.inj hc;cases x <;> simp [SOp.cls] at hcl)
 case entryStore t m i y=>
  obtain rfl:=Option.some.inj hc;cases x <;> simp [SOp.cls] at hcl
 case mapUpdate t m k y=>
  exfalso
  repeat' (first | (cases hc;done) | (split at hc))
  all_goals first | (cases hc;done) | (obtain rfl:=Option.some.inj hc;cases x <;> simp [SOp.cls] at hcl)
 case panic y=>obtain rfl:=Option.some.inj hc;cases x <;> simp [SOp.cls] at hcl
 case fieldAddr t y f=>
  split at hc
  ·rename_i fs hu
   split at hc
   ·rename_i fd hfd
    split at hc
    ·rename_i j hj
     split at hc
     ·cases hc
     ·rename_i n hn
      obtain rfl:=Option.some.inj hc
      obtain ⟨p,hy,h⟩:=getP_out hk h
      obtain ⟨ad,rfl,h⟩:=AtP_out h
      refine ⟨_,PureS.value (fun w=>?_),h⟩
      have hsz:=PureS.sizeOf (P:=P) hj w
      simp [Instr.fieldAt,run_underlying hu,hfd,hy,Instr.sureAddr,fieldPlace,hsz,hn]
    ·cases hc
   ·cases hc
  ·cases hc
 case field t y f=>
  split at hc
  ·rename_i fs hu
   split at hc
   ·rename_i fd hfd
    split at hc
    ·rename_i hag
     obtain rfl:=Option.some.inj hc
     obtain ⟨cs,hy,h⟩:=getA_out hk h
     split at h
     ·rename_i v hv
      have hv':cs[fd.offset]?=some v:=by simpa using hv
      refine ⟨v,PureS.value (fun w=>?_),h⟩
      simp [Instr.field,run_underlying hu,hfd,hy,asAgg,part,isAgg_false hag w,hv']
     ·exact h.elim
    ·rename_i j hag hj
     obtain rfl:=Option.some.inj hc
     obtain ⟨cs,hy,h⟩:=getA_out hk h
     refine ⟨_,PureS.value (fun w=>?_),h⟩
     have hsz:=PureS.sizeOf (P:=P) hj w
     have he:cs.extract fd.offset (fd.offset+j.size)=((cs.toList.drop fd.offset).take j.size).toArray:=by
      apply Array.toList_inj.1
      simp [List.take_drop]
     simp [Instr.field,run_underlying hu,hfd,hy,asAgg,part,isAgg_true hag w,hsz,he]
    ·cases hc
   ·cases hc
  ·cases hc
 case indexAddr t y ix=>
  split at hc
  ·rename_i e hu
   split at hc
   ·rename_i j hj
    obtain rfl:=Option.some.inj hc
    obtain ⟨p,n,c,hy,h⟩:=getSl_out hk h
    obtain ⟨k,m,hi,h0,h1,h⟩:=getZ_out hk h
    obtain ⟨ad,rfl,h⟩:=AtP_out h
    refine ⟨_,PureS.value (fun w=>?_),h⟩
    have hsz:=PureS.sizeOf (P:=P) hj w
    simp [Instr.indexAt,hy,hi,asIntOf,run_underlying hu,h0,h1,hsz]
   ·cases hc
  ·rename_i n e hu
   split at hc
   ·rename_i j hj h2
    simp only [decide_eq_true_eq] at h2
    obtain rfl:=Option.some.inj hc
    obtain ⟨p,hy,h⟩:=getP_out hk h
    obtain ⟨k,m,hi,h0,h1,h⟩:=getZ_out hk h
    obtain ⟨ad,rfl,h⟩:=AtP_out h
    refine ⟨_,PureS.value (fun w=>?_),h⟩
    have hsz:=PureS.sizeOf (P:=P) hj w
    simp [Instr.indexAt,hy,hi,asIntOf,run_underlying hu,h0,h1,hsz,Instr.sureAddr]
   ·cases hc
  ·cases hc
 case index t y ix=>
  split at hc
  ·rename_i hu
   obtain rfl:=Option.some.inj hc
   obtain ⟨b,hy,h⟩:=getS_out hk h
   obtain ⟨k,m,hi,h0,h1,h⟩:=getZ_out hk h
   refine ⟨_,PureS.value (fun w=>?_),h⟩
   have hlt:m.toNat<b.size:=by omega
   have hb:b[m.toNat]?=some (b[m.toNat]'hlt):=by simp [hlt]
   have hd:(b.data[m.toNat]?)=some (b[m.toNat]'hlt):=by
    have:m.toNat<b.data.size:=hlt
    rw [Array.getElem?_eq_getElem this];rfl
   simp [Instr.index,hy,hi,asIntOf,run_underlying hu,h0,hb,byteAt,hd]
  ·rename_i n e hu
   split at hc
   ·rename_i hag hsz
    split at hc
    case h_2=>cases hc
    obtain rfl:=Option.some.inj hc
    obtain ⟨cs,hy,h⟩:=getA_out hk h
    obtain ⟨k,m,hi,h0,h1,h⟩:=getZ_out hk h
    obtain ⟨v,hv,h⟩:=ExV.out h
    have hv':cs[m.toNat]?=some v:=by simpa using hv
    obtain ⟨j,hj,hj1⟩:∃ j,P.info? e=some j/\j.size=1:=by
     cases hh:P.info? e with
     | none=>simp [hh] at hsz
     | some j=>simp only [hh,Option.map_some,Option.some.injEq] at hsz;exact ⟨j,rfl,hsz⟩
    refine ⟨v,PureS.value (fun w=>?_),h⟩
    have hsz:=PureS.sizeOf (P:=P) hj w
    simp [Instr.index,hy,hi,asIntOf,run_underlying hu,h0,h1,hsz,hj1,part,isAgg_false hag w,hv']
   ·cases hc
  ·cases hc
 case extract y i=>
  obtain rfl:=Option.some.inj hc
  obtain ⟨vs,hy,h⟩:=getT_out hk h
  split at h
  ·rename_i v hv
   have hv':vs[i]?=some v:=by simpa using hv
   exact ⟨v,PureS.value (fun w=>by simp [Instr.extract,hy,hv']),h⟩
  ·exact h.elim
 case call c=>
  unfold copCall at hc
  split at hc
  ·exfalso
   repeat' (first | (cases hc;done) | (split at hc))
   all_goals first | (cases hc;done) | (obtain rfl:=Option.some.inj hc;cases x <;> simp [SOp.cls] at hcl)
  ·exfalso
   split at hc
   ·obtain rfl:=Option.some.inj hc;cases x <;> simp [SOp.cls] at hcl
   ·cases hc
  ·rename_i b hb
   obtain ⟨callee,args,argTypes⟩:=c
   simp only at hb hc ⊢
   subst hb
   split at hc
   ·
    rename_i y t ha ht
    have ea:args=#[y]:=by apply Array.toList_inj.1;simpa using ha
    have et:argTypes=#[t]:=by apply Array.toList_inj.1;simpa using ht
    subst ea;subst et
    split at hc
    ·rename_i e hu
     obtain rfl:=Option.some.inj hc
     obtain ⟨p,n,c,hy,h⟩:=getSl_out hk h
     exact ⟨_,fun w=>by simp [resolve,invoke,builtin,hy,Builtin.len_,run_underlying hu,goInt],h⟩
    ·rename_i hu
     obtain rfl:=Option.some.inj hc
     obtain ⟨b,hy,h⟩:=getS_out hk h
     exact ⟨_,fun w=>by simp [resolve,invoke,builtin,hy,Builtin.len_,run_underlying hu,goInt],h⟩
    ·rename_i n e hu
     obtain rfl:=Option.some.inj hc
     exact ⟨_,fun w=>by simp [resolve,invoke,builtin,Builtin.len_,run_underlying hu,goInt],h⟩
    ·obtain rfl:=Option.some.inj hc;cases x <;> simp [SOp.cls] at hcl
    ·cases hc
   ·
    rename_i y t ha ht
    have ea:args=#[y]:=by apply Array.toList_inj.1;simpa using ha
    have et:argTypes=#[t]:=by apply Array.toList_inj.1;simpa using ht
    subst ea;subst et
    split at hc
    ·rename_i e hu
     obtain rfl:=Option.some.inj hc
     obtain ⟨p,n,c,hy,h⟩:=getSl_out hk h
     exact ⟨_,fun w=>by simp [resolve,invoke,builtin,hy,Builtin.cap_,run_underlying hu,goInt],h⟩
    ·cases hc
   ·
    rename_i y ys t ts ha ht
    split at hc
    ·rename_i k hu
     obtain rfl:=Option.some.inj hc
     obtain ⟨m,hy,h⟩:=getI_out hk h
     obtain ⟨r,h,hp⟩:=mnx_sound (P:=P) true hk h
     have ea:args.map a.eval=(Value.int k m::ys.map a.eval).toArray:=by apply Array.toList_inj.1;simp [ha,hy]
     refine ⟨.int k r,fun w=>?_,h⟩
     have hw:=hp w
     simp only at hw
     simp [resolve,invoke,builtin,ea,Builtin.max_,hw]
    ·cases hc
   ·
    rename_i y ys t ts ha ht
    split at hc
    ·rename_i k hu
     obtain rfl:=Option.some.inj hc
     obtain ⟨m,hy,h⟩:=getI_out hk h
     obtain ⟨r,h,hp⟩:=mnx_sound (P:=P) false hk h
     have ea:args.map a.eval=(Value.int k m::ys.map a.eval).toArray:=by apply Array.toList_inj.1;simp [ha,hy]
     refine ⟨.int k r,fun w=>?_,h⟩
     have hw:=hp w
     simp only at hw
     simp [resolve,invoke,builtin,ea,Builtin.min_,hw]
    ·cases hc
   ·exfalso
    repeat' (first | (cases hc;done) | (split at hc))
    all_goals first | (cases hc;done) | (obtain rfl:=Option.some.inj hc;cases x <;> simp [SOp.cls] at hcl)
   ·exfalso
    repeat' (first | (cases hc;done) | (split at hc))
    all_goals first | (cases hc;done) | (obtain rfl:=Option.some.inj hc;cases x <;> simp [SOp.cls] at hcl)
   ·exfalso
    repeat' (first | (cases hc;done) | (split at hc))
    all_goals first | (cases hc;done) | (obtain rfl:=Option.some.inj hc;cases x <;> simp [SOp.cls] at hcl)
   ·exfalso
    repeat' (first | (cases hc;done) | (split at hc))
    all_goals first | (cases hc;done) | (obtain rfl:=Option.some.inj hc;cases x <;> simp [SOp.cls] at hcl)
   ·cases hc
  ·cases hc
end
end Go.Hx
namespace Go.Hx
section
variable {P:Program} {N:Nat} {a:Act} {s:SF} {h:Heap}
theorem oldC_out {n0:Option ZN} {h:Heap} {b:Nat} {Q:Prop} (hq:oldC n0 h b Q):Q/\∀ w w':World,w.heap=h->Agree (ZN.zone n0) w w'->w'.heap[b]?=w.heap[b]?:=by
 cases n0 with
 | none=>exact ⟨hq,fun w w' _ ha=>by rw [show w'.heap=w.heap from ha]⟩
 | some n=>
  cases n with
  | old n=>exact ⟨hq.2,fun w w' _ ha=>ha b hq.1⟩
  | wide z=>exact ⟨hq.2,fun w w' hw ha=>by subst hw;exact hq.1 _ ha⟩
theorem oldL_out {n0:Option ZN} {h:Heap} {ad:Addr} {Q:Prop} (hq:oldL n0 h ad Q):Q/\∀ w w':World,w.heap=h->Agree (ZN.zone n0) w w'->cellH w'.heap ad=cellH w.heap ad:=by
 cases n0 with
 | none=>exact ⟨hq,fun w w' _ ha=>by rw [show w'.heap=w.heap from ha]⟩
 | some n=>
  cases n with
  | old n=>exact ⟨hq.2,fun w w' _ ha=>by unfold cellH;rw [ha _ hq.1]⟩
  | wide z=>exact ⟨hq.2,fun w w' hw ha=>by subst hw;exact hq.1 _ ha⟩
theorem cellsH_at {ad:Addr}:∀ {vs:List Value} {i:Nat},cellsH h ad i vs->∀ j v,vs[j]?=some v->cellH h (ad.add (i+j))=some v
 | [],i,_,j,v,hv=>by simp at hv
 | u::vs,i,hc,j,v,hv=>by
  cases j with
  | zero=>simp at hv;subst hv;exact hc.1
  | succ j=>
   have:=cellsH_at hc.2 j v (by simpa using hv)
   rwa [show i+(j+1)=i+1+j by omega]
theorem run_load_cell {w:World} {ad:Addr} {v:Value} (hc:cellH w.heap ad=some v):(load ad).run P w=.ok v w:=by
 rw [run_load,cell_eq,hc]
theorem run_loadCells_list' {w:World} {ad:Addr} {vs:List Value} (hc:∀ j v,vs[j]?=some v->cellH w.heap (ad.add j)=some v) :
  (loadCells ad vs.length).run P w=.ok vs.toArray w:=run_loadCells_list (P:=P) (w:=w) ad vs hc
theorem ExVs_len {l:List Shp}:∀ {K:List Value->Prop},ExVs l K->∃ vs,vs.length=l.length/\K vs:=by
 induction l with
 | nil=>intro K hk;exact ⟨[],rfl,hk⟩
 | cons s r ih=>
  intro K hk
  obtain ⟨v,hk⟩:=ExV.out (show ExV s _ from hk)
  obtain ⟨vs,hl,hk⟩:=ih hk
  exact ⟨v::vs,by simp [hl],hk⟩
def KOk (P:Program) (k:TypeId):KD->Prop
 | .int i=>P.underlying k=some (.int i)
 | .string=>P.underlying k=some .string
 | .flat l=>flatS P k=some l∨flatA P k=some l
theorem keyD_out {k:TypeId} {d:KD} (h:keyD P k=some d):KOk P k d:=by
 unfold keyD at h
 split at h
 ·rename_i i hu;obtain rfl:=Option.some.inj h;exact hu
 ·rename_i hu;obtain rfl:=Option.some.inj h;exact hu
 ·obtain ⟨l,hl,rfl⟩:=Option.map_eq_some_iff.1 h;exact .inl hl
 ·obtain ⟨l,hl,rfl⟩:=Option.map_eq_some_iff.1 h;exact .inr hl
 ·cases h
theorem flatA_out {k:TypeId} {l:List Shp} (h:flatA P k=some l):∃ n e sh,P.underlying k=some (.array n e)/\scalarS P e=some sh/\(∀ w,(sizeOf e).run P w=.ok 1 w)/\l=List.replicate n sh/\(n=1∨n=2):=by
 unfold flatA at h
 split at h
 ·rename_i n e hu
  have key:∀ {sh:Shp},(P.info? e).map (·.size)=some 1->∀ w,(sizeOf e).run P w=.ok 1 w:=fun {sh} hi w=>by
   cases hie:P.info? e with
   | none=>simp [hie] at hi
   | some j=>
    simp only [hie,Option.map_some,Option.some.injEq] at hi
    have:=PureS.sizeOf hie w
    rw [hi] at this
    exact this
  split at h
  ·rename_i s _ _ h1 h2
   obtain rfl:=Option.some.inj h
   exact ⟨1,e,_,hu,h1,key (sh:=.any) h2,rfl,.inl rfl⟩
  ·rename_i s _ _ h1 h2
   obtain rfl:=Option.some.inj h
   exact ⟨2,e,_,hu,h1,key (sh:=.any) h2,rfl,.inr rfl⟩
  ·cases h
 ·cases h
theorem mapD_out {t:TypeId} {d:KD} {e:TypeId} (h:mapD P t=some (d,e)):∃ k,P.underlying t=some (.map k e)/\KOk P k d:=by
 unfold mapD at h
 split at h
 ·rename_i k e' hu
  split at h
  ·rename_i d' hk
   simp only [Option.some.injEq,Prod.mk.injEq] at h
   obtain ⟨rfl,rfl⟩:=h
   exact ⟨k,hu,keyD_out hk⟩
  ·cases h
 ·cases h
theorem forIn_unit {α:Type} {g:α->PUnit->Sem (ForInStep PUnit)} {w:World}:∀ {l:List α},(∀ f∈l,(g f ⟨⟩).run P w=.ok (.yield ⟨⟩) w)->(forIn l PUnit.unit g).run P w=.ok ⟨⟩ w
 | [],_=>by simp
 | f::l,h=>by
  rw [List.forIn_cons]
  simp only [Sem.run_bind,h f (List.mem_cons_self ..),Result.andThen_ok]
  exact forIn_unit fun f hf=>h f (List.mem_cons_of_mem _ hf)
theorem flat_out {k:TypeId} {l:List Shp} (h:flatS P k=some l):∃ fs,P.underlying k=some (.struct fs)/\P.stoodInHeld k=false/\P.eqGuardType P.depth k=false/\flatL P fs.toList 0=some l:=by
 unfold flatS at h
 split at h
 ·rename_i fs hu
  split at h
  ·rename_i h1 h2;exact ⟨fs,hu,h1,h2,h⟩
  ·cases h
 ·cases h
theorem flat_parts {cs:Array Value}:∀ {fs:List Field} {i:Nat} {l:List Shp},flatL P fs i=some l->fitB l (cs.toList.drop i)=true ->
  ∀ f ∈ fs, f.name ≠ "_" ∧ ∃ sh u, scalarS P f.type = some sh ∧ cs[f.offset]? = some u
 | [],_,_,_,_,f,hf=>by cases hf
 | f::fs,i,l,hl,hx,g,hg=>by
  simp only [flatL] at hl
  split at hl
  ·rename_i sh l' hn hsc hr
   obtain rfl:=Option.some.inj hl
   simp only [Bool.and_eq_true,bne_iff_ne,ne_eq,beq_iff_eq] at hn
   obtain ⟨u,rx,ex,hu,hx⟩:=fit_cons hx
   have hxi:cs[i]?=some u:=by
    have:=congrArg (·[0]?) ex
    simpa using this
   have dx:cs.toList.drop (i+1)=rx:=by rw [<- List.drop_drop,ex];rfl
   rcases List.mem_cons.1 hg with rfl | hg
   ·exact ⟨hn.1,sh,u,hsc,by rw [hn.2];exact hxi⟩
   ·exact flat_parts hr (by rw [dx];exact hx) g hg
  ·cases hl
theorem checkKey_scalar {n:Nat} {b:Bool} {t:TypeId} {sh:Shp} (hs:scalarS P t=some sh) (v:Value):PureS P (Instr.checkKey b (n+1) t v) ():=by
 intro w
 unfold scalarS at hs
 unfold Instr.checkKey
 split at hs
 all_goals (first | (cases hs;done) | skip)
 all_goals (rename_i hty;simp [run_underlying hty])
theorem checkKey_pure {k:TypeId} {d:KD} (hk:KOk P k d) (b:Bool) {v:Value} (hf:fitK d v=true):PureS P (Instr.checkKey b 10000 k v) ():=by
 intro w
 cases d with
 | int i=>unfold Instr.checkKey;have hk':P.underlying k=some (.int i):=hk;simp [run_underlying hk']
 | string=>unfold Instr.checkKey;have hk':P.underlying k=some .string:=hk;simp [run_underlying hk']
 | flat l=>
  rcases hk with hk | hk
  rotate_left
  ·obtain ⟨n,e,sh,hu,hsc,hsz,rfl,hn⟩:=flatA_out hk
   cases v <;> simp only [fitK] at hf <;> first | (cases hf;done) | skip
   rename_i cs
   obtain ⟨cl⟩:=cs
   rcases hn with rfl | rfl
   ·obtain ⟨u,rx,ex,hu1,hx⟩:=fit_cons hf
    simp only at ex
    subst ex
    have q0:=part_scalar (P:=P) (xs:=(u::rx).toArray) (i:=0) hsc rfl w
    have q1:=checkKey_scalar (n:=9998) (b:=b) hsc u w
    unfold Instr.checkKey
    simp [run_underlying hu,hsz w,q0,q1]
   ·obtain ⟨u,rx,ex,hu1,hx⟩:=fit_cons hf
    simp only at ex
    subst ex
    obtain ⟨u',rx',ex,hu2,hx⟩:=fit_cons hx
    subst ex
    have q0:=part_scalar (P:=P) (xs:=(u::u'::rx').toArray) (i:=0) hsc rfl w
    have q0':=part_scalar (P:=P) (xs:=(u::u'::rx').toArray) (i:=1) hsc rfl w
    have q1:=checkKey_scalar (n:=9998) (b:=b) hsc u w
    have q1':=checkKey_scalar (n:=9998) (b:=b) hsc u' w
    unfold Instr.checkKey
    simp [run_underlying hu]
    rw [show List.range' 0 2=[0,1] from rfl]
    simp only [List.toArray] at q0 q0'
    simp [hsz w,q0,q1,q0',q1']
  obtain ⟨fs,hu,_,_,hl⟩:=flat_out hk
  cases v <;> simp only [fitK] at hf <;> first | (cases hf;done) | skip
  rename_i cs
  have hp:=flat_parts (cs:=cs) hl (by simpa using hf)
  unfold Instr.checkKey
  simp only [Sem.run_bind,run_underlying hu,Result.andThen_ok,Sem.run_pure]
  rw [<- Array.forIn_toList]
  have:=forIn_unit (P:=P) (w:=w) (l:=fs.toList) (g:=fun f (_:PUnit)=>do
   if f.name ≠ "_" then
    let v <- part f.type cs f.offset
    Instr.checkKey b 9999 f.type v
    pure (ForInStep.yield PUnit.unit)
   else pure (ForInStep.yield PUnit.unit)) (fun f hf=>by
    obtain ⟨hn,sh,u,hsc,hcu⟩:=hp f hf
    rw [if_pos hn]
    simp only [Sem.run_bind,part_scalar hsc hcu w,checkKey_scalar (n:=9998) (b:=b) hsc u w,Result.andThen_ok,Sem.run_pure])
  first
   | exact this
   | (simp only [Sem.run_bind,this,Result.andThen_ok,Sem.run_pure])
   | (simp at this ⊢;exact this)
theorem eqF_iff:∀ {l:List Shp} {xs ys:List Value},fitB l xs=true->fitB l ys=true->(eqF l xs ys=true↔xs=ys)
 | [],xs,ys,hx,hy=>by
  have e:∀ {zs:List Value},fitB [] zs=true->zs=[]:=by intro zs h;cases zs;rfl;simp [fitB] at h
  simp [e hx,e hy,eqF]
 | sh::l,xs,ys,hx,hy=>by
  obtain ⟨u,rx,rfl,hu,hx⟩:=fit_cons hx
  obtain ⟨v,ry,rfl,hv,hy⟩:=fit_cons hy
  have ih:=eqF_iff hx hy
  cases sh <;> cases u <;> simp only [fitB] at hu <;> first | (cases hu;done) | skip
  all_goals (cases v <;> simp only [fitB] at hv <;> first | (cases hv;done) | skip)
  all_goals simp_all [eqF]
theorem equal_flatA {k:TypeId} {l:List Shp} (hk:flatA P k=some l) {xs ys:Array Value} (hx:fitB l xs.toList=true) (hy:fitB l ys.toList=true):PureS P (Op.equal k (.agg xs) (.agg ys)) (eqF l xs.toList ys.toList):=by
 intro w
 obtain ⟨n,e,sh,hu,hsc,hsz,rfl,hn⟩:=flatA_out hk
 obtain ⟨xl⟩:=xs
 obtain ⟨yl⟩:=ys
 show (Op.equalIn (9999+1) k (.agg ⟨xl⟩) (.agg ⟨yl⟩)).run P w=_
 rcases hn with rfl | rfl
 ·obtain ⟨u,rx,ex,hu1,hx1⟩:=fit_cons hx
  obtain ⟨v,ry,ey,hv1,hy1⟩:=fit_cons hy
  simp only at ex ey
  subst ex ey
  have e1:∀ {zs:List Value},fitB [] zs=true->zs=[]:=by intro zs h;cases zs;rfl;simp [fitB] at h
  obtain rfl:=e1 hx1
  obtain rfl:=e1 hy1
  obtain ⟨b,hb,hp⟩:=scalar_eq 9998 hsc hu1 hv1
  have q1:=part_scalar (P:=P) (xs:=[u].toArray) (i:=0) hsc rfl w
  have q2:=part_scalar (P:=P) (xs:=[v].toArray) (i:=0) hsc rfl w
  have hbe:b=eqF [sh] [u] [v]:=by
   rw [Bool.eq_iff_iff,hb,eqF_iff (l:=[sh]) (xs:=[u]) (ys:=[v]) hx hy];simp
  have h9:=hp w
  unfold Op.equalIn
  simp [run_underlying hu,hsz w,q1,q2,h9]
  rw [<- hbe]
  cases b <;> simp
 ·obtain ⟨u,rx,ex,hu1,hx1⟩:=fit_cons hx
  obtain ⟨v,ry,ey,hv1,hy1⟩:=fit_cons hy
  simp only at ex ey
  subst ex ey
  obtain ⟨u',rx',ex,hu2,hx2⟩:=fit_cons hx1
  obtain ⟨v',ry',ey,hv2,hy2⟩:=fit_cons hy1
  subst ex ey
  have e1:∀ {zs:List Value},fitB [] zs=true->zs=[]:=by intro zs h;cases zs;rfl;simp [fitB] at h
  obtain rfl:=e1 hx2
  obtain rfl:=e1 hy2
  obtain ⟨b,hb,hp⟩:=scalar_eq 9998 hsc hu1 hv1
  obtain ⟨b',hb',hp'⟩:=scalar_eq 9998 hsc hu2 hv2
  have q1:=part_scalar (P:=P) (xs:=[u,u'].toArray) (i:=0) hsc rfl w
  have q2:=part_scalar (P:=P) (xs:=[v,v'].toArray) (i:=0) hsc rfl w
  have q1':=part_scalar (P:=P) (xs:=[u,u'].toArray) (i:=1) hsc rfl w
  have q2':=part_scalar (P:=P) (xs:=[v,v'].toArray) (i:=1) hsc rfl w
  have hbe:(b && b')=eqF [sh,sh] [u,u'] [v,v']:=by
   rw [Bool.eq_iff_iff,Bool.and_eq_true,hb,hb',eqF_iff (l:=[sh,sh]) (xs:=[u,u']) (ys:=[v,v']) hx hy];simp
  have h9:=hp w
  have h9':=hp' w
  unfold Op.equalIn
  simp [run_underlying hu]
  rw [show List.range' 0 2=[0,1] from rfl]
  simp [hsz w,q1,q2,q1',q2',h9,h9']
  rw [<- hbe]
  cases b <;> cases b' <;> simp
theorem equal_flat {k:TypeId} {l:List Shp} (hk:flatS P k=some l) {xs ys:Array Value} (hx:fitB l xs.toList=true) (hy:fitB l ys.toList=true):PureS P (Op.equal k (.agg xs) (.agg ys)) (eqF l xs.toList ys.toList):=by
 obtain ⟨fs,hu,h1,h2,hl⟩:=flat_out hk
 have hfo:P.underlying k=some (.struct (P.fieldsOf k)):=by simp [Program.fieldsOf,hu]
 obtain ⟨b,hb,hp⟩:=eqFields_flat 9998 (xs:=xs) (ys:=ys) hl (by simpa using hx) (by simpa using hy)
 have:b=eqF l xs.toList ys.toList:=by
  rw [Bool.eq_iff_iff,hb,eqF_iff hx hy]
  simp
 subst this
 intro w
 have:=run_equalIn_struct w 9999 k xs ys hfo h1
 have h3:(Op.equalIn (9999+1) k (.agg xs) (.agg ys)).run P w=.ok (eqF l xs.toList ys.toList) w:=by
  rw [this,Program.fieldsOf,hu]
  exact hp w
 exact h3
theorem findS_now {d:TypeDesc} {d':KD} (hd:∀ a b,sameK d' a b=Instr.sameNow d a b) (kv:Value):∀ (es:List MapEntry) (i:Nat),findS d' kv es i=Instr.findNow d kv es i
 | [],_=>rfl
 | e::es,i=>by
  unfold findS Instr.findNow
  rw [hd]
  cases Instr.sameNow d kv e.key with
  | none=>rfl
  | some b=>cases b <;> simp only [findS_now hd kv es]
theorem findAsking_flat {k:TypeId} {l:List Shp} (hk:flatS P k=some l∨flatA P k=some l) {a:Array Value} (ha:fitB l a.toList=true) {w:World}:∀ {es:List MapEntry} {i:Nat} {r:Option (Nat×Value)},findS (.flat l) (.agg a) es i=some r ->
  (Instr.findAsking k (.agg a) es i).run P w=.ok r w
 | [],i,r,h=>by
  obtain rfl:none=r:=by simpa [findS] using h
  simp [Instr.findAsking]
 | e::es,i,r,h=>by
  unfold findS at h
  obtain ⟨ek,ev,eb⟩:=e
  simp only at h
  cases ek <;> simp only [sameK] at h <;> first | (cases h;done) | skip
  rename_i b
  cases hfb:fitB l b.toList with
  | false=>simp [hfb] at h
  | true=>
   simp only [hfb] at h
   unfold Instr.findAsking
   have heq:(Op.equal k (.agg a) (.agg b)).run P w=.ok (eqF l a.toList b.toList) w:=hk.elim (fun hk=>equal_flat hk ha hfb w) fun hk=>equal_flatA hk ha hfb w
   simp only [Sem.run_bind,heq,Result.andThen_ok]
   cases hab:eqF l a.toList b.toList with
   | true=>
    simp only [hab,Option.some.injEq] at h
    subst h
    simp
   | false=>
    simp only [hab] at h
    simp only [Bool.false_eq_true,if_false]
    exact findAsking_flat hk ha h
theorem findK_out {d:KD} {kv:Value} {es:List MapEntry} {r:Option (Nat×Value)} (hf:findK d kv es=some r):fitK d kv=true/\findS d kv es 0=some r:=by
 unfold findK at hf
 split at hf
 ·rename_i h;exact ⟨h,hf⟩
 ·cases hf
theorem findKey_pure {k:TypeId} {d:KD} {kv:Value} {es:List MapEntry} {r:Option (Nat×Value)} (hk:KOk P k d) (hf:findK d kv es=some r):PureS P (Instr.findKey k kv es) r:=by
 intro w
 obtain ⟨h1,h2⟩:=findK_out hf
 unfold Instr.findKey
 cases d with
 | int i=>
  have hk':P.underlying k=some (.int i):=hk
  rw [findS_now (d:=.int i) (fun a b=>rfl)] at h2
  simp [run_underlying hk',h2]
 | string=>
  have hk':P.underlying k=some .string:=hk
  rw [findS_now (d:=.string) (fun a b=>rfl)] at h2
  simp [run_underlying hk',h2]
 | flat l=>
  rcases hk with hk0 | hk0
  rotate_left
  ·obtain ⟨n,e',sh,hu,hsc,hsz,_,hn⟩:=flatA_out hk0
   cases kv <;> simp only [fitK] at h1 <;> first | (cases h1;done) | skip
   rename_i a
   have h3:=findAsking_flat (w:=w) (.inr hk0) h1 h2
   cases es with
   | nil=>
    obtain rfl:none=r:=by simpa [findS] using h2
    simp [run_underlying hu,Instr.findNow]
   | cons e es=>
    have:Instr.findNow (.array n e') (.agg a) (e::es) 0=none:=by unfold Instr.findNow Instr.sameNow;rfl
    simp [run_underlying hu,this,h3]
  have hk:KOk P k (.flat l):=.inl hk0
  obtain ⟨fs,hu,_,_,hl⟩:=flat_out hk0
  cases kv <;> simp only [fitK] at h1 <;> first | (cases h1;done) | skip
  rename_i a
  have h3:=findAsking_flat (w:=w) hk h1 h2
  cases es with
  | nil=>
   obtain rfl:none=r:=by simpa [findS] using h2
   simp [run_underlying hu,Instr.findNow]
  | cons e es=>
   have:Instr.findNow (.struct fs) (.agg a) (e::es) 0=none:=by unfold Instr.findNow Instr.sameNow;rfl
   simp [run_underlying hu,this,h3]
theorem read_sound {o:Oper} {op:SOp} {x:Md} {n0:Option ZN} (hc:cop P o=some op) (hcl:op.cls x=.read) (hk:Knows N a s) {K:Value->Prop} {w:World} (hr:readC n0 op s w.heap K) :
  ∃ v,(∀ w',Agree (ZN.zone n0) w w'->(execOp a.eval o).run P w'=.ok (.value v) w')/\K v:=by
 obtain ⟨dst,o,ty,pos,after,guard⟩:=o
 cases o <;> simp only [cop] at hc <;> simp only [execOp] <;> first | (cases hc;done) | skip
 case load t y=>
  split at hc
  ·rename_i z hz1 hz2
   split at hc
   ·obtain rfl:=Option.some.inj hc
    obtain ⟨p,hy,h1⟩:=getP_out hk hr
    obtain ⟨ad,rfl,h1⟩:=AtP_out h1
    obtain ⟨h1,hag⟩:=oldL_out h1
    obtain ⟨v,hcell,h1⟩:=ExV.out h1
    refine ⟨v,fun w' hw'=>?_,h1⟩
    have hcell':cellH w'.heap ad=some v:=by rw [hag w w' rfl hw'];exact hcell
    have hld:=run_load_cell (P:=P) hcell'
    simp only [Instr.loadAt,hy,Instr.sureAddr,loadVar,Sem.run_bind,Sem.run_pure,Result.andThen_ok,isAgg_false hz1 w',Bool.false_eq_true,if_false,hld]
   ·cases hc
  ·rename_i z hz1 hz2
   split at hc
   ·rename_i l n hl hn
    split at hc
    ·rename_i hln
     obtain rfl:=Option.some.inj hc
     obtain ⟨p,hy,h1⟩:=getP_out hk hr
     obtain ⟨ad,rfl,h1⟩:=AtP_out h1
     obtain ⟨h1,hag⟩:=oldC_out h1
     obtain ⟨vs,hlen,hcell,h1⟩:=ExVs_len h1
     refine ⟨.agg vs.toArray,fun w' hw'=>?_,h1⟩
     have hcell':∀ j v,vs[j]?=some v->cellH w'.heap (ad.add j)=some v:=by
      intro j v hv
      have h2:=cellsH_at hcell j v hv
      rw [Nat.zero_add] at h2
      have hb:(ad.add j).block=ad.block:=by unfold Addr.add;split <;> rfl
      unfold cellH at *
      rw [hb] at h2 ⊢
      rw [hag w w' rfl hw']
      exact h2
     have hld:=run_loadCells_list' (P:=P) hcell'
     have hsz:∃ j,P.info? t=some j/\j.size=vs.length:=by
      cases hi:P.info? t with
      | none=>simp [hi] at hn
      | some j=>
       simp only [hi,Option.map_some,Option.some.injEq] at hn
       refine ⟨j,rfl,?_⟩
       simp only [beq_iff_eq] at hln
       omega
     obtain ⟨j,hj,hjs⟩:=hsz
     have hsz:=PureS.sizeOf (P:=P) hj w'
     rw [hjs] at hsz
     simp only [Instr.loadAt,hy,Instr.sureAddr,loadVar,Sem.run_bind,Sem.run_pure,Result.andThen_ok,isAgg_true hz1 w',if_true,hsz,hld]
    ·cases hc
   ·cases hc
  ·cases hc
 case lookup t y i ok=>
  split at hc
  ·rename_i d e hd
   split at hc
   ·rename_i z hz
    obtain rfl:=Option.some.inj hc
    obtain ⟨k,hu,hk2⟩:=mapD_out hd
    obtain ⟨p,hy,h1⟩:=getM_out hk hr
    obtain ⟨kv,hi,h1⟩:=get_out hk h1
    have hzv:∀ w,(zeroValue e).run P w=.ok z w:=by
     unfold zeroOf at hz
     cases hie:P.info? e with
     | none=>simp [hie] at hz
     | some ie=>simp only [hie,Option.bind_some] at hz;exact PureS.zeroValue hie hz
    cases p with
    | none=>
     refine ⟨okN ok z,fun w' _=>?_,h1.2⟩
     have h2:=checkKey_pure hk2 true h1.1 w'
     have h3:=findKey_pure (es:=[]) (r:=none) (kv:=kv) hk2 (by unfold findK;rw [h1.1];rfl) w'
     simp only [Instr.lookup,hy,hi,Sem.run_bind,run_underlying hu,Sem.run_pure,Result.andThen_ok,h2,h3,hzv w',Array.isEmpty_empty]
     cases ok <;> rfl
    | some b=>
     have key:∀ w':World,∀ es clock r,w'.heap[b]?=some (.map es clock)->findK d kv es.toList=some r ->
       (Instr.lookup t (.map (some b)) kv ok).run P w'=.ok (match r with | none=>okN ok z | some (_,u)=>okS ok u) w':=by
      intro w' es clock r hb' hf
      have h2:=checkKey_pure hk2 es.isEmpty (findK_out hf).1 w'
      have h3:=findKey_pure hk2 hf w'
      have h4:(getObj b).run P w'=.ok (.map es clock) w':=by simp [getObj,Sem.run,hb']
      cases r with
      | none=>simp only [Instr.lookup,Sem.run_bind,run_underlying hu,Sem.run_pure,Result.andThen_ok,h4,h2,h3,hzv w'];cases ok <;> rfl
      | some ju=>simp only [Instr.lookup,Sem.run_bind,run_underlying hu,Sem.run_pure,Result.andThen_ok,h4,h2,h3];cases ok <;> rfl
     have plain:oldC n0 w.heap b (∃ es clock,w.heap[b]?=some (.map es clock)/\∃ r,findK d kv es.toList=some r/\(match r with
       | none=>K (okN ok z)
       | some (_,u)=>ExT (tshpOf z) fun v=>u=v/\K (okS ok v))) ->
       ∃ v,(∀ w',Agree (ZN.zone n0) w w'->(do let __do_lift <- Instr.lookup t (a.eval y) (a.eval i) ok;pure (Next.value __do_lift)).run P w'=.ok (.value v) w')/\K v:=by
      intro h1
      obtain ⟨⟨es,clock,hb,r,hf,h1⟩,hag⟩:=oldC_out h1
      rw [hy,hi]
      cases r with
      | none=>
       refine ⟨okN ok z,fun w' hw'=>?_,h1⟩
       have:=key w' es clock none (by rw [hag w w' rfl hw'];exact hb) hf
       simp only [Sem.run_bind,this,Result.andThen_ok,Sem.run_pure]
      | some ju=>
       obtain ⟨j,u⟩:=ju
       obtain ⟨v,rfl,h1⟩:=ExT.out h1
       refine ⟨okS ok u,fun w' hw'=>?_,h1⟩
       have:=key w' es clock _ (by rw [hag w w' rfl hw'];exact hb) hf
       simp only [Sem.run_bind,this,Result.andThen_ok,Sem.run_pure]
     cases n0 with
     | none=>exact plain h1
     | some zn=>
      cases zn with
      | old n=>exact plain h1
      | wide zn=>
       cases ok with
       | true=>exact plain h1
       | false=>
        obtain ⟨u,hl,h1⟩:=ExT.out h1
        refine ⟨u,fun w' hw'=>?_,h1⟩
        obtain ⟨es,clock,hb,r,hf,hu2⟩:=hl _ hw'
        have:=key w' es clock r hb hf
        rw [hy,hi]
        simp only [Sem.run_bind,this,Result.andThen_ok,Sem.run_pure]
        cases r with
        | none=>exact congrArg (fun v=>Result.ok (Next.value v) w') hu2
        | some ju=>exact congrArg (fun v=>Result.ok (Next.value v) w') hu2
   ·cases hc
  ·cases hc
 case call c=>
  unfold copCall at hc
  split at hc
  ·exfalso
   repeat' (first | (cases hc;done) | (split at hc))
   all_goals first | (cases hc;done) | (obtain rfl:=Option.some.inj hc;cases x <;> simp [SOp.cls] at hcl)
  ·exfalso
   split at hc
   ·obtain rfl:=Option.some.inj hc;cases x <;> simp [SOp.cls] at hcl
   ·cases hc
  ·rename_i b hb
   obtain ⟨callee,args,argTypes⟩:=c
   simp only at hb hc ⊢
   subst hb
   split at hc
   ·rename_i y t ha ht
    have ea:args=#[y]:=by apply Array.toList_inj.1;simpa using ha
    have et:argTypes=#[t]:=by apply Array.toList_inj.1;simpa using ht
    subst ea;subst et
    split at hc
    ·obtain rfl:=Option.some.inj hc;cases x <;> simp [SOp.cls] at hcl
    ·obtain rfl:=Option.some.inj hc;cases x <;> simp [SOp.cls] at hcl
    ·obtain rfl:=Option.some.inj hc;cases x <;> simp [SOp.cls] at hcl
    ·rename_i k e hu
     obtain rfl:=Option.some.inj hc
     obtain ⟨p,hy,h1⟩:=getM_out hk hr
     cases p with
     | none=>exact ⟨_,fun w' _=>by simp [resolve,invoke,builtin,hy,Builtin.len_,run_underlying hu,goInt],h1⟩
     | some b=>
      obtain ⟨⟨es,clock,hb,h1⟩,hag⟩:=oldC_out h1
      refine ⟨_,fun w' hw'=>?_,h1⟩
      have hb':w'.heap[b]?=some (.map es clock):=by rw [hag w w' rfl hw'];exact hb
      simp [resolve,invoke,builtin,hy,Builtin.len_,run_underlying hu,goInt,getObj,Sem.run,hb']
    ·cases hc
   all_goals
    exfalso
    repeat' (first | (cases hc;done) | (split at hc))
    all_goals first | (cases hc;done) | (obtain rfl:=Option.some.inj hc;cases x <;> simp [SOp.cls] at hcl)
  ·cases hc
 case binOp op' t y z yt=>
  exfalso
  unfold copBin at hc
  split at hc
  ·cases op' <;> simp only at hc <;> (repeat' (first | (cases hc;done) | (split at hc))) <;> first | (cases hc;done) | (obtain rfl:=Option.some.inj hc;cases x <;> simp [SOp.cls] at hcl)
  ·cases op' <;> simp only at hc <;> first | (cases hc;done) | (obtain rfl:=Option.some.inj hc;cases x <;> simp [SOp.cls] at hcl)
  ·cases op' <;> simp only at hc <;> first | (cases hc;done) | (obtain rfl:=Option.some.inj hc;cases x <;> simp [SOp.cls] at hcl)
  ·split at hc <;> first | (cases hc;done) | (obtain rfl:=Option.some.inj hc;cases x <;> simp [SOp.cls] at hcl)
  ·split at hc <;> first | (cases hc;done) | (obtain rfl:=Option.some.inj hc;cases x <;> simp [SOp.cls] at hcl)
 case makeMap t r=>
  exfalso
  cases r <;> simp only at hc
  ·obtain rfl:=Option.some.inj hc;cases x <;> simp [SOp.cls] at hcl
  ·cases hc
 case slice t y lo hi mx=>
  exfalso
  unfold copSlice at hc
  repeat' (first | (cases hc;done) | (split at hc))
  all_goals first | (cases hc;done) | (obtain rfl:=Option.some.inj hc;cases x <;> simp [SOp.cls] at hcl)
 all_goals
  exfalso
  repeat' (first | (cases hc;done) | (split at hc))
  all_goals first | (cases hc;done) | (obtain rfl:=Option.some.inj hc;cases x <;> simp [SOp.cls] at hcl;done) | (obtain ⟨_,_,rfl⟩:=Option.map_eq_some_iff.1 hc;cases x <;> simp [SOp.cls] at hcl;done)
theorem setCell_heap {w:World} {b k:Nat} {c:Array Value} {e:TypeId} {fr:Nat×Nat} (hb:w.heap[b]?=some (.cells c e fr)) (v:Value) :
  (w.setCell ⟨b,k,none⟩ v).heap=w.heap.setIfInBounds b (.cells (c.setIfInBounds k v) e fr):=by
 unfold World.setCell
 apply Array.ext_getElem?
 intro i
 simp only [Array.getElem?_modify]
 by_cases hi:b=i
 ·subst hi
  have hlt:=(Array.getElem?_eq_some_iff.1 hb).1
  rw [if_pos rfl,hb,Array.getElem?_setIfInBounds_self_of_lt hlt]
  rfl
 ·rw [if_neg hi,Array.getElem?_setIfInBounds_ne hi]
theorem setCell_same (w:World) (ad:Addr) (v:Value):Same w (w.setCell ad v):=⟨rfl,rfl,rfl,⟨by simp,.inl (Nat.le_refl _)⟩⟩
theorem store_run (ad:Addr) (hsp:ad.spot=none):∀ (vs:List Value) (i:Nat) (w:World) (c:Array Value) (e:TypeId) (fr:Nat×Nat),
  w.heap[ad.block]?=some (.cells c e fr)->ad.off+i+vs.length≤c.size->Loose fr (ad.off+i) vs.length->vs.all Value.oneCell'=true ->
  ∃ w',(storeCells ad vs i).run P w=.ok () w'/\Same w w'/\w'.heap=w.heap.setIfInBounds ad.block (.cells (writeL c.toList (ad.off+i) vs).toArray e fr)
 | [],i,w,c,e,fr,hb,hl,hf,ho=>by
  refine ⟨w,by simp [storeCells],.refl _,?_⟩
  rw [writeL_nil]
  apply Array.ext_getElem?
  intro j
  by_cases hj:ad.block=j
  ·subst hj
   have hlt:=(Array.getElem?_eq_some_iff.1 hb).1
   rw [Array.getElem?_setIfInBounds_self_of_lt hlt,hb]
  ·rw [Array.getElem?_setIfInBounds_ne hj]
 | v::vs,i,w,c,e,fr,hb,hl,hf,ho=>by
  simp only [List.all_cons,Bool.and_eq_true] at ho
  simp only [List.length_cons] at hl hf
  have hadd:ad.add i=⟨ad.block,ad.off+i,none⟩:=by
   obtain ⟨b,o,sp⟩:=ad
   simp only at hsp
   subst hsp
   unfold Addr.add
   split <;> simp_all
  have hlt:=(Array.getElem?_eq_some_iff.1 hb).1
  have hoff:ad.off+i<c.size:=by omega
  have hcell:w.cell? ⟨ad.block,ad.off+i,none⟩=some (c[ad.off+i]'hoff):=by
   simp [World.cell?,hb,hoff]
  have hfz:w.frozen? ⟨ad.block,ad.off+i,none⟩=false:=by
   have:=hf (ad.off+i) (Nat.le_refl _) (by omega)
   simp only [World.frozen?,hb]
   obtain ⟨lo,hi⟩:=fr
   simp only at this ⊢
   by_cases h1:lo≤ad.off+i
   ·have h2:¬ ad.off+i<hi:=fun h2=>this ⟨h1,h2⟩
    simp [h2]
   ·simp [h1]
  have hst:(store (ad.add i) v).run P w=.ok () (w.setCell ⟨ad.block,ad.off+i,none⟩ v):=by
   rw [hadd,run_store P w _ v .plain ho.1,hcell]
   simp [hfz]
  have hheap:=setCell_heap (k:=ad.off+i) hb v
  obtain ⟨w',hr,hs,hh⟩:=store_run ad hsp vs (i+1) (w.setCell ⟨ad.block,ad.off+i,none⟩ v) (c.setIfInBounds (ad.off+i) v) e fr
   (by rw [hheap,Array.getElem?_setIfInBounds_self_of_lt hlt]) (by simp;omega) (fun j h1 h2=>hf j (by omega) (by omega)) ho.2
  refine ⟨w',by simp [storeCells,hst,hr],(setCell_same ..).trans hs,?_⟩
  rw [hh,hheap]
  have:(writeL (c.setIfInBounds (ad.off+i) v).toList (ad.off+(i+1)) vs)=writeL c.toList (ad.off+i) (v::vs):=by
   rw [writeL_cons _ _ _ _ (by simpa using hoff)]
   simp [Nat.add_assoc]
  rw [this]
  apply Array.ext_getElem?
  intro j
  by_cases hj:ad.block=j
  ·subst hj
   rw [Array.getElem?_setIfInBounds_self_of_lt (by simpa using hlt),Array.getElem?_setIfInBounds_self_of_lt hlt]
  ·rw [Array.getElem?_setIfInBounds_ne hj,Array.getElem?_setIfInBounds_ne hj,Array.getElem?_setIfInBounds_ne hj]
theorem store_sem {ad:Addr} {vs:List Value} {K:Heap->Prop} (hs:StoreH h ad vs K):SemH P (storeCells ad vs) h fun _ h'=>K h':=by
 intro w hw
 unfold StoreH at hs
 split at hs
 ·exact ⟨(),w,by simp [storeCells],.refl _,hw▸hs⟩
 ·obtain ⟨h1,c,e,fr,hb,hsp,hl,hf,hK⟩:=hs
  obtain ⟨w',hr,hsm,hh⟩:=store_run (P:=P) ad hsp vs 0 w c e fr (by rw [hw];exact hb) (by omega) (by simpa using hf) h1
  refine ⟨(),w',hr,hsm,?_⟩
  rw [hh,hw]
  exact hK
end
end Go.Hx
