/- Words and facts that the claim's proof leans on. No condition. -/
import Derived.Test.YtobageabpfkpcaaHxI
import Derived.DataElems
import Derived.ChangeSlices
import Derived.Deep.Grids
import Derived.SizedLaws
import Derived.Below
import Derived.Carry
namespace Go.Hx
def AppS (h:Heap) (a:Option Addr) (n c:Nat) (e:TypeId) (bytes sz:Nat) (z:Array Value) (ys:List Value) (m:Nat) (K:Option Addr->Nat->Nat->Heap->Prop):Prop:=
 (n+m≤c->match a with
  | none=>K none (n+m) c h
  | some ad=>StoreH h (ad.add (n*sz)) ys fun h'=>K (some ad) (n+m) c h') /\
 (c<n+m->(n+m)*bytes≤140737488355328/\∃ xs,ReadL h a xs/\xs.length=n*sz /\
  ∀ cap,n+m≤cap->K (some ⟨h.size,0,none⟩) (n+m) cap (h.push (.cells (xs++ys++zeroRow z ((cap-(n+m))*sz)).toArray e)))
def CpyH (h:Heap) (a:Option Addr) (ys:List Value) (K:Heap->Prop):Prop:=
 match a with
 | none=>K h
 | some ad=>StoreH h ad ys K
theorem CpyH.some {h:Heap} {ad:Addr} {ys:List Value} {K:Heap->Prop} (hs:StoreH h ad ys K):CpyH h (some ad) ys K:=hs
def CallV (P:Program) (f:Value) (vs:List Value) (h:Heap) (K:Value->Heap->Prop):Prop:=
 match f with
 | .func (.func g) first cap=>callOkP P g/\CallsH P g (first++vs.toArray++cap) h K
 | _=>False
def MapLook (d:KD) (kv:Value) (h:Heap) (r n0:Option Nat) (A:Prop) (B:Value->Prop):Prop:=
 match r with
 | none=>fitK d kv=true/\A
 | some b=>oldC (n0.map ZN.old) h b (∃ es clock,h[b]?=some (.map es clock)/\∃ r,findK d kv es.toList=some r/\(match r with
  | none=>A
  | some (_,u)=>B u))
def MapPut (d:KD) (kv u:Value) (h:Heap) (r:Option Nat) (K:Heap->Prop):Prop:=
 match r with
 | none=>False
 | some b=>∃ es clock,h[b]?=some (.map es clock)/\∃ r,findK d kv es.toList=some r/\(match r with
  | none=>K (h.setIfInBounds b (.map (es.push { key:=kv,val:=u,born:=clock }) (clock+1)))
  | some (j,_)=>Instr.sameBits 10000 (((es[j]?).map (·.key)).getD kv) kv=true/\K (h.setIfInBounds b (.map (es.modify j fun e=>{ e with key:=kv,val:=u }) clock)))
def MapDel (d:KD) (kv:Value) (h:Heap) (r:Option Nat) (K:Heap->Prop):Prop:=
 match r with
 | none=>fitK d kv=true/\K h
 | some b=>∃ es clock,h[b]?=some (.map es clock)/\∃ r,findK d kv es.toList=some r/\(match r with
  | none=>K (h.setIfInBounds b (.map es clock))
  | some (j,_)=>K (h.setIfInBounds b (.map (es.eraseIdxIfInBounds j) clock)))
def MapLen (n0:Option ZN) (h:Heap) (r:Option Nat) (K:Int->Prop):Prop:=
 match r with
 | none=>K 0
 | some b=>oldC n0 h b (∃ es clock,h[b]?=some (.map es clock)/\K es.size)
def MapRange (h:Heap) (r:Option Nat) (K:Heap->Prop):Prop:=
 match r with
 | none=>K (h.push (.mapIter none 0 #[] 0))
 | some b=>∃ es clock,h[b]?=some (.map es clock)/\K (h.push (.mapIter (some b) clock #[] clock))
end Go.Hx
set_option linter.unusedVariables false
set_option linter.unusedSimpArgs false
namespace Go.Hx
theorem w64 {x:Int} (h1:-9223372036854775808≤x) (h2:x≤9223372036854775807):IntKind.wrap .i64 x=x:=by rw [IntKind.wrap_i64];omega
def Ret (v:Value) (h:Heap):Value->Heap->Prop:=fun u h'=>u=v/\h'=h
theorem use {P:Program} {f:FuncId} {args:Array Value} {h:Heap} {v:Value} {R:Value->Heap->Prop} (c:CallsH P f args h (Ret v h)) (hk:R v h):CallsH P f args h R:=
 c.mono fun _ _ ⟨h1,h2⟩=>h1▸h2▸hk
theorem BIf.t {A B:Prop} (h:A):BIf true A B:=h
theorem BIf.f {A B:Prop} (h:B):BIf false A B:=h
def Upd (S:Nat->Prop) (h h':Heap):Prop:=h.size≤h'.size/\∀ b,b<h.size->¬ S b->h'[b]?=h[b]?
def nob:Nat->Prop:=fun _=>False
abbrev Ext (h h':Heap):Prop:=Upd nob h h'
def atb (a:Option Addr):Nat->Prop:=fun b=>∃ ad,a=some ad/\b=ad.block
theorem Upd.refl {S:Nat->Prop} (h:Heap):Upd S h h:=⟨Nat.le_refl _,fun _ _ _=>rfl⟩
theorem Upd.trans {S:Nat->Prop} {a b c:Heap} (h:Upd S a b) (k:Upd S b c):Upd S a c:=
 ⟨Nat.le_trans h.1 k.1,fun i hi hs=>(k.2 i (Nat.lt_of_lt_of_le hi h.1) hs).trans (h.2 i hi hs)⟩
theorem Upd.mono {S T:Nat->Prop} {a b:Heap} (h:Upd S a b) (hs:∀ i,i<a.size->S i->T i):Upd T a b:=⟨h.1,fun i hi ht=>h.2 i hi fun s=>ht (hs i hi s)⟩
theorem Upd.wide {S:Nat->Prop} {a b:Heap} (h:Ext a b):Upd S a b:=h.mono fun _ _ h=>h.elim
theorem Upd.newer {S T:Nat->Prop} {a b c:Heap} (h:Upd S a b) (k:Upd T b c) (hn:∀ i,i<a.size->T i->S i):Upd S a c:=
 ⟨Nat.le_trans h.1 k.1,fun i hi hs=>(k.2 i (Nat.lt_of_lt_of_le hi h.1) fun t=>hs (hn i hi t)).trans (h.2 i hi hs)⟩
theorem Ext.push (h:Heap) (o:Obj):Ext h (h.push o):=⟨by simp,fun b hb _=>by simp [Array.getElem?_push,Nat.ne_of_lt hb]⟩
theorem cellH_lt {h:Heap} {a:Addr} {v:Value} (hc:cellH h a=some v):a.block<h.size:=by
 unfold cellH at hc
 cases hb:h[a.block]? with
 | none=>simp [hb] at hc
 | some o=>exact (Array.getElem?_eq_some_iff.1 hb).1
theorem cellH_congr {h h':Heap} {a:Addr} (hb:h'[a.block]?=h[a.block]?):cellH h' a=cellH h a:=by unfold cellH;rw [hb]
theorem Upd.cell {S:Nat->Prop} {h h':Heap} {a:Addr} {v:Value} (u:Upd S h h') (hs:¬ S a.block) (hc:cellH h a=some v):cellH h' a=some v:=by
 rw [cellH_congr (u.2 _ (cellH_lt hc) hs)];exact hc
theorem Ext.cell {h h':Heap} {a:Addr} {v:Value} (u:Ext h h') (hc:cellH h a=some v):cellH h' a=some v:=Upd.cell u (fun h=>h) hc
@[simp] theorem add_block (a:Addr) (n:Nat):(a.add n).block=a.block:=by unfold Addr.add;split <;> rfl
theorem Upd.readL {S:Nat->Prop} {h h':Heap} {a:Option Addr} {vs:List Value} (u:Upd S h h') (hs:∀ ad,a=some ad->¬ S ad.block) (hr:ReadL h a vs):ReadL h' a vs:=by
 cases a with
 | none=>exact hr
 | some ad=>exact fun i v hv=>u.cell (by rw [add_block];exact hs ad rfl) (hr i v hv)
theorem Ext.readL {h h':Heap} {a:Option Addr} {vs:List Value} (u:Ext h h') (hr:ReadL h a vs):ReadL h' a vs:=Upd.readL u (fun _ _ h=>h) hr
structure Rd (h:Heap) (a:Option Addr) (n:Nat) (vs:List Value):Prop where
 read:ReadL h a vs
 len:vs.length=n
theorem Rd.upd {S:Nat->Prop} {h h':Heap} {a:Option Addr} {n:Nat} {vs:List Value} (r:Rd h a n vs) (u:Upd S h h') (hs:∀ ad,a=some ad->¬ S ad.block):Rd h' a n vs:=⟨u.readL hs r.read,r.len⟩
theorem Rd.ext {h h':Heap} {a:Option Addr} {n:Nat} {vs:List Value} (r:Rd h a n vs) (u:Ext h h'):Rd h' a n vs:=⟨Ext.readL u r.read,r.len⟩
theorem Rd.nil {h:Heap} {a:Option Addr}:Rd h a 0 []:=⟨by cases a;exact rfl;intro i v hv;simp at hv,rfl⟩
theorem Rd.some {h:Heap} {a:Option Addr} {n:Nat} {vs:List Value} (r:Rd h a n vs) (hn:0<n):∃ ad,a=.some ad:=by
 cases a with
 | some ad=>exact ⟨ad,rfl⟩
 | none=>have:=r.len;rw [show vs=[] from r.read] at this;simp at this;omega
theorem Rd.at {h:Heap} {a:Option Addr} {n:Nat} {vs:List Value} (r:Rd h a n vs) {i:Nat} {v:Value} (hv:vs[i]?=.some v):AtP a fun ad=>cellH h (ad.add i)=.some v:=by
 cases a with
 | none=>rw [show vs=[] from r.read] at hv;simp at hv
 | some ad=>exact r.read i v hv
theorem Rd.cut {h:Heap} {ad:Addr} {n:Nat} {vs:List Value} (r:Rd h (.some ad) n vs) (l m:Nat) (hm:l+m≤n):Rd h (.some (ad.add l)) m ((vs.drop l).take m):=by
 have hlen:=r.len
 refine ⟨fun i v hv=>?_,by simp;omega⟩
 have hi:i<m:=by
  have:=(List.getElem?_eq_some_iff.1 hv).1
  simp at this;omega
 rw [Addr.add_add]
 refine r.read (l+i) v ?_
 simpa [List.getElem?_take,hi,List.getElem?_drop] using hv
theorem Rd.take {h:Heap} {a:Option Addr} {n:Nat} {vs:List Value} (r:Rd h a n vs) (m:Nat) (hm:m≤n):Rd h a m (vs.take m):=by
 have hlen:=r.len
 refine ⟨?_,by simp;omega⟩
 cases a with
 | none=>have:=r.read;simp only [ReadL] at this ⊢;rw [this];simp
 | some ad=>
  intro i v hv
  refine r.read i v ?_
  have hi:=(List.getElem?_eq_some_iff.1 hv).1
  simp at hi
  rw [List.getElem?_take_of_lt (by omega)] at hv
  exact hv
theorem Rd.cutA {h:Heap} {a:Option Addr} {n c sz:Nat} {vs:List Value} (r:Rd h a n vs) (l m:Nat) (hm:l*sz+m≤n) (hc:n≤c*sz):Rd h (cutA sz a c l) m ((vs.drop (l*sz)).take m):=by
 unfold Hx.cutA
 split
 ·rename_i hcl
  have:m=0:=by rw [hcl] at hc;omega
  subst this
  rw [List.take_zero];exact .nil
 ·cases a with
  | none=>
   have hv:vs=[]:=r.read
   have:=r.len
   subst hv
   simp at this
   have:m=0:=by omega
   subst this
   simp only [List.drop_nil,List.take_nil]
   exact .nil
  | some ad=>exact r.cut _ _ hm
def MemOk (sz:Nat) (h:Heap) (a:Option Addr) (c:Nat):Prop:=
 match a with
 | none=>c=0
 | some ad=>ad.spot=none/\∃ (cs:Array Value) (e:TypeId) (fr:Nat×Nat),h[ad.block]?=some (.cells cs e fr)/\ad.off+c*sz≤cs.size/\Loose fr ad.off (c*sz)
theorem loose0 (off n:Nat):Loose (0,0) off n:=fun i _ _ hi=>by simp at hi
theorem Loose.sub {fr:Nat×Nat} {off n off' n':Nat} (h:Loose fr off n) (h1:off≤off') (h2:off'+n'≤off+n):Loose fr off' n':=fun i hi hj=>h i (by omega) (by omega)
structure Own (sz:Nat) (h:Heap) (a:Option Addr) (n c:Nat) (vs:List Value):Prop where
 rd:Rd h a (n*sz) vs
 cap:n≤c
 mem:MemOk sz h a c
theorem Own.upd {S:Nat->Prop} {sz:Nat} {h h':Heap} {a:Option Addr} {n c:Nat} {vs:List Value} (o:Own sz h a n c vs) (u:Upd S h h') (hs:∀ ad,a=some ad->¬ S ad.block):Own sz h' a n c vs:=by
 refine ⟨o.rd.upd u hs,o.cap,?_⟩
 cases a with
 | none=>exact o.mem
 | some ad=>
  obtain ⟨hsp,cs,e,fr,hb,hle⟩:=o.mem
  exact ⟨hsp,cs,e,fr,by rw [u.2 _ (Array.getElem?_eq_some_iff.1 hb).1 (hs ad rfl)];exact hb,hle⟩
theorem Own.ext {sz:Nat} {h h':Heap} {a:Option Addr} {n c:Nat} {vs:List Value} (o:Own sz h a n c vs) (u:Ext h h'):Own sz h' a n c vs:=o.upd u fun _ _ h=>h
theorem Own.take {sz:Nat} {h:Heap} {a:Option Addr} {n c:Nat} {vs:List Value} (o:Own sz h a n c vs) {m:Nat} (hm:m≤n):Own sz h a m c (vs.take (m*sz)):=
 ⟨o.rd.take _ (Nat.mul_le_mul_right _ hm),Nat.le_trans hm o.cap,o.mem⟩
theorem Own.nil {sz:Nat} {h:Heap}:Own sz h none 0 0 []:=⟨by rw [Nat.zero_mul];exact .nil,Nat.le_refl _,rfl⟩
theorem Own.lt {sz:Nat} {h:Heap} {ad:Addr} {n c:Nat} {vs:List Value} (o:Own sz h (some ad) n c vs):ad.block<h.size:=by
 obtain ⟨_,cs,e,fr,hb,_⟩:=o.mem
 exact (Array.getElem?_eq_some_iff.1 hb).1
theorem push_at (h:Heap) (o:Obj):(h.push o)[h.size]?=some o:=by simp
theorem cellH_row {h:Heap} {ad:Addr} {cs:Array Value} {e:TypeId} {fr:Nat×Nat} (hb:h[ad.block]?=some (.cells cs e fr)) (hs:ad.spot=none) (i:Nat):cellH h (ad.add i)=cs[ad.off+i]?:=by
 unfold cellH
 rw [add_block,hb]
 by_cases h0:i=0
 ·subst h0;simp [Addr.add,hs]
 ·simp [Addr.add,h0]
theorem Own.push {sz:Nat} (h:Heap) (l:List Value) (e:TypeId) (n c:Nat) (hn:n≤c) (hc:c*sz≤l.length):Own sz (h.push (.cells l.toArray e)) (some ⟨h.size,0,none⟩) n c (l.take (n*sz)):=by
 have hle:n*sz≤c*sz:=Nat.mul_le_mul_right _ hn
 refine ⟨⟨fun i v hv=>?_,by simp;omega⟩,hn,rfl,l.toArray,e,(0,0),push_at _ _,by simpa using hc,loose0 _ _⟩
 rw [cellH_row (push_at h _) rfl]
 have hi:=(List.getElem?_eq_some_iff.1 hv).1
 simp at hi
 rw [List.getElem?_take_of_lt (by omega)] at hv
 simpa using hv
theorem getElem?_writeL {c vs:List Value} {off:Nat} (hl:off+vs.length≤c.length) (i:Nat) :
  (writeL c off vs)[i]?=if off≤i/\i<off+vs.length then vs[i-off]? else c[i]?:=by
 unfold writeL
 rcases Nat.lt_or_ge i off with h1 | h1
 ·rw [List.getElem?_append_left (by simp;omega),List.getElem?_take_of_lt h1,if_neg (by omega)]
 ·rw [List.getElem?_append_right (by simp;omega)]
  have e1:(c.take off).length=off:=by simp;omega
  rw [e1]
  rcases Nat.lt_or_ge i (off+vs.length) with h2 | h2
  ·rw [List.getElem?_append_left (by omega),if_pos ⟨h1,h2⟩]
  ·rw [List.getElem?_append_right (by omega),if_neg (by omega),List.getElem?_drop]
   congr 1
   omega
theorem set_at {h:Heap} {b:Nat} (hb:b<h.size) (o:Obj):(h.setIfInBounds b o)[b]?=some o:=by simp [hb]
theorem set_upd (h:Heap) (b:Nat) (o:Obj):Upd (fun i=>i=b) h (h.setIfInBounds b o):=
 ⟨by simp,fun i _ hi=>by rw [Array.getElem?_setIfInBounds_ne (fun e=>hi e.symm)]⟩
theorem Own.write {sz:Nat} {h:Heap} {ad:Addr} {n c:Nat} {vs:List Value} (o:Own sz h (some ad) n c vs) (off:Nat) (ws:List Value) (hl:off+ws.length≤c*sz) (h1:∀ w∈ws,w.oneCell'=true)
  {K:Heap->Prop} (hK:∀ h',Upd (fun i=>i=ad.block) h h'->(∀ m us,us.length=m*sz->m≤c->(∀ i,i<m*sz->us[i]?=if off≤i/\i<off+ws.length then ws[i-off]? else vs[i]?)->Own sz h' (some ad) m c us)->K h') :
  StoreH h (ad.add off) ws K:=by
 obtain ⟨hsp,cs,e,fr,hb,hle,hlo⟩:=o.mem
 have hblt:=(Array.getElem?_eq_some_iff.1 hb).1
 cases ws with
 | nil=>
  refine hK h (.refl _) fun m us hus hm hval=>?_
  refine ⟨⟨fun i v hv=>?_,hus⟩,hm,hsp,cs,e,fr,hb,hle,hlo⟩
  have hi:=(List.getElem?_eq_some_iff.1 hv).1
  have:=hval i (by omega)
  rw [if_neg (by simp only [List.length_nil];omega),hv] at this
  exact o.rd.read i v this.symm
 | cons w0 ws0=>
  have hadoff:(ad.add off).off=ad.off+off:=by unfold Addr.add;split <;> simp_all
  have hadsp:(ad.add off).spot=none:=by unfold Addr.add;split <;> simp_all
  have hlen:(ad.off+off)+(w0::ws0).length≤cs.toList.length:=by have:cs.toList.length=cs.size:=Array.length_toList;omega
  show (w0::ws0).all Value.oneCell'=true/\_
  refine ⟨by simpa [List.all_eq_true] using h1,cs,e,fr,by rw [add_block];exact hb,hadsp,by rw [hadoff];simpa using hlen,by rw [hadoff];exact hlo.sub (by omega) (by omega),?_⟩
  rw [add_block,hadoff]
  refine hK _ (set_upd _ _ _) fun m us hus hm hval=>?_
  have hsz:ad.off+c*sz≤(writeL cs.toList (ad.off+off) (w0::ws0)).toArray.size:=by
   rw [List.size_toArray,writeL_length _ _ _ hlen,Array.length_toList];exact hle
  refine ⟨⟨fun i v hv=>?_,hus⟩,hm,hsp,_,e,fr,set_at hblt _,hsz,hlo⟩
  have hi:=(List.getElem?_eq_some_iff.1 hv).1
  have hms:m*sz≤c*sz:=Nat.mul_le_mul_right _ hm
  have h2:=hval i (by omega)
  rw [cellH_row (set_at hblt _) hsp,List.getElem?_toArray,getElem?_writeL hlen]
  rw [hv] at h2
  by_cases hin:off≤i/\i<off+(w0::ws0).length
  ·rw [if_pos hin] at h2
   rw [if_pos (by omega),show ad.off+i-(ad.off+off)=i-off by omega]
   exact h2.symm
  ·rw [if_neg hin] at h2
   rw [if_neg (by omega)]
   have h3:=o.rd.read i v h2.symm
   rw [cellH_row hb hsp] at h3
   simpa using h3
theorem Own.set1 {h:Heap} {a:Option Addr} {n c:Nat} {vs:List Value} (o:Own 1 h a n c vs) {j:Int} (h0:0≤j) (hj:j<(n:Nat)) {v:Value} (h1:v.oneCell'=true)
  {K:Heap->Prop} (hK:∀ h',Upd (atb a) h h'->Own 1 h' a n c (vs.set j.toNat v)->K h'):AtP a fun ad=>StoreH h (ad.add (j.toNat*1)) [v] K:=by
 cases a with
 | none=>have:c=0:=o.mem;have:=o.cap;omega
 | some ad=>
  have hcap:=o.cap
  have hlen:=o.rd.len
  refine o.write (j.toNat*1) [v] (by simp;omega) (by simpa using h1) fun h' u hw=>hK h' (u.mono fun i _ hi=>⟨ad,rfl,hi⟩) (hw n _ (by simpa using hlen) hcap fun i hi=>?_)
  simp only [Nat.mul_one,List.length_cons,List.length_nil,Nat.zero_add] at *
  by_cases hij:j.toNat=i
  ·subst hij
   rw [if_pos (by omega),List.getElem?_set_self (by omega),Nat.sub_self];rfl
  ·rw [if_neg (by omega),List.getElem?_set_ne hij]
theorem AppS.own {sz:Nat} {h:Heap} {a:Option Addr} {n c:Nat} {vs:List Value} (o:Own sz h a n c vs) {e:TypeId} {bytes:Nat} {z:Array Value} {ys:List Value} {m:Nat}
  (hy:ys.length=m*sz) (h1:∀ y∈ys,y.oneCell'=true) (hb:(n+m)*bytes≤140737488355328) {K:Option Addr->Nat->Nat->Heap->Prop}
  (hK:∀ a' c' h',Own sz h' a' (n+m) c' (vs++ys)->Upd (atb a) h h'->(a'=a∨∃ ad,a'=some ad/\h.size≤ad.block)->K a' (n+m) c' h'):AppS h a n c e bytes sz z ys m K:=by
 have hlen:=o.rd.len
 refine ⟨fun hle=>?_,fun hgt=>⟨hb,vs,o.rd.read,hlen,fun cap hcap=>?_⟩⟩
 ·cases a with
  | none=>
   have hc:c=0:=o.mem
   have hm:m=0:=by omega
   have hn:n=0:=by omega
   subst hm hn
   rw [Nat.zero_mul] at hy hlen
   rw [List.length_eq_zero_iff] at hy hlen
   subst hy hlen
   exact hK none c h (by subst hc;exact .nil) (.refl _) (.inl rfl)
  | some ad=>
   refine o.write (n*sz) ys (by rw [hy,<- Nat.add_mul];exact Nat.mul_le_mul_right _ hle) h1 fun h' u hw=>?_
   refine hK (some ad) c h' (hw (n+m) _ (by rw [List.length_append,hlen,hy,Nat.add_mul]) hle fun i hi=>?_) (u.mono fun i _ hi=>⟨ad,rfl,hi⟩) (.inl rfl)
   rw [Nat.add_mul] at hi
   by_cases hin:n*sz≤i
   ·rw [if_pos ⟨hin,by omega⟩,List.getElem?_append_right (by omega),hlen]
   ·rw [if_neg (by omega),List.getElem?_append_left (by omega)]
 ·refine hK _ cap _ ?_ (Upd.wide (Ext.push _ _)) (.inr ⟨_,rfl,Nat.le_refl _⟩)
  have hzl:(zeroRow z ((cap-(n+m))*sz)).length=(cap-(n+m))*sz:=zeroRow_len _ _
  have hlt:(vs++ys++zeroRow z ((cap-(n+m))*sz)).length=cap*sz:=by
   rw [List.length_append,List.length_append,hlen,hy,hzl,<- Nat.add_mul,<- Nat.add_mul]
   congr 1
   omega
  have:=Own.push (sz:=sz) h (vs++ys++zeroRow z ((cap-(n+m))*sz)) e (n+m) cap hcap (by omega)
  rw [List.take_append_of_le_length (by rw [List.length_append,hlen,hy,Nat.add_mul];omega),List.take_of_length_le (by rw [List.length_append,hlen,hy,Nat.add_mul];omega)] at this
  exact this
structure Fr (h0:Heap) (sz:Nat) (h:Heap) (a:Option Addr) (n c:Nat) (vs:List Value):Prop where
 own:Own sz h a n c vs
 new:∀ ad,a=some ad->h0.size≤ad.block
 ext:Ext h0 h
theorem Fr.upd {h0:Heap} {sz:Nat} {h h':Heap} {a:Option Addr} {n c:Nat} {vs:List Value} (f:Fr h0 sz h a n c vs) (u:Ext h h'):Fr h0 sz h' a n c vs:=⟨f.own.ext u,f.new,f.ext.trans u⟩
theorem Fr.nil {h0 h:Heap} {sz:Nat} (u:Ext h0 h):Fr h0 sz h none 0 0 []:=⟨.nil,(fun _ h=>by cases h),u⟩
theorem Fr.push {h0:Heap} {sz:Nat} {h:Heap} (u:Ext h0 h) (l:List Value) (e:TypeId) (n c:Nat) (hn:n≤c) (hc:c*sz≤l.length) :
  Fr h0 sz (h.push (.cells l.toArray e)) (some ⟨h.size,0,none⟩) n c (l.take (n*sz)):=
 ⟨Own.push h l e n c hn hc,(fun ad ha=>by cases ha;exact u.1),u.trans (Ext.push _ _)⟩
theorem Fr.ext_of {h0 h h':Heap} {a:Option Addr} (u:Ext h0 h) (hn:∀ ad,a=some ad->h0.size≤ad.block) (k:Upd (atb a) h h'):Ext h0 h':=
 u.newer k fun i hi ⟨ad,ha,hb⟩=>by have:=hn ad ha;omega
theorem Fr.app {h0:Heap} {sz:Nat} {h:Heap} {a:Option Addr} {n c:Nat} {vs:List Value} (f:Fr h0 sz h a n c vs) {e:TypeId} {bytes:Nat} {z:Array Value} {ys:List Value} {m:Nat}
  (hy:ys.length=m*sz) (h1:∀ y∈ys,y.oneCell'=true) (hb:(n+m)*bytes≤140737488355328) {K:Option Addr->Nat->Nat->Heap->Prop}
  (hK:∀ a' c' h',Fr h0 sz h' a' (n+m) c' (vs++ys)->Upd (atb a) h h'->(a'=a∨∃ ad,a'=some ad/\h.size≤ad.block)->K a' (n+m) c' h'):AppS h a n c e bytes sz z ys m K:=
 AppS.own f.own hy h1 hb fun a' c' h' o u hor=>hK a' c' h' ⟨o,(fun ad ha=>by
  rcases hor with rfl | ⟨ad',h2,h3⟩
  ·exact f.new ad ha
  ·rw [h2] at ha;cases ha;exact Nat.le_trans f.ext.1 h3),Fr.ext_of f.ext f.new u⟩ u hor
theorem Fr.set1 {h0 h:Heap} {a:Option Addr} {n c:Nat} {vs:List Value} (f:Fr h0 1 h a n c vs) {j:Int} (hj0:0≤j) (hj:j<(n:Nat)) {v:Value} (h1:v.oneCell'=true)
  {K:Heap->Prop} (hK:∀ h',Upd (atb a) h h'->Fr h0 1 h' a n c (vs.set j.toNat v)->K h'):AtP a fun ad=>StoreH h (ad.add (j.toNat*1)) [v] K:=
 f.own.set1 hj0 hj h1 fun h' u o=>hK h' u ⟨o,f.new,Fr.ext_of f.ext f.new u⟩
abbrev ints (l:List Int):List Value:=l.map (Value.int .i64)
abbrev bools (l:List Bool):List Value:=l.map Value.bool
theorem ints_one {l:List Int}:∀ y∈ints l,y.oneCell'=true:=by intro y hy;obtain ⟨x,_,rfl⟩:=List.mem_map.1 hy;rfl
theorem map_at {α:Type} {f:α->Value} {l:List α} {i:Nat} (hi:i<l.length):(l.map f)[i]?=some (f l[i]):=by simp [hi]
theorem Rd.geti {α:Type} {f:α->Value} {h:Heap} {a:Option Addr} {n:Nat} {l:List α} (r:Rd h a n (l.map f)) {j:Int} (h0:0≤j) (hj:j<(n:Nat)) {K:Addr->Prop}
  (hK:∀ ad (hl:j.toNat<l.length),cellH h (ad.add (j.toNat*1))=.some (f l[j.toNat])->K ad):AtP a K:=by
 have hlen:=r.len
 rw [List.length_map] at hlen
 have hl:j.toNat<l.length:=by omega
 have:=r.at (map_at (f:=f) hl)
 cases a with
 | none=>exact this.elim
 | some ad=>exact hK ad hl (by rw [Nat.mul_one];exact this)
theorem CallV.func {P:Program} {g:FuncId} {vs:List Value} {h:Heap} {K:Value->Heap->Prop} (hg:callOk P g=true) (hc:CallsH P g vs.toArray h K):CallV P (.func (.func g) #[] #[]) vs h K:=
 ⟨hg,by rw [Array.empty_append,Array.append_empty];exact hc⟩
theorem n1 (n:Nat):n=n*1:=(Nat.mul_one n).symm
theorem Fr.rd {h0:Heap} {h:Heap} {a:Option Addr} {n c:Nat} {vs:List Value} (f:Fr h0 1 h a n c vs):Rd h a n vs:=by
 have:=f.own.rd;rwa [Nat.mul_one] at this
theorem Fr.lit {h0 h:Heap} (u:Ext h0 h) (l:List Value) (e:TypeId) (n:Nat) (hn:l.length=n):Fr h0 1 (h.push (.cells l.toArray e)) (some ⟨h.size,0,none⟩) n n l:=by
 have:=Fr.push (sz:=1) u l e n n (Nat.le_refl _) (by omega)
 rwa [List.take_of_length_le (by omega)] at this
end Go.Hx
namespace Go.Hx
theorem ofInt_toNat (a:Nat) (ha:a<9223372036854775808):(BitVec.ofInt 64 (a:Int)).toNat=a:=by
 rw [BitVec.toNat_ofInt]
 omega
theorem wrap_nat (n:Nat) (h:n<9223372036854775808):IntKind.wrap .i64 (n:Int)=n:=w64 (by omega) (by omega)
theorem bop_and (a b:Nat) (ha:a<9223372036854775808) (hb:b<9223372036854775808):bop .and .i64 a b=((a &&& b:Nat):Int):=by
 show IntKind.i64.wrap ((BitVec.ofInt 64 (a:Int) &&& BitVec.ofInt 64 (b:Int)).toNat:Int)=_
 rw [BitVec.toNat_and,ofInt_toNat a ha,ofInt_toNat b hb]
 exact wrap_nat _ (Nat.lt_of_le_of_lt Nat.and_le_left ha)
theorem and_one {l:Int} (h0:0≤l) (h1:l≤9223372036854775807):bop .and .i64 l 1=l % 2:=by
 obtain ⟨n,rfl⟩:∃ n:Nat,l=n:=⟨l.toNat,by omega⟩
 have:=bop_and n 1 (by omega) (by omega)
 rw [Nat.and_one_is_mod] at this
 exact this
end Go.Hx
namespace Go.Hx
section
variable {α β:Type} [DecidableEq α] {d:KD} {key:α->Value} {val:β->Value}
structure KeyR (d:KD) (key:α->Value):Prop where
 fit:∀ x,fitK d (key x)=true
 same:∀ x y,sameK d (key x) (key y)=some (decide (x=y))
 bits:∀ x,Instr.sameBits 10000 (key x) (key x)=true
theorem KeyR.int:KeyR (.int .i64) (Value.int .i64):=by
 refine ⟨fun x=>rfl,fun x y=>?_,fun x=>by simp [Instr.sameBits]⟩
 show Instr.sameNow (.int .i64) (.int .i64 x) (.int .i64 y)=_
 unfold Instr.sameNow
 simp only [if_true]
 congr 1
def entr (key:α->Value) (val:β->Value) (l:List (α×β)):List MapEntry:=l.zipIdx.map fun p=>{ key:=key p.1.1,val:=val p.1.2,born:=p.2 }
omit [DecidableEq α] in
theorem entr_len (l:List (α×β)):(entr key val l).length=l.length:=by simp [entr]
omit [DecidableEq α] in
theorem entr_at {l:List (α×β)} {i:Nat} (h:i<l.length):(entr key val l)[i]?=some { key:=key l[i].1,val:=val l[i].2,born:=i }:=by simp [entr,h]
omit [DecidableEq α] in
theorem entr_snoc (l:List (α×β)) (x:α×β):entr key val (l++[x])=entr key val l++[{ key:=key x.1,val:=val x.2,born:=l.length }]:=by simp [entr,List.zipIdx_append]
theorem find_entr (kr:KeyR d key) (x:α):∀ (l:List (α×β)) (o i:Nat),
  (∃ j,∃ hj:j<l.length,findS d (key x) ((l.zipIdx o).map fun p=>{ key:=key p.1.1,val:=val p.1.2,born:=p.2 }) i=some (some (i+j,val l[j].2))/\l[j].1=x/\∀ k (hk:k<l.length),k<j->l[k].1≠x) ∨
  (findS d (key x) ((l.zipIdx o).map fun p=>{ key:=key p.1.1,val:=val p.1.2,born:=p.2 }) i=some none/\∀ p∈l,p.1≠x)
 | [],o,i=>.inr ⟨rfl,by simp⟩
 | (k,v)::l,o,i=>by
  rw [List.zipIdx_cons,List.map_cons,findS]
  simp only [kr.same x k]
  by_cases hx:x=k
  ·rw [decide_eq_true hx]
   exact .inl ⟨0,by simp,rfl,hx.symm,fun j _ hj=>by omega⟩
  ·rw [decide_eq_false hx]
   simp only
   rcases find_entr kr x l (o+1) (i+1) with ⟨j,hj,h1,h2,h3⟩ | ⟨h1,h2⟩
   ·refine .inl ⟨j+1,by simpa using hj,by rw [h1,show i+1+j=i+(j+1) by omega];simp,by simpa using h2,fun m hm hmj=>?_⟩
    cases m with
    | zero=>simpa using fun e=>hx e.symm
    | succ m=>simpa using h3 m (by simpa using hm) (by omega)
   ·exact .inr ⟨h1,fun p hp=>by rcases List.mem_cons.1 hp with rfl | hp;exact fun e=>hx e.symm;exact h2 p hp⟩
def IsM (key:α->Value) (val:β->Value) (h:Heap) (b:Nat) (l:List (α×β)):Prop:=h[b]?=some (.map (entr key val l).toArray l.length)
omit [DecidableEq α] in
theorem IsM.lt {h:Heap} {b:Nat} {l:List (α×β)} (m:IsM key val h b l):b<h.size:=(Array.getElem?_eq_some_iff.1 m).1
omit [DecidableEq α] in
theorem IsM.upd {S:Nat->Prop} {h h':Heap} {b:Nat} {l:List (α×β)} (m:IsM key val h b l) (u:Upd S h h') (hs:¬ S b):IsM key val h' b l:=by
 unfold IsM;rw [u.2 b m.lt hs];exact m
omit [DecidableEq α] in
theorem IsM.new (h:Heap):IsM (α:=α) (β:=β) key val (h.push (.map #[] 0)) h.size []:=by
 unfold IsM;rw [push_at];rfl
def atM (l:List (α×β)) (x:α):Option β:=(l.find? fun p=>decide (p.1=x)).map (·.2)
theorem atM_at {l:List (α×β)} {x:α} {j:Nat} (hj:j<l.length) (h:l[j].1=x) (hk:∀ k (hk:k<l.length),k<j->l[k].1≠x):atM l x=some l[j].2:=by
 unfold atM
 have:l.find? (fun p=>decide (p.1=x))=some l[j]:=by
  rw [List.find?_eq_some_iff_getElem]
  exact ⟨by simp [h],j,hj,rfl,fun k hkj=>by simpa using hk k (by omega) hkj⟩
 rw [this];rfl
theorem atM_none {l:List (α×β)} {x:α} (h:∀ p∈l,p.1≠x):atM l x=none:=by
 unfold atM
 rw [Option.map_eq_none_iff,List.find?_eq_none]
 intro p hp
 simpa using h p hp
theorem IsM.look (kr:KeyR d key) {h:Heap} {b:Nat} {l:List (α×β)} (m:IsM key val h b l) (x:α) {A:Prop} {C:Value->Prop} (hA:atM l x=none->A) (hC:∀ v,atM l x=some v->C (val v)):MapLook d (key x) h (some b) none A C:=by
 refine ⟨_,_,m,?_⟩
 have hf:∀ r,findS d (key x) (entr key val l).toArray.toList 0=some r->findK d (key x) (entr key val l).toArray.toList=some r:=fun r hr=>by unfold findK;rw [kr.fit];exact hr
 rcases find_entr (val:=val) kr x l 0 0 with ⟨j,hj,h1,h2,h3⟩ | ⟨h1,h2⟩
 ·exact ⟨_,hf _ h1,hC _ (atM_at hj h2 h3)⟩
 ·exact ⟨_,hf _ h1,hA (atM_none h2)⟩
def putM (l:List (α×β)) (x:α) (v:β):List (α×β):=
 match l with
 | []=>[(x,v)]
 | p::r=>if p.1=x then (x,v)::r else p::putM r x v
theorem putM_none {l:List (α×β)} {x:α} {v:β} (h:∀ p∈l,p.1≠x):putM l x v=l++[(x,v)]:=by
 induction l with
 | nil=>rfl
 | cons p l ih=>
  unfold putM
  rw [if_neg (h p (List.mem_cons_self ..)),ih fun q hq=>h q (List.mem_cons_of_mem _ hq)]
  rfl
theorem putM_at {l:List (α×β)} {x:α} {v:β} {j:Nat} (hj:j<l.length) (h:l[j].1=x) (hk:∀ k (hk:k<l.length),k<j->l[k].1≠x):putM l x v=l.set j (x,v):=by
 induction l generalizing j with
 | nil=>simp at hj
 | cons p l ih=>
  unfold putM
  cases j with
  | zero=>rw [if_pos (by simpa using h)];rfl
  | succ j=>
   rw [if_neg (by exact hk 0 (by simp) (by omega)),ih (by simpa using hj) (by simpa using h) fun k hkl hkj=>by exact hk (k+1) (by simpa using hkl) (by omega)]
   rfl
omit [DecidableEq α] in
theorem entr_set {l:List (α×β)} {j:Nat} (hj:j<l.length) (x:α) (v:β) (f:MapEntry->MapEntry) (hf:f { key:=key l[j].1,val:=val l[j].2,born:=j }={ key:=key x,val:=val v,born:=j }) :
  (entr key val l).toArray.modify j f=(entr key val (l.set j (x,v))).toArray:=by
 apply Array.ext_getElem?
 intro i
 rw [Array.getElem?_modify,List.getElem?_toArray,List.getElem?_toArray]
 by_cases hil:i<l.length
 ·rw [entr_at hil,entr_at (l:=l.set j (x,v)) (by simpa using hil)]
  by_cases hji:j=i
  ·subst hji;rw [if_pos rfl];simp [hf]
  ·rw [if_neg hji];simp [List.getElem_set_ne hji]
 ·rw [List.getElem?_eq_none (by rw [entr_len];omega),List.getElem?_eq_none (by rw [entr_len];simp;omega)]
  split <;> rfl
theorem IsM.put (kr:KeyR d key) {h:Heap} {b:Nat} {l:List (α×β)} (m:IsM key val h b l) (x:α) (v:β) {K:Heap->Prop} (hK:∀ h',IsM key val h' b (putM l x v)->Upd (fun i=>i=b) h h'->K h') :
  MapPut d (key x) (val v) h (some b) K:=by
 refine ⟨_,_,m,?_⟩
 have hf:∀ r,findS d (key x) (entr key val l).toArray.toList 0=some r->findK d (key x) (entr key val l).toArray.toList=some r:=fun r hr=>by unfold findK;rw [kr.fit];exact hr
 rcases find_entr (val:=val) kr x l 0 0 with ⟨j,hj,h1,h2,h3⟩ | ⟨h1,h2⟩
 ·refine ⟨_,hf _ h1,?_⟩
  have hat:(entr key val l).toArray[0+j]?=some { key:=key l[j].1,val:=val l[j].2,born:=j }:=by rw [Nat.zero_add,List.getElem?_toArray];exact entr_at hj
  simp only
  refine ⟨by rw [hat,h2];exact kr.bits x,hK _ ?_ (set_upd _ _ _)⟩
  unfold IsM
  rw [set_at m.lt,putM_at hj h2 h3,Nat.zero_add,entr_set hj x v _ rfl,List.length_set]
 ·refine ⟨_,hf _ h1,hK _ ?_ (set_upd _ _ _)⟩
  unfold IsM
  rw [set_at m.lt,putM_none h2,entr_snoc,List.length_append]
  simp
end
end Go.Hx
namespace Go.Hx
theorem wr_u64 (x:Int):IntKind.wrap .u64 x=x % 18446744073709551616:=by simp [IntKind.wrap,IntKind.bits,IntKind.signed]
def Xt (v:Value) (h:Heap):Value->Heap->Prop:=fun u h'=>u=v/\Ext h h'
theorem useX {P:Program} {f:FuncId} {args:Array Value} {h:Heap} {v:Value} {R:Value->Heap->Prop} (c:CallsH P f args h (Xt v h)) (hk:∀ h',Ext h h'->R v h'):CallsH P f args h R:=
 c.mono fun _ h' ⟨h1,h2⟩=>h1▸hk h' h2
theorem addr_add0 (ad:Addr):ad.add 0=ad:=by unfold Addr.add;split <;> simp_all
theorem cellsH_of {h:Heap} {a:Addr}:∀ {vs:List Value} {i:Nat},(∀ j v,vs[j]?=some v->cellH h (a.add (i+j))=some v)->cellsH h a i vs
 | [],_,_=>trivial
 | v::vs,i,hc=>⟨by simpa using hc 0 v rfl,cellsH_of fun j u hu=>by have:=hc (j+1) u (by simpa using hu);rwa [show i+(j+1)=i+1+j by omega] at this⟩
theorem Rd.cells {h:Heap} {ad:Addr} {n:Nat} {vs:List Value} (r:Rd h (.some ad) n vs):cellsH h ad 0 vs:=cellsH_of fun j v hv=>by rw [Nat.zero_add];exact r.read j v hv
theorem Fr.put {h0 h:Heap} {ad:Addr} {n:Nat} {vs ws:List Value} (f:Fr h0 1 h (.some ad) n n vs) (hl:ws.length=n) (h1:∀ w∈ws,w.oneCell'=true)
  {K:Heap->Prop} (hK:∀ h',Fr h0 1 h' (.some ad) n n ws->Upd (atb (.some ad)) h h'->K h'):StoreH h ad ws K:=by
 have:=f.own.write 0 ws (by omega) h1 (K:=K) fun h' u w=>hK h' ⟨w n ws (by omega) (Nat.le_refl _) fun i hi=>by rw [if_pos (by omega),Nat.sub_zero],f.new,Fr.ext_of f.ext f.new (u.mono fun i _ hi=>⟨ad,rfl,hi⟩)⟩ (u.mono fun i _ hi=>⟨ad,rfl,hi⟩)
 rwa [addr_add0] at this
abbrev flt (a b:Int):Value:=.agg #[.int .i64 a,.int .i64 b]
theorem zeroRow_one (v:Value) (n:Nat):zeroRow #[v] n=List.replicate n v:=by
 apply List.ext_getElem?
 intro i
 unfold zeroRow
 rw [List.getElem?_map,List.getElem?_replicate]
 by_cases hi:i<n
 ·rw [List.getElem?_range hi,if_pos hi];simp [Nat.mod_one]
 ·rw [List.getElem?_eq_none (by simp;omega),if_neg hi];rfl
theorem Fr.zeros {h:Heap} (v:Value) (e:TypeId) (n:Nat):Fr h 1 (h.push (.cells (zeroRow #[v] (n*1)).toArray e)) (some ⟨h.size,0,none⟩) n n (List.replicate n v):=by
 rw [zeroRow_one,Nat.mul_one]
 exact Fr.lit (.refl h) (List.replicate n v) e n (by simp)
theorem Fr.base {h0 h1 h2:Heap} {sz:Nat} {a:Option Addr} {n c:Nat} {vs:List Value} (f:Fr h1 sz h2 a n c vs) (x:Ext h0 h1):Fr h0 sz h2 a n c vs:=⟨f.own,(fun ad ha=>Nat.le_trans x.1 (f.new ad ha)),x.trans f.ext⟩
theorem Fr.write {h0 h:Heap} {ad:Addr} {n:Nat} {vs:List Value} (f:Fr h0 1 h (.some ad) n n vs) (off:Nat) (ws us:List Value) (hl:off+ws.length≤n) (h1:∀ w∈ws,w.oneCell'=true) (hus:us.length=n)
  (hval:∀ i,i<n->us[i]?=if off≤i/\i<off+ws.length then ws[i-off]? else vs[i]?) {K:Heap->Prop} (hK:∀ h',Fr h0 1 h' (.some ad) n n us->K h'):StoreH h (ad.add off) ws K:=
 f.own.write off ws (by omega) h1 fun h' u w=>hK h' ⟨w n us (by omega) (Nat.le_refl _) fun i hi=>hval i (by omega),f.new,Fr.ext_of f.ext f.new (u.mono fun i _ hi=>⟨ad,rfl,hi⟩)⟩
abbrev mk (l:List UInt8):ByteArray:=⟨l.toArray⟩
abbrev B (s:ByteArray):List UInt8:=s.data.toList
end Go.Hx
namespace Go.Hx
open Go.ChangeShapes Go.WideShapes Go.RowKit
theorem below_of {w w':World} (hs:Same w w') (hx:Ext w.heap w'.heap):Below w.heap.size w w':=⟨hs.os,hs.tape,hs.output,hx.1,fun k hk=>hx.2 k hk fun h=>h⟩
section
variable {H:Type} {enc:TypeId×Value->H} {P:Program} {W:World} {base:Nat} {held:Bool} {t e:TypeId} {ts:List TypeId} {ds:List (DataW H)} {j:Nat} {r:Reach} {b0:Nat} {v:Value} {d:DataW H} {ps:List MemPlace}
end
theorem wf_i64 {n:Int} (h:(Lit.int .i64 n).wf=true):-9223372036854775808≤n/\n≤9223372036854775807:=by
 simp [Lit.wf] at h
 have e1:IntKind.i64.min = -9223372036854775808:=rfl
 have e2:IntKind.i64.max=9223372036854775807:=rfl
 omega
end Go.Hx
