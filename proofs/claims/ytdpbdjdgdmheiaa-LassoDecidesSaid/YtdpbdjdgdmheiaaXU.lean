/- Words and facts that the claim's proof leans on. No condition. -/
import Derived.Test.YtdpbdjdgdmheiaaXL
import Derived.Test.YtdpbdjdgdmheiaaKEd
import Derived.Test.YtdpbdjdgdmheiaaSL
set_option linter.unusedVariables false
set_option linter.unusedSimpArgs false
namespace Go.Hx
noncomputable def ldB (W:Wd) (p:Arc->Bool):Nat->Nat->Bool
 | 0,s=>(W.arcs s).any p
 | d+1,s=>(W.arcs s).any fun a=>ldB W p d a.nx
noncomputable def tsB (W:Wd) (p:Arc->Bool):Nat->Arc->Bool
 | 0,a=>p a
 | d+1,a=>ldB W p d a.nx
theorem ldB_eq {W:Wd} {p:Arc->Bool} {d s:Nat}:ldB W p d s=(W.arcs s).any (tsB W p d):=by cases d <;> rfl
theorem ldB_iff {W:Wd} {p:Arc->Bool}:∀ {d s:Nat},ldB W p d s=true↔∃ q t a,Way W s q t/\q.length=d/\a∈W.arcs t/\p a=true
 | 0,s=>by
  unfold ldB
  rw [List.any_eq_true]
  constructor
  ·rintro ⟨a,h1,h2⟩;exact ⟨[],s,a,.nil,rfl,h1,h2⟩
  ·rintro ⟨q,t,a,w,hl,h1,h2⟩
   cases q with
   | nil=>cases w;exact ⟨a,h1,h2⟩
   | cons _ _=>cases hl
 | d+1,s=>by
  unfold ldB
  rw [List.any_eq_true]
  constructor
  ·rintro ⟨b,h1,h2⟩
   obtain ⟨q,t,a,w,hl,k1,k2⟩:=ldB_iff.1 h2
   exact ⟨b::q,t,a,.cons h1 w,by simp [hl],k1,k2⟩
  ·rintro ⟨q,t,a,w,hl,k1,k2⟩
   cases w with
   | nil=>cases hl
   | cons h1 w=>exact ⟨_,h1,ldB_iff.2 ⟨_,t,a,w,by simpa using hl,k1,k2⟩⟩
def MOk (W:Wd) (p:Arc->Bool) (n:Nat) (M:List ((Nat×Nat)×Nat)):Prop:=∀ s d v,d<n->atM M (s,d)=some v->(v=1/\ldB W p d s=true)∨(v=2/\ldB W p d s=false)
def MSame (n:Nat) (M M':List ((Nat×Nat)×Nat)):Prop:=∀ s d,n≤d->atM M' (s,d)=atM M (s,d)
theorem MSame.refl {n:Nat} {M:List ((Nat×Nat)×Nat)}:MSame n M M:=fun _ _ _=>rfl
theorem MSame.trans {n:Nat} {M M' M'':List ((Nat×Nat)×Nat)} (a:MSame n M M') (b:MSame n M' M''):MSame n M M'':=fun s d h=>(b s d h).trans (a s d h)
theorem MOk.fin {W:Wd} {p:Arc->Bool} {n s v:Nat} {M M2 M':List ((Nat×Nat)×Nat)} (m:MOk W p (n+1) M) (h2:M2=putM M (s,n) v) (k:MOk W p n M') (sm:MSame n M2 M') (hv:(v=1/\ldB W p n s=true)∨(v=2/\ldB W p n s=false)):MOk W p (n+1) M':=fun s' d v' hd h=>by
 by_cases hdn:d<n
 ·exact k s' d v' hdn h
 ·obtain rfl:d=n:=by omega
  rw [sm s' d (Nat.le_refl _),h2,atM_putM] at h
  by_cases e:(s',d)=(s,d)
  ·rw [if_pos e] at h
   cases e
   cases h
   exact hv
  ·rw [if_neg e] at h
   exact m s' d v' hd h
theorem MSame.put {n s v:Nat} {M:List ((Nat×Nat)×Nat)}:MSame (n+1) M (putM M (s,n) v):=fun s' d h=>by
 rw [atM_putM,if_neg (by rintro ⟨⟩;omega)]
end Go.Hx
namespace Go.Hx
theorem MOk.at_ {W:Wd} {p:Arc->Bool} {n s v:Nat} {M:List ((Nat×Nat)×Nat)} (m:MOk W p n M):MOk W p n (putM M (s,n) v):=fun s' d v' hd h=>by
 rw [atM_putM,if_neg (by rintro ⟨⟩;omega)] at h
 exact m s' d v' hd h
theorem MSame.one {n s:Nat} {M Mi:List ((Nat×Nat)×Nat)} (a:MSame n (putM M (s,n) 2) Mi):MSame n (putM M (s,n) 1) (putM Mi (s,n) 1):=fun s' d h=>by
 have:=a s' d h
 rw [atM_putM] at this ⊢
 rw [atM_putM]
 by_cases e:(s',d)=(s,n)
 ·rw [if_pos e,if_pos e]
 ·rw [if_neg e,if_neg e,this,if_neg e]
end Go.Hx
namespace Go.Proofs.Ytdpbdjdgdmheiaa
open Go.Hx Go.Deep
section
variable {h0:Heap} {k:Addr} {C:Circ}
abbrev litP (l:Int) (a:Arc):Bool:=lit a.vl l
end
end Go.Proofs.Ytdpbdjdgdmheiaa
namespace Go.Hx
theorem Mem.offmap {h0 h h':Heap} {l:List Itm} {b:Nat} (m:Mem h0 h l) (hm:∃ es k,h[b]?=Option.some (Obj.map es k)) (u:Upd (fun x=>x=b) h h') (hb:h0.size≤b):Mem h0 h' l:=
 ⟨m.ext.newer u fun i hi e=>by omega,fun t ht=>(m.fr t ht).offmap hm u hb,m.dis⟩
noncomputable def ltP (W:Wd) (p:Arc->Bool):Nat->Nat->List Arc
 | 0,s=>((W.arcs s).find? (tsB W p 0)).toList
 | e+1,s=>match (W.arcs s).find? (tsB W p (e+1)) with
  | some a=>a::ltP W p e a.nx
  | none=>[]
noncomputable def ltR (W:Wd) (p:Arc->Bool):Nat->Nat->List Arc
 | 0,_=>[]
 | e+1,s=>ltP W p e s
theorem ltP_eq {W:Wd} {p:Arc->Bool} {d s:Nat} {a:Arc} (h:(W.arcs s).find? (tsB W p d)=some a):ltP W p d s=a::ltR W p d a.nx:=by
 cases d with
 | zero=>unfold ltP;rw [h];rfl
 | succ e=>unfold ltP;rw [h];rfl
end Go.Hx
namespace Go.Proofs.Ytdpbdjdgdmheiaa
open Go.Hx Go.Deep
section
variable {h0:Heap} {k:Addr} {C:Circ}
def RwB.it (r:RwB):Itm:=⟨1,r.a,r.n,r.c,bools r.l⟩
end
end Go.Proofs.Ytdpbdjdgdmheiaa
namespace Go.Proofs.Ytdpbdjdgdmheiaa
open Go.Hx Go.Deep
section
variable {h0:Heap} {k:Addr} {C:Circ}
noncomputable def ltT (C:Circ) (l:Int) (d s:Nat):Tr:=⟨bitsN s C.lats.length,(ltP (wdC C) (litP l) d s).map fun a=>bitsN a.row C.ins.length,-1⟩
end
end Go.Proofs.Ytdpbdjdgdmheiaa
namespace Go.Hx
theorem BadIs.lead {W:Wd} {p:Arc->Bool} {d:Nat} (b:BadIs W (fun a=>p a=true) (d:Nat)):∃ s∈W.st,ldB W p d s=true:=by
 rcases b with ⟨h,_⟩ | ⟨d',h,⟨t,a,hd,ha,hp⟩,_⟩
 ·omega
 ·obtain rfl:d=d':=by omega
  obtain ⟨s,q,hs,w,hl⟩:=hd.1.way
  exact ⟨s,hs,ldB_iff.2 ⟨q,t,a,w,hl,ha,hp⟩⟩
theorem BadIs.le {W:Wd} (ok:W.Ok) {P:Arc->Prop} {d:Nat} (b:BadIs W P (d:Nat)):d<W.n:=by
 rcases b with ⟨h,_⟩ | ⟨d',h,⟨t,a,hd,ha,hp⟩,_⟩
 ·omega
 ·obtain rfl:d=d':=by omega
  exact hd.lt ok
end Go.Hx
namespace Go.Proofs.Ytdpbdjdgdmheiaa
open Go.Hx Go.Deep
section
variable {h:Heap} {v:CV} {C:Circ}
end
end Go.Proofs.Ytdpbdjdgdmheiaa
namespace Go.Proofs.Ytdpbdjdgdmheiaa
open Go.Hx Go.Deep
section
variable {C:Circ}
theorem vals_num {st row:List Bool} (hs:st.length=C.lats.length) (hr:row.length=C.ins.length):wvals C (numN st) (numN row)=valsOf C st row:=by
 unfold wvals
 rw [<- hs,<- hr,bits_num,bits_num]
theorem arc_num {st row:List Bool} (hs:st.length=C.lats.length) (hr:row.length=C.ins.length) (hc:C.cons.all (lit (valsOf C st row))=true):(⟨numN row,numN (nextL C (valsOf C st row)),valsOf C st row⟩:Arc)∈(wdC C).arcs (numN st):=by
 refine mem_warcs.2 ⟨numN row,by rw [<- hr];exact numN_lt,?_⟩
 unfold warc
 rw [vals_num hs hr,if_pos hc]
theorem next_len {V:List Bool}:(nextL C V).length=C.lats.length:=by simp [nextL]
theorem ini_num {st:List Bool} (hs:st.length=C.lats.length) (h:iniF C.lats st 0=none):numN st∈(wdC C).st:=by
 refine List.mem_filter.2 ⟨List.mem_range.2 (by rw [<- hs];exact numN_lt),?_⟩
 unfold wst
 rw [<- hs,bits_num,h];rfl
theorem movs_way:∀ {rs:List (List Bool)} {st:List Bool} {j:Nat} {M:Mo},st.length=C.lats.length->(∀ r∈rs,r.length=C.ins.length)->(∀ m∈movs C st rs,m.ok=true)->(movs C st rs)[j]?=some M->∃ q,Go.Hx.Way (wdC C) (numN st) q (numN M.st)/\q.length=j/\M.st.length=C.lats.length
 | [],st,j,M,_,_,_,h=>by simp [movs] at h
 | r::rs,st,0,M,hs,_,_,h=>by
  simp only [movs,List.getElem?_cons_zero,Option.some.injEq] at h
  subst h
  exact ⟨[],.nil,rfl,hs⟩
 | r::rs,st,j+1,M,hs,hr,hok,h=>by
  simp only [movs,List.getElem?_cons_succ] at h
  obtain ⟨q,w,hl,hM⟩:=movs_way next_len (fun x hx=>hr x (List.mem_cons_of_mem _ hx)) (fun m hm=>hok m (by rw [movs];exact List.mem_cons_of_mem _ hm)) h
  have hc:C.cons.all (lit (valsOf C st r))=true:=hok (moOf C st (valsOf C st r)) (by rw [movs];exact List.mem_cons_self ..)
  exact ⟨_::q,.cons (arc_num hs (hr r (List.mem_cons_self ..)) hc) w,by simp [hl],hM⟩
def rowsOf (C:Circ) (q:List Arc):List (List Bool):=q.map fun a=>bitsN a.row C.ins.length
theorem arc_of {s:Nat} {a:Arc} (h:a∈(wdC C).arcs s):C.cons.all (lit a.vl)=true/\a.vl=valsOf C (bitsN s C.lats.length) (bitsN a.row C.ins.length)/\bitsN a.nx C.lats.length=nextL C a.vl:=by
 obtain ⟨r,hr,hw⟩:=mem_warcs.1 h
 obtain ⟨hc,rfl⟩:=warc_some hw
 refine ⟨hc,rfl,?_⟩
 show bitsN (numN (nextL C (wvals C s r))) C.lats.length=nextL C (wvals C s r)
 have:=bits_num (l:=nextL C (wvals C s r))
 rwa [next_len] at this
theorem way_movs:∀ {q:List Arc} {s t:Nat},Go.Hx.Way (wdC C) s q t->(∀ m∈movs C (bitsN s C.lats.length) (rowsOf C q),m.ok=true)/\∀ {a:Arc},a∈(wdC C).arcs t->(∀ m∈movs C (bitsN s C.lats.length) (rowsOf C (q++[a])),m.ok=true)/\∃ M,(movs C (bitsN s C.lats.length) (rowsOf C (q++[a])))[q.length]?=some M/\M.st=bitsN t C.lats.length
 | [],s,t,w=>by
  cases w
  refine ⟨fun m hm=>by simp [rowsOf,movs] at hm,fun {a} ha=>?_⟩
  obtain ⟨h1,h2,h3⟩:=arc_of ha
  show (∀ m∈movs C _ [bitsN a.row C.ins.length],_)/\_
  simp only [movs,List.mem_singleton]
  refine ⟨fun m hm=>?_,moOf C (bitsN s C.lats.length) (valsOf C (bitsN s C.lats.length) (bitsN a.row C.ins.length)),rfl,rfl⟩
  subst hm
  rw [<- h2]
  exact h1
 | b::q,s,t,w=>by
  cases w with
  | cons hb w=>
   obtain ⟨h1,h2,h3⟩:=arc_of hb
   obtain ⟨k1,k2⟩:=way_movs w
   have e:∀ q',movs C (bitsN s C.lats.length) (rowsOf C (b::q'))=moOf C (bitsN s C.lats.length) b.vl::movs C (bitsN b.nx C.lats.length) (rowsOf C q'):=fun q'=>by
    show movs C _ (bitsN b.row C.ins.length::rowsOf C q')=_
    rw [movs,<- h2,h3]
   refine ⟨fun m hm=>?_,fun {a} ha=>?_⟩
   ·rw [e] at hm
    rcases List.mem_cons.1 hm with rfl | hm
    ·exact h1
    ·exact k1 m hm
   ·obtain ⟨k3,M,k4,k5⟩:=k2 ha
    rw [List.cons_append,e]
    refine ⟨fun m hm=>?_,M,by rw [List.length_cons,List.getElem?_cons_succ];exact k4,k5⟩
    rcases List.mem_cons.1 hm with rfl | hm
    ·exact h1
    ·exact k3 m hm
theorem ltP_way {W:Wd} {p:Arc->Bool}:∀ {d s:Nat},ldB W p d s=true->∃ q t a,ltP W p d s=q++[a]/\Go.Hx.Way W s q t/\q.length=d/\a∈W.arcs t/\p a=true
 | 0,s,h=>by
  unfold ldB at h
  cases hf:(W.arcs s).find? (tsB W p 0) with
  | none=>rw [List.find?_eq_none] at hf;obtain ⟨a,h1,h2⟩:=List.any_eq_true.1 h;exact absurd h2 (hf a h1)
  | some a=>exact ⟨[],s,a,by unfold ltP;rw [hf];rfl,.nil,rfl,List.mem_of_find?_eq_some hf,List.find?_some hf⟩
 | d+1,s,h=>by
  rw [ldB_eq] at h
  cases hf:(W.arcs s).find? (tsB W p (d+1)) with
  | none=>rw [List.find?_eq_none] at hf;obtain ⟨a,h1,h2⟩:=List.any_eq_true.1 h;exact absurd h2 (hf a h1)
  | some a=>
   obtain ⟨q,t,b,k1,k2,k3,k4,k5⟩:=ltP_way (d:=d) (s:=a.nx) (show ldB W p d a.nx=true from (List.find?_some hf:tsB W p (d+1) a=true))
   exact ⟨a::q,t,b,by rw [ltP_eq hf];show a::ltP W p d a.nx=_;rw [k1];rfl,.cons (List.mem_of_find?_eq_some hf) k2,by simp [k3],k4,k5⟩
end
end Go.Proofs.Ytdpbdjdgdmheiaa
namespace Go.Proofs.Ytdpbdjdgdmheiaa
open Go.Hx Go.Deep
section
variable {C:Circ}
theorem bad_rch {i:Int} {T:Tr} {x:Int} (h0:0≤i) (h1:i<C.bads.length) (hx:C.bads[i.toNat]?=some x) (hp:(propQ C 98 i T).2=0):∃ s a e,Rch (wdC C) e s/\a∈(wdC C).arcs s/\lit a.vl x=true/\T.ins.length=e+1:=by
 have hz:(runR C T).2=0:=Decidable.byContradiction fun hn=>propQ_ne hn hp
 obtain ⟨hc,⟨f1,f2,f3,f4,f5,f6⟩,hR⟩:=runR_ok hz
 have hl:T.ins.length-1<(movs C T.init T.ins).length:=by rw [movs_len];omega
 have hM:=List.getElem?_eq_getElem hl
 have hl2:T.ins.length-1<T.ins.length:=by omega
 have hr:=List.getElem?_eq_getElem hl2
 obtain ⟨k1,k2,k3⟩:=(bad_iff hz h0 h1 hM hr hx).1 hp
 have hMm:=(movs_at hM hr).1
 obtain ⟨q,w,hq,hMl⟩:=movs_way f1 f6 k2 hM
 have hok:=k2 _ (List.getElem_mem hl)
 rw [hMm] at hok
 have hrl:=f6 _ (List.getElem_mem hl2)
 have r0:Rch (wdC C) 0 (numN T.init):=.zero (ini_num f1 k1)
 have r1:=w.rch r0
 rw [Nat.zero_add,hq] at r1
 exact ⟨_,_,_,r1,arc_num hMl hrl hok,k3,by omega⟩
theorem way_run {i:Int} {x:Int} (hc:(chk C).2=0) (h0:0≤i) (h1:i<C.bads.length) (hx:C.bads[i.toNat]?=some x) {q:List Arc} {s t:Nat} {a:Arc} (hs:s∈(wdC C).st) (w:Go.Hx.Way (wdC C) s q t) (ha:a∈(wdC C).arcs t) (hp:lit a.vl x=true) (hq:q.length≤511) :
  propQ C 98 i ⟨bitsN s C.lats.length,rowsOf C (q++[a]),-1⟩=((q.length:Int),0):=by
 obtain ⟨hok,M,hM,hMs⟩:=(way_movs w).2 ha
 have hlen:(rowsOf C (q++[a])).length=q.length+1:=by simp [rowsOf]
 have hF:Fit C ⟨bitsN s C.lats.length,rowsOf C (q++[a]),-1⟩:=by
  refine ⟨bitsN_len,by simp only [hlen];omega,by simp only [hlen];omega,by simp only;omega,by simp only [hlen];omega,fun r hr=>?_⟩
  obtain ⟨b,_,rfl⟩:=List.mem_map.1 hr
  exact bitsN_len
 have hR:runR C ⟨bitsN s C.lats.length,rowsOf C (q++[a]),-1⟩=(movs C (bitsN s C.lats.length) (rowsOf C (q++[a])),0):=by
  unfold runR
  rw [if_neg (by simp [hc]),if_pos hF]
 have hz:(runR C ⟨bitsN s C.lats.length,rowsOf C (q++[a]),-1⟩).2=0:=by rw [hR]
 have hini:iniF C.lats (bitsN s C.lats.length) 0=none:=by
  have:=(List.mem_filter.1 hs).2
  unfold wst at this
  simpa using this
 have hl1:(rowsOf C (q++[a])).length-1=q.length:=by omega
 have hr:(rowsOf C (q++[a]))[q.length]?=some (bitsN a.row C.ins.length):=by simp [rowsOf]
 have hQ:runQ C ⟨bitsN s C.lats.length,rowsOf C (q++[a]),-1⟩=(movs C (bitsN s C.lats.length) (rowsOf C (q++[a])),0,0):=by
  unfold runQ
  rw [if_neg (by simp [hz]),hini,hR]
  simp only
  rw [(brkF_none (i:=0)).2 hok]
 have h2:(propQ C 98 i ⟨bitsN s C.lats.length,rowsOf C (q++[a]),-1⟩).2=0:=by
  refine (bad_iff hz h0 h1 (M:=M) (r:=bitsN a.row C.ins.length) (by simp only [hl1];exact hM) (by simp only [hl1];exact hr) hx).2 ⟨hini,hok,?_⟩
  rw [hMs,<- (arc_of ha).2.1]
  exact hp
 refine Prod.ext ?_ h2
 rw [propQ_bad hc,if_pos ⟨h0,h1⟩]
 unfold badQ
 rw [if_neg (by rw [hQ];simp)]
 simp only [hlen]
 omega
theorem ltT_run {i:Int} {x:Int} {d s:Nat} (hc:(chk C).2=0) (h0:0≤i) (h1:i<C.bads.length) (hx:C.bads[i.toNat]?=some x) (hs:s∈(wdC C).st) (hd:d≤511) (h:ldB (wdC C) (litP x) d s=true):propQ C 98 i (ltT C x d s)=((d:Int),0)/\(ltT C x d s).ins.length=d+1:=by
 obtain ⟨q,t,a,hq,w,hl,ha,hp⟩:=ltP_way h
 have e:ltT C x d s=⟨bitsN s C.lats.length,rowsOf C (q++[a]),-1⟩:=by
  unfold ltT rowsOf
  rw [hq]
 rw [e]
 refine ⟨?_,by simp [rowsOf,hl]⟩
 rw [way_run hc h0 h1 hx hs w ha hp (by omega),hl]
theorem bad_no {i:Int} {T:Tr} {x:Int} (b:BadIs (wdC C) (fun a=>lit a.vl x=true) (-1)) (h0:0≤i) (h1:i<C.bads.length) (hx:C.bads[i.toNat]?=some x):(propQ C 98 i T).2≠0:=fun hp=>by
 obtain ⟨s,a,e,hr,ha,hl,hT⟩:=bad_rch h0 h1 hx hp
 obtain ⟨e',hle,he⟩:=IsDep.of hr
 rcases b with ⟨_,k⟩ | ⟨d',h,_⟩
 ·exact k s e' he a ha hl
 ·omega
variable {h:Heap} {v:CV} {w:TV} {T:Tr}
end
end Go.Proofs.Ytdpbdjdgdmheiaa
