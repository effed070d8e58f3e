/- Words and facts that the claim's proof leans on. No condition. -/
import Derived.Test.YtdpbdjdgdmheiaaXL
import Derived.Test.YtdpbdjdgdmheiaaHxV
import Derived.Test.YtdpbdjdgdmheiaaChecked
import Derived.Test.YtdpbdjdgdmheiaaSL
set_option linter.unusedVariables false
set_option linter.unusedSimpArgs false
namespace Go.Hx
noncomputable def ldB (W:Wd) (p:Arc->Bool):Nat->Nat->Bool
 | 0,s=>(W.arcs s).any p
 | d+1,s=>(W.arcs s).any fun a=>ldB W p d a.nx
theorem ldB_iff {W:Wd} {p:Arc->Bool}:∀ {d s:Nat},ldB W p d s=true↔∃ q t a,Way W s q t/\q.length=d/\a∈W.arcs t/\p a=true
 | 0,s=>by
  unfold ldB
  rw [List.any_eq_true]
  constructor
  ·rintro ⟨a,h1,h2⟩;exact ⟨[],s,a,.nil,rfl,h1,h2⟩
  ·rintro ⟨q,t,a,w,hl,h1,h2⟩
   cases q with
   | nil=>cases w;exact ⟨a,h1,h2⟩
   | cons _ _=>cases hl
 | d+1,s=>by
  unfold ldB
  rw [List.any_eq_true]
  constructor
  ·rintro ⟨b,h1,h2⟩
   obtain ⟨q,t,a,w,hl,k1,k2⟩:=ldB_iff.1 h2
   exact ⟨b::q,t,a,.cons h1 w,by simp [hl],k1,k2⟩
  ·rintro ⟨q,t,a,w,hl,k1,k2⟩
   cases w with
   | nil=>cases hl
   | cons h1 w=>exact ⟨_,h1,ldB_iff.2 ⟨_,t,a,w,by simpa using hl,k1,k2⟩⟩
def MOk (W:Wd) (p:Arc->Bool) (n:Nat) (M:List ((Nat×Nat)×Nat)):Prop:=∀ s d v,d<n->atM M (s,d)=some v->(v=1/\ldB W p d s=true)∨(v=2/\ldB W p d s=false)
def MSame (n:Nat) (M M':List ((Nat×Nat)×Nat)):Prop:=∀ s d,n≤d->atM M' (s,d)=atM M (s,d)
theorem MSame.refl {n:Nat} {M:List ((Nat×Nat)×Nat)}:MSame n M M:=fun _ _ _=>rfl
theorem MSame.trans {n:Nat} {M M' M'':List ((Nat×Nat)×Nat)} (a:MSame n M M') (b:MSame n M' M''):MSame n M M'':=fun s d h=>(b s d h).trans (a s d h)
theorem MOk.fin {W:Wd} {p:Arc->Bool} {n s v:Nat} {M M2 M':List ((Nat×Nat)×Nat)} (m:MOk W p (n+1) M) (h2:M2=putM M (s,n) v) (k:MOk W p n M') (sm:MSame n M2 M') (hv:(v=1/\ldB W p n s=true)∨(v=2/\ldB W p n s=false)):MOk W p (n+1) M':=fun s' d v' hd h=>by
 by_cases hdn:d<n
 ·exact k s' d v' hdn h
 ·obtain rfl:d=n:=by omega
  rw [sm s' d (Nat.le_refl _),h2,atM_putM] at h
  by_cases e:(s',d)=(s,d)
  ·rw [if_pos e] at h
   cases e
   cases h
   exact hv
  ·rw [if_neg e] at h
   exact m s' d v' hd h
theorem MSame.put {n s v:Nat} {M:List ((Nat×Nat)×Nat)}:MSame (n+1) M (putM M (s,n) v):=fun s' d h=>by
 rw [atM_putM,if_neg (by rintro ⟨⟩;omega)]
end Go.Hx
namespace Go.Hx
theorem MOk.at_ {W:Wd} {p:Arc->Bool} {n s v:Nat} {M:List ((Nat×Nat)×Nat)} (m:MOk W p n M):MOk W p n (putM M (s,n) v):=fun s' d v' hd h=>by
 rw [atM_putM,if_neg (by rintro ⟨⟩;omega)] at h
 exact m s' d v' hd h
theorem MSame.one {n s:Nat} {M Mi:List ((Nat×Nat)×Nat)} (a:MSame n (putM M (s,n) 2) Mi):MSame n (putM M (s,n) 1) (putM Mi (s,n) 1):=fun s' d h=>by
 have:=a s' d h
 rw [atM_putM] at this ⊢
 rw [atM_putM]
 by_cases e:(s',d)=(s,n)
 ·rw [if_pos e,if_pos e]
 ·rw [if_neg e,if_neg e,this,if_neg e]
end Go.Hx
namespace Go.Proofs.Ytdpbdjdgdmheiaa
open Go.Hx Go.Deep
section
variable {h0:Heap} {k:Addr} {C:Circ}
end
end Go.Proofs.Ytdpbdjdgdmheiaa
namespace Go.Hx
theorem Mem.offmap {h0 h h':Heap} {l:List Itm} {b:Nat} (m:Mem h0 h l) (hm:∃ es k,h[b]?=Option.some (Obj.map es k)) (u:Upd (fun x=>x=b) h h') (hb:h0.size≤b):Mem h0 h' l:=
 ⟨m.ext.newer u fun i hi e=>by omega,fun t ht=>(m.fr t ht).offmap hm u hb,m.dis⟩
end Go.Hx
namespace Go.Proofs.Ytdpbdjdgdmheiaa
open Go.Hx Go.Deep
section
variable {h0:Heap} {k:Addr} {C:Circ}
def RwB.it (r:RwB):Itm:=⟨1,r.a,r.n,r.c,bools r.l⟩
end
end Go.Proofs.Ytdpbdjdgdmheiaa
namespace Go.Hx
theorem BadIs.lead {W:Wd} {p:Arc->Bool} {d:Nat} (b:BadIs W (fun a=>p a=true) (d:Nat)):∃ s∈W.st,ldB W p d s=true:=by
 rcases b with ⟨h,_⟩ | ⟨d',h,⟨t,a,hd,ha,hp⟩,_⟩
 ·omega
 ·obtain rfl:d=d':=by omega
  obtain ⟨s,q,hs,w,hl⟩:=hd.1.way
  exact ⟨s,hs,ldB_iff.2 ⟨q,t,a,w,hl,ha,hp⟩⟩
theorem BadIs.le {W:Wd} (ok:W.Ok) {P:Arc->Prop} {d:Nat} (b:BadIs W P (d:Nat)):d<W.n:=by
 rcases b with ⟨h,_⟩ | ⟨d',h,⟨t,a,hd,ha,hp⟩,_⟩
 ·omega
 ·obtain rfl:d=d':=by omega
  exact hd.lt ok
end Go.Hx
namespace Go.Proofs.Ytdpbdjdgdmheiaa
open Go.Hx Go.Deep
section
variable {h:Heap} {v:CV} {C:Circ}
end
end Go.Proofs.Ytdpbdjdgdmheiaa
namespace Go.Proofs.Ytdpbdjdgdmheiaa
open Go.Hx Go.Deep
section
variable {C:Circ}
theorem next_len {V:List Bool}:(nextL C V).length=C.lats.length:=by simp [nextL]
end
end Go.Proofs.Ytdpbdjdgdmheiaa
