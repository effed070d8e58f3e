/- Words and facts that the claim's proof leans on. No condition. -/
import Derived.Test.YtdpbdjdgdmheiaaCR
import Derived.Test.YtdpbdjdgdmheiaaHxV
set_option linter.unusedVariables false
set_option linter.unusedSimpArgs false
namespace Go.Proofs.Ytdpbdjdgdmheiaa
open Go.Hx
def kB (B:List Mk):List Bool:=B.map fun p=>decide (p.1≠0)
section
variable {h:Heap} {v:CV} {C:Circ}
end
end Go.Proofs.Ytdpbdjdgdmheiaa
namespace Go.Proofs.Ytdpbdjdgdmheiaa
open Go.Hx
def dB (B:List Mk):List Bool:=(kB B).set 0 true
structure DRow (h:Heap) (C:Circ) (B:List Mk) (da:Option Addr) (n:Nat):Prop where
 rd:Rd h da n (bools (dB B))
 len:B.length=n
 n:n=(C.mx+1).toNat
theorem DRow.ext {h h':Heap} {C:Circ} {B:List Mk} {da:Option Addr} {n:Nat} (d:DRow h C B da n) (u:Ext h h'):DRow h' C B da n:=⟨d.rd.ext u,d.len,d.n⟩
section
variable {h:Heap} {v:CV} {C:Circ} {B:List Mk} {da:Option Addr} {n c:Nat}
end
end Go.Proofs.Ytdpbdjdgdmheiaa
namespace Go.Proofs.Ytdpbdjdgdmheiaa
open Go.Hx
def pos (x:L3):Nat:=(x.a / 2).toNat
section
variable {h:Heap} {v:CV} {C:Circ}
end
end Go.Proofs.Ytdpbdjdgdmheiaa
namespace Go.Proofs.Ytdpbdjdgdmheiaa
open Go.Hx
structure TO (n:Nat) (bl:Nat->List Nat) (out:List Nat):Prop where
 nd:out.Nodup
 lt:∀ i∈out,i<n
 topo:∀ k (hk:k<out.length),∀ y∈bl out[k],y∈out.take k
theorem TO.add {n:Nat} {bl:Nat->List Nat} {out:List Nat} (t:TO n bl out) {i:Nat} (hi:i<n) (hn:i∉out) (hb:∀ y∈bl i,y∈out):TO n bl (out++[i]):=by
 refine ⟨?_,fun j hj=>?_,fun k hk y hy=>?_⟩
 ·rw [List.nodup_append]
  exact ⟨t.nd,by simp,fun a ha b hb e=>by simp at hb;subst hb;subst e;exact hn ha⟩
 ·rcases List.mem_append.1 hj with h | h
  ·exact t.lt j h
  ·simp at h;omega
 ·rcases Nat.lt_or_ge k out.length with h | h
  ·rw [List.getElem_append_left h] at hy
   rw [List.take_append_of_le_length (by omega)]
   exact t.topo k h y hy
  ·have hk2:k=out.length:=by simp at hk;omega
   subst hk2
   rw [List.take_left]
   rw [List.getElem_append_right (by omega)] at hy
   simp at hy
   exact hb y hy
theorem TO.len {n:Nat} {bl:Nat->List Nat} {out:List Nat} (t:TO n bl out):out.length≤n:=nodup_len n out t.nd t.lt
section
variable {h:Heap} {v:CV} {C:Circ} {B:List Mk}
end
end Go.Proofs.Ytdpbdjdgdmheiaa
namespace Go.Proofs.Ytdpbdjdgdmheiaa
open Go.Hx
structure BF (n:Nat) (bl:Nat->List Nat) (s:Nat) (T:List Nat) (seen:List Bool):Prop where
 lt:∀ x∈T,x<n
 nd:T.Nodup
 len:seen.length=n
 seen:∀ y,y<n->seen[y]?=some (decide (y∈T))
 reach:∀ x∈T,Relation.TransGen (fun a b=>b∈bl a) s x
theorem BF.le {n:Nat} {bl:Nat->List Nat} {s:Nat} {T:List Nat} {seen:List Bool} (b:BF n bl s T seen):T.length≤n:=nodup_len n T b.nd b.lt
theorem BF.start (n:Nat) (bl:Nat->List Nat) (s:Nat):BF n bl s [] (List.replicate n false):=⟨fun x hx=>(by cases hx),by simp,by simp,fun y hy=>by simp [hy],fun x hx=>(by cases hx)⟩
theorem BF.add {n:Nat} {bl:Nat->List Nat} {s:Nat} {T:List Nat} {seen:List Bool} (b:BF n bl s T seen) {y:Nat} (hy:y<n) (hn:y∉T) {x:Nat} (hx:x=s∨x∈T) (hxy:y∈bl x):BF n bl s (T++[y]) (seen.set y true):=by
 refine ⟨fun z hz=>?_,?_,by rw [List.length_set];exact b.len,fun z hz=>?_,fun z hz=>?_⟩
 ·rcases List.mem_append.1 hz with h | h
  ·exact b.lt z h
  ·simp at h;omega
 ·rw [List.nodup_append]
  exact ⟨b.nd,by simp,fun a ha c hc e=>by simp at hc;subst hc;subst e;exact hn ha⟩
 ·rw [getElem?_set_eq,b.len]
  split
  ·rename_i hh;rw [<- hh.1];simp
  ·rename_i hh
   rw [b.seen z hz]
   have:z≠y:=fun e=>hh ⟨e.symm,hy⟩
   simp [this]
 ·rcases List.mem_append.1 hz with h | h
  ·exact b.reach z h
  ·simp at h
   subst h
   rcases hx with rfl | hx
   ·exact .single hxy
   ·exact .tail (b.reach x hx) hxy
theorem BF.done {n:Nat} {bl:Nat->List Nat} {s:Nat} {T:List Nat} {seen:List Bool} (b:BF n bl s T seen) (hp:∀ x∈s::T,∀ y∈bl x,y≠s/\y∈T):¬ Relation.TransGen (fun a b=>b∈bl a) s s:=by
 have key:∀ y,Relation.TransGen (fun a b=>b∈bl a) s y->y≠s/\y∈T:=by
  intro y hy
  induction hy with
  | single h=>exact hp s (List.mem_cons_self ..) _ h
  | tail _ h ih=>exact hp _ (List.mem_cons_of_mem _ ih.2) _ h
 exact fun h=>(key s h).1 rfl
section
variable {h:Heap} {v:CV} {C:Circ} {B:List Mk}
end
end Go.Proofs.Ytdpbdjdgdmheiaa
