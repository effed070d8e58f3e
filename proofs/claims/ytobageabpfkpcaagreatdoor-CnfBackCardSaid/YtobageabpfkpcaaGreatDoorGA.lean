/- Words and facts that the claim's proof leans on. No condition. -/
import Derived.Test.YtobageabpfkpcaaGreatDoorFI
import Derived.Test.YtobageabpfkpcaaGreatDoorCSh
import Derived.Test.YtobageabpfkpcaaGreatDoorCAd
import Derived.Test.YtobageabpfkpcaaGreatDoorCAh
import Derived.Below
import Derived.Lib.AtoiAllCases
import Derived.Test.YtobageabpfkpcaaGreatDoorHxV
import Derived.Test.YtobageabpfkpcaaGreatDoorChecked
set_option linter.unusedVariables false
set_option linter.unusedSimpArgs false
set_option maxRecDepth 100000
namespace Go.Hx
def isDig (b:UInt8):Bool:=decide (48≤b.toNat/\b.toNat≤57)
theorem isDig_t {b:UInt8}:isDig b=true↔48≤b.toNat/\b.toNat≤57:=by simp [isDig]
def val (acc:Nat) (l:List UInt8):Nat:=l.foldl (fun a c=>a*10+(c.toNat-48)) acc
theorem val_cons (acc:Nat) (c:UInt8) (r:List UInt8):val acc (c::r)=val (acc*10+(c.toNat-48)) r:=by unfold val;rw [List.foldl_cons]
theorem val_ge (l:List UInt8) (acc:Nat):acc≤val acc l:=by
 induction l generalizing acc with
 | nil=>exact Nat.le_refl _
 | cons c r ih=>rw [val_cons];have:=ih (acc*10+(c.toNat-48));omega
theorem val_app (l m:List UInt8) (acc:Nat):val acc (l++m)=val (val acc l) m:=by unfold val;rw [List.foldl_append]
def isBl (b:UInt8):Bool:=decide (b.toNat=32∨b.toNat=9∨b.toNat=13)
def bodyL (l:List UInt8):List UInt8:=if l.take 1=[45] then l.drop 1 else l
def wholeOk (l:List UInt8):Bool:=decide (bodyL l≠[]) && (decide ((bodyL l).head?≠some 48) || decide (l=[48])) && (bodyL l).all isDig
def wholeV (l:List UInt8):Int:=if l.take 1=[45] then -(val 0 (bodyL l):Int) else val 0 (bodyL l)
def clampV (l:List UInt8):Int:=if -9223372036854775808≤wholeV l/\wholeV l≤9223372036854775807 then wholeV l else 1099511627776
theorem byteAt_nat {s:ByteArray} {k:Nat} (hi:k<(B s).length):byteAt s (k:Int)=((B s)[k].toNat:Int):=by
 have:=byteAt_eq s (k:Int) (by omega) (by rw [Int.toNat_natCast];exact hi)
 simpa using this
theorem pu10:∀ (l:List UInt8) (acc:Nat),(∀ b∈l,isDig b=true)->acc<18446744073709551616->Lib.parseUint10 acc l=if val acc l<18446744073709551616 then .ok (val acc l) else .range
 | [],acc,_,ha=>by rw [if_pos (by simpa [val] using ha)];rfl
 | c::r,acc,hd,ha=>by
  have hc:=isDig_t.1 (hd c (by simp))
  have hv:=val_ge r (acc*10+(c.toNat-48))
  rw [Lib.parseUint10,if_pos hc,val_cons]
  by_cases h1:1844674407370955162≤acc
  ·rw [if_pos h1,if_neg (by omega)]
  ·rw [if_neg h1]
   by_cases h2:18446744073709551616≤acc*10+(c.toNat-48)
   ·rw [if_pos h2,if_neg (by omega)]
   ·rw [if_neg h2,pu10 r _ (fun b hb=>hd b (by simp [hb])) (by omega)]
theorem wholeOk_t {l:List UInt8}:wholeOk l=true↔bodyL l≠[]/\((bodyL l).head?≠some 48∨l=[48])/\∀ b∈bodyL l,isDig b=true:=by
 simp [wholeOk,and_assoc]
theorem atoi_whole {l:List UInt8} (h:wholeOk l=true):Lib.atoiAll l=if -9223372036854775808≤wholeV l/\wholeV l≤9223372036854775807 then .ok (wholeV l) else .range:=by
 obtain ⟨h1,h2,h3⟩:=wholeOk_t.1 h
 cases l with
 | nil=>exact absurd rfl h1
 | cons c r=>
  by_cases hc:c=45
  ·subst hc
   have hb:bodyL (45::r)=r:=rfl
   have hw:wholeV (45::r) = -(val 0 r:Int):=rfl
   rw [hb] at h1 h3
   rw [Lib.atoiAll_minus,Lib.parseMag,if_neg h1,pu10 r 0 h3 (by omega),hw]
   by_cases hv:val 0 r<18446744073709551616
   ·rw [if_pos hv]
    unfold Lib.signed
    by_cases h4:9223372036854775808<val 0 r
    ·simp [h4];omega
    ·simp [h4];omega
   ·rw [if_neg hv,if_neg (by omega)];rfl
  ·have hb:bodyL (c::r)=c::r:=by unfold bodyL;rw [if_neg (by simpa using hc)]
   have hw:wholeV (c::r)=val 0 (c::r):=by unfold wholeV;rw [if_neg (by simpa using hc),hb]
   rw [hb] at h1 h3
   have hcd:=isDig_t.1 (h3 c (by simp))
   rw [Lib.atoiAll_plain c r (by omega) (by omega),Lib.parseMag,if_neg h1,pu10 _ 0 h3 (by omega),hw]
   by_cases hv:val 0 (c::r)<18446744073709551616
   ·rw [if_pos hv]
    unfold Lib.signless
    by_cases h4:9223372036854775808≤val 0 (c::r)
    ·simp [h4];omega
    ·simp [h4];omega
   ·rw [if_neg hv,if_neg (by omega)];rfl
theorem clampV_in {l:List UInt8} {n:Int} (h0:0≤n) (h1:n≤1000000):(clampV l < -n∨n<clampV l)↔(wholeV l < -n∨n<wholeV l):=by
 unfold clampV;split <;> omega
theorem clampV_eq {l:List UInt8} {n:Int} (h0:0≤n) (h1:n≤1000000) (h:¬ (wholeV l < -n∨n<wholeV l)):clampV l=wholeV l:=by
 unfold clampV;rw [if_pos (by omega)]
end Go.Hx
namespace Go.Proofs.YtobageabpfkpcaaGreatDoor
open Go.Hx Go.RowKit
structure Gl (h:Heap):Prop where
 max:∃ m,cellH h ⟨0,0,none⟩=some (.int .i64 m)
 syn:∃ te pe,cellH h ⟨2,0,none⟩=some (.iface te pe)
 ran:∃ te pe,cellH h ⟨3,0,none⟩=some (.iface te pe)
theorem Gl.ext {h h':Heap} (g:Gl h) (x:Ext h h'):Gl h':=by
 obtain ⟨⟨m,hm⟩,⟨a,b,hs⟩,⟨c,d,hr⟩⟩:=g
 exact ⟨⟨m,x.cell hm⟩,⟨a,b,x.cell hs⟩,⟨c,d,x.cell hr⟩⟩
theorem callsH_below {P:Program} {f:FuncId} {args:Array Value} {h:Heap} {R:Value->Prop} (hc:∀ w:World,w.heap=h->Calls P f args w fun e w'=>∃ v,e=.returned v/\Below h.size w w'/\(w.drawn≤w'.drawn∨w.heap.size<w'.heap.size)/\R v) :
  CallsH P f args h fun v h'=>Ext h h'/\R v:=
 fun w hw=>(hc w hw).mono fun e w' ⟨v,he,hb,hd,hr⟩=>⟨v,he,⟨hb.tape,hb.os,hb.output,⟨hb.size,hd⟩⟩,by subst hw;exact ⟨⟨hb.size,fun b hlt _=>hb.block b hlt⟩,hr⟩⟩
section
variable {h:Heap}
theorem c88 (s p:ByteArray) (h:Heap):CallsH Tryz.prog 88 #[.string s,.string p] h (Ret (.bool (decide ((B s).take p.size=B p))) h):=by
 have hs:=B_len s
 have hp:=B_len p
 have e:s.extract (Int.toNat 0) (Int.toNat ((p.size:Nat):Int))=p↔(B s).take p.size=B p:=by
  rw [Int.toNat_natCast]
  constructor
  ·intro h1
   have:=congrArg B h1
   rwa [B_extract] at this
  ·intro h1
   apply B_inj
   rw [B_extract];exact h1
 refine run88 s p _ h ⟨fun hle=>⟨by omega,by omega,by omega,fun h1=>⟨by rw [decide_eq_true (e.1 h1)],rfl⟩,fun h1=>⟨by rw [decide_eq_false fun h2=>h1 (e.2 h2)],rfl⟩⟩,fun hgt=>⟨?_,rfl⟩⟩
 rw [decide_eq_false]
 intro h2
 have:=congrArg List.length h2
 rw [List.length_take] at this
 omega
theorem c46 (s p:ByteArray) (h:Heap):CallsH Tryz.prog 46 #[.string s,.string p] h (Ret (.bool (decide ((B s).take p.size=B p))) h):=
 run46 s p _ h (use (c88 s p h) ⟨_,rfl,rfl,rfl⟩)
theorem c163 (s:ByteArray) (h:Heap):CallsH Tryz.prog 163 #[.string s,.string (ByteArray.mk #[45])] h (Ret (.string (mk (bodyL (B s)))) h):=by
 have hs:=B_len s
 refine run163 s _ _ h (use (c88 s _ h) ⟨_,rfl,?_⟩)
 have e:(B s).take (ByteArray.mk #[45]).size=B (ByteArray.mk #[45])↔(B s).take 1=[45]:=Iff.rfl
 by_cases hc:(B s).take 1=[45]
 ·rw [decide_eq_true (e.2 hc)]
  have h1:1≤(B s).length:=by have:=congrArg List.length hc;rw [List.length_take] at this;simp at this;omega
  refine BIf.t ⟨by show (0:Int)≤((1:Nat):Int);omega,by show ((1:Nat):Int)≤_;omega,by omega,?_,rfl⟩
  congr 1
  apply B_inj
  rw [B_extract,B_mk]
  unfold bodyL
  rw [if_pos hc]
  show ((B s).drop 1).take (Int.toNat ((s.size:Nat):Int)-1)=_
  rw [Int.toNat_natCast,List.take_of_length_le (by rw [List.length_drop];omega)]
 ·rw [decide_eq_false fun h2=>hc (e.1 h2)]
  refine BIf.f ⟨?_,rfl⟩
  unfold bodyL
  rw [if_neg hc,mk_B]
theorem c141 (s:ByteArray) (h:Heap):CallsH Tryz.prog 141 #[.string s,.string (ByteArray.mk #[45])] h (Ret (.string (mk (bodyL (B s)))) h):=
 run141 s _ _ h (use (c163 s h) ⟨_,rfl,rfl,rfl⟩)
theorem c89 (b:UInt8) (h:Heap):CallsH Tryz.prog 89 #[.int .u8 (b.toNat:Int)] h (Ret (.bool (isBl b)) h):=by
 refine run89 _ _ h ⟨fun h1=>⟨?_,rfl⟩,fun h1=>⟨fun h2=>⟨?_,rfl⟩,fun h2=>⟨fun h3=>⟨?_,rfl⟩,fun h3=>⟨?_,rfl⟩⟩⟩⟩
 ·unfold isBl;rw [decide_eq_true (by omega)]
 ·unfold isBl;rw [decide_eq_true (by omega)]
 ·unfold isBl;rw [decide_eq_true (by omega)]
 ·unfold isBl;rw [decide_eq_false (by omega)]
theorem c117 (s:ByteArray) (hs:s.size<4294967281) (h:Heap):CallsH Tryz.prog 117 #[.string s] h (Ret (.bool (wholeOk (B s))) h):=by
 refine run117 s _ h (use (c141 s h) ⟨_,rfl,?_⟩)
 have hbl:(bodyL (B s)).length≤s.size:=by
  unfold bodyL
  have:=B_len s
  split
  ·rw [List.length_drop];omega
  ·omega
 have no:¬ (bodyL (B s)≠[]/\((bodyL (B s)).head?≠some 48∨B s=[48])/\∀ b∈bodyL (B s),isDig b=true)->Ret (.bool (wholeOk (B s))) h (.bool false) h:=fun hn=>by
  refine ⟨?_,rfl⟩
  cases hw:wholeOk (B s) with
  | false=>rfl
  | true=>exact absurd (wholeOk_t.1 hw) hn
 have e0:mk (bodyL (B s))=ByteArray.mk #[]↔bodyL (B s)=[]:=mk_inj (m:=[])
 refine ⟨fun h1=>no fun hh=>hh.1 (e0.1 h1),fun h1=>?_⟩
 have hne:bodyL (B s)≠[]:=fun h2=>h1 (e0.2 h2)
 have hpos:0<(bodyL (B s)).length:=List.length_pos_iff.2 hne
 have loop:((bodyL (B s)).head?≠some 48∨B s=[48])->J117_0 (Ret (.bool (wholeOk (B s))) h) (mk (bodyL (B s))) h:=fun hor=>by
  refine LoopT.to (n:=(bodyL (B s)).length) (by omega) (fun i h'=>h=h'/\∀ b∈(bodyL (B s)).take i,isDig b=true) ⟨rfl,by simp⟩ ?_
  rintro i _ K hi ⟨rfl,hI⟩ hK
  refine ⟨fun hlt=>?_,fun hlt=>?_⟩
  ·have hlt':(i:Int)<((bodyL (B s)).length:Nat):=hlt
   have hil:i<(B (mk (bodyL (B s)))).length:=by rw [B_mk];omega
   unfold J117_2
   rw [byteAt_nat hil]
   have hbt:(B (mk (bodyL (B s))))[i]∈bodyL (B s):=List.getElem_mem hil
   refine ⟨by omega,hlt,fun h2=>no fun hh=>?_,fun h2=>⟨by omega,hlt,fun h3=>no fun hh=>?_,fun h3=>hK _ (by omega) ⟨rfl,?_⟩⟩⟩
   ·have:=isDig_t.1 (hh.2.2 _ hbt);omega
   ·have:=isDig_t.1 (hh.2.2 _ hbt);omega
   ·intro b hb
    rw [List.take_succ_eq_append_getElem (by omega)] at hb
    rcases List.mem_append.1 hb with hb | hb
    ·exact hI b hb
    ·rw [List.mem_singleton] at hb;subst hb;exact (by have e9:(B (mk (bodyL (B s))))[i]=(bodyL (B s))[i]:=rfl;rw [e9] at h2 h3;exact isDig_t.2 ⟨by omega,by omega⟩)
  ·have hlt':¬ (i:Int)<((bodyL (B s)).length:Nat):=hlt
   rw [List.take_of_length_le (by omega)] at hI
   refine ⟨?_,rfl⟩
   rw [wholeOk_t.2 ⟨hne,hor,hI⟩]
 refine ⟨by omega,by show (0:Int)<((bodyL (B s)).length:Nat);omega,?_⟩
 have hb0:byteAt (mk (bodyL (B s))) 0=((bodyL (B s))[0].toNat:Int):=byteAt_nat (s:=mk (bodyL (B s))) (k:=0) hpos
 rw [hb0]
 have hh:(bodyL (B s)).head?=some (bodyL (B s))[0]:=by rw [List.head?_eq_getElem?,List.getElem?_eq_getElem hpos]
 have e48:(bodyL (B s)).head?=some 48↔(((bodyL (B s))[0].toNat:Nat):Int)=48:=by
  rw [hh]
  constructor
  ·intro h2;rw [Option.some.inj h2];rfl
  ·intro h2;congr 1;apply UInt8.toNat_inj.1;show _=48;omega
 refine ⟨fun h2=>⟨fun h3=>loop (.inr ?_),fun h3=>no fun hh2=>?_⟩,fun h2=>loop (.inl fun h3=>h2 (e48.1 h3))⟩
 ·rw [h3]
 ·rcases hh2.2.1 with h4 | h4
  ·exact h4 (e48.2 h2)
  ·exact h3 (B_inj h4)
theorem c118 (s:ByteArray) (hs:s.size<4294967281) (hw:wholeOk (B s)=true) (g:Gl h):CallsH Tryz.prog 118 #[.string s] h (Xt (.int .i64 (clampV (B s))) h):=by
 obtain ⟨-,-,⟨te,pe,hr⟩⟩:=g
 have ha:=atoi_whole hw
 refine run118 s _ h ?_
 have hlim:s.size≤281474976710656:=by omega
 by_cases hin:-9223372036854775808≤wholeV (B s)/\wholeV (B s)≤9223372036854775807
 ·rw [if_pos hin] at ha
  have:CallsH Tryz.prog 115 #[.string s] h fun v h'=>Ext h h'/\v=.tuple #[.int .i64 (wholeV (B s)),.nilIface]:=
   callsH_below (R:=fun v=>v=.tuple #[.int .i64 (wholeV (B s)),.nilIface]) fun w hw=>(Tryz.strconv_Atoi_ok s (by omega) _ ha w).mono fun e w' ⟨he,hor⟩=>by
    rcases hor with rfl | ⟨t,rfl⟩
    ·exact ⟨_,he,Below.refl _ _,.inl (Nat.le_refl _),rfl⟩
    ·exact ⟨_,he,by subst hw;exact Lib.bytesWorld_below _ _ _,.inl (Nat.le_succ _),rfl⟩
  refine this.mono ?_
  rintro _ h' ⟨x,rfl⟩
  refine ⟨_,_,rfl,fun _=>⟨?_,x⟩,fun hn=>absurd trivial hn⟩
  unfold clampV;rw [if_pos hin]
 ·rw [if_neg hin] at ha
  have:CallsH Tryz.prog 115 #[.string s] h fun v h'=>Ext h h'/\∃ z a b,v=.tuple #[.int .i64 z,.iface a b]:=
   callsH_below (R:=fun v=>∃ z a b,v=.tuple #[.int .i64 z,.iface a b]) fun w hw=>(Tryz.strconv_Atoi_range s hlim ha (.iface te pe) w (by subst hw;rw [cell_eq];exact hr) (.inr ⟨te,pe,rfl⟩)).mono fun e w' ⟨N,he,hN,hc,hb⟩=>
    ⟨_,he,by subst hw;exact hb,.inr (by have:=(Array.getElem?_eq_some_iff.1 hc).1;omega),_,_,_,rfl⟩
  refine this.mono ?_
  rintro _ h' ⟨x,z,a,b,rfl⟩
  refine ⟨_,_,rfl,fun hn=>hn.elim,fun hn=>⟨?_,x⟩⟩
  unfold clampV;rw [if_neg hin]
def cntS (l:List UInt8) (most:Int):Option Int:=if wholeOk l=true/\l.take 1≠[45]/\wholeV l≤most then some (wholeV l) else none
def cntV (l:List UInt8) (most:Int):Value:=match cntS l most with | some n=>.tuple #[.int .i64 n,.bool true] | none=>.tuple #[.int .i64 0,.bool false]
theorem c92 (s:ByteArray) (hs:s.size<4294967281) (g:Gl h) {most:Int} (m0:0≤most) (m1:most≤1000000):CallsH Tryz.prog 92 #[.string s,.int .i64 most] h (Xt (cntV (B s) most) h):=by
 have no:∀ {h'},Ext h h'->¬ (wholeOk (B s)=true/\(B s).take 1≠[45]/\wholeV (B s)≤most)->Xt (cntV (B s) most) h (.tuple #[.int .i64 0,.bool false]) h':=fun e hn=>by
  refine ⟨?_,e⟩
  unfold cntV cntS;rw [if_neg hn]
 refine run92 s most _ h (use (c117 s hs h) ⟨_,rfl,?_⟩)
 cases hw:wholeOk (B s) with
 | false=>exact BIf.t (no (.refl _) fun hh=>by rw [hw] at hh;cases hh.1)
 | true=>
  refine BIf.f ?_
  obtain ⟨h1,h2,h3⟩:=wholeOk_t.1 hw
  have hpos:0<(B s).length:=by
   apply List.length_pos_iff.2
   intro h0
   rw [h0] at h1
   exact h1 rfl
  have hlen:=B_len s
  have hb0:byteAt s 0=((B s)[0].toNat:Int):=byteAt_nat (s:=s) (k:=0) hpos
  have e45:(B s).take 1=[45]↔(((B s)[0].toNat:Nat):Int)=45:=by
   have:(B s).take 1=[(B s)[0]]:=by rw [List.take_succ_eq_append_getElem hpos];rfl
   rw [this]
   constructor
   ·intro h5;rw [(List.cons.inj h5).1];rfl
   ·intro h5;congr 1;apply UInt8.toNat_inj.1;show _=45;omega
  refine ⟨by omega,by omega,?_⟩
  rw [hb0]
  refine ⟨fun h5=>no (.refl _) fun hh=>hh.2.1 (e45.2 h5),fun h5=>useX (c118 s hs hw g) fun h1 e1=>⟨_,rfl,fun h6=>no e1 fun hh=>?_,fun h6=>useX (c118 s hs hw (g.ext e1)) fun h2 e2=>⟨_,rfl,?_,e1.trans e2⟩⟩⟩
  ·have:wholeV (B s)=val 0 (bodyL (B s)):=by unfold wholeV;rw [if_neg hh.2.1]
   have:=(clampV_in (l:=B s) m0 m1).1 (.inr h6)
   omega
  ·have hv:wholeV (B s)=val 0 (bodyL (B s)):=by unfold wholeV;rw [if_neg fun h7=>h5 (e45.1 h7)]
   have hn:¬ (wholeV (B s) < -most∨most<wholeV (B s)):=fun h8=>by
    have:=(clampV_in (l:=B s) m0 m1).2 h8
    have:clampV (B s)≤most:=by omega
    unfold clampV at *
    split at this <;> omega
   rw [clampV_eq m0 m1 hn]
   unfold cntV cntS
   rw [if_pos ⟨hw,fun h7=>h5 (e45.1 h7),by omega⟩]
end
end Go.Proofs.YtobageabpfkpcaaGreatDoor
set_option maxRecDepth 100000
namespace Go.Hx
structure RS where
 vars:Int
 cls:List (List Int)
 want:Int
 cur:List Int
 op:Bool
structure RS.Ok (s:RS):Prop where
 v0:0≤s.vars
 v1:s.vars≤262144
 w:s.want≤524288
 n:(s.cls.length:Int)≤s.want
 o:s.op=true->(s.cls.length:Int)<s.want
 e:s.op=false->s.cur=[]
 k:s.cur.length≤16384
def wdS (s:RS) (w:List UInt8):RS×Int:=
 if wholeOk w=false then (s,3)
 else if wholeV w < -s.vars∨s.vars<wholeV w then (s,141)
 else if s.op=false/\(s.cls.length:Int)=s.want then (s,41)
 else if wholeV w=0 then ({ s with cls:=s.cls++[s.cur],cur:=[],op:=false },0)
 else if s.cur.length=16384 then (s,2) else ({ s with cur:=s.cur++[wholeV w],op:=true },0)
theorem wdS_ok {s:RS} (ok:s.Ok) (w:List UInt8):(wdS s w).1.Ok:=by
 have h1:=ok.n
 have h2:=ok.o
 have h3:=ok.k
 unfold wdS
 split
 ·exact ok
 ·split
  ·exact ok
  ·split
   ·exact ok
   ·rename_i h4
    have hlt:(s.cls.length:Int)<s.want:=by
     cases ho:s.op with
     | true=>exact h2 ho
     | false=>have:¬ (s.cls.length:Int)=s.want:=fun he=>h4 ⟨ho,he⟩;omega
    split
    ·exact ⟨ok.v0,ok.v1,ok.w,by simp;omega,(fun h=>by cases h),fun _=>rfl,by simp⟩
    ·split
     ·exact ok
     ·exact ⟨ok.v0,ok.v1,ok.w,ok.n,fun _=>hlt,(fun h=>by cases h),by simp;omega⟩
def Rdr (h0 h:Heap) (A:Nat) (s:RS) (X:List Itm):Prop:=
 ∃ (rows:List Rw) (a:Option Addr) (n c:Nat) (b:Option Addr) (m d:Nat),rows.map Rw.l=s.cls /\
  Mem h0 h (⟨1,some ⟨A,0,none⟩,5,5,[.int .i64 s.vars,.slice a n c,.int .i64 s.want,.slice b m d,.bool s.op]⟩::⟨1,a,n,c,rows.map Rw.v⟩::⟨1,b,m,d,ints s.cur⟩::(rows.map Rw.it++X))
theorem Rdr.ext' {h0 h h':Heap} {A:Nat} {s:RS} {X:List Itm} (r:Rdr h0 h A s X) (u:Ext h h'):Rdr h0 h' A s X:=by
 obtain ⟨rows,a,n,c,b,m,d,h1,me⟩:=r
 exact ⟨rows,a,n,c,b,m,d,h1,me.ext' u⟩
theorem Rdr.ext {h0 h:Heap} {A:Nat} {s:RS} {X:List Itm} (r:Rdr h0 h A s X):Ext h0 h:=by
 obtain ⟨rows,a,n,c,b,m,d,h1,me⟩:=r
 exact me.ext
theorem add00 (A:Nat) (k:Nat):Addr.add (Addr.add ⟨A,0,none⟩ 0) k=Addr.add ⟨A,0,none⟩ k:=by rw [addr_add0]
theorem Rdr.get {h0 h:Heap} {A:Nat} {s:RS} {X:List Itm} (r:Rdr h0 h A s X):A<h.size/\cellH h (Addr.add ⟨A,0,none⟩ 0)=some (.int .i64 s.vars)/\(∃ a c,cellH h (Addr.add ⟨A,0,none⟩ 1)=some (.slice a s.cls.length c)) /\
  cellH h (Addr.add ⟨A,0,none⟩ 2)=some (.int .i64 s.want)/\(∃ b d,cellH h (Addr.add ⟨A,0,none⟩ 3)=some (.slice b s.cur.length d))/\cellH h (Addr.add ⟨A,0,none⟩ 4)=some (.bool s.op):=by
 obtain ⟨rows,a,n,c,b,m,d,h1,me⟩:=r
 have f:=(me.get 0 rfl).rd
 have l1:rows.length=n:=by have:=(me.get 1 rfl).rd.len;simpa using this
 have l2:s.cur.length=m:=(me.get 2 rfl).rd.ilen
 have l3:s.cls.length=n:=by rw [<- h1,List.length_map];exact l1
 subst l2 l3
 exact ⟨(me.get 0 rfl).own.lt,f.fld 0 rfl,⟨_,_,f.fld 1 rfl⟩,f.fld 2 rfl,⟨_,_,f.fld 3 rfl⟩,f.fld 4 rfl⟩
theorem clo_step {h0 h:Heap} {A:Nat} {s:RS} {X:List Itm} (r:Rdr h0 h A s X) (hn:s.cls.length≤524288) {K:Heap->Prop} (hK:∀ h',Rdr h0 h' A { s with cls:=s.cls++[s.cur],cur:=[],op:=false } X->K h') :
  (Addr.add ⟨A,0,none⟩ 1).block<h.size/\∃ (A2:Option Addr) (N2 C2:Nat),cellH h (Addr.add ⟨A,0,none⟩ 1)=some (.slice A2 N2 C2)/\(Addr.add ⟨A,0,none⟩ 3).block<h.size/\∃ (A3:Option Addr) (N3 C3:Nat),cellH h (Addr.add ⟨A,0,none⟩ 3)=some (.slice A3 N3 C3) /\
   AgreeH h.size h (h.push (.cells #[.slice A3 N3 C3] 65))/\∃ ys:List Value,ReadL (h.push (.cells #[.slice A3 N3 C3] 65)) (some ⟨h.size,0,none⟩) ys/\ys.length=1*1/\AppS (h.push (.cells #[.slice A3 N3 C3] 65)) A2 N2 C2 65 24 1 #[.slice none 0 0] ys 1 fun a n c h9=>
    StoreH h9 (Addr.add ⟨A,0,none⟩ 1) [.slice a n c] fun h10=>StoreH h10 (Addr.add ⟨A,0,none⟩ 3) [.slice none 0 0] fun h11=>StoreH h11 (Addr.add ⟨A,0,none⟩ 4) [.bool false] K:=by
 obtain ⟨rows,a,n,c,b,m,d,h1,me⟩:=r
 have f:=(me.get 0 rfl).rd
 have l1:rows.length=n:=by have:=(me.get 1 rfl).rd.len;simpa using this
 have l3:s.cls.length=n:=by rw [<- h1,List.length_map];exact l1
 have hA:A<h.size:=(me.get 0 rfl).own.lt
 refine ⟨hA,_,_,_,f.fld 1 rfl,hA,_,_,_,f.fld 3 rfl,agrH (Ext.push h _) (Nat.le_refl _),[(Rw.mk b m d s.cur).v],(Fr.lit (.refl h) [.slice b m d] 65 1 rfl).rd.read,rfl,?_⟩
 have m7:=me.ext' (Ext.push h (.cells #[.slice b m d] 65))
 refine (m7.get 1 rfl).app rfl (by simp [Rw.v,Value.oneCell']) (by omega) fun a' c' h8 f8 u8 hor=>?_
 have m8:=m7.setAt 1 (t':=⟨1,a',n+1,c',(rows++[Rw.mk b m d s.cur]).map Rw.v⟩) rfl (by rw [List.map_append];exact f8) u8 hor
 refine (m8.get 0 rfl).cellAt 1 (by omega) rfl fun h9 u9 f9=>?_
 have m9:=m8.setAt 0 (t':=⟨1,some ⟨A,0,none⟩,5,5,[.int .i64 s.vars,.slice a' (n+1) c',.int .i64 s.want,.slice b m d,.bool s.op]⟩) rfl f9 u9 (.inl rfl)
 refine (m9.get 0 rfl).cellAt 3 (by omega) rfl fun h10 u10 f10=>?_
 have m10:=m9.setAt 0 (t':=⟨1,some ⟨A,0,none⟩,5,5,[.int .i64 s.vars,.slice a' (n+1) c',.int .i64 s.want,.slice none 0 0,.bool s.op]⟩) rfl f10 u10 (.inl rfl)
 refine (m10.get 0 rfl).cellAt 4 (by omega) rfl fun h11 u11 f11=>?_
 have m11:=m10.setAt 0 (t':=⟨1,some ⟨A,0,none⟩,5,5,[.int .i64 s.vars,.slice a' (n+1) c',.int .i64 s.want,.slice none 0 0,.bool false]⟩) rfl f11 u11 (.inl rfl)
 refine hK h11 ⟨rows++[Rw.mk b m d s.cur],a',n+1,c',none,0,0,by rw [List.map_append,h1];rfl,?_⟩
 have m12:Mem h0 h11 ([⟨1,some ⟨A,0,none⟩,5,5,[.int .i64 s.vars,.slice a' (n+1) c',.int .i64 s.want,.slice none 0 0,.bool false]⟩,⟨1,a',n+1,c',(rows++[Rw.mk b m d s.cur]).map Rw.v⟩]++(Rw.it (Rw.mk b m d s.cur)::(rows.map Rw.it++X))):=m11
 have m13:=m12.perm (l':=[⟨1,some ⟨A,0,none⟩,5,5,[.int .i64 s.vars,.slice a' (n+1) c',.int .i64 s.want,.slice none 0 0,.bool false]⟩,⟨1,a',n+1,c',(rows++[Rw.mk b m d s.cur]).map Rw.v⟩]++((rows++[Rw.mk b m d s.cur]).map Rw.it++X)) (List.Perm.append_left _ (by
  rw [List.map_append,List.append_assoc]
  exact List.perm_middle.symm))
 have m14:=(Mem.nil (.refl _)).add (t:=⟨1,none,0,0,ints []⟩) (Fr.nil (.refl h11))
 have m15:=m13.app m14
 exact m15.perm (by
  refine (List.Perm.swap _ _ _).trans (List.Perm.cons _ ?_)
  exact List.Perm.swap _ _ _)
theorem lit_step {h0 h:Heap} {A:Nat} {s:RS} {X:List Itm} (r:Rdr h0 h A s X) (hn:s.cur.length≤16384) (x:Int) {K:Heap->Prop} (hK:∀ h',Rdr h0 h' A { s with cur:=s.cur++[x] } X->K h') :
  ∃ (A4:Option Addr) (N4 C4:Nat),cellH h (Addr.add ⟨A,0,none⟩ 3)=some (.slice A4 N4 C4)/\∃ ys:List Value,ReadL (h.push (.cells #[.int .i64 x] 3)) (some ⟨h.size,0,none⟩) ys/\ys.length=1*1/\AppS (h.push (.cells #[.int .i64 x] 3)) A4 N4 C4 3 8 1 #[.int .i64 0] ys 1 fun a n c h9=>
    StoreH h9 (Addr.add ⟨A,0,none⟩ 3) [.slice a n c] K:=by
 obtain ⟨rows,a,n,c,b,m,d,h1,me⟩:=r
 have f:=(me.get 0 rfl).rd
 have l2:s.cur.length=m:=(me.get 2 rfl).rd.ilen
 refine ⟨_,_,_,f.fld 3 rfl,[.int .i64 x],(Fr.lit (.refl h) [.int .i64 x] 3 1 rfl).rd.read,rfl,?_⟩
 have m7:=me.ext' (Ext.push h (.cells #[.int .i64 x] 3))
 refine (m7.get 2 rfl).app rfl (by simp [Value.oneCell']) (by omega) fun a' c' h8 f8 u8 hor=>?_
 have m8:=m7.setAt 2 (t':=⟨1,a',m+1,c',ints (s.cur++[x])⟩) rfl (by rw [ints,List.map_append];exact f8) u8 hor
 refine (m8.get 0 rfl).cellAt 3 (by omega) rfl fun h9 u9 f9=>?_
 exact hK h9 ⟨rows,a,n,c,a',m+1,c',h1,m8.setAt 0 (t':=⟨1,some ⟨A,0,none⟩,5,5,[.int .i64 s.vars,.slice a n c,.int .i64 s.want,.slice a' (m+1) c',.bool s.op]⟩) rfl f9 u9 (.inl rfl)⟩
theorem op_step {h0 h:Heap} {A:Nat} {s:RS} {X:List Itm} (r:Rdr h0 h A s X) (b:Bool) {K:Heap->Prop} (hK:∀ h',Rdr h0 h' A { s with op:=b } X->K h'):StoreH h (Addr.add ⟨A,0,none⟩ 4) [.bool b] K:=by
 obtain ⟨rows,a,n,c,bb,m,d,h1,me⟩:=r
 refine (me.get 0 rfl).cellAt 4 (by omega) rfl fun h9 u9 f9=>?_
 exact hK h9 ⟨rows,a,n,c,bb,m,d,h1,me.setAt 0 (t':=⟨1,some ⟨A,0,none⟩,5,5,[.int .i64 s.vars,.slice a n c,.int .i64 s.want,.slice bb m d,.bool b]⟩) rfl f9 u9 (.inl rfl)⟩
theorem nil_step {h0 h:Heap} {A:Nat} {s:RS} {X:List Itm} (r:Rdr h0 h A s X) {K:Heap->Prop} (hK:∀ h',Rdr h0 h' A { s with cur:=[] } X->K h'):StoreH h (Addr.add ⟨A,0,none⟩ 3) [.slice none 0 0] K:=by
 obtain ⟨rows,a,n,c,b,m,d,h1,me⟩:=r
 refine (me.get 0 rfl).cellAt 3 (by omega) rfl fun h9 u9 f9=>?_
 have m9:=me.setAt 0 (t':=⟨1,some ⟨A,0,none⟩,5,5,[.int .i64 s.vars,.slice a n c,.int .i64 s.want,.slice none 0 0,.bool s.op]⟩) rfl f9 u9 (.inl rfl)
 exact hK h9 ⟨rows,a,n,c,none,0,0,h1,m9.unset 2 rfl 1⟩
theorem prob_step {h0 h:Heap} {A:Nat} {s:RS} {X:List Itm} (r:Rdr h0 h A s X) (x y:Int) {K:Heap->Prop} (hK:∀ h',Rdr h0 h' A { s with vars:=x,want:=y } X->K h') :
  StoreH h (Addr.add ⟨A,0,none⟩ 0) [.int .i64 x] fun h1=>StoreH h1 (Addr.add ⟨A,0,none⟩ 2) [.int .i64 y] K:=by
 obtain ⟨rows,a,n,c,b,m,d,h1,me⟩:=r
 refine (me.get 0 rfl).cellAt 0 (by omega) rfl fun h8 u8 f8=>?_
 have m8:=me.setAt 0 (t':=⟨1,some ⟨A,0,none⟩,5,5,[.int .i64 x,.slice a n c,.int .i64 s.want,.slice b m d,.bool s.op]⟩) rfl f8 u8 (.inl rfl)
 refine (m8.get 0 rfl).cellAt 2 (by omega) rfl fun h9 u9 f9=>?_
 exact hK h9 ⟨rows,a,n,c,b,m,d,h1,m8.setAt 0 (t':=⟨1,some ⟨A,0,none⟩,5,5,[.int .i64 x,.slice a n c,.int .i64 y,.slice b m d,.bool s.op]⟩) rfl f9 u9 (.inl rfl)⟩
end Go.Hx
namespace Go.Proofs.YtobageabpfkpcaaGreatDoor
open Go.Hx Go.RowKit
section
variable {h0 h:Heap} {A:Nat} {s:RS} {X:List Itm}
theorem c90 (r:Rdr h0 h A s X) (ok:s.Ok) (g:Gl h0) (w:ByteArray) (hs:w.size<4294967281):CallsH Tryz.prog 90 #[.pointer (some ⟨A,0,none⟩),.string w] h fun v h'=>v=.int .i64 (wdS s (B w)).2/\Rdr h0 h' A (wdS s (B w)).1 X:=by
 have fin:∀ {q:RS×Int} {h'},wdS s (B w)=q->Rdr h0 h' A q.1 X->(fun v h'=>v=Value.int .i64 (wdS s (B w)).2/\Rdr h0 h' A (wdS s (B w)).1 X) (Value.int .i64 q.2) h':=fun hq hr=>by rw [hq];exact ⟨rfl,hr⟩
 refine run90 (some ⟨A,0,none⟩) w _ h (use (c117 w hs h) ⟨_,rfl,?_⟩)
 cases hw:wholeOk (B w) with
 | false=>exact BIf.t (fin (q:=(s,3)) (by unfold wdS;rw [if_pos hw]) r)
 | true=>
  refine BIf.f (useX (c118 w hs hw (g.ext r.ext)) fun h1 e1=>⟨_,rfl,?_⟩)
  have r1:=r.ext' e1
  obtain ⟨hA,g0,⟨ca,cc,g1⟩,g2,⟨cb,cd,g3⟩,g4⟩:=r1.get
  have o1:=ok.v0
  have o2:=ok.v1
  have o3:=ok.w
  have o4:=ok.n
  have o5:=ok.o
  have o6:=ok.e
  have o7:=ok.k
  have hzero:clampV (B w)=0↔wholeV (B w)=0:=by unfold clampV;split <;> omega
  have hin:=clampV_in (l:=B w) o1 (by omega)
  have hwf:¬ wholeOk (B w)=false:=by rw [hw];simp
  have e0:∀ k,Addr.add (Addr.add ⟨A,0,none⟩ 0) k=Addr.add ⟨A,0,none⟩ k:=add00 A
  have w141:(wholeV (B w) < -s.vars∨s.vars<wholeV (B w))->wdS s (B w)=(s,141):=fun hb=>by unfold wdS;rw [if_neg hwf,if_pos hb]
  have body:∀ kind,kind=(if wholeV (B w)=0 then 1 else 2)+(if s.op=true then 0 else 2)->¬ (wholeV (B w) < -s.vars∨s.vars<wholeV (B w))->¬ (s.op=false/\(s.cls.length:Int)=s.want)->(wholeV (B w)=0∨s.cur.length≠16384) ->
    J90_3 (fun v h'=>v=.int .i64 (wdS s (B w)).2/\Rdr h0 h' A (wdS s (B w)).1 X) (some ⟨A,0,none⟩) (clampV (B w)) kind h1:=fun kind hk hb hf hl=>by
   have hcv:=clampV_eq (l:=B w) o1 (by omega) hb
   have hcl:s.cls.length≤524288:=by omega
   have close:wholeV (B w)=0->∀ h2,Rdr h0 h2 A s X->J90_5 (fun v h'=>v=.int .i64 (wdS s (B w)).2/\Rdr h0 h' A (wdS s (B w)).1 X) (some ⟨A,0,none⟩) h2:=fun hx h2 r2=>by
    have:=clo_step r2 hcl (K:=fun h'=>(fun v h'=>v=Value.int .i64 (wdS s (B w)).2/\Rdr h0 h' A (wdS s (B w)).1 X) (.int .i64 0) h') fun h' r'=>fin (q:=(_,0)) (by unfold wdS;rw [if_neg hwf,if_neg hb,if_neg hf,if_pos hx]) r'
    unfold J90_5
    simp only [AtP,e0]
    exact this
   unfold J90_3
   by_cases hx:wholeV (B w)=0
   ·cases ho:s.op with
    | false=>
     have hk3:kind=3:=by rw [hk,if_pos hx,ho];rfl
     refine ⟨fun _=>AtP.mk rfl (nil_step r1 fun h2 r2=>close hx h2 ?_),fun hn=>absurd hk3 hn⟩
     have:({ s with cur:=[] }:RS)=s:=by have:=o6 ho;cases s;simp only at this;subst this;rfl
     rwa [this] at r2
    | true=>
     have hk1:kind=1:=by rw [hk,if_pos hx,ho];rfl
     refine ⟨fun hn=>by omega,fun _=>?_⟩
     unfold J90_6
     exact ⟨fun _=>close hx h1 r1,fun hn=>absurd hk1 hn⟩
   ·have app:∀ h2,Rdr h0 h2 A { s with op:=true } X->J90_4 (fun v h'=>v=.int .i64 (wdS s (B w)).2/\Rdr h0 h' A (wdS s (B w)).1 X) (some ⟨A,0,none⟩) (clampV (B w)) h2:=fun h2 r2=>by
     rw [hcv]
     exact lit_step r2 o7 (wholeV (B w)) fun h' r'=>fin (q:=(_,0)) (by unfold wdS;rw [if_neg hwf,if_neg hb,if_neg hf,if_neg hx,if_neg (hl.resolve_left hx)]) r'
    cases ho:s.op with
    | false=>
     have hk4:kind=4:=by rw [hk,if_neg hx,ho];rfl
     refine ⟨fun hn=>by omega,fun _=>?_⟩
     unfold J90_6
     exact ⟨fun hn=>by omega,fun _=>⟨fun _=>AtP.mk rfl (op_step r1 true fun h2 r2=>app h2 r2),fun hn=>absurd hk4 hn⟩⟩
    | true=>
     have hk2:kind=2:=by rw [hk,if_neg hx,ho];rfl
     refine ⟨fun hn=>by omega,fun _=>?_⟩
     unfold J90_6
     refine ⟨fun hn=>by omega,fun _=>⟨fun hn=>by omega,fun _=>app h1 ?_⟩⟩
     have:({ s with op:=true }:RS)=s:=by cases s;simp only at ho;subst ho;rfl
     rwa [this]
  have key:∀ kind,kind=(if wholeV (B w)=0 then 1 else 2)+(if s.op=true then 0 else 2)->J90_2 (fun v h'=>v=.int .i64 (wdS s (B w)).2/\Rdr h0 h' A (wdS s (B w)).1 X) (some ⟨A,0,none⟩) (clampV (B w)) kind h1:=fun kind hk=>by
   have g0':cellH h1 (Addr.add (Addr.add ⟨A,0,none⟩ 0) 0)=some (.int .i64 s.vars):=by rw [e0];exact g0
   have g1':cellH h1 (Addr.add (Addr.add ⟨A,0,none⟩ 0) 1)=some (.slice ca s.cls.length cc):=by rw [e0];exact g1
   have wn:IntKind.wrap .i64 (0-s.vars) = -s.vars:=by rw [w64 (by omega) (by omega)];omega
   refine AtP.mk rfl ⟨_,g0',?_⟩
   rw [wn]
   refine ⟨fun hlt=>fin (q:=(s,141)) (w141 (hin.1 (.inl hlt))) r1,fun hge=>AtP.mk rfl ⟨_,g0',fun hgt=>fin (q:=(s,141)) (w141 (hin.1 (.inr hgt))) r1,fun hle=>?_⟩⟩
   have hb:¬ (wholeV (B w) < -s.vars∨s.vars<wholeV (B w)):=fun hh=>by have:=hin.2 hh;omega
   have w2:wholeV (B w)≠0->¬ (s.op=false/\(s.cls.length:Int)=s.want)->s.cur.length=16384->wdS s (B w)=(s,2):=fun hx hf hl=>by unfold wdS;rw [if_neg hwf,if_neg hb,if_neg hf,if_neg hx,if_pos hl]
   have tail:¬ (s.op=false/\(s.cls.length:Int)=s.want)->PIf (clampV (B w)=0) (J90_3 (fun v h'=>v=.int .i64 (wdS s (B w)).2/\Rdr h0 h' A (wdS s (B w)).1 X) (some ⟨A,0,none⟩) (clampV (B w)) kind h1)
     (AtP (some ⟨A,0,none⟩) fun ad5=>∃ (A1:Option Addr),∃ (N1:Nat),∃ (C1:Nat),cellH h1 (Addr.add ad5 3)=some (.slice A1 N1 C1)/\PIf ((((N1:Nat):Int):Int)=16384) ((fun v h'=>v=Value.int .i64 (wdS s (B w)).2/\Rdr h0 h' A (wdS s (B w)).1 X) (.int .i64 2) h1) (J90_3 (fun v h'=>v=.int .i64 (wdS s (B w)).2/\Rdr h0 h' A (wdS s (B w)).1 X) (some ⟨A,0,none⟩) (clampV (B w)) kind h1)):=fun hf=>
    ⟨fun hz=>body kind hk hb hf (.inl (hzero.1 hz)),fun hz=>AtP.mk rfl ⟨_,_,_,g3,fun hl=>fin (q:=(s,2)) (w2 (fun h=>hz (hzero.2 h)) hf (by omega)) r1,fun hl=>body kind hk hb hf (.inr (by omega))⟩⟩
   refine ⟨fun hk2=>AtP.mk rfl ⟨_,_,_,g1',AtP.mk rfl ⟨_,g2,fun heq=>fin (q:=(s,41)) ?_ r1,fun hne=>tail fun hh=>hne hh.2⟩⟩,fun hk2=>tail fun hh=>?_⟩
   ·have ho:s.op=false:=by
     cases ho:s.op with
     | false=>rfl
     | true=>rw [hk,ho] at hk2;split at hk2 <;> simp at hk2
    unfold wdS;rw [if_neg hwf,if_neg hb,if_pos ⟨ho,heq⟩]
   ·rw [hk,hh.1] at hk2
    split at hk2 <;> simp at hk2
  have key1:∀ kind,(kind=if wholeV (B w)=0 then 1 else 2)->J90_1 (fun v h'=>v=.int .i64 (wdS s (B w)).2/\Rdr h0 h' A (wdS s (B w)).1 X) (some ⟨A,0,none⟩) (clampV (B w)) kind h1:=fun kind hk=>by
   refine AtP.mk rfl ⟨_,g4,?_⟩
   cases ho:s.op with
   | false=>
    refine BIf.t (key _ ?_)
    rw [hk,ho]
    split <;> (rw [w64 (by omega) (by omega)];rfl)
   | true=>
    refine BIf.f (key _ ?_)
    rw [hk,ho]
    split <;> rfl
  exact ⟨fun hz=>key1 1 (by rw [if_pos (hzero.1 hz)]),fun hz=>key1 2 (by rw [if_neg fun h=>hz (hzero.2 h)])⟩
end
end Go.Proofs.YtobageabpfkpcaaGreatDoor
set_option maxRecDepth 100000
namespace Go.Hx
def nb (b:UInt8):Bool:=!isBl b
def lnS:List UInt8->Nat->Nat->RS->RS×Nat×Int
 | [],_,_,s=>(s,0,0)
 | _::r,k+1,i,s=>lnS r k (i+1) s
 | b::r,0,i,s=>if isBl b=true then lnS r 0 (i+1) s else if (wdS s (b::r.takeWhile nb)).2≠0 then ((wdS s (b::r.takeWhile nb)).1,i,(wdS s (b::r.takeWhile nb)).2) else lnS r (r.takeWhile nb).length (i+1) (wdS s (b::r.takeWhile nb)).1
theorem lnS_skip:∀ (L:List UInt8) (k i:Nat) (s:RS),lnS L k i s=lnS (L.drop k) 0 (i+k) s
 | [],k,i,s=>by cases k <;> rfl
 | b::r,0,i,s=>rfl
 | b::r,k+1,i,s=>by
  rw [lnS,List.drop_succ_cons,lnS_skip r k (i+1) s,show i+1+k=i+(k+1) by omega]
theorem lnS_end {L:List UInt8} {i:Nat} {s:RS} (h:L.length≤i):lnS (L.drop i) 0 i s=(s,0,0):=by rw [List.drop_eq_nil_of_le h];rfl
theorem lnS_bl {L:List UInt8} {i:Nat} {s:RS} (h:i<L.length) (hb:isBl L[i]=true):lnS (L.drop i) 0 i s=lnS (L.drop (i+1)) 0 (i+1) s:=by
 rw [List.drop_eq_getElem_cons h,lnS,if_pos hb]
structure WdAt (L:List UInt8) (i j:Nat):Prop where
 lt:i<j
 le:j≤L.length
 nbl:∀ k,i≤k->(hk:k<L.length)->k<j->isBl L[k]=false
 nd:(hj:j<L.length)->isBl L[j]=true
theorem tw_len {p:UInt8->Bool}:∀ (l:List UInt8) (k:Nat),k≤l.length->(∀ j,(hj:j<l.length)->j<k->p l[j]=true)->((hk:k<l.length)->p l[k]=false)->l.takeWhile p=l.take k
 | [],k,_,_,_=>by simp
 | a::l,0,_,_,h=>by
  have ha:p a=false:=h (by simp)
  rw [List.takeWhile_cons_of_neg (by rw [ha];simp)];rfl
 | a::l,k+1,hk,h1,h2=>by
  have ha:p a=true:=h1 0 (by simp) (by omega)
  rw [List.takeWhile_cons_of_pos ha,List.take_succ_cons,tw_len l k (by simpa using hk) (fun j hj hjk=>h1 (j+1) (by simpa using hj) (by omega)) (fun hkl=>h2 (by simpa using hkl))]
theorem WdAt.tw {L:List UInt8} {i j:Nat} (w:WdAt L i j):(L.drop (i+1)).takeWhile nb=(L.drop (i+1)).take (j-(i+1)):=by
 have h1:=w.lt
 have h2:=w.le
 refine tw_len _ _ (by rw [List.length_drop];omega) (fun k hk hkj=>?_) (fun hk=>?_)
 ·rw [List.length_drop] at hk
  unfold nb;rw [List.getElem_drop,w.nbl _ (by omega) (by omega) (by omega)];rfl
 ·rw [List.length_drop] at hk
  unfold nb;rw [List.getElem_drop]
  have:=w.nd (by omega)
  simp only [show i+1+(j-(i+1))=j by omega,this];rfl
theorem WdAt.wd {L:List UInt8} {i j:Nat} (w:WdAt L i j):L[i]'(by have:=w.lt;have:=w.le;omega)::(L.drop (i+1)).takeWhile nb=(L.drop i).take (j-i):=by
 have h1:=w.lt
 have h2:=w.le
 rw [w.tw,List.drop_eq_getElem_cons (show i<L.length by omega),show j-i=j-(i+1)+1 by omega,List.take_succ_cons]
theorem lnS_wd {L:List UInt8} {i j:Nat} {s:RS} (w:WdAt L i j):lnS (L.drop i) 0 i s=if (wdS s ((L.drop i).take (j-i))).2≠0 then ((wdS s ((L.drop i).take (j-i))).1,i,(wdS s ((L.drop i).take (j-i))).2) else lnS (L.drop j) 0 j (wdS s ((L.drop i).take (j-i))).1:=by
 have h1:=w.lt
 have h2:=w.le
 have hi:i<L.length:=by omega
 have hb:=w.nbl i (Nat.le_refl _) hi h1
 rw [<- w.wd]
 conv=>lhs;rw [List.drop_eq_getElem_cons hi,lnS,if_neg (by rw [hb];simp)]
 rw [lnS_skip,w.tw,List.length_take,List.length_drop,List.drop_drop,show i+1+min (j-(i+1)) (L.length-(i+1))=j by omega]
theorem LoopT.frm {B:Int->Heap->(Int->Heap->Prop)->Prop} {a n:Nat} {h:Heap} (ha:a≤n) (I:Nat->Heap->Prop) (h0:I a h)
  (hs:∀ (i:Nat) (h':Heap) (K:Int->Heap->Prop),a≤i->i≤n->I i h'->(∀ (j:Nat) h'',i<j->j≤n->I j h''->K (j:Int) h'')->B i h' K):LoopT B (a:Int) h:=by
 refine ⟨fun t h' m=>∃ i:Nat,t=i/\a≤i/\i≤n/\m=n-i/\I i h',⟨n-a,a,rfl,Nat.le_refl _,ha,rfl,h0⟩,?_⟩
 rintro t h' m ⟨i,rfl,hai,hi,rfl,hI⟩
 refine hs i h' _ hai hi hI fun j h'' hlt hj hI'=>?_
 exact ⟨n-j,by omega,j,rfl,by omega,hj,rfl,hI'⟩
section
variable {h0 h h':Heap} {A:Nat} {s:RS} {X:List Itm}
theorem Rdr.addX (r:Rdr h0 h A s X) {t:Itm} (f:t.Fr h h'):Rdr h0 h' A s (t::X):=by
 obtain ⟨rows,a,n,c,b,m,d,h1,me⟩:=r
 exact ⟨rows,a,n,c,b,m,d,h1,(me.add f).perm ((List.perm_middle (l₁:=_::_::_::rows.map Rw.it)).symm)⟩
theorem Rdr.getX (r:Rdr h0 h A s X) {k:Nat} {sz n c:Nat} {a:Option Addr} {vs:List Value} (hk:X[k]?=some ⟨sz,a,n,c,vs⟩):Fr h0 sz h a n c vs:=by
 obtain ⟨rows,a,n,c,b,m,d,h1,me⟩:=r
 have:=List.mem_of_getElem? hk
 exact me.fr _ (by simp only [List.mem_cons,List.mem_append];exact .inr (.inr (.inr (.inr this))))
theorem Rdr.setX (r:Rdr h0 h A s X) (k:Nat) {t t':Itm} (hk:X[k]?=some t) (f:t'.Fr h0 h') (u:Upd (atb t.a) h h') (hor:t'.a=t.a∨∃ ad,t'.a=some ad/\h.size≤ad.block):Rdr h0 h' A s (X.set k t'):=by
 obtain ⟨rows,a,n,c,b,m,d,h1,me⟩:=r
 refine ⟨rows,a,n,c,b,m,d,h1,?_⟩
 have hlt:k<X.length:=(List.getElem?_eq_some_iff.1 hk).1
 have m1:=me.perm (l':=X++(⟨1,some ⟨A,0,none⟩,5,5,[.int .i64 s.vars,.slice a n c,.int .i64 s.want,.slice b m d,.bool s.op]⟩::⟨1,a,n,c,rows.map Rw.v⟩::⟨1,b,m,d,ints s.cur⟩::rows.map Rw.it)) (List.perm_append_comm (l₁:=_::_::_::rows.map Rw.it))
 have m2:=m1.setAt k (t':=t') (by rw [List.getElem?_append_left hlt];exact hk) f u hor
 rw [List.set_append_left _ _ hlt] at m2
 exact m2.perm (List.perm_append_comm (l₂:=_::_::_::rows.map Rw.it))
theorem Rdr.subX (r:Rdr h0 h A s X) {Y:List Itm} (hs:Y.Sublist X):Rdr h0 h A s Y:=by
 obtain ⟨rows,a,n,c,b,m,d,h1,me⟩:=r
 exact ⟨rows,a,n,c,b,m,d,h1,me.sub (.cons_cons _ (.cons_cons _ (.cons_cons _ (List.Sublist.append (.refl _) hs))))⟩
end
def lnV (at_:Int) (q:RS×Nat×Int):Value:=if q.2.2≠0 then flt (at_+q.2.1) q.2.2 else flt 0 0
theorem lnV0 {at_:Int} {q:RS×Nat×Int} (h:q.2.2=0):lnV at_ q=flt 0 0:=by unfold lnV;rw [if_neg (by simp [h])]
theorem lnV1 {at_:Int} {q:RS×Nat×Int} (h:q.2.2≠0):lnV at_ q=flt (at_+q.2.1) q.2.2:=by unfold lnV;rw [if_pos h]
end Go.Hx
namespace Go.Proofs.YtobageabpfkpcaaGreatDoor
open Go.Hx Go.RowKit
section
variable {h0 h:Heap} {A:Nat} {s:RS} {X:List Itm}
theorem c47 (r:Rdr h0 h A s X) (ok:s.Ok) (g:Gl h0) (l:ByteArray) (hs:l.size≤262144) (p:Nat) (hp:p≤262145):CallsH Tryz.prog 47 #[.pointer (some ⟨A,0,none⟩),.string l,.int .i64 (p:Int)] h fun v h'=>v=lnV p (lnS (B l) 0 0 s)/\Rdr h0 h' A (lnS (B l) 0 0 s).1 X/\(lnS (B l) 0 0 s).1.Ok:=by
 have hlen:=B_len l
 refine run47 (some ⟨A,0,none⟩) l p _ h ?_
 unfold VC47
 intro h1
 have f1:Fr h 1 h1 (some ⟨h.size,0,none⟩) 2 2 [.int .i64 0,.int .i64 0]:=Fr.two h 0 0 27
 have r1:Rdr h0 h1 A s (⟨1,some ⟨h.size,0,none⟩,2,2,[.int .i64 0,.int .i64 0]⟩::X):=r.addX f1
 refine LoopT.frm (a:=0) (n:=l.size) (Nat.zero_le _) (fun i h'=>∃ s',s'.Ok/\lnS (B l) 0 0 s=lnS ((B l).drop i) 0 i s'/\Rdr h0 h' A s' (⟨1,some ⟨h.size,0,none⟩,2,2,[.int .i64 0,.int .i64 0]⟩::X)) ⟨s,ok,rfl,r1⟩ ?_
 rintro i h2 K-hi ⟨s',ok',hI,r2⟩ hK
 have box:∀ {h3:Heap} {q:RS} (e k:Int),Rdr h0 h3 A q (⟨1,some ⟨h.size,0,none⟩,2,2,[.int .i64 0,.int .i64 0]⟩::X)->∀ {Q:Int->Int->Heap->Prop},(∀ h4,Rdr h0 h4 A q X->Q e k h4) ->
   StoreH h3 ⟨h.size,0,none⟩ [.int .i64 e,.int .i64 k] fun h1=>∃ (t:Int),∃ (t1:Int),cellsH h1 ⟨h.size,0,none⟩ 0 [.int .i64 t,.int .i64 t1]/\Q t t1 h1:=fun e k r3 Q hQ=>
  fl (r3.getX (k:=0) rfl) e k fun h4 f4 u4=>hQ h4 ((r3.setX 0 (t':=⟨1,some ⟨h.size,0,none⟩,2,2,[.int .i64 e,.int .i64 k]⟩) rfl f4 u4 (.inl rfl)).subX (.cons _ (.refl _)))
 refine ⟨fun hlt=>?_,fun hlt=>?_⟩
 ·have hil:i<(B l).length:=by omega
  unfold J47_1
  rw [byteAt_nat hil]
  refine ⟨by omega,hlt,use (c89 _ h2) ⟨_,rfl,?_⟩⟩
  cases hb:isBl (B l)[i] with
  | true=>
   rw [lnS_bl hil hb] at hI
   refine BIf.t ?_
   rw [w1 (n:=l.size) (by omega) hi]
   exact hK (i+1) h2 (by omega) (by omega) ⟨s',ok',hI,r2⟩
  | false=>
   refine BIf.f ?_
   unfold J47_2
   refine LoopT.frm (a:=i) (n:=l.size) hi (fun j h'=>h2=h'/\∀ k,i≤k->(hk:k<(B l).length)->k<j->isBl (B l)[k]=false) ⟨rfl,fun k hk1 hk2 hk3=>by omega⟩ ?_
   rintro j _ K2 hij hj ⟨rfl,hJ⟩ hK2
   have go:WdAt (B l) i j->J47_3 Tryz.prog (fun v h'=>v=lnV p (lnS (B l) 0 0 s)/\Rdr h0 h' A (lnS (B l) 0 0 s).1 X/\(lnS (B l) 0 0 s).1.Ok) h (some ⟨A,0,none⟩) l p K i j h2:=fun wd=>by
    rw [lnS_wd wd] at hI
    unfold J47_3
    refine ⟨by omega,by omega,by omega,(c90 r2 ok' g (l.extract i j) (by have:=B_len (l.extract i j);rw [B_extract,List.length_take,List.length_drop] at this;omega)).mono ?_⟩
    rintro _ h3 ⟨rfl,r3⟩
    rw [B_extract] at r3
    rw [B_extract]
    refine ⟨_,rfl,fun hz=>hK j h3 wd.lt hj ⟨_,wdS_ok ok' _,?_,r3⟩,fun hz=>?_⟩
    ·rw [hI,if_neg (by simp [hz])]
    ·rw [if_pos hz] at hI
     have e1:IntKind.wrap .i64 ((p:Int)+(i:Int))=(p:Int)+(i:Int):=w64 (by omega) (by omega)
     rw [e1]
     refine box _ _ r3 fun h4 r4=>⟨?_,?_,?_⟩
     ·rw [hI,lnV1 hz]
     ·rw [hI];exact r4
     ·rw [hI];exact wdS_ok ok' _
   refine ⟨fun hlt2=>?_,fun hlt2=>?_⟩
   ·have hjl:j<(B l).length:=by omega
    rw [byteAt_nat hjl]
    refine ⟨by omega,hlt2,use (c89 _ h2) ⟨_,rfl,?_⟩⟩
    cases hbj:isBl (B l)[j] with
    | false=>
     refine BIf.t ?_
     rw [w1 (n:=l.size) (by omega) hj]
     refine hK2 (j+1) h2 (by omega) (by omega) ⟨rfl,fun k hk1 hk2 hk3=>?_⟩
     by_cases hkj:k=j
     ·subst hkj;exact hbj
     ·exact hJ k hk1 hk2 (by omega)
    | true=>
     refine BIf.f (go ⟨?_,by omega,hJ,fun _=>hbj⟩)
     rcases Nat.lt_or_ge i j with h | h
     ·exact h
     ·have:i=j:=by omega
      subst this;rw [hb] at hbj;cases hbj
   ·exact go ⟨by omega,by omega,hJ,fun hjl=>by omega⟩
 ·rw [lnS_end (by omega)] at hI
  rw [hI]
  exact box 0 0 r2 fun h4 r4=>⟨by rw [lnV0 rfl],r4,ok'⟩
end
end Go.Proofs.YtobageabpfkpcaaGreatDoor
