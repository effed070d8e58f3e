/- What the library's variables hold; what a row's formula reads as. No condition. -/
import Derived.Test.YtobageabpfkpcaaGreatDoorGA
import Derived.Test.YtobageabpfkpcaaGreatDoorHxV
import Derived.Test.YtobageabpfkpcaaGreatDoorHxK
import Derived.Test.YtobageabpfkpcaaGreatDoorRows
import Derived.LaidMore
import Derived.Stop.LaidErr
import Derived.ProofKit
import Derived.OpenShut
import Derived.Stop.Joined
import Derived.Lay
set_option linter.unusedVariables false
set_option linter.unusedSimpArgs false
namespace Go.Proofs.YtobageabpfkpcaaGreatDoor
open Go.Hx Go.RowKit Go.ChangeShapes Go.Deep
abbrev laid7 : List (String × DataW Unit) := [("math/bits.deBruijn32tab", Rows.laid_math_bits_deBruijn32tab), ("math/bits.deBruijn64tab", Rows.laid_math_bits_deBruijn64tab), ("internal/strconv.uint64pow10", Rows.laid_internal_strconv_uint64pow10), ("unicode/utf8.acceptRanges", Rows.laid_unicode_utf8_acceptRanges), ("strconv.ErrRange", Rows.laid_strconv_ErrRange), ("strconv.ErrSyntax", Rows.laid_strconv_ErrSyntax), ("unicode/utf8.first", Rows.laid_unicode_utf8_first)]
theorem own:ownKnob Tryz.prog.godebug=none:=by kernel_rfl
theorem laidOut:laidOutB Tryz.prog=true:=by kernel_rfl
theorem starE : "*" ++ "errors.errorString" = "*errors.errorString" := by decide
theorem row216 (u : TypeId) (h : Tryz.prog.typeName? 3 u = some "*errors.errorString") : u = 216 :=
 typeName_ptr_named (nm := "errors.errorString") (by rw [starE]; kernel_rfl) (by kernel_rfl) (by decide) u (by rw [starE]; exact h)
theorem gl_of_laid {W:World} (hs:W.ShapedOpen Tryz.prog) (h:laidMetH Tryz.prog laid7 W):Gl W.heap:=by
 rw [MakeChecks.laidMetH_plain _ _ _ (by kernel_rfl)] at h
 have h4:=h.tail.tail.tail.tail
 obtain ⟨a,s,hv,_⟩:=laid_sentinel (g:=3) (ti:=112) (tp:=216) (te:=218) h4 (by kernel_rfl) (by kernel_rfl) Tryz.underlying112 row216 Tryz.underlying216 Tryz.underlying218 rfl rfl Tryz.underlying9 (by kernel_rfl) (by kernel_rfl)
 obtain ⟨a2,s2,hv2,_⟩:=laid_sentinel (g:=2) (ti:=112) (tp:=216) (te:=218) h4.tail (by kernel_rfl) (by kernel_rfl) Tryz.underlying112 row216 Tryz.underlying216 Tryz.underlying218 rfl rfl Tryz.underlying9 (by kernel_rfl) (by kernel_rfl)
 obtain ⟨m,hm⟩:=cell_of_shapedOpen_int (g:=0) (zero:=#[.int .i64 0]) (t:=3) hs (of_decide_eq_true (by kernel_rfl)) (by kernel_rfl) rfl (by kernel_rfl) (by kernel_rfl) Tryz.underlying3
 refine ⟨⟨m,?_⟩,⟨216,.pointer (some a2),?_⟩,⟨216,.pointer (some a),?_⟩⟩
 ·rw [cell_eq] at hm;exact hm
 ·have:=World.var?_cell (g:=2) (by kernel_rfl) hv2 0
  rw [cell_eq] at this
  simpa using this
 ·have:=World.var?_cell (g:=3) (by kernel_rfl) hv 0
  rw [cell_eq] at this
  simpa using this
theorem met (os:Os) (args:Array Value):laidMetH Tryz.prog laid7 ((World.laidAll Tryz.prog os laid7).forCall (fun _ _=>0) ⟨#[],args,[]⟩).memory:=by rw [MakeChecks.laidMetH_plain _ _ _ (by kernel_rfl)];exact laidMet_laidAll _ (by kernel_rfl) (by kernel_rfl)
section
variable {H:Type} {enc:TypeId×Value->H}
theorem handed_laid_shaped {a:Assume} {C:Checked} {os:Os} {f:FuncId} {fn:Func} {s:ChangeSpec} {conds:List PathCond} {apart fresh handsOn again:Bool} {X:World->Array Value->Prop}
  (hX:∀ (w w':World) (args:Array Value),w.heap=w'.heap->X w args->X w' args) (own:ownKnob C.prog.godebug=none) (started:os.Started) (noInit:C.prog.inits.idxOf? f=none) (hfn:C.prog.funcs[f]?=some fn)
  (witness:∃ (w:World) (tape:Tape) (i:Input),w.os=os/\(w.forCall tape i).Shaped C.prog/\i.vars=[]/\Input.okWide C.prog (w.forCall tape i) .any w.heap.size f i /\
   ((s.pre enc C.prog fn conds apart (w.forCall tape i).memory i.args/\X (w.forCall tape i).memory i.args)/\sizedMet enc C.prog fn (OpenSpec.ofChange s) apart (w.forCall tape i).memory i.args)/\a.holds C.prog (lone (Frame.enter C.prog f i.args .normal) [] (w.forCall tape i)))
  (contract:∀ (W:World) (base:Nat) (args:Array Value) (ds gs:List (DataW H)) (before:List MemPlace),(∀ (j:Nat) t v,fn.params[j]?=some t->args[j]?=some v->Value.okWide C.prog W .any base t v) ->
   DataW.Whole enc C.prog fn.params.toList s.vars apart W args.toList ds gs before->conds.all (PathCond.test C.prog ⟨fn.params.toList,ds,s.plain.varTypes C.prog,gs⟩)=true ->
   (DataW.weightsEach C.prog (fn.params.toList++s.plain.varTypes C.prog) (ds++gs)).all (·≤reachBytes)=true->X W args->W.ShapedOpen C.prog ->
   Calls C.prog f args W fun e W'=>∃ v,e=.returned v/\s.post enc C.prog fn apart fresh handsOn again W args v W') :
  ReturnsInHanded a C os f .any (fun w args=>(s.pre enc C.prog fn conds apart w args/\X w args)/\sizedMet enc C.prog fn (OpenSpec.ofChange s) apart w args) (s.post enc C.prog fn apart fresh handsOn again):=by
 refine returnsInHanded_of_calls own started noInit witness fun w tape i _ hsh _ hok hpre _=>?_
 obtain ⟨_,_,_,fn',hfn',_,_,_,_,hval⟩:=hok
 obtain rfl:fn'=fn:=Option.some.inj (hfn'.symm.trans hfn)
 obtain ⟨⟨⟨ds,gs,before,hw,hc⟩,hx⟩,hz⟩:=hpre
 refine (contract (w.forCall tape i) w.heap.size i.args ds gs before hval (DataW.Whole.of_heap (w':=w.forCall tape i) (by rfl) hw) hc (hz.weights hw) (hX _ _ _ (by rfl) hx) hsh).mono ?_
 rintro _ W' ⟨v,rfl,hp⟩
 exact ChangeSpec.post_blind hp
end
section
variable {H:Type} {enc:TypeId×Value->H} {W:World} {base:Nat} {held:Bool}
theorem open_cnf:Opens enc Tryz.prog W base held 24 (fun p:FV×Fm=>p.1.cs) (fun p=>FIs W.heap p.1 p.2/\p.2.Ok/\p.1.s.n≤p.1.s.c):=by
 intro fuel cs x h hw
 obtain ⟨hl,hf⟩:=struct_cells (P:=Tryz.prog) (t:=24) Tryz.underlying24 (by kernel_rfl) h hw
 rw [show Tryz.prog.cellsOf 24=2 by kernel_rfl] at hl
 have o6:Opens enc Tryz.prog W base held 22 _ _:=Opens.rows (t:=22) (e:=65) (q:=3) Tryz.underlying22 Tryz.underlying65 Tryz.underlying3 (by kernel_rfl) (by kernel_rfl) (by kernel_rfl) (by kernel_rfl)
 obtain ⟨mx,_,h0,e0,k0⟩:=hf 0 _ rfl (by omega) (Opens.int Tryz.underlying3)
 obtain ⟨j,_,h1,e1,k1,c1,n1,w1⟩:=hf 1 _ rfl (by omega) o6
 simp only [List.cons.injEq,and_true] at e0 e1
 subst e0 e1
 have hln:=k1.len
 have hwf:=wf_i64 k0
 refine ⟨(⟨mx,⟨j.a,j.n,j.c⟩⟩,⟨mx,j.l⟩),?_,⟨rfl,k1⟩,⟨hwf.1,hwf.2,by show j.l.length≤_;omega,fun c hc=>(w1 c hc).2,fun c hc=>(w1 c hc).1⟩,c1⟩
 match cs,hl,h0,h1 with
 | [a,b],_,h0,h1=>cases h0;cases h1;rfl
end
end Go.Proofs.YtobageabpfkpcaaGreatDoor
