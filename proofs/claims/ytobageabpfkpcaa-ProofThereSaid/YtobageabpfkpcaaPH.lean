/- A range over a function that writes memory: two laws of the walk. No condition. -/
import Derived.Test.YtobageabpfkpcaaPF
set_option linter.unusedVariables false
set_option linter.unusedSimpArgs false
set_option maxRecDepth 100000
namespace Go.Proofs.Ytobageabpfkpcaa
open Go.Hx Go.RowKit Go.Proofs Go.Shelf
theorem put_back {W:World} {l:Nat} {o o':Obj} (h:W.heap[l]?=some o):(W.putObj l o').putObj l o=W:=by
 have hlt:=(Array.getElem?_eq_some_iff.1 h).1
 have e:((W.putObj l o').putObj l o).heap=W.heap:=by
  apply Array.ext_getElem?
  intro i
  by_cases hi:i=l
  ·subst hi
   rw [World.putObj_heap_same (by simpa using hlt),h]
  ·rw [World.putObj_heap_other hi,World.putObj_heap_other hi]
 show ({ W with heap:=((W.putObj l o').putObj l o).heap }:World)=W
 rw [e]
def recOf (fn:FuncId) (tmps:Array Value) (ps:Array Tmp) (assign body:Code) (D:Nat) (st:LoopState) (pe:Option Code):Loop:={ state:=st,pending:=pe,fn,tmps,params:=ps,assign,body,defers:=D }
theorem rf_wide {P:Program} {g:Operand} {ps:Array Tmp} {assign body:Code} {Q:Exit->Act->World->Prop} {a:Act} {W:World} {n:Nat} (h1:1≤n) {gf:Nat} {lb:Array Value} (hg:a.eval g=.func (.func gf) #[] lb)
  (eg:∀ args w,(callFunc gf args).run P w=.ok (.enter gf args) w) (Done:World->Prop) (Stop:Code->World->Prop)
  (hcall:∀ (fn:FuncId) (rc:LoopState->Option Code->Loop),rc=recOf fn a.tmps ps assign body W.heap.size->CallsIn Fence.wide (n-1) P gf (#[.func (.yield (W.heap.size+1)) #[] #[]]++lb) ((W.alloc (.deferred (some []))).alloc (.loop (rc .ready none))) fun e W2=>(∃ v,e=.returned v) /\
   ((W2.heap[W.heap.size+1]?=some (.loop (rc .ready none))/\W2.heap[W.heap.size]?=some (.deferred (some []))/\Done W2) ∨
    ∃ c,W2.heap[W.heap.size+1]?=some (.loop (rc .done (some c)))/\W2.heap[W.heap.size]?=some (.deferred (some []))/\Stop c W2))
  (hdone:∀ W2 o r,Done W2->W2.heap[W.heap.size+1]?=some (.loop r)->(W2.putObj (W.heap.size+1) o).heap[W.heap.size]?=some (.deferred (some []))->Q .normal { a with defers:={ target:=.collected W.heap.size,args:=#[] }::a.defers } (W2.putObj (W.heap.size+1) o))
  (hstop:∀ c W2 o r,Stop c W2->W2.heap[W.heap.size+1]?=some (.loop r)->(W2.putObj (W.heap.size+1) o).heap[W.heap.size]?=some (.deferred (some []))->c.wpIn Fence.wide n P Q { a with defers:={ target:=.collected W.heap.size,args:=#[] }::a.defers } (W2.putObj (W.heap.size+1) o)) :
  (Code.rangeFunc g ps assign body).wpIn Fence.wide n P Q a W:=by
 refine wpIn_rangeFunc ?_
 intro fn hfn
 refine ⟨W.heap.size+1,[{ target:=.collected W.heap.size,args:=#[] }],(W.alloc (.deferred (some []))).alloc (.loop (recOf fn a.tmps ps assign body W.heap.size .ready none)),{ target:=.fn (.func gf) lb,args:=#[.func (.yield (W.heap.size+1)) #[] #[]] },(W.alloc (.deferred (some []))).alloc (.loop (recOf fn a.tmps ps assign body W.heap.size .ready none)),gf,
  #[.func (.yield (W.heap.size+1)) #[] #[]]++lb,(W.alloc (.deferred (some []))).alloc (.loop (recOf fn a.tmps ps assign body W.heap.size .ready none)),?_,?_,?_,?_,fun _=>h1,?_⟩
 ·exact run_enterLoop_outer _ _ _ _ _
 ·simp only [resolve,hg]
  simp [go_sem]
 ·intro f' hf';trivial
 ·simp [invoke,go_sem,eg]
 ·refine (hcall fn _ rfl).mono ?_
  rintro e W2 ⟨⟨v,rfl⟩,(⟨hl,hk,hd⟩ | ⟨c,hl,hk,hs⟩)⟩
  ·exact ⟨none,_,run_endLoop (P:=P) hl (by simp [recOf]),hdone _ _ _ hd hl ((World.putObj_heap_other (by omega)).trans hk)⟩
  ·exact ⟨some c,_,run_endLoop (P:=P) hl (by simp [recOf]),hstop _ _ _ _ hs hl ((World.putObj_heap_other (by omega)).trans hk)⟩
def rPost (P:Program) (l:Nat) (b r d:Loop) (W0:World) (R:Ending->World->Prop):Exit->Act->World->Prop
 | .normal,_,W=>W=W0.putObj l (.loop b)/\R (.returned (.bool true)) W0
 | .ret,_,W=>W.heap[l]?=some (.loop b)/\R (.returned (.bool false)) (W.putObj l (.loop d))
 | .exit _,_,_=>False
 | .goto _,_,_=>False
 | .panic _,_,_=>False
 | .outgrown,_,_=>False
theorem rf_round {P:Program} {m l:Nat} {args:Array Value} {W:World} {R:Ending->World->Prop} {fn:FuncId} {tmps:Array Value} {ps:Array Tmp} {assign body:Code} {D:Nat} {rc:LoopState->Option Code->Loop} (hrc:rc=recOf fn tmps ps assign body D) (hl:W.heap[l]?=some (.loop (rc .ready none)))
  (hs:args.size=ps.size) (ff:Array Value->Array Value)
  (hassign:∀ K:Act->World->Prop,K { tmps:=ff tmps,defers:=[] } W->assign.wpIn (Fence.wide.inRound l) m P (Exit.then K (fun _ _ _=>False)) { tmps:=(ps.zip args).foldl (fun t (p,v)=>t.setIfInBounds p v) tmps,defers:=[] } W)
  (hbody:body.wpIn (Fence.wide.inRound l) m P (rPost P l (rc .busy none) (rc .ready none) (rc .done (some .ret)) W R) { tmps:=ff tmps,defers:=[] } (W.putObj l (.loop (rc .busy none)))) :
  YieldAt Fence.wide m P l args W R:=by
 subst hrc
 have hlt:l<W.heap.size:=(Array.getElem?_eq_some_iff.1 hl).1
 have hy:=run_yield (P:=P) (args:=args) hl hs
 refine ⟨fn,_,assign,body,hy,roundIn_of_wpIn trivial (hassign _ ⟨_,run_beginRound hl rfl,?_⟩)⟩
 have hl2:(W.putObj l (.loop { recOf fn tmps ps assign body D .ready none with state:=.busy })).heap[l]?=some (.loop { recOf fn tmps ps assign body D .ready none with state:=.busy }):=World.putObj_heap_same hlt
 refine wpIn_mono hbody ?_
 rintro e a3 W3 hp
 cases e with
 | normal=>
  obtain ⟨rfl,hR⟩:=hp
  have:=run_endRound (P:=P) none hl2
  refine ⟨_,_,this,?_⟩
  have e2:(W.putObj l (.loop { recOf fn tmps ps assign body D .ready none with state:=.busy })).putObj l (.loop (recOf fn tmps ps assign body D .ready none))=W:=put_back hl
  have hR':=hR
  rw [<- e2] at hR'
  exact hR'
 | ret=>
  obtain ⟨hl3,hR⟩:=hp
  exact ⟨_,_,run_endRound (P:=P) (some .ret) hl3,hR⟩
 | exit id=>exact hp.elim
 | goto t=>exact hp.elim
 | panic ch=>exact hp.elim
 | outgrown=>exact hp.elim
def rQ (WB:World) (Cont:Prop) (Rt:World->Prop):Exit->Act->World->Prop
 | .normal,_,W=>W=WB/\Cont
 | .ret,_,W=>Rt W
 | .exit _,_,_=>False
 | .goto _,_,_=>False
 | .panic _,_,_=>False
 | .outgrown,_,_=>False
theorem rf_round2 {P:Program} {m l:Nat} {args:Array Value} {W WB:World} {R:Ending->World->Prop} {fn:FuncId} {tmps:Array Value} {ps:Array Tmp} {assign body:Code} {D:Nat} {rc:LoopState->Option Code->Loop} (hrc:rc=recOf fn tmps ps assign body D) (hl:W.heap[l]?=some (.loop (rc .ready none)))
  (hs:args.size=ps.size) (ff:Array Value->Array Value) (hWB:W.putObj l (.loop (rc .busy none))=WB) (Cont:Prop) (hcont:Cont->R (.returned (.bool true)) W) (Rt:World->Prop)
  (hret:∀ W3,Rt W3->W3.heap[l]?=some (.loop (rc .busy none))/\R (.returned (.bool false)) (W3.putObj l (.loop (rc .done (some .ret)))))
  (hassign:∀ K:Act->World->Prop,K { tmps:=ff tmps,defers:=[] } W->assign.wpIn (Fence.wide.inRound l) m P (Exit.then K (fun _ _ _=>False)) { tmps:=(ps.zip args).foldl (fun t (p,v)=>t.setIfInBounds p v) tmps,defers:=[] } W)
  (hbody:body.wpIn (Fence.wide.inRound l) m P (rQ WB Cont Rt) { tmps:=ff tmps,defers:=[] } WB) :
  YieldAt Fence.wide m P l args W R:=by
 refine rf_round hrc hl hs ff hassign ?_
 rw [hWB]
 refine wpIn_mono hbody ?_
 rintro e a3 W3 hp
 cases e with
 | normal=>exact ⟨hp.1.trans hWB.symm,hcont hp.2⟩
 | ret=>exact hret W3 hp
 | exit id=>exact hp.elim
 | goto t=>exact hp.elim
 | panic ch=>exact hp.elim
 | outgrown=>exact hp.elim
end Go.Proofs.Ytobageabpfkpcaa
