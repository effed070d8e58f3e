/- Words and facts that the claim's proof leans on. No condition. -/
import Derived.Test.YtobageabpfkpcaaHxA
import Derived.Laws.StructEq
import Derived.Laws.Append
import Derived.Laws.Unary
namespace Go.Hx
def callOk (P:Program) (f:FuncId):Bool:=
 match P.funcs[f]? with
 | some fn => fn.body.isSome && !(fn.name == "runtime.NumGoroutine")
 | none=>false
def callOkP (P:Program) (f:FuncId):Prop:=callOk P f=true
inductive NilK where
 | ptr | sl | map | ifc | fn
inductive KD where
 | int (k:IntKind) | string | flat (l:List Shp)
inductive SOp where
 | mv (x:Operand)
 | arith (op:BinOp) (k:IntKind) (x y:Operand)
 | divv (op:BinOp) (k:IntKind) (x y:Operand)
 | divc (op:BinOp) (k:IntKind) (x:Operand) (c:Int)
 | bits (op:BinOp) (k:IntKind) (x y:Operand)
 | shv (op:BinOp) (k:IntKind) (x y:Operand)
 | shc (op:BinOp) (k:IntKind) (x:Operand) (n:Nat)
 | icmp (op:BinOp) (k:IntKind) (x y:Operand)
 | scmp (op:BinOp) (x y:Operand)
 | sadd (x y:Operand)
 | bcmp (neg:Bool) (x y:Operand)
 | isnil (kd:NilK) (neg:Bool) (x:Operand)
 | eqagg (neg:Bool) (l:List Shp) (x y:Operand)
 | neg (k:IntKind) (x:Operand)
 | inv (k:IntKind) (x:Operand)
 | not (x:Operand)
 | conv (k:IntKind) (x:Operand)
 | idxA (sz:Nat) (x i:Operand)
 | idxArr (n sz:Nat) (x i:Operand)
 | fldA (off:Nat) (x:Operand)
 | fld1 (off:Nat) (x:Operand)
 | fldN (off n:Nat) (x:Operand)
 | idxS (x i:Operand)
 | idxV (s:Shp) (n:Nat) (x i:Operand)
 | slc (sz:Nat) (x:Operand) (lo hi:Option Operand)
 | slcS (x:Operand) (lo hi:Option Operand)
 | slcA (n sz:Nat) (x:Operand) (lo hi:Option Operand)
 | len (x:Operand)
 | lenS (x:Operand)
 | mvS (x:Operand)
 | lenc (n:Nat)
 | cap (x:Operand)
 | mnx (isMax:Bool) (k:IntKind) (x:Operand) (xs:List Operand)
 | mkAgg (zero:Array Value) (parts:List (Nat×Nat×Operand))
 | mkFn (fn:Fn) (first cap:List Operand)
 | ifc (t:TypeId) (x:Operand)
 | extr (x:Operand) (i:Nat)
 | pick (c a b:Operand)
 | nilck (x:Operand)
 | ld (s:Shp) (x:Operand)
 | ldn (l:List Shp) (x:Operand)
 | lenm (x:Operand)
 | st (n:Nat) (x v:Operand)
 | box (e:TypeId) (x:Operand)
 | alloc (e:TypeId) (z:Value)
 | lit (e:TypeId) (len:Nat) (zero:Array Value) (parts:List (Nat×Nat×Operand))
 | mkS (e:TypeId) (bytes:Nat) (sz:Nat) (z:Array Value) (l c:Operand)
 | mkM
 | app (e:TypeId) (bytes sz:Nat) (z:Array Value) (x y:Operand)
 | appS (e:TypeId) (z:Array Value) (x y:Operand)
 | cpy (sz:Nat) (x y:Operand)
 | call (f:FuncId) (args:List Operand) (r:RShp)
 | ovl (x y:Operand)
 | callv (f:Operand) (args:List Operand) (r:RShp)
 | toBytes (e:TypeId) (x:Operand)
 | toStr (x:Operand)
 | stamp (x:Operand)
 | mlook (d:KD) (z:Value) (s:TShp) (ok:Bool) (x i:Operand)
 | mput (d:KD) (x i v:Operand)
 | mdel (d:KD) (x i:Operand)
 | ment (d:KD) (z:Value) (s:TShp) (x i:Operand)
 | mset (x i v:Operand)
 | mrange (x:Operand)
 | mnext (kd v:TShp) (it:Operand)
 | mentry (kd v:TShp) (it:Operand)
 | halt
 | slc3 (sz:Nat) (x:Operand) (lo:Option Operand) (hi mx:Operand)
 | appZ (e:TypeId) (bytes sz:Nat) (z:Array Value) (x y:Operand)
 | clr (sz:Nat) (z:Array Value) (x:Operand)
inductive Md where
 | txt | ext | wide | flt | wst | fwd
def SOp.cls (x:Md):SOp->Cls
 | .ld .. | .ldn .. | .lenm .. | .mlook ..=>.read
 | .st ..=>match x with | .wst=>.ext | _=>.eff
 | .clr .. | .mput .. | .mdel .. | .mset .. | .mrange .. | .mnext .. | .mentry .. | .halt | .cpy .. | .toStr .. | .stamp .. | .ovl ..=>.eff
 | .app .. | .appS .. | .appZ .. | .ment ..=>match x with | .wide=>.ext | .wst=>.ext | _=>.eff
 | .box .. | .alloc .. | .lit .. | .mkS .. | .mkM | .call .. | .callv .. | .toBytes ..=>match x with | .txt=>.eff | _=>.ext
 | _=>.pure
def SOp.fcls:SOp->FCls
 | .ld .. | .ldn .. | .lenm .. | .mlook ..=>.read
 | .box .. | .alloc .. | .lit .. | .mkS .. | .mkM=>.flt
 | .call .. | .callv .. | .app .. | .appS .. | .appZ .. | .toBytes .. | .cpy .. | .toStr ..=>.chn
 | .st .. | .stamp .. | .clr .. | .mput .. | .mdel .. | .mset .. | .mrange .. | .mnext .. | .mentry .. | .halt | .ovl .. | .ment ..=>.eff
 | _=>.pure
def aop (op:BinOp) (x y:Int):Int:=match op with | .add=>x+y | .sub=>x-y | _=>x*y
def bop (op:BinOp) (k:IntKind) (x y:Int):Int:=
 let a:=BitVec.ofInt k.bits x
 let b:=BitVec.ofInt k.bits y
 k.wrap (match op with | .and=>a &&& b | .or=>a ||| b | .xor=>a ^^^ b | _=>a &&& ~~~b).toNat
def byteAt (s:ByteArray) (i:Int):Int:=((s.data[i.toNat]?).getD 0).toNat
def cutA (sz:Nat) (a:Option Addr) (c l:Nat):Option Addr:=if c=l then a else a.map (·.add (l*sz))
def cutR (sz:Nat) (a:Addr) (c l:Nat):Addr:=if c=l then a else a.add (l*sz)
def loc (s:SF) (lo:Option Operand) (K:Int->Prop):Prop:=match lo with | none=>K 0 | some x=>getZ s x K
def hic (s:SF) (hi:Option Operand) (n:Nat) (K:Int->Prop):Prop:=match hi with | none=>K n | some x=>getZ s x K
def partsC (s:SF) (parts:List (Nat×Nat×Operand)) (K:List (Nat×Nat×Value)->Prop):Prop:=
 match parts with
 | []=>K []
 | (o,n,x)::r=>get s x fun v=>partsC s r fun vs=>K ((o,n,v)::vs)
def writeL (c:List Value) (off:Nat) (vs:List Value):List Value:=c.take off++(vs++c.drop (off+vs.length))
def fillL (c:List Value) (parts:List (Nat×Nat×Value)):Option (List Value):=
 match parts with
 | []=>some c
 | (o,n,v)::r=>match v.cells.size == n && decide (o+n≤c.length) with
  | true=>fillL (writeL c o v.cells.toList) r
  | false=>none
def fillC (s:SF) (zero:Array Value) (parts:List (Nat×Nat×Operand)) (K:List Value->Prop):Prop:=
 partsC s parts fun ps=>match fillL zero.toList ps with | some c=>K c | none=>False
def mnxC (isMax:Bool) (k:IntKind) (s:SF) (x:Int) (xs:List Operand) (K:Int->Prop):Prop:=
 match xs with
 | []=>K x
 | y::r=>getI k s y fun b=>mnxC isMax k s (match isMax with | true=>max x b | false=>min x b) r K
def cmpP (op:BinOp) (x y:Int):Prop:=match op with | .eql | .neq=>x=y | .lss=>x<y | .leq=>x≤y | .gtr=>y<x | _=>y≤x
def isNilP (kd:NilK) (v:Value) (K:Prop->Prop):Prop:=
 match kd,v with
 | .ptr,.pointer a=>K (a=none)
 | .sl,.slice a _ _=>K (a=none)
 | .map,.map a=>K (a=none)
 | .ifc,.nilIface=>K True
 | .ifc,.iface _ _=>K False
 | .fn,.nilFunc=>K True
 | .fn,.func _ _ _=>K False
 | _,_=>False
def fitB:List Shp->List Value->Bool
 | [],[]=>true
 | .int k::l,.int k' _::vs=>k' == k && fitB l vs
 | .bool::l,.bool _::vs=>fitB l vs
 | .str::l,.string _::vs=>fitB l vs
 | _,_=>false
def eqF:List Shp->List Value->List Value->Bool
 | [],[],[]=>true
 | .int _::l,.int _ a::xs,.int _ b::ys=>(a == b) && eqF l xs ys
 | .bool::l,.bool a::xs,.bool b::ys=>(a == b) && eqF l xs ys
 | .str::l,.string a::xs,.string b::ys=>decide (a=b) && eqF l xs ys
 | _,_,_=>false
def fitK:KD->Value->Bool
 | .flat l,.agg a=>fitB l a.toList
 | .flat _,_=>false
 | _,_=>true
def sameK:KD->Value->Value->Option Bool
 | .int k,a,b=>Instr.sameNow (.int k) a b
 | .string,a,b=>Instr.sameNow .string a b
 | .flat l,.agg a,.agg b=>match fitB l b.toList with
  | true=>some (eqF l a.toList b.toList)
  | false=>none
 | .flat _,_,_=>none
def findS (d:KD) (k:Value):List MapEntry->Nat->Option (Option (Nat×Value))
 | [],_=>some none
 | e::es,i=>match sameK d k e.key with
  | some true=>some (some (i,e.val))
  | some false=>findS d k es (i+1)
  | none=>none
def findK (d:KD) (k:Value) (es:List MapEntry):Option (Option (Nat×Value)):=
 match fitK d k with
 | true=>findS d k es 0
 | false=>none
def pureC (op:SOp) (s:SF) (K:Value->Prop):Prop:=
 match op with
 | .mv x=>get s x K
 | .arith op k x y=>getI k s x fun a=>getI k s y fun b=>K (.int k (k.wrap (aop op a b)))
 | .divv op k x y=>getI k s x fun a=>getI k s y fun b=>b≠0/\K (match op with | .quo=>.int k (k.wrap (a.tdiv b)) | _=>.int k (a.tmod b))
 | .divc op k x b=>getI k s x fun a=>K (match op with | .quo=>.int k (k.wrap (a.tdiv b)) | _=>.int k (a.tmod b))
 | .bits op k x y=>getI k s x fun a=>getI k s y fun b=>K (.int k (bop op k a b))
 | .shv op k x y=>getI k s x fun a=>getZ s y fun b=>0≤b/\K (match op with | .shl=>.int k (k.wrap (a*2 ^ min b.toNat k.bits)) | _=>.int k (a / 2 ^ min b.toNat k.bits))
 | .shc op k x n=>getI k s x fun a=>K (match op with | .shl=>.int k (k.wrap (a*((2 ^ n:Nat):Int))) | _=>.int k (a / ((2 ^ n:Nat):Int)))
 | .icmp op k x y=>getI k s x fun a=>getI k s y fun b=>(match op with
  | .neq=>PIf (a=b) (K (.bool false)) (K (.bool true))
  | op=>PIf (cmpP op a b) (K (.bool true)) (K (.bool false)))
 | .scmp op x y=>getS s x fun a=>getS s y fun b=>(match op with
  | .eql=>PIf (a=b) (K (.bool true)) (K (.bool false))
  | .neq=>PIf (a=b) (K (.bool false)) (K (.bool true))
  | .lss=>PIf (Op.bytesLess a.toList b.toList=true) (K (.bool true)) (K (.bool false))
  | _=>False)
 | .sadd x y=>getS s x fun a=>getS s y fun b=>a.size+b.size≤9223372036854775807/\K (.string (a++b))
 | .bcmp neg x y=>getB s x fun a=>getB s y fun b=>(match neg with
  | false=>PIf (a=b) (K (.bool true)) (K (.bool false))
  | true=>PIf (a=b) (K (.bool false)) (K (.bool true)))
 | .isnil kd neg x=>get s x fun v=>isNilP kd v fun p=>(match neg with
  | false=>PIf p (K (.bool true)) (K (.bool false))
  | true=>PIf p (K (.bool false)) (K (.bool true)))
 | .eqagg neg l x y=>getA s x fun a=>getA s y fun b=>(match fitB l a.toList && fitB l b.toList with
  | true=>(match neg with
   | false=>PIf (a=b) (K (.bool true)) (K (.bool false))
   | true=>PIf (a=b) (K (.bool false)) (K (.bool true)))
  | false=>False)
 | .neg k x=>getI k s x fun a=>K (.int k (k.wrap (0-a)))
 | .inv k x=>getI k s x fun a=>K (.int k (bop .xor k (if k.signed then -1 else k.max) a))
 | .not x=>getB s x fun a=>K (.bool !a)
 | .conv k x=>getZ s x fun a=>K (.int k (k.wrap a))
 | .idxA sz x i=>getSl s x fun a n _=>getZ s i fun j=>0≤j/\j<n/\AtP a fun ad=>K (.pointer (some (ad.add (j.toNat*sz))))
 | .idxArr n sz x i=>getP s x fun a=>getZ s i fun j=>0≤j/\j<n/\AtP a fun ad=>K (.pointer (some (ad.add (j.toNat*sz))))
 | .fldA off x=>getP s x fun a=>AtP a fun ad=>K (.pointer (some (ad.add off)))
 | .fld1 off x=>getA s x fun cs=>(match cs.toList[off]? with | some v=>K v | none=>False)
 | .fldN off n x=>getA s x fun cs=>K (.agg ((cs.toList.drop off).take n).toArray)
 | .idxS x i=>getS s x fun a=>getZ s i fun j=>0≤j/\j<a.size/\K (.int .u8 (byteAt a j))
 | .idxV sh n x i=>getA s x fun cs=>getZ s i fun j=>0≤j/\j<n/\ExV sh fun v=>cs.toList[j.toNat]?=some v/\K v
 | .slc sz x lo hi=>getSl s x fun a n c=>loc s lo fun l=>hic s hi n fun h=>0≤l/\l≤h/\h≤c/\K (.slice (cutA sz a c l.toNat) (h.toNat-l.toNat) (c-l.toNat))
 | .slc3 sz x lo hi mx=>getSl s x fun a _ c=>getZ s mx fun m=>getZ s hi fun h=>loc s lo fun l=>0≤l/\l≤h/\h≤m/\m≤c/\K (.slice (cutA sz a m.toNat l.toNat) (h.toNat-l.toNat) (m.toNat-l.toNat))
 | .slcS x lo hi=>getS s x fun a=>loc s lo fun l=>hic s hi a.size fun h=>0≤l/\l≤h/\h≤a.size/\K (.string (a.extract l.toNat h.toNat))
 | .slcA n sz x lo hi=>getP s x fun a=>loc s lo fun l=>hic s hi n fun h=>0≤l/\l≤h/\h≤n/\AtP a fun ad=>K (.slice (some (cutR sz ad n l.toNat)) (h.toNat-l.toNat) (n-l.toNat))
 | .len x=>getSl s x fun _ n _=>K (.int .i64 n)
 | .lenS x=>getS s x fun a=>K (.int .i64 a.size)
 | .mvS x=>getS s x fun a=>K (.string a)
 | .lenc n=>K (.int .i64 n)
 | .cap x=>getSl s x fun _ _ c=>K (.int .i64 c)
 | .mnx isMax k x xs=>getI k s x fun a=>mnxC isMax k s a xs fun b=>K (.int k b)
 | .mkAgg zero parts=>fillC s zero parts fun c=>K (.agg c.toArray)
 | .mkFn fn first cap=>getAll s first fun xs=>getAll s cap fun ys=>K (.func fn xs.toArray ys.toArray)
 | .ifc t x=>get s x fun v=>K (.iface t v)
 | .extr x i=>getT s x fun vs=>(match vs.toList[i]? with | some v=>K v | none=>False)
 | .pick c a b=>getB s c fun t=>BIf t (get s a K) (get s b K)
 | .nilck x=>get s x fun v=>(match v with | .pointer a=>AtP a fun ad=>K (.pointer (some ad)) | .func (.func f) a b=>K (.func (.func f) a b) | .iface t v=>K (.iface t v) | _=>False)
 | _=>False
def AgreeH (n0:Nat) (h h':Heap):Prop:=∀ b,b<n0->h'[b]?=h[b]?
def cellsH (h:Heap) (a:Addr) (i:Nat) (vs:List Value):Prop:=
 match vs with
 | []=>True
 | v::r=>cellH h (a.add i)=some v/\cellsH h a (i+1) r
inductive ZN where
 | old (n:Nat) | wide (z:Zone)
def ZN.zone:Option ZN->Option Zone
 | none=>none
 | some (.old n)=>some (.old n)
 | some (.wide z)=>some z
def ZN.keeps (zn:Option ZN) (h h':Heap):Prop:=match zn with | none=>True | some (.old n)=>AgreeH n h h' | some (.wide z)=>z.r h h'
def Zone.has (z:Zone) (h:Heap) (b:Nat):Prop:=∀ h',z.r h h'->h'[b]?=h[b]?
def oldC (zn:Option ZN) (h:Heap) (b:Nat) (Q:Prop):Prop:=match zn with | none=>Q | some (.old n)=>b<n/\Q | some (.wide z)=>z.has h b/\Q
def Zone.hasL (z:Zone) (h:Heap) (ad:Addr):Prop:=∀ h',z.r h h'->cellH h' ad=cellH h ad
def oldL (zn:Option ZN) (h:Heap) (ad:Addr) (Q:Prop):Prop:=match zn with | none=>Q | some (.old n)=>ad.block<n/\Q | some (.wide z)=>z.hasL h ad/\Q
theorem Zone.has.cell {z:Zone} {h:Heap} {ad:Addr} (hs:z.has h ad.block):z.hasL h ad:=fun h' hz=>by unfold cellH;rw [hs h' hz]
def LookAs (d:KD) (kv z:Value) (h:Heap) (b:Nat) (u:Value):Prop:=∃ es clock,h[b]?=some (.map es clock)/\∃ r,findK d kv es.toList=some r/\(match r with | none=>z | some (_,v)=>v)=u
def okN (ok:Bool) (z:Value):Value:=match ok with | true=>.tuple #[z,.bool false] | false=>z
def okS (ok:Bool) (z:Value):Value:=match ok with | true=>.tuple #[z,.bool true] | false=>z
def readC (n0:Option ZN) (op:SOp) (s:SF) (h:Heap) (K:Value->Prop):Prop:=
 match op with
 | .ld t x=>getP s x fun a=>AtP a fun ad=>oldL n0 h ad (ExV t fun v=>cellH h ad=some v/\K v)
 | .ldn l x=>getP s x fun a=>AtP a fun ad=>oldC n0 h ad.block (ExVs l fun vs=>cellsH h ad 0 vs/\K (.agg vs.toArray))
 | .lenm x=>getM s x fun r=>(match r with
  | none=>K (.int .i64 0)
  | some b=>oldC n0 h b (∃ es clock,h[b]?=some (.map es clock)/\K (.int .i64 es.size)))
 | .mlook d z t ok x i=>getM s x fun r=>get s i fun kv=>(match r with
  | none=>fitK d kv=true/\K (okN ok z)
  | some b=>(match n0,ok with
   | some (.wide zn),false=>ExT t fun u=>(∀ h',zn.r h h'->LookAs d kv z h' b u)/\K u
   | n0,ok=>oldC n0 h b (∃ es clock,h[b]?=some (.map es clock)/\∃ r,findK d kv es.toList=some r/\(match r with
    | none=>K (okN ok z)
    | some (_,u)=>ExT t fun v=>u=v/\K (okS ok v)))))
 | _=>False
def Loose (fr:Nat×Nat) (off n:Nat):Prop:=∀ i,off≤i->i<off+n->¬ (fr.1≤i/\i<fr.2)
def StoreH (h:Heap) (a:Addr) (vs:List Value) (K:Heap->Prop):Prop:=
 match vs with
 | []=>K h
 | vs=>vs.all Value.oneCell'=true/\∃ (c:Array Value) (e:TypeId) (fr:Nat×Nat),
   h[a.block]?=some (.cells c e fr)/\a.spot=none/\a.off+vs.length≤c.size/\Loose fr a.off vs.length /\
   K (h.setIfInBounds a.block (.cells (writeL c.toList a.off vs).toArray e fr))
def ReadL (h:Heap) (a:Option Addr) (vs:List Value):Prop:=
 match a with
 | none=>vs=[]
 | some ad=>∀ i v,vs[i]?=some v->cellH h (ad.add i)=some v
def zeroRow (z:Array Value) (n:Nat):List Value:=(List.range n).map fun i=>z.toList.getD (i % z.size) undef
def AppH (h:Heap) (a:Option Addr) (n c:Nat) (e:TypeId) (bytes sz:Nat) (z:Array Value) (ys:List Value) (m:Nat) (K:Value->Heap->Prop):Prop:=
 (n+m≤c->match a with
  | none=>K (.slice none (n+m) c) h
  | some ad=>StoreH h (ad.add (n*sz)) ys fun h'=>K (.slice (some ad) (n+m) c) h') /\
 (c<n+m->(n+m)*bytes≤140737488355328/\∃ xs,ReadL h a xs/\xs.length=n*sz /\
  ∀ cap,n+m≤cap->K (.slice (some ⟨h.size,0,none⟩) (n+m) cap) (h.push (.cells (xs++ys++zeroRow z ((cap-(n+m))*sz)).toArray e)))
def bytesV (s:ByteArray):List Value:=s.data.toList.map fun b=>Value.int .u8 b.toNat
def SzIs (u:Value) (n:Nat) (A:Prop):Prop:=match u.cells.size == n with | true=>A | false=>False
theorem SzIs.out {u:Value} {n:Nat} {A:Prop} (h:SzIs u n A):u.cells.size=n/\A:=by
 unfold SzIs at h
 split at h
 ·rename_i hb;exact ⟨by simpa using hb,h⟩
 ·exact h.elim
def MNextS (h:Heap) (b:Nat) (over:Prop) (step:MapEntry->Heap->Prop):Prop:=
 match h[b]? with
 | some (.mapIter none _ _ _)=>over
 | some (.mapIter (some m) since seen last)=>∃ es clock,h[m]?=some (.map es clock)/\(!seen.isEmpty && !es.isEmpty && es.all (fun e=>decide (e.born ≥ last)))=false /\
   ((∀ e∈es,seen.contains e.born=false->since≤e.born)->over) /\
   ∀ e∈es,seen.contains e.born=false->step e (h.setIfInBounds b (.mapIter (some m) since (seen.push e.born) clock))
 | _=>False
def MEntryS (h:Heap) (b:Nat) (K:MapEntry->Prop):Prop:=
 match h[b]? with
 | some (.mapIter (some m) _ seen stepped)=>∃ es clock stamp e,h[m]?=some (.map es clock)/\seen.back?=some stamp/\clock=stepped/\es.find? (·.born == stamp)=some e/\K e
 | _=>False
def StampH (h:Heap) (a:Option Addr) (K:Heap->Prop):Prop:=
 AtP a fun ad=>∃ (cs:Array Value) (e:TypeId),h[ad.block]?=some (.cells cs e (0,0))/\K (h.setIfInBounds ad.block (.cells cs e (cs.size,cs.size+1)))
def effC (P:Program) (op:SOp) (s:SF) (h:Heap) (K:Value->Heap->Prop):Prop:=
 match op with
 | .st n x v=>getP s x fun a=>get s v fun u=>SzIs u n (AtP a fun ad=>StoreH h ad u.cells.toList fun h'=>K undef h')
 | .box e x=>get s x fun v=>K (.pointer (some ⟨h.size,0,none⟩)) (h.push (.cells v.cells e))
 | .alloc e z=>K (.pointer (some ⟨h.size,0,none⟩)) (h.push (.cells z.cells e))
 | .lit e len zero parts=>partsC s parts fun ps=>(match fillL (zeroRow zero (len*zero.size)) ps with
  | some c=>K (.slice (some ⟨h.size,0,none⟩) len len) (h.push (.cells c.toArray e))
  | none=>False)
 | .mkS e bytes sz z l c=>getZ s l fun a=>getZ s c fun b=>0≤a/\a≤b/\bytes*b≤281474976710656 /\
   K (.slice (some ⟨h.size,0,none⟩) a.toNat b.toNat) (h.push (.cells (zeroRow z (b.toNat*sz)).toArray e))
 | .mkM=>K (.map (some h.size)) (h.push (.map #[] 0))
 | .app e bytes sz z x y=>getSl s x fun a n c=>getSl s y fun b m _=>∃ ys,ReadL h b ys/\ys.length=m*sz/\AppH h a n c e bytes sz z ys m K
 | .appS e z x y=>getSl s x fun a n c=>getS s y fun b=>AppH h a n c e 1 1 z (bytesV b) b.size K
 | .appZ e bytes sz z x y=>getSl s x fun a n c=>getZ s y fun m=>0≤m/\m*bytes≤140737488355328/\AppH h a n c e bytes sz z (zeroRow z (m.toNat*sz)) m.toNat K
 | .clr sz z x=>getSl s x fun a n _=>(match a with
  | none=>K (.tuple #[]) h
  | some ad=>StoreH h ad (zeroRow z (n*sz)) fun h'=>K (.tuple #[]) h')
 | .mput d x i v=>getM s x fun r=>get s i fun kv=>get s v fun u=>(match r with
  | none=>False
  | some b=>∃ es clock,h[b]?=some (.map es clock)/\∃ r,findK d kv es.toList=some r/\(match r with
   | none=>K undef (h.setIfInBounds b (.map (es.push { key:=kv,val:=u,born:=clock }) (clock+1)))
   | some (j,_)=>Instr.sameBits 10000 (((es[j]?).map (·.key)).getD kv) kv=true/\K undef (h.setIfInBounds b (.map (es.modify j fun e=>{ e with key:=kv,val:=u }) clock))))
 | .ment d z t x i=>getM s x fun r=>get s i fun kv=>(match r with
  | none=>False
  | some b=>∃ es clock,h[b]?=some (.map es clock)/\∃ r,findK d kv es.toList=some r/\(match r with
   | none=>K (.tuple #[z,.int .i64 (clock:Nat)]) (h.setIfInBounds b (.map (es.push { key:=kv,val:=z,born:=clock }) (clock+1)))
   | some (j,u)=>Instr.sameBits 10000 (((es[j]?).map (·.key)).getD kv) kv=true/\ExT t fun v=>u=v/\K (.tuple #[v,.int .i64 ((((es[j]?).map (·.born)).getD 0:Nat):Int)]) (h.setIfInBounds b (.map (es.modify j fun e=>{ e with key:=kv }) clock))))
 | .mdel d x i=>getM s x fun r=>get s i fun kv=>(match r with
  | none=>fitK d kv=true/\K (.tuple #[]) h
  | some b=>∃ es clock,h[b]?=some (.map es clock)/\∃ r,findK d kv es.toList=some r/\(match r with
   | none=>K (.tuple #[]) (h.setIfInBounds b (.map es clock))
   | some (j,_)=>K (.tuple #[]) (h.setIfInBounds b (.map (es.eraseIdxIfInBounds j) clock))))
 | .mset x i v=>getM s x fun r=>getZ s i fun st=>get s v fun u=>(match r with
  | none=>False
  | some b=>∃ es clock,h[b]?=some (.map es clock)/\∃ j,es.findIdx? (fun e=>(e.born:Int) == st)=some j/\K undef (h.setIfInBounds b (.map (es.modify j fun e=>{ e with val:=u }) clock)))
 | .mrange x=>getM s x fun r=>(match r with
  | none=>K (.pointer (some ⟨h.size,0,none⟩)) (h.push (.mapIter none 0 #[] 0))
  | some b=>∃ es clock,h[b]?=some (.map es clock)/\K (.pointer (some ⟨h.size,0,none⟩)) (h.push (.mapIter (some b) clock #[] clock)))
 | .mnext kt vt it=>getP s it fun p=>AtP p fun ad=>ad.off=0/\MNextS h ad.block (K (.tuple #[.bool false]) h) fun e h'=>
   ExT kt fun k=>e.key=k/\ExT vt fun v=>e.val=v/\K (.tuple #[.bool true,k,v]) h'
 | .mentry kt vt it=>getP s it fun p=>AtP p fun ad=>ad.off=0/\MEntryS h ad.block fun e=>ExT kt fun k=>e.key=k/\ExT vt fun v=>e.val=v/\K (.tuple #[k,v]) h
 | .halt=>False
 | .cpy sz x y=>getSl s x fun a n _=>getSl s y fun b m _=>∃ ys,ReadL h b ys/\ys.length=(min m n)*sz/\(match a with
  | none=>K (.int .i64 (min m n:Nat)) h
  | some ad=>StoreH h ad ys fun h'=>K (.int .i64 (min m n:Nat)) h')
 | .call f args r=>getAll s args fun vs=>CallsH P f vs.toArray h fun v h'=>ExR r fun u=>v=u/\K u h'
 | .ovl x y=>getSl s x fun a _ _=>getSl s y fun b _ _=>(match a,b with
  | some a,some b=>a.block≠b.block/\(∃ c e,h[a.block]?=some (.cells c e (0,0)))/\(∃ c e fr,h[b.block]?=some (.cells c e fr)/\0<c.size)/\K (.bool false) h
  | _,_=>K (.bool false) h)
 | .callv f args r=>get s f fun fv=>getAll s args fun vs=>(match fv with
  | .func (.func g) first cap=>callOkP P g/\CallsH P g (first++vs.toArray++cap) h fun v h'=>ExR r fun u=>v=u/\K u h'
  | _=>False)
 | .toBytes e x=>getS s x fun b=>∀ cap,b.size≤cap->K (.slice (some ⟨h.size,0,none⟩) b.size cap)
   (h.push (.cells (bytesV b++List.replicate (cap-b.size) (Value.int .u8 0)).toArray e (cap,cap+1)))
 | .stamp x=>getSl s x fun a n c=>StampH h a fun h'=>K (.slice a n c) h'
 | .toStr x=>getSl s x fun a n _=>∃ b:ByteArray,b.size=n/\ReadL h a (bytesV b)/\K (.string b) h
 | _=>False
def pushC (op:SOp) (s:SF) (K:Obj->(Nat->Value)->Prop):Prop:=
 match op with
 | .box e x=>get s x fun v=>K (.cells v.cells e) fun b=>.pointer (some ⟨b,0,none⟩)
 | .alloc e z=>K (.cells z.cells e) fun b=>.pointer (some ⟨b,0,none⟩)
 | .lit e len zero parts=>partsC s parts fun ps=>(match fillL (zeroRow zero (len*zero.size)) ps with
  | some c=>K (.cells c.toArray e) fun b=>.slice (some ⟨b,0,none⟩) len len
  | none=>False)
 | .mkS e bytes sz z l c=>getZ s l fun a=>getZ s c fun b=>0≤a/\a≤b/\bytes*b≤281474976710656 /\
   K (.cells (zeroRow z (b.toNat*sz)).toArray e) fun k=>.slice (some ⟨k,0,none⟩) a.toNat b.toNat
 | .mkM=>K (.map #[] 0) fun b=>.map (some b)
 | _=>False
def nilK (P:Program) (t:TypeId) (y:Operand):Option NilK:=
 match P.underlying t,y with
 | some (.pointer _),.const (.pointer none)=>some .ptr
 | some (.slice _),.const (.slice none _ _)=>some .sl
 | some (.map _ _),.const (.map none)=>some .map
 | some (.interface _),.const .nilIface=>some .ifc
 | some (.func _ _ _),.const .nilFunc=>some .fn
 | _,_=>none
def scalarS (P:Program) (t:TypeId):Option Shp:=
 match P.underlying t with
 | some .bool=>some .bool
 | some (.int k)=>some (.int k)
 | some .string=>some .str
 | _=>none
def flatL (P:Program):List Field->Nat->Option (List Shp)
 | [],_=>some []
 | f :: r, i => match f.name != "_" && f.offset == i, scalarS P f.type, flatL P r (i + 1) with
  | true,some s,some l=>some (s::l)
  | _,_,_=>none
def flatS (P:Program) (t:TypeId):Option (List Shp):=
 match P.underlying t with
 | some (.struct fs)=>match P.stoodInHeld t,P.eqGuardType P.depth t with
  | false,false=>flatL P fs.toList 0
  | _,_=>none
 | _=>none
def flatA (P:Program) (t:TypeId):Option (List Shp):=
 match P.underlying t with
 | some (.array n e)=>match scalarS P e,(P.info? e).map (·.size),n with
  | some s,some 1,1=>some [s]
  | some s,some 1,2=>some [s,s]
  | _,_,_=>none
 | _=>none
def isAggB (P:Program) (t:TypeId):Option Bool:=
 match P.underlying t with
 | some (.struct _) | some (.array _ _)=>some true
 | some _=>some false
 | none=>none
def zeroOf (P:Program) (t:TypeId):Option Value:=(P.info? t).bind (·.zero)
def partsOf (P:Program) (place:Nat->Option (Nat×Nat)):List (Nat×Operand)->Option (List (Nat×Nat×Operand))
 | []=>some []
 | (i,x)::r=>match place i,partsOf P place r with
  | some (o,n),some l=>some ((o,n,x)::l)
  | _,_=>none
def shpT (P:Program) (t:TypeId):Option RShp:=(zeroOf P t).map rshpOf
def copBin (P:Program) (op:BinOp) (t:TypeId) (x y:Operand):Option SOp:=
 match P.underlying t with
 | some (.int k)=>
  match op with
  | .add | .sub | .mul=>some (.arith op k x y)
  | .quo | .rem=>match y with
   | .const (.int k' c)=>match (k' == k && c != 0) with
    | true=>some (.divc op k x c)
    | false=>none
   | _=>some (.divv op k x y)
  | .and | .or | .xor | .andNot=>some (.bits op k x y)
  | .shl | .shr=>match y with
   | .const (.int _ c)=>match (decide (0≤c) && decide (c≤k.bits)) with
    | true=>some (.shc op k x c.toNat)
    | false=>none
   | _=>some (.shv op k x y)
  | _=>some (.icmp op k x y)
 | some .string=>match op with
  | .add=>some (.sadd x y)
  | .eql | .neq | .lss=>some (.scmp op x y)
  | _=>none
 | some .bool=>match op with
  | .eql=>some (.bcmp false x y)
  | .neq=>some (.bcmp true x y)
  | _=>none
 | some (.struct _)=>match flatS P t,op with
  | some l,.eql=>some (.eqagg false l x y)
  | some l,.neq=>some (.eqagg true l x y)
  | _,_=>none
 | _=>match op,nilK P t y with
  | .eql,some kd=>some (.isnil kd false x)
  | .neq,some kd=>some (.isnil kd true x)
  | _,_=>none
def isOvl (P:Program) (f:FuncId):Bool:=
 match P.funcs[f]? with
 | some fn => fn.body.isNone && fn.name == "slices.overlaps[int]" && fn.origin == "slices.overlaps" && (match fn.params.toList with
  | [t,_]=>(match P.underlying t with
   | some (.slice e)=>(P.info? e).isSome
   | _=>false)
  | _=>false)
 | none=>false
def keyD (P:Program) (k:TypeId):Option KD:=
 match P.underlying k with
 | some (.int i)=>some (.int i)
 | some .string=>some .string
 | some (.struct _)=>(flatS P k).map .flat
 | some (.array _ _)=>(flatA P k).map .flat
 | _=>none
def mapD (P:Program) (t:TypeId):Option (KD×TypeId):=
 match P.underlying t with
 | some (.map k e)=>match keyD P k with
  | some d=>some (d,e)
  | none=>none
 | _=>none
def copCall (P:Program) (c:Call) (t:TypeId):Option SOp:=
 match c.callee with
 | .value (.func f)=>match callOk P f with
  | true=>match shpT P t with
   | some r=>some (.call f c.args.toList r)
   | none=>none
  | false=>match isOvl P f,c.args.toList with
   | true,[x,y]=>some (.ovl x y)
   | _,_=>none
 | .value f=>match shpT P t with
  | some r=>some (.callv f c.args.toList r)
  | none=>none
 | .builtin b=>
  match b,c.args.toList,c.argTypes.toList with
  | .len,[x],[t]=>match P.underlying t with
   | some (.slice _)=>some (.len x)
   | some .string=>some (.lenS x)
   | some (.array n _)=>some (.lenc n)
   | some (.map _ _)=>some (.lenm x)
   | _=>none
  | .cap,[x],[t]=>match P.underlying t with
   | some (.slice _)=>some (.cap x)
   | _=>none
  | .max,x::xs,t::_=>match P.underlying t with
   | some (.int k)=>some (.mnx true k x xs)
   | _=>none
  | .min,x::xs,t::_=>match P.underlying t with
   | some (.int k)=>some (.mnx false k x xs)
   | _=>none
  | .append,[x,y],[t,u]=>match P.underlying t with
   | some (.slice e)=>match P.info? e with
    | some i=>match i.zero,P.underlying u with
     | some z,some (.slice _)=>match (z.cells.size == i.size && decide (0<i.bytes)) with
      | true=>some (.app e i.bytes i.size z.cells x y)
      | false=>none
     | some z,some .string=>match (z.cells.size == i.size && i.size == 1 && i.bytes == 1) with
      | true=>some (.appS e z.cells x y)
      | false=>none
     | some z,some (.int _)=>match (z.cells.size == i.size && decide (0<i.bytes)) with
      | true=>some (.appZ e i.bytes i.size z.cells x y)
      | false=>none
     | _,_=>none
    | none=>none
   | _=>none
  | .clear,[x],[t]=>match P.underlying t with
   | some (.slice e)=>match P.info? e with
    | some i=>match i.zero with
     | some z=>match z.cells.size == i.size with
      | true=>some (.clr i.size z.cells x)
      | false=>none
     | none=>none
    | none=>none
   | _=>none
  | .delete,[x,i],t::_=>match mapD P t with
   | some (d,_)=>some (.mdel d x i)
   | none=>none
  | .copy,[x,y],[t,u]=>match P.underlying t,P.underlying u with
   | some (.slice e),some (.slice _)=>match P.info? e with
    | some i=>some (.cpy i.size x y)
    | none=>none
   | _,_=>none
  | _,_,_=>none
 | _=>none
def copSlice (P:Program) (t:TypeId) (x:Operand) (lo hi mx:Option Operand):Option SOp:=
 match mx with
 | none=>match P.underlying t with
  | some (.slice e)=>match P.info? e with
   | some j=>some (.slc j.size x lo hi)
   | none=>none
  | some .string=>some (.slcS x lo hi)
  | some (.array n e)=>match P.info? e with
   | some j=>some (.slcA n j.size x lo hi)
   | none=>none
  | _=>none
 | some mx=>match hi with
  | none=>none
  | some hi=>match P.underlying t with
   | some (.slice e)=>match P.info? e with
    | some j=>some (.slc3 j.size x lo hi mx)
    | none=>none
   | _=>none
def cop (P:Program) (o:Oper):Option SOp:=
 match o.op with
 | .move x=>some (.mv x)
 | .assign x=>some (.mv x)
 | .pick c a b=>some (.pick c a b)
 | .alloc e=>(zeroOf P e).map (.alloc e)
 | .box e x=>some (.box e x)
 | .build t parts=>match zeroOf P t with
  | none=>none
  | some z=>match P.underlying t with
   | some (.struct fs)=>match fs.toList.all fun f=>(P.info? f.type).isSome with
    | true=>(partsOf P (fun i=>(fs[i]?).bind fun f=>(P.info? f.type).map fun j=>(f.offset,j.size)) parts.toList).map (.mkAgg z.cells)
    | false=>none
   | some (.array _ e)=>match P.info? e with
    | some j=>(partsOf P (fun i=>some (i*j.size,j.size)) parts.toList).map (.mkAgg z.cells)
    | none=>none
   | _=>none
 | .buildSlice t len parts=>match P.underlying t with
  | some (.slice e)=>match P.info? e with
   | some j=>match j.zero,decide (len*j.size≤16777216) with
    | some z,true=>match z.cells.size == j.size with
     | true=>(partsOf P (fun i=>some (i*j.size,j.size)) parts.toList).map (.lit e len z.cells)
     | false=>none
    | _,_=>none
   | none=>none
  | _=>none
 | .load t a=>match isAggB P t,zeroOf P t with
  | some false,some z=>match tshpOf z with
   | .one s=>some (.ld s a)
   | .agg _=>none
  | some true,some z=>match tshpOf z,(P.info? t).map (·.size) with
   | .agg l,some n=>match l.length == n with
    | true=>some (.ldn l a)
    | false=>none
   | _,_=>none
  | _,_=>none
 | .store t a x=>match P.info? t with
  | some j=>some (.st j.size a x)
  | none=>none
 | .nilCheck x=>some (.nilck x)
 | .binOp op t x y _=>copBin P op t x y
 | .unOp op t x=>match P.underlying t,op with
  | some (.int k),.neg=>some (.neg k x)
  | some (.int k),.xor=>some (.inv k x)
  | some .bool,.not=>some (.not x)
  | _,_=>none
 | .convert src dst x=>match P.underlying src,P.underlying dst with
  | some (.int _),some (.int k)=>some (.conv k x)
  | some .string,some .string=>some (.mvS x)
  | some (.slice e),some .string=>match P.underlying e with
   | some (.int .u8)=>some (.toStr x)
   | _=>none
  | some .string,some (.slice e)=>match P.underlying e with
   | some (.int .u8)=>some (.toBytes e x)
   | _=>none
  | some (.slice e),some (.slice _)=>match src == dst,P.underlying e with
   | true,some (.int .u8)=>some (.stamp x)
   | _,_=>none
  | _,_=>none
 | .makeInterface t x=>match P.underlying t with
  | some (.interface _)=>none
  | some _=>some (.ifc t x)
  | none=>none
 | .makeFunc fn first cap=>some (.mkFn fn first.toList cap.toList)
 | .makeMap _ none=>some .mkM
 | .makeSlice t l c=>match P.underlying t with
  | some (.slice e)=>match P.info? e with
   | some j=>match j.zero with
    | some z=>match (z.cells.size == j.size && decide (0<j.size) && decide (0<j.bytes)) with
     | true=>some (.mkS e j.bytes j.size z.cells l c)
     | false=>none
    | none=>none
   | none=>none
  | _=>none
 | .panic _=>some .halt
 | .lookup t x i ok=>match mapD P t with
  | some (d,e)=>match zeroOf P e with
   | some z=>some (.mlook d z (tshpOf z) ok x i)
   | none=>none
  | none=>none
 | .next it isString=>match isString with
  | false=>some (.mnext (.one .any) (.one .any) it)
  | true=>none
 | .entry it=>some (.mentry (.one .any) (.one .any) it)
 | .range t x=>match P.underlying t with
  | some (.map _ _)=>some (.mrange x)
  | _=>none
 | .mapUpdate t m k x=>match mapD P t with
  | some (d,_)=>some (.mput d m k x)
  | none=>none
 | .mapEntry t m k=>match mapD P t with
  | some (d,e)=>match zeroOf P e with
   | some z=>some (.ment d z (tshpOf z) m k)
   | none=>none
  | none=>none
 | .entryStore _ m i x=>some (.mset m i x)
 | .slice t x lo hi mx=>copSlice P t x lo hi mx
 | .fieldAddr t x f=>match P.underlying t with
  | some (.struct fs)=>match fs[f]? with
   | some fd=>match P.info? fd.type with
    | some j=>match j.size with
     | 0=>none
     | _+1=>some (.fldA fd.offset x)
    | none=>none
   | none=>none
  | _=>none
 | .field t x f=>match P.underlying t with
  | some (.struct fs)=>match fs[f]? with
   | some fd=>match isAggB P fd.type,P.info? fd.type with
    | some false,_=>some (.fld1 fd.offset x)
    | some true,some j=>some (.fldN fd.offset j.size x)
    | _,_=>none
   | none=>none
  | _=>none
 | .indexAddr t x i=>match P.underlying t with
  | some (.slice e)=>match P.info? e with
   | some j=>some (.idxA j.size x i)
   | none=>none
  | some (.array n e)=>match P.info? e,decide (1≤n) with
   | some j,true=>some (.idxArr n j.size x i)
   | _,_=>none
  | _=>none
 | .index t x i=>match P.underlying t with
  | some .string=>some (.idxS x i)
  | some (.array n e)=>match isAggB P e,(P.info? e).map (·.size) with
   | some false,some 1=>match (zeroOf P e).map tshpOf with
    | some (.one sh)=>some (.idxV sh n x i)
    | _=>none
   | _,_=>none
  | _=>none
 | .extract x i=>some (.extr x i)
 | .call c=>copCall P c o.type
 | _=>none
end Go.Hx
namespace Go.Hx
structure SOper where
 dst:Option Nat
 op:SOp
 guard:Option (Nat×Bool)
inductive SCode where
 | skip
 | seq (a b:SCode)
 | region (x:Md) (l:List SOper)
 | cond (c:Operand) (a b:SCode)
 | block (id:Nat) (c:SCode)
 | loop (live:List (Nat×Shp)) (wr:List Nat) (c:SCode)
 | exit (id:Nat)
 | ret
def clsP (P:Program) (x:Md) (o:Oper):Cls:=match cop P o with | some s=>s.cls x | none=>.eff
def fclsP (P:Program) (o:Oper):FCls:=match cop P o with | some s=>s.fcls | none=>.eff
def emit (out l:List Nat):List Nat:=l.foldl (fun o j=>match o.elem j with | true=>o | false=>o++[j]) out
def fltOrd (cls:Oper->FCls) (ops:Array Oper) (M:List Nat):List Nat:=
 emit ((List.range ops.size).foldl (fun out i=>match ops[i]? with
  | some o=>(match cls o with
   | .chn=>emit (emit out ((List.range i).filter fun j=>(M.getD i 0).testBit j)) [i]
   | .eff=>emit (emit out ((List.range i).filter fun j=>(M.getD i 0).testBit j)) [i]
   | _=>out)
  | none=>out) []) (List.range ops.size)
def isPtr (P:Program) (t:TypeId):Bool:=match P.underlying t with | some (.pointer _)=>true | _=>false
def ptrCall (P:Program) (o:Oper):Bool:=
 match cop P o with
 | some (.call f _ _)=>match P.funcs[f]? with
  | some fn=>fn.params.toList.any (isPtr P)
  | none=>false
 | _=>false
def looseCall (P:Program) (ops:Array Oper) (M:List Nat):Bool:=
 (List.range ops.size).any fun i=>match ops[i]? with
  | some o=>ptrCall P o && (List.range ops.size).any fun j=>match ops[j]? with
   | some r=>decide (clsP P .ext r=.read) && !((M.getD i 0).testBit j) && !((M.getD j 0).testBit i)
   | none=>false
  | none=>false
def isApp (P:Program) (ops:Array Oper) (o:Oper):Bool:=
 match cop P o with
 | some (.app _ _ _ _ (.tmp t) _)=>ops.toList.any fun r=>r.dst == some t && match cop P r with
  | some (.ld ..)=>true
  | _=>false
 | _=>false
def modeOf (P:Program) (ops:Array Oper) (draw:Bool):Option Md:=
 match draw with
 | false=>some .txt
 | true=>match orderOk (clsP P .txt) ops (Region.before ops).toList,orderOk (clsP P .ext) ops (Region.before ops).toList,orderOk (clsP P .wide) ops (Region.before ops).toList with
  | true,_,_=>some .txt
  | false,true,w=>(match w && looseCall P ops (Region.before ops).toList with
   | true=>some .wide
   | false=>some .ext)
  | false,false,true=>some .wide
  | false,false,false=>match ordOk (fclsP P) ops (Region.before ops).toList (fltOrd (fclsP P) ops (Region.before ops).toList) with
   | true=>(match ops.toList.any (isApp P ops) with
    | true=>some .fwd
    | false=>some .flt)
   | false=>match orderOk (clsP P .wst) ops (Region.before ops).toList with
    | true=>some .wst
    | false=>none
def toldOps (P:Program) (x:Md) (ops:Array Oper):List Oper:=
 match x with
 | .flt=>(fltOrd (fclsP P) ops (Region.before ops).toList).filterMap fun i=>ops[i]?
 | .fwd=>(fltOrd (fclsP P) ops (Region.before ops).toList).filterMap fun i=>ops[i]?
 | _=>ops.toList
def takenT (P:Program) (d i:Nat):List Oper->TShp
 | []=>.one .any
 | o::r=>match o.op with
  | .extract (.tmp t) j=>match t == d && j == i,zeroOf P o.type with
   | true,some z=>tshpOf z
   | _,_=>takenT P d i r
  | _=>takenT P d i r
def retype (P:Program) (ops:Array Oper) (dst:Option Nat) (s:SOp):SOp:=
 match s,dst with
 | .mentry (.one .any) (.one .any) it,some d=>.mentry (takenT P d 0 ops.toList) (takenT P d 1 ops.toList) it
 | s,_=>s
def compOp (P:Program) (N:Nat) (ops:Array Oper) (o:Oper):Option SOper:=
 match cop P o,(match o.dst with | some d=>decide (d<N) | none=>true) with
 | some s,true=>match o.guard with
  | none=>some ⟨o.dst,retype P ops o.dst s,none⟩
  | some (g,b)=>match (ops[g]?).bind (·.dst) with
   | some t=>some ⟨o.dst,retype P ops o.dst s,some (t,b)⟩
   | none=>none
 | _,_=>none
def compOps (P:Program) (N:Nat) (ops:Array Oper):List Oper->Option (List SOper)
 | []=>some []
 | o::r=>match compOp P N ops o,compOps P N ops r with
  | some x,some l=>some (x::l)
  | _,_=>none
def dsts:Code->List Nat
 | .seq a b=>dsts a++dsts b
 | .region _ ops _=>ops.toList.filterMap (·.dst)
 | .cond _ a b=>dsts a++dsts b
 | .block _ c=>dsts c
 | .loop c=>dsts c
 | .scope c=>dsts c
 | _=>[]
def comp (P:Program) (N:Nat):Code->List (List (Nat×Shp))->Option (SCode×List (List (Nat×Shp)))
 | .skip,L=>some (.skip,L)
 | .label _,L=>some (.skip,L)
 | .scope c,L=>comp P N c L
 | .seq a b,L=>match comp P N a L with
  | some (x,L)=>match comp P N b L with
   | some (y,L)=>some (.seq x y,L)
   | none=>none
  | none=>none
 | .region _ ops draw,L=>match modeOf P ops draw with
  | some x=>(match compOps P N ops (toldOps P x ops) with
   | some l=>some (.region x l,L)
   | none=>none)
  | none=>none
 | .cond c a b,L=>match comp P N a L with
  | some (x,L)=>match comp P N b L with
   | some (y,L)=>some (.cond c x y,L)
   | none=>none
  | none=>none
 | .block id c,L=>match comp P N c L with
  | some (x,L)=>some (.block id x,L)
  | none=>none
 | .loop c,live::L=>match comp P N c L with
  | some (x,L)=>some (.loop live (dsts c) x,L)
  | none=>none
 | .exit id,L=>some (.exit id,L)
 | .ret,L=>some (.ret,L)
 | _,_=>none
end Go.Hx
