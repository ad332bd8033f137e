/- Part 1 of what the laws' proofs lean on: states of the walk, typed functions of the program and their laws (short forms written by wip/shrink.py; no condition). -/
import Derived.Test.YtolgdkhlelfpoaaGreatRows
import Derived.WalkKit
import Derived.WalkSpells
import Derived.WalkLawsBesides
import Derived.Lib.Hide
import Derived.Laws.AppendOwnNone
import Derived.Laws.CopyOwn
import Derived.Lib.AppendStr
import Derived.Laws.IdiomStrings
import Derived.Laws.BitsAllLaws
import Derived.OrdersIn
import Derived.ControlIn
import Derived.TacticsIn
import Derived.ArgAppend
import Derived.RangeFuncLeaves
import Derived.RangeFuncRecord
import Derived.Laws.StructEq
import Derived.Laws.BytesString
import Derived.Lib.OwnBridge
import Derived.Sort.OwnSortedInts
import Derived.Lib.SliceRun
import Derived.ProofKit
import Derived.Deep.Slices
import Derived.Lib.SlicesCompact
import Derived.Test.YtolgdkhlelfpoaaGreatProg
import Derived.Shelf.Small.Bits
import Derived.Shelf.Small.Strs
import Derived.Shelf.Small.Wraps
import Derived.Shelf.Strconv.Itoa0
import Derived.Shelf.Strings.Search1
import Derived.Shelf.Strings.Search2
import Derived.Shelf.Strings.Cut
import Derived.Shelf.LaysM
import Derived.Shelf.Strings.Shaped
import Derived.Shelf.Sort.Plain
import Derived.Shelf.Slices.Turned
import Derived.Ground.Names2Prog
import Derived.Shelf.Slices.Clone
import Derived.Shelf.Slices.CompactI
import Derived.Shelf.Slices.SearchI
import Derived.Shelf.Slices.Cells
import Derived.Shelf.Slices.In.SortNone
import Derived.Shelf.Slices.Empties
import Derived.Ground.SlgnProg
import Derived.Shelf.SlicesE.Clone
import Derived.RangeFuncIn
import Derived.Scope
import Derived.Tactics
import Derived.Tactics2
import Derived.Defers
import Derived.Recover
import Derived.Laws.Pointers
import Derived.Shelf.SlLaysF0
import Derived.Shelf.SlSortCmp.NoneTotal
import Derived.Laws.IdiomRangeMap
import Derived.Laws.Small
import Derived.Laws.Bits64
import Derived.Lib.Bytealg
set_option linter.unusedVariables false
set_option linter.unusedSimpArgs false
section
namespace Go.Proofs.YtolgdkhlelfpoaaGreat
open Go.RowKit
theorem addr_add (b o j:Nat):(⟨b,o,none⟩:Addr).add j=⟨b,o+j,none⟩:=by
 unfold Addr.add;split<;>simp_all
section
variable {P : Program} {ops : Array Oper} {rest : List Oper} {o : Oper} {a : Act} {w : World} {Q : Exit → Act → World → Prop}
theorem adr (w:World) (ty:TypeId) (b off:Nat) (cs:Array Value) (hA:(isAgg ty).run P w=.ok true w) (hS:(sizeOf ty).run P w=.ok cs.size w)
 (hc:∀j,j<cs.size→w.cell? ⟨b,off+j,none⟩=some (cs.getD j undef)):(loadVar ty ⟨b,off,none⟩).run P w=.ok (.agg cs) w:=by
 have hl:(loadCells ⟨b,off,none⟩ cs.toList.length).run P w=.ok cs.toList.toArray w:=
  run_loadCells_list (P:=P) w ⟨b,off,none⟩ cs.toList (fun j v hv=>by
   rw[addr_add]
   have hj:j<cs.size:=by
    have:=(List.getElem?_eq_some_iff.1 hv).1;simpa using this
   rw[hc j hj];simp only[Array.getElem?_toList]at hv;simp[Array.getD,hj]at hv ⊢
   exact hv)
 simp only[Array.length_toList,Array.toArray_toList]at hl;simp only[loadVar,Sem.run_bind,hA,hS,Result.andThen_ok,if_true,hl,Sem.run_pure]
end
end Go.Proofs.YtolgdkhlelfpoaaGreat
end
section
namespace Go.Proofs.YtolgdkhlelfpoaaGreat
open Go.RowKit
inductive D where
 |lit (v:Value)
 |agg (cs:List D)
 |sl (es:List D)
 |ref (cs:List D) (off:Nat)
 |fn (f:Fn) (first cap:List D)
 |Gq (t:TypeId) (x:D)
def D.cells:D→List D
 | .agg cs=>cs
 |x=>[x]
def D.leaf:D→Bool
 | .lit v=>v.oneCell'
 | .agg _=>false
 |_=>true
abbrev dz :D:=.lit undef
abbrev cellAt (w:World) (b o:Nat):Value:=(w.cell? ⟨b,o,none⟩).getD undef
inductive RD (ok:Nat→Prop) (w:World):D→Value→Prop
 |lit (v:Value):RD ok w (.lit v) v
 |agg (cs:List D) (vs:Array Value) (hl:vs.size=cs.length) (hf:∀i,i<cs.length→(cs.getD i dz).leaf=true)
  (h:∀i,i<cs.length→RD ok w (cs.getD i dz) (vs.getD i undef)):RD ok w (.agg cs) (.agg vs)
 |sl0 (ad:Option Addr) (cap:Nat):RD ok w (.sl []) (.slice ad 0 cap)
 |sl (es:List D) (b off cap size:Nat) (hcap:es.length≤cap) (hok:0<es.length→0<size→ok b) (hs:∀i,i<es.length→(es.getD i dz).cells.length=size)
  (hf:∀i,i<es.length→∀j,j<size→((es.getD i dz).cells.getD j dz).leaf=true)
  (hx:∀i,i<es.length→∀j,j<size→(w.cell? ⟨b,off+(i*size+j),none⟩).isSome=true)
  (hc:∀i,i<es.length→∀j,j<size→RD ok w ((es.getD i dz).cells.getD j dz) (cellAt w b (off+(i*size+j)))):
  RD ok w (.sl es) (.slice (some ⟨b,off,none⟩) es.length cap)
 |ref (cs:List D) (off b o:Nat) (hok:0<cs.length→ok b) (hf:∀i,i<cs.length→(cs.getD i dz).leaf=true)
  (hx:∀j,j<cs.length→(w.cell? ⟨b,o+j,none⟩).isSome=true)
  (hc:∀j,j<cs.length→RD ok w (cs.getD j dz) (cellAt w b (o+j))):RD ok w (.ref cs off) (.pointer (some ⟨b,o+off,none⟩))
 |fn (f:Fn) (first cap:List D) (vs us:Array Value) (hl:vs.size=first.length) (hm:us.size=cap.length)
  (h:∀i,i<first.length→RD ok w (first.getD i dz) (vs.getD i undef)) (h':∀i,i<cap.length→RD ok w (cap.getD i dz) (us.getD i undef)):
  RD ok w (.fn f first cap) (.func f vs us)
 |Gq (t:TypeId) (x:D) (v:Value) (h:RD ok w x v):RD ok w (.Gq t x) (.iface t v)
def Grow (ok:Nat→Prop) (w:World) (ok':Nat→Prop) (w':World):Prop:=∀b,ok b→ok' b∧w'.heap[b]? =w.heap[b]?
theorem Grow.refl (ok:Nat→Prop) (w:World):Grow ok w ok w:=fun _ h=>⟨h,rfl⟩
theorem Grow.trans {ok ok1 ok2:Nat→Prop} {w w1 w2:World} (h:Grow ok w ok1 w1) (k:Grow ok1 w1 ok2 w2):Grow ok w ok2 w2:=
 fun b hb=>⟨(k b (h b hb).1).1,((k b (h b hb).1).2).trans (h b hb).2⟩
theorem Grow.cell {ok ok':Nat→Prop} {w w':World} (h:Grow ok w ok' w') {b o:Nat} (hb:ok b):w'.cell? ⟨b,o,none⟩=w.cell? ⟨b,o,none⟩:=
 World.cell?_of_block (w:=w) (a:=⟨b,o,none⟩) (h b hb).2
theorem RD.mono {ok ok':Nat→Prop} {w w':World} (hg:Grow ok w ok' w') {x:D} {v:Value} (h:RD ok w x v):RD ok' w' x v:=by
 induction h with
 |lit v=>exact .lit v
 |agg cs vs hl hf _ ih=>exact .agg cs vs hl hf ih
 |sl0 ad cap=>exact .sl0 ad cap
 |sl es b off cap size hcap hok hs hf hx _ ih=>
  have h1:∀i j,i<es.length→j<size→ok b:=fun i j hi hj=>hok (by omega) (by omega);refine .sl es b off cap size hcap (fun h2 h3=>(hg b (hok h2 h3)).1) hs hf (fun i hi j hj=>?_) (fun i hi j hj=>?_)
  ·rw[hg.cell (h1 i j hi hj)];exact hx i hi j hj
  unfold cellAt;rw[hg.cell (h1 i j hi hj)];exact ih i hi j hj
 |ref cs off b o hok hf hx _ ih=>
  refine .ref cs off b o (fun h2=>(hg b (hok h2)).1) hf (fun j hj=>?_) (fun j hj=>?_)
  ·rw[hg.cell (hok (by omega))];exact hx j hj
  unfold cellAt;rw[hg.cell (hok (by omega))];exact ih j hj
 |fn f first cap vs us hl hm _ _ ih ih'=>exact .fn f first cap vs us hl hm ih ih'
 |Gq t x v _ ih=>exact .Gq t x v ih
theorem RD.shrink {ok ok':Nat→Prop} {w:World} (hs:∀b o,ok b→(w.cell? ⟨b,o,none⟩).isSome=true→ok' b) {x:D} {v:Value} (h:RD ok w x v):RD ok' w x v:=by
 induction h with
 |lit v=>exact .lit v
 |agg cs vs hl hf _ ih=>exact .agg cs vs hl hf ih
 |sl0 ad cap=>exact .sl0 ad cap
 |sl es b off cap size hcap hok hs' hf hx _ ih=>exact .sl es b off cap size hcap (fun h2 h3=>hs b _ (hok h2 h3) (hx 0 h2 0 h3)) hs' hf hx ih
 |ref cs off b o hok hf hx _ ih=>exact .ref cs off b o (fun h2=>hs b _ (hok h2) (hx 0 h2)) hf hx ih
 |fn f first cap vs us hl hm _ _ ih ih'=>exact .fn f first cap vs us hl hm ih ih'
 |Gq t x v _ ih=>exact .Gq t x v ih
theorem RD.leaf {ok:Nat→Prop} {w:World} {x:D} {v:Value} (h:RD ok w x v) (hl:x.leaf=true):v.oneCell'=true:=by
 cases h<;>first|rfl|exact hl|(simp[D.leaf]at hl)
inductive AV where
 |d (x:D)
 |ptr (k off:Nat)
 |aK (k:Nat)
 |jV (k i off:Nat)
 |fn (f:Fn) (first cap:List AV)
 |mp (k:Nat)
 |clip (xs:List D)
 |qR (k:Nat)
 |eH (vs:List AV)
 |ag (vs:List AV)
 |junk
def AV.leaf:AV→Bool
 | .d x=>x.leaf
 | .eH _| .ag _| .junk=>false
 |_=>true
def AV.cells:AV→List AV
 | .d x=>x.cells.map .d
 | .ag xs=>xs
 |x=>[x]
inductive bn where
 |dead
 |box (cs:List AV)
 |arr (e:TypeId) (size:Nat) (es:List D)
 |map (es:List (Value×D))
 |dA (es:List (Value×D))
 |iter (es:List (Value×D)) (vis:List Nat)
 |loop (tm:Array Value) (slots:List AV) (rc:Array Tmp×Code×Code) (st:LoopState) (pe:Option Code)
def bn.live:bn→Bool
 | .dead=>false
 |_=>true
structure Hd where
 v:Value
 size:Nat:=0
inductive R (ok:Nat→Prop) (w:World) (H:List Hd):AV→Value→Prop
 |d (x:D) (v:Value) (h:RD ok w x v):R ok w H (.d x) v
 |ptr (k off b s:Nat) (h:H[k]? =some ⟨.pointer (some ⟨b,0,none⟩),s⟩):R ok w H (.ptr k off) (.pointer (some ⟨b,off,none⟩))
 |aK (k:Nat) (ad:Option Addr) (n cap s:Nat) (h:H[k]? =some ⟨.slice ad n cap,s⟩):R ok w H (.aK k) (.slice ad n cap)
 |jV (k i off b n cap s:Nat) (h:H[k]? =some ⟨.slice (some ⟨b,0,none⟩) n cap,s⟩):R ok w H (.jV k i off) (.pointer (some ⟨b,i*s+off,none⟩))
 |fn (f:Fn) (first cap:List AV) (vs us:Array Value) (hl:vs.size=first.length) (hm:us.size=cap.length) (h:∀i,i<first.length→R ok w H (first.getD i .junk) (vs.getD i undef))
  (h':∀i,i<cap.length→R ok w H (cap.getD i .junk) (us.getD i undef)):R ok w H (.fn f first cap) (.func f vs us)
 |mp (k:Nat) (v:Value) (s:Nat) (hl:v.oneCell'=true) (h:H[k]? =some ⟨v,s⟩):R ok w H (.mp k) v
 |clip (xs:List D) (ad:Option Addr) (h:RD ok w (.sl xs) (.slice ad xs.length xs.length)):R ok w H (.clip xs) (.slice ad xs.length xs.length)
 |qR (k:Nat) (ad:Option Addr) (n cap s:Nat) (h:H[k]? =some ⟨.slice ad n cap,s⟩):R ok w H (.qR k) (.slice ad n n)
 |eH (xs:List AV) (vs:Array Value) (hl:vs.size=xs.length) (h:∀i,i<xs.length→R ok w H (xs.getD i .junk) (vs.getD i undef)):R ok w H (.eH xs) (.tuple vs)
 |ag (xs:List AV) (vs:Array Value) (hl:vs.size=xs.length) (hf:∀i,i<xs.length→(xs.getD i .junk).leaf=true) (h:∀i,i<xs.length→R ok w H (xs.getD i .junk) (vs.getD i undef)):R ok w H (.ag xs) (.agg vs)
 |junk (v:Value):R ok w H .junk v
def Names (H H':List Hd):Prop:=∀(k:Nat) (v:Hd),H[k]? =some v→H'[k]? =some v
theorem Names.refl (H:List Hd):Names H H:=fun _ _ h=>h
theorem Names.trans {H H1 H2:List Hd} (h:Names H H1) (k:Names H1 H2):Names H H2:=fun i v hv=>k i v (h i v hv)
theorem Names.push (H H':List Hd):Names H (H++H'):=fun k v h=>by
 rw[List.getElem?_append_left (List.getElem?_eq_some_iff.1 h).1];exact h
theorem R.mono {ok ok':Nat→Prop} {w w':World} {H H':List Hd} (hg:Grow ok w ok' w') (hn:Names H H') {x:AV} {v:Value} (h:R ok w H x v):R ok' w' H' x v:=by
 induction h with
 |d x v h=>exact .d x v (h.mono hg)
 |ptr k off b s h=>exact .ptr k off b s (hn _ _ h)
 |aK k ad n cap s h=>exact .aK k ad n cap s (hn _ _ h)
 |jV k i off b n cap s h=>exact .jV k i off b n cap s (hn _ _ h)
 |fn f first cap vs us hl hm _ _ ih ih'=>exact .fn f first cap vs us hl hm ih ih'
 |mp k v s hl h=>exact .mp k v s hl (hn _ _ h)
 |clip xs ad h=>exact .clip xs ad (h.mono hg)
 |qR k ad n cap s h=>exact .qR k ad n cap s (hn _ _ h)
 |eH xs vs hl _ ih=>exact .eH xs vs hl ih
 |ag xs vs hl hf _ ih=>exact .ag xs vs hl hf ih
 |junk v=>exact .junk v
theorem R.shrink {ok ok':Nat→Prop} {w:World} (hs:∀b o,ok b→(w.cell? ⟨b,o,none⟩).isSome=true→ok' b) {H:List Hd} {x:AV} {v:Value} (h:R ok w H x v):R ok' w H x v:=by
 induction h with
 |d x v h=>exact .d x v (h.shrink hs)
 |ptr k off b s h=>exact .ptr k off b s h
 |aK k ad n cap s h=>exact .aK k ad n cap s h
 |jV k i off b n cap s h=>exact .jV k i off b n cap s h
 |fn f first cap vs us hl hm _ _ ih ih'=>exact .fn f first cap vs us hl hm ih ih'
 |mp k v s hl h=>exact .mp k v s hl h
 |clip xs ad h=>exact .clip xs ad (h.shrink hs)
 |qR k ad n cap s h=>exact .qR k ad n cap s h
 |eH xs vs hl _ ih=>exact .eH xs vs hl ih
 |ag xs vs hl hf _ ih=>exact .ag xs vs hl hf ih
 |junk v=>exact .junk v
theorem R.leaf {ok:Nat→Prop} {w:World} {H:List Hd} {x:AV} {v:Value} (h:R ok w H x v) (hl:x.leaf=true):v.oneCell'=true:=by
 cases h with
 |d x v h=>exact h.leaf hl
 |eH=>simp[AV.leaf]at hl
 |ag=>simp[AV.leaf]at hl
 |junk=>simp[AV.leaf]at hl
 |mp k v s hl h=>exact hl
 |_=>rfl
def Rs (ok:Nat→Prop) (w:World) (H:List Hd) (xs:List AV) (vs:List Value):Prop:=
 vs.length=xs.length∧∀i,i<xs.length→(xs.getD i .junk).leaf=true∧R ok w H (xs.getD i .junk) (vs.getD i undef)
theorem Rs.mono {ok ok':Nat→Prop} {w w':World} {H H':List Hd} (hg:Grow ok w ok' w') (hn:Names H H') {xs:List AV} {vs:List Value} (h:Rs ok w H xs vs):Rs ok' w' H' xs vs:=
 ⟨h.1,fun i hi=>⟨(h.2 i hi).1,(h.2 i hi).2.mono hg hn⟩⟩
theorem Rs.shrink {ok ok':Nat→Prop} {w:World} (hs:∀b o,ok b→(w.cell? ⟨b,o,none⟩).isSome=true→ok' b) {H:List Hd} {xs:List AV} {vs:List Value} (h:Rs ok w H xs vs):Rs ok' w H xs vs:=
 ⟨h.1,fun i hi=>⟨(h.2 i hi).1,(h.2 i hi).2.shrink hs⟩⟩
def flat (es:List D):List AV:=es.flatMap fun x=>x.cells.map .d
def lY (w:World) (e:TypeId) (size:Nat) (v:Value) (n:Nat) (xs:List Value):Prop:=
 xs.length=n*size∧
 ((v=.slice none 0 0∧n=0)∨
  ∃g cap cur,v=.slice (some ⟨g,0,none⟩) n cap∧0≤g∧w.heap[g]? =some (.cells cur e (0,0))∧n≤cap∧cap≤maxLen∧cap*size≤cur.size∧cur.toList.take (n*size)=xs)
theorem lY.of {w:World} {base:Nat} {e:TypeId} {size:Nat} {v:Value} {n:Nat} {xs:List Value} (h:w.ownsRow base e size v n xs):lY w e size v n xs:=by
 refine⟨h.1,?_⟩;rcases h.2 with h2|⟨g,cap,cur,h2,h3,h4,h5,h6,h7,h8⟩
 ·exact .inl h2
 exact .inr ⟨g,cap,cur,h2,Nat.zero_le _,h4,h5,h6,Nat.le_of_eq h7.symm,h8⟩
theorem lY.cells {w:World} {e:TypeId} {size:Nat} {v:Value} {n:Nat} {xs:List Value} (h:lY w e size v n xs) {g:Nat} (hg:v.ownBlock=some g):∀j u,xs[j]? =some u→w.cell? ((⟨g,0,none⟩:Addr).add j)=some u:=by
 intro j u hu;rcases h.2 with⟨rfl,_⟩|⟨g',cap,cur,rfl,_,hgg,_,_,_,htake⟩
 ·simp[Value.ownBlock]at hg
 simp[Value.ownBlock]at hg;subst hg;have hadd:(⟨g',0,none⟩:Addr).add j=⟨g',j,none⟩:=by unfold Addr.add;split<;>simp_all
 rw[hadd,cell_of_row w g' j cur e (0,0) hgg];rw[←htake,List.getElem?_take]at hu;split at hu
 ·simpa using hu
 cases hu
structure rO (ok:Nat→Prop) (w:World) (es:List (Value×D)) (ms:Array MapEntry) (clock:Nat):Prop where
 len:ms.size=es.length
 ent:∀(i:Nat) (e:Value×D) (m:MapEntry),es[i]? =some e→ms[i]? =some m→m.key=e.1∧RD ok w e.2 m.val∧m.born<clock
 inc:∀(i j:Nat) (m n:MapEntry),i<j→ms[i]? =some m→ms[j]? =some n→m.born<n.born
def Bl (ms:Array MapEntry) (clock:Nat):Prop:=clock=ms.size∧∀(i:Nat) (e:MapEntry),ms[i]? =some e→e.born=i
def iL (ok:Nat→Prop) (w:World) (H:List Hd) (h:Hd):bn→Prop
 | .dead=>True
 | .box cs=>∃b vs T,h.v=.pointer (some ⟨b,0,none⟩)∧w.heap[b]? =some (.cells vs T (0,0))∧Rs ok w H cs vs.toList
 | .arr e size es=>h.size=size∧(∀x∈es,x.cells.length=size)∧∃xs,lY w e size h.v es.length xs∧Rs ok w H (flat es) xs
 | .map es=>∃b ms clock,h.v=.map (some b)∧w.heap[b]? =some (.map ms clock)∧rO ok w es ms clock
 | .dA es=>∃b ms clock,h.v=.map (some b)∧w.heap[b]? =some (.map ms clock)∧rO ok w es ms clock∧Bl ms clock
 | .iter es vis=>∃bi bm ms clock seen,h.v=.pointer (some ⟨bi,0,none⟩)∧w.heap[bi]? =some (.mapIter (some bm) clock seen clock)∧ok bm∧w.heap[bm]? =some (.map ms clock)∧rO ok w es ms clock∧
  seen.size=vis.length∧∀(j i:Nat),vis[j]? =some i→∃e,ms[i]? =some e∧seen[j]? =some e.born
 | .loop tm slots rc st pe=>∃l fn D,h.v=.func (.yield l) #[] #[]∧w.heap[l]? =some (.loop { state:=st,pending:=pe,fn,tmps:=tm,params:=rc.1,assign:=rc.2.1,body:=rc.2.2,defers:=D })∧tm.size=slots.length∧∀t,t<slots.length→R ok w H (slots.getD t .junk) (tm.getD t undef)
def eG :Value→Option Nat
 | .pointer (some a)=>some a.block
 | .slice (some a) _ _=>some a.block
 | .map (some b)=>some b
 | .func (.yield l) _ _=>some l
 |_=>none
structure Fr (w0:World) (X:List Nat) (w:World):Prop where
 os:w.os=w0.os
 tape:w.tape=w0.tape
 output:w.output=w0.output
 size:w0.heap.size≤w.heap.size
 block:∀k,k<w0.heap.size→k∉X→w.heap[k]? =w0.heap[k]?
theorem Fr.refl (w:World) (X:List Nat):Fr w X w:=⟨rfl,rfl,rfl,Nat.le_refl _,fun _ _ _=>rfl⟩
theorem Fr.below {w0 w:World} (h:Fr w0 [] w):Below w0.heap.size w0 w:=⟨h.os,h.tape,h.output,h.size,fun k hk=>h.block k hk (by simp)⟩
structure Cx where
 w0:World
 ok0:Nat→Prop
 X:List Nat
 H0:List Hd
structure Mem (C:Cx) (ok:Nat→Prop) (H:List Hd) (es:List bn) (w:World):Prop where
 fr:Fr C.w0 C.X w
 rP:∀b,C.ok0 b→ok b
 rQ:∀b,ok b→C.ok0 b∨C.w0.heap.size≤b∨b∈C.X
 jH:∀b,ok b→b<w.heap.size
 names:Names C.H0 H
 hlen:H.length=es.length
 ent:∀(k:Nat) (e:bn) (h:Hd),es[k]? =some e→H[k]? =some h→iL ok w H h e
 blk:∀(k:Nat) (e:bn) (h:Hd) (b:Nat),es[k]? =some e→e.live=true→H[k]? =some h→eG h.v=some b→¬ok b∧b<w.heap.size∧(C.w0.heap.size≤b∨b∈C.X)
 yQ:∀(k k':Nat) (e e':bn) (h h':Hd) (b:Nat),es[k]? =some e→es[k']? =some e'→e.live=true→e'.live=true→H[k]? =some h→H[k']? =some h'→eG h.v=some b→eG h'.v=some b→k=k'
theorem iL.mono {ok ok':Nat→Prop} {w w':World} {H H':List Hd} {h:Hd} {e:bn} (hg:Grow ok w ok' w') (hn:Names H H') (hb:e.live=true→∀b,eG h.v=some b→w'.heap[b]? =w.heap[b]?) (he:iL ok w H h e):iL ok' w' H' h e:=by
 cases e with
 |dead=>trivial
 |box cs=>
  obtain⟨b,vs,T,h1,h2,h3⟩:=he;exact⟨b,vs,T,h1,by rw[hb rfl b (by rw[h1];rfl)];exact h2,h3.mono hg hn⟩
 |arr e s es=>
  obtain⟨h1,h2,xs,⟨h3,h4⟩,h5⟩:=he;refine⟨h1,h2,xs,⟨h3,?_⟩,h5.mono hg hn⟩;rcases h4 with h4|⟨g,cap,cur,h6,h7,h8,h9⟩
  ·exact .inl h4
  exact .inr ⟨g,cap,cur,h6,h7,by rw[hb rfl g (by rw[h6];rfl)];exact h8,h9⟩
 |map es=>
  obtain⟨b,ms,clock,h1,h2,h3⟩:=he;exact⟨b,ms,clock,h1,by rw[hb rfl b (by rw[h1];rfl)];exact h2,h3.len,fun i e m hi hm=>⟨(h3.ent i e m hi hm).1,(h3.ent i e m hi hm).2.1.mono hg,(h3.ent i e m hi hm).2.2⟩,h3.inc⟩
 |dA es=>
  obtain⟨b,ms,clock,h1,h2,h3,h4⟩:=he;exact⟨b,ms,clock,h1,by rw[hb rfl b (by rw[h1];rfl)];exact h2,⟨h3.len,fun i e m hi hm=>⟨(h3.ent i e m hi hm).1,(h3.ent i e m hi hm).2.1.mono hg,(h3.ent i e m hi hm).2.2⟩,h3.inc⟩,h4⟩
 |iter es vis=>
  obtain⟨bi,bm,ms,clock,seen,h1,h2,h3,h4,h5,h6,h7⟩:=he;exact⟨bi,bm,ms,clock,seen,h1,by rw[hb rfl bi (by rw[h1];rfl)];exact h2,(hg bm h3).1,by rw[(hg bm h3).2];exact h4,⟨h5.len,fun i e m hi hm=>⟨(h5.ent i e m hi hm).1,(h5.ent i e m hi hm).2.1.mono hg,(h5.ent i e m hi hm).2.2⟩,h5.inc⟩,h6,h7⟩
 |loop tm slots rc st pe=>
  obtain⟨l,fn,D,h1,h2,h3,h4⟩:=he;exact⟨l,fn,D,h1,by rw[hb rfl l (by rw[h1];rfl)];exact h2,h3,fun t ht=>(h4 t ht).mono hg hn⟩
theorem iL.shrink {ok ok':Nat→Prop} {w:World} (hs:∀b o,ok b→(w.cell? ⟨b,o,none⟩).isSome=true→ok' b) (hs2:∀(b:Nat) (ms:Array MapEntry) (c:Nat),ok b→w.heap[b]? =some (.map ms c)→ok' b) {H:List Hd} {h:Hd} {e:bn} (he:iL ok w H h e):iL ok' w H h e:=by
 cases e with
 |dead=>trivial
 |box cs=>
  obtain⟨b,vs,T,h1,h2,h3⟩:=he;exact⟨b,vs,T,h1,h2,h3.shrink hs⟩
 |arr e s es=>
  obtain⟨h1,h2,xs,h3,h5⟩:=he;exact⟨h1,h2,xs,h3,h5.shrink hs⟩
 |map es=>
  obtain⟨b,ms,clock,h1,h2,h3⟩:=he;exact⟨b,ms,clock,h1,h2,h3.len,fun i e m hi hm=>⟨(h3.ent i e m hi hm).1,(h3.ent i e m hi hm).2.1.shrink hs,(h3.ent i e m hi hm).2.2⟩,h3.inc⟩
 |dA es=>
  obtain⟨b,ms,clock,h1,h2,h3,h4⟩:=he;exact⟨b,ms,clock,h1,h2,⟨h3.len,fun i e m hi hm=>⟨(h3.ent i e m hi hm).1,(h3.ent i e m hi hm).2.1.shrink hs,(h3.ent i e m hi hm).2.2⟩,h3.inc⟩,h4⟩
 |iter es vis=>
  obtain⟨bi,bm,ms,clock,seen,h1,h2,h3,h4,h5,h6,h7⟩:=he;exact⟨bi,bm,ms,clock,seen,h1,h2,hs2 bm ms clock h3 h4,h4,⟨h5.len,fun i e m hi hm=>⟨(h5.ent i e m hi hm).1,(h5.ent i e m hi hm).2.1.shrink hs,(h5.ent i e m hi hm).2.2⟩,h5.inc⟩,h6,h7⟩
 |loop tm slots rc st pe=>
  obtain⟨l,fn,D,h1,h2,h3,h4⟩:=he;exact⟨l,fn,D,h1,h2,h3,fun t ht=>(h4 t ht).shrink hs⟩
theorem iL.drew {ok:Nat→Prop} {w:World} {H:List Hd} {h:Hd} {e:bn} {n:Nat} (he:iL ok w H h e):iL ok { w with drawn:=n } H h e:=
 iL.mono (w:=w) (ok:=ok) (fun _ hb=>⟨hb,rfl⟩) (.refl _) (fun _ _ _=>rfl) he
def bK (P:Program) (o:Oper) (ns:List (Operand×AV)) (es:List bn) (x:AV) (es':List bn):Prop:=
 ∀(C:Cx) (ok:Nat→Prop) (H:List Hd) (a:Act) (w:World) (Q:Exit→Act→World→Prop),
  Mem C ok H es w→(∀n∈ns,R ok w H n.2 (a.eval n.1))→
  o.wp P a w (fun a' w'=>∃v ok' H',a'=a.put o.dst v∧Grow ok w ok' w'∧Names H H'∧Mem C ok' H' es' w'∧R ok' w' H' x v) Q
theorem bK.pure {P:Program} {o:Oper} {ns:List (Operand×AV)} {es:List bn} {x:AV}
 (h:∀(ok:Nat→Prop) (H:List Hd) (a:Act) (w:World),(∀(k:Nat) (e:bn) (h:Hd),es[k]? =some e→H[k]? =some h→iL ok w H h e)→H.length=es.length→(∀n∈ns,R ok w H n.2 (a.eval n.1))→∃v,(execOp a.eval o).run P w=.ok (.value v) w∧R ok w H x v):bK P o ns es x es:=by
 intro C ok H a w Q hm hn;obtain⟨v,hr,hx⟩:=h ok H a w hm.ent hm.hlen hn;unfold Oper.wp;rw[hr];exact⟨v,ok,H,rfl,.refl _ _,.refl _,hm,hx⟩
structure St where
 slots:List AV
 ents:List bn
 base:Nat:=0
def St.get (σ:St):Operand→AV
 | .tmp t=>σ.slots.getD t .junk
 | .const v=>.d (.lit v)
 | .global g=>.d (.lit (.pointer (some ⟨g,0,none⟩)))
 | .func f=>.d (.fn (.func f) [] [])
def St.put (σ:St) (d:Option Tmp) (x:AV) (es:List bn):St:=
 ⟨match d with |some t=>σ.slots.set t x|none=>σ.slots,es,σ.base⟩
def St.qU (σ:St) (d:Option Tmp) (x:AV):St:=
 ⟨match d with |some t=>σ.slots.set t x|none=>σ.slots,σ.ents,σ.base⟩
theorem St.PZ (σ:St) (d:Option Tmp) (x:AV):σ.qU d x=σ.put d x σ.ents:=rfl
def Marks (C:Cx) (ok:Nat→Prop) (w:World) (ds:List Deferred):Prop:=
 ∃Ds:List Nat,ds=Ds.map (fun D=>{ target:=.collected D,args:=#[] })∧Ds.Nodup∧∀D∈Ds,ok D∧C.w0.heap.size≤D∧w.heap[D]? =some (.deferred (some []))
theorem Marks.nil (C:Cx) (ok:Nat→Prop) (w:World):Marks C ok w []:=⟨[],rfl,List.nodup_nil,fun _ h=>by cases h⟩
theorem Marks.mono {C:Cx} {ok ok':Nat→Prop} {w w':World} {ds:List Deferred} (h:Marks C ok w ds) (hg:Grow ok w ok' w'):Marks C ok' w' ds:=by
 obtain⟨Ds,h1,h2,h3⟩:=h;exact⟨Ds,h1,h2,fun D hD=>⟨(hg D (h3 D hD).1).1,(h3 D hD).2.1,((hg D (h3 D hD).1).2).trans (h3 D hD).2.2⟩⟩
structure Holds (C:Cx) (ok:Nat→Prop) (H:List Hd) (σ:St) (a:Act) (w:World):Prop where
 mem:Mem C ok H σ.ents w
 size:a.tmps.size=σ.slots.length
 defers:Marks C ok w a.defers
 base:C.H0.length=σ.base
 slot:∀t,t<σ.slots.length→R ok w H (σ.slots.getD t .junk) (a.tmps.getD t undef)
theorem Ih {l:List AV} {t:Nat} (h:¬t<l.length):l.getD t .junk=.junk:=by
 simp[List.getD,List.getElem?_eq_none (Nat.le_of_not_lt h)]
theorem Holds.get {C:Cx} {ok:Nat→Prop} {H:List Hd} {σ:St} {a:Act} {w:World} (h:Holds C ok H σ a w) (x:Operand):R ok w H (σ.get x) (a.eval x):=by
 cases x with
 |tmp t=>
  show R ok w H (σ.slots.getD t .junk) (a.tmps.getD t undef);by_cases ht:t<σ.slots.length
  ·exact h.slot t ht
  rw[Ih ht];exact .junk _
 |const v=>exact .d _ _ (.lit v)
 |global g=>exact .d _ _ (.lit _)
 |func f=>exact .d _ _ (.fn (.func f) [] [] #[] #[] rfl rfl (fun i hi=>by simp at hi) (fun i hi=>by simp at hi))
theorem Holds.put {C:Cx} {ok ok':Nat→Prop} {H H':List Hd} {σ:St} {a:Act} {w w':World} (h:Holds C ok H σ a w) (d:Option Tmp) {x:AV} {v:Value} {es':List bn}
 (hg:Grow ok w ok' w') (hn:Names H H') (hm:Mem C ok' H' es' w') (hx:R ok' w' H' x v):Holds C ok' H' (σ.put d x es') (a.put d v) w':=by
 cases d with
 |none=>exact⟨hm,h.size,h.defers.mono hg,h.base,fun t ht=>(h.slot t ht).mono hg hn⟩
 |some d=>
  refine⟨hm,by simp[St.put,Act.put,h.size],h.defers.mono hg,h.base,fun t ht=>?_⟩;simp only[St.put,List.length_set]at ht;simp only[St.put,Act.put];by_cases e:d=t
  ·subst e;have e1:(σ.slots.set d x).getD d .junk=x:=by simp[List.getD,ht]
   have e2:(a.tmps.setIfInBounds d v).getD d undef=v:=by simp[Array.getD,h.size,ht]
   rw[e1,e2];exact hx
  have e1:(σ.slots.set d x).getD t .junk=σ.slots.getD t .junk:=by simp[List.getD,List.getElem?_set_ne e]
  have e2:(a.tmps.setIfInBounds d v).getD t undef=a.tmps.getD t undef:=by simp[Array.getD_eq_getD_getElem?,Array.getElem?_setIfInBounds_ne e]
  rw[e1,e2];exact(h.slot t ht).mono hg hn
def AV.pK (π:List (Nat×Bool)):AV→AV
 | .d x=>.d x
 | .ptr k off=>match π.idxOf? (k,true)with |some j=>.ptr j off|none=>.junk
 | .aK k=>match π.idxOf? (k,true)with |some j=>.aK j|none=>.junk
 | .jV k i off=>match π.idxOf? (k,true)with |some j=>.jV j i off|none=>.junk
 | .mp k=>match π.idxOf? (k,true)with |some j=>.mp j|none=>.junk
 | .qR k=>match π.idxOf? (k,true)with |some j=>.qR j|none=>.junk
 | .clip xs=>.clip xs
 |_=>.junk
def AV.back (π:List (Nat×Bool)):AV→AV
 | .fn f first cap=>.fn f (first.map (AV.pK π)) (cap.map (AV.pK π))
 | .eH vs=>.eH (vs.map (AV.pK π))
 |x=>x.pK π
def bn.back (π:List (Nat×Bool)):bn→bn
 | .dead=>.dead
 | .box cs=>.box (cs.map (AV.pK π))
 | .arr e s es=>.arr e s es
 | .map es=>.map es
 | .dA es=>.dA es
 | .iter es vis=>.iter es vis
 | .loop tm slots rc st pe=>.loop tm (slots.map (AV.back π)) rc st pe
theorem MZ {π:List (Nat×Bool)} {H:List Hd} {k j:Nat} {h:Hd} (hj:π.idxOf? (k,true)=some j) (hk:H[k]? =some h):(π.map fun p=>H.getD p.1 ⟨undef,0⟩)[j]? =some h:=by
 rw[List.idxOf?,List.findIdx?_eq_some_iff_getElem]at hj;obtain⟨hlt,he, -⟩:=hj;have e:π[j]=(k,true):=by simpa using he
 simp[hlt,e,List.getD,hk]
theorem R.pK {ok:Nat→Prop} {w:World} {H:List Hd} (π:List (Nat×Bool)) {x:AV} {v:Value} (h:R ok w H x v):R ok w (π.map fun p=>H.getD p.1 ⟨undef,0⟩) (x.pK π) v:=by
 cases h with
 |d x v h=>exact .d x v h
 |ptr k off b s h=>
  simp only[AV.pK];split<;>rename_i j hj
  ·exact .ptr _ off b s (MZ hj h)
  exact .junk _
 |aK k ad n cap s h=>
  simp only[AV.pK];split<;>rename_i j hj
  ·exact .aK _ ad n cap s (MZ hj h)
  exact .junk _
 |jV k i off b n cap s h=>
  simp only[AV.pK];split<;>rename_i j hj
  ·exact .jV _ i off b n cap s (MZ hj h)
  exact .junk _
 |mp k v s hl h=>
  simp only[AV.pK];split<;>rename_i j hj
  ·exact .mp _ v s hl (MZ hj h)
  exact .junk _
 |clip xs ad h=>exact .clip xs ad h
 |qR k ad n cap s h=>
  simp only[AV.pK];split<;>rename_i j hj
  ·exact .qR _ ad n cap s (MZ hj h)
  exact .junk _
 |fn f first cap vs us hl hm h h'=>exact .junk _
 |eH xs vs hl h=>exact .junk _
 |ag xs vs hl hf h=>exact .junk _
 |junk v=>exact .junk _
theorem jS (f:AV→AV) (l:List AV) (i:Nat) (h:i<l.length):(l.map f).getD i .junk=f (l.getD i .junk):=by
 simp[List.getD,h]
theorem R.back {ok:Nat→Prop} {w:World} {H:List Hd} (π:List (Nat×Bool)) {x:AV} {v:Value} (h:R ok w H x v):R ok w (π.map fun p=>H.getD p.1 ⟨undef,0⟩) (x.back π) v:=by
 cases h with
 |fn f first cap vs us hl hm h h'=>
  exact .fn f _ _ vs us (by simp[hl]) (by simp[hm]) (fun i hi=>by rw[List.length_map]at hi;rw[jS _ _ _ hi];exact(h i hi).pK π) (fun i hi=>by rw[List.length_map]at hi;rw[jS _ _ _ hi];exact(h' i hi).pK π)
 |eH xs vs hl h=>exact .eH _ vs (by simp[hl]) (fun i hi=>by rw[List.length_map]at hi;rw[jS _ _ _ hi];exact(h i hi).pK π)
 |ag xs vs hl hf h=>exact .junk _
 |d x v h=>exact(R.d x v h).pK π
 |ptr k off b s h=>exact(R.ptr k off b s h).pK π
 |aK k ad n cap s h=>exact(R.aK k ad n cap s h).pK π
 |jV k i off b n cap s h=>exact(R.jV k i off b n cap s h).pK π
 |mp k v s hl h=>exact(R.mp k v s hl h).pK π
 |clip xs ad h=>exact(R.clip xs ad h).pK π
 |qR k ad n cap s h=>exact(R.qR k ad n cap s h).pK π
 |junk v=>exact .junk _
def bn.backOk (π:List (Nat×Bool)):bn→Bool
 | .box cs=>cs.all fun x=>(x.pK π).leaf
 |_=>true
def IE (base:Nat) (es:List bn) (π:List (Nat×Bool)):Bool:=
 π.all (fun p=>decide (p.1<es.length))&&decide ((π.filterMap fun p=>if p.2 then some p.1 else none).Nodup)&&((π.take base).map (·.1)==List.range base)&&π.all fun p=>(es.getD p.1 .dead).backOk π
def vI (es:List bn) (π:List (Nat×Bool)):List bn:=π.map fun p=>if p.2 then(es.getD p.1 .dead).back π else .dead
theorem ads :∀{π:List (Nat×Bool)},(π.filterMap fun p=>if p.2 then some p.1 else none).Nodup→∀(i j k:Nat),π[i]? =some (k,true)→π[j]? =some (k,true)→i=j
 | [],_,i,j,k,h,_=>by simp at h
 |p::π,hn,i,j,k,hi,hj=>by
  have hmem:∀(n:Nat),π[n]? =some (k,true)→k∈π.filterMap fun p=>if p.2 then some p.1 else none:=fun n h=>by
   rw[List.mem_filterMap];exact⟨_,List.mem_of_getElem? h,rfl⟩
  have hn2:(π.filterMap fun p=>if p.2 then some p.1 else none).Nodup:=by
   rw[List.filterMap_cons]at hn;split at hn
   ·exact hn
   exact(List.nodup_cons.1 hn).2
  match i,j with
  |0,0=>rfl
  |0,j+1=>
   simp at hi hj;subst hi;simp only[List.filterMap_cons,if_true]at hn;exact absurd (hmem j hj) (List.nodup_cons.1 hn).1
  |i+1,0=>
   simp at hi hj;subst hj;simp only[List.filterMap_cons,if_true]at hn;exact absurd (hmem i hi) (List.nodup_cons.1 hn).1
  |i+1,j+1=>rw[ads hn2 i j k (by simpa using hi) (by simpa using hj)]
theorem iL.back {ok:Nat→Prop} {w:World} {H:List Hd} {h:Hd} {e:bn} (π:List (Nat×Bool)) (hb:e.backOk π=true) (he:iL ok w H h e):iL ok w (π.map fun p=>H.getD p.1 ⟨undef,0⟩) h (e.back π):=by
 cases e with
 |dead=>trivial
 |box cs=>
  obtain⟨b,vs,T,h1,h2,h3,h4⟩:=he;refine⟨b,vs,T,h1,h2,by simpa using h3,fun i hi=>?_⟩;rw[List.length_map]at hi;rw[jS _ _ _ hi];refine⟨?_,(h4 i hi).2.pK π⟩;simp only[bn.backOk,List.all_eq_true]at hb;exact hb _ (by simp[List.getD,hi])
 |arr e s es=>
  obtain⟨h1,h2,xs,h3,h4,h5⟩:=he;refine⟨h1,h2,xs,h3,h4,fun i hi=>⟨(h5 i hi).1,?_⟩⟩;have h6:=(h5 i hi).2;have hm:(flat es).getD i .junk∈flat es:=by simp[List.getD,hi]
  unfold flat at hm ⊢;simp only[List.mem_flatMap,List.mem_map]at hm;obtain⟨x,_,y,_,hy⟩:=hm;unfold flat at h6;rw[←hy]at h6 ⊢;cases h6 with |d _ _ h=>exact .d _ _ h
 |map es=>exact he
 |dA es=>exact he
 |iter es vis=>exact he
 |loop tm slots rc st pe=>
  obtain⟨l,fn,D,h1,h2,h3,h4⟩:=he;refine⟨l,fn,D,h1,h2,by simpa using h3,fun t ht=>?_⟩;rw[List.length_map]at ht;rw[jS _ _ _ ht];exact(h4 t ht).back π
theorem ahd {π:List (Nat×Bool)} {e:bn}:(e.back π).live=e.live:=by cases e<;>rfl
theorem Mem.norm {C:Cx} {ok:Nat→Prop} {H:List Hd} {es:List bn} {w:World} (hm:Mem C ok H es w) (π:List (Nat×Bool)) (hok:IE C.H0.length es π=true):
 Mem C ok (π.map fun p=>H.getD p.1 ⟨undef,0⟩) (vI es π) w:=by
 unfold IE at hok;simp only[Bool.and_eq_true,decide_eq_true_eq,beq_iff_eq,List.all_eq_true]at hok;obtain⟨⟨⟨hlt,hnd⟩,hpre⟩,hbk⟩:=hok
 have hget:∀(j:Nat) (h:Hd),(π.map fun p=>H.getD p.1 ⟨undef,0⟩)[j]? =some h→∃p,π[j]? =some p∧p.1<es.length∧H[p.1]? =some h:=by
  intro j h hj;rw[List.getElem?_map]at hj;cases hp:π[j]? with
  |none=>rw[hp]at hj;simp at hj
  |some p=>
   rw[hp]at hj;have hk:p.1<es.length:=hlt p (List.mem_of_getElem? hp);refine⟨p,rfl,hk,?_⟩;have hkH:p.1<H.length:=by rw[hm.hlen];exact hk
   simp[List.getD,hkH]at hj ⊢;exact hj
 have hent:∀(j:Nat) (p:Nat×Bool) (e:bn),(vI es π)[j]? =some e→π[j]? =some p→p.1<es.length→(p.2=false∧e=.dead)∨(p.2=true∧∃e0,es[p.1]? =some e0∧e=e0.back π∧p∈π):=by
  intro j p e hj hp hk;unfold vI at hj;rw[List.getElem?_map,hp]at hj;cases hb:p.2 with
  |false=>simp[hb]at hj;exact .inl ⟨rfl,hj.symm⟩
  |true=>
   simp[hb,List.getD,hk]at hj;exact .inr ⟨rfl,es[p.1],by simp[hk],hj.symm,List.mem_of_getElem? hp⟩
 refine⟨hm.fr,hm.rP,hm.rQ,hm.jH,?_,by simp[vI],?_,?_,?_⟩
 ·intro k v hv;have hk:k<C.H0.length:=(List.getElem?_eq_some_iff.1 hv).1;have h1:((π.take C.H0.length).map (·.1))[k]? =some k:=by rw[hpre];simp[hk]
  rw[List.getElem?_map,List.getElem?_take_of_lt hk]at h1;have h2:=hm.names k v hv;cases hp:π[k]? with
  |none=>rw[hp]at h1;simp at h1
  |some p=>
   rw[hp]at h1;have hpk:p.1=k:=by simpa using h1
   rw[List.getElem?_map,hp];simp[List.getD,hpk,h2]
 ·intro j e h hj hh;obtain⟨p,hp,hk,hH⟩:=hget j h hh;rcases hent j p e hj hp hk with⟨_,rfl⟩|⟨_,e0,he0,rfl,hmem⟩
  ·trivial
  refine(hm.ent p.1 e0 h he0 hH).back π ?_;have:=hbk p hmem;simpa[List.getD,he0]using this
 ·intro j e h b hj hl hh hb;obtain⟨p,hp,hk,hH⟩:=hget j h hh;rcases hent j p e hj hp hk with⟨_,rfl⟩|⟨_,e0,he0,rfl,hmem⟩
  ·cases hl
  rw[ahd]at hl;exact hm.blk p.1 e0 h b he0 hl hH hb
 intro j j' e e' h h' b hj hj' hl hl' hh hh' hb hb';obtain⟨p,hp,hk,hH⟩:=hget j h hh;obtain⟨p',hp',hk',hH'⟩:=hget j' h' hh';rcases hent j p e hj hp hk with⟨_,rfl⟩|⟨hpt,e0,he0,rfl,hmem⟩
 ·cases hl
 rcases hent j' p' e' hj' hp' hk' with⟨_,rfl⟩|⟨atU,e0',axq,rfl,hmem'⟩
 ·cases hl'
 rw[ahd]at hl hl';have hkk:=hm.yQ p.1 p'.1 e0 e0' h h' b he0 axq hl hl' hH hH' hb hb';obtain⟨k,bb⟩:=p;obtain⟨k',bb'⟩:=p';simp only at hkk hpt atU;subst hkk;subst hpt;subst atU;exact ads hnd j j' k hp hp'
def kK (π:List (Nat×Bool)):List Bool→List AV→List AV
 |_,[]=>[]
 |true::m,x::xs=>x.back π::kK π m xs
 |false::m,_::xs=>.junk::kK π m xs
 | [],_::xs=>.junk::kK π [] xs
theorem zY (π:List (Nat×Bool)):∀(m:List Bool) (l:List AV),(kK π m l).length=l.length
 |_,[]=>by unfold kK;rfl
 |true::m,x::xs=>by simp[kK,zY π m xs]
 |false::m,x::xs=>by simp[kK,zY π m xs]
 | [],x::xs=>by simp[kK,zY π [] xs]
theorem G5 (π:List (Nat×Bool)):∀(m:List Bool) (l:List AV) (t:Nat),(kK π m l).getD t .junk=(l.getD t .junk).back π∨(kK π m l).getD t .junk=.junk
 |_,[],t=>by unfold kK;right;simp
 |true::m,x::xs,0=>by left;simp[kK]
 |false::m,x::xs,0=>by right;simp[kK]
 | [],x::xs,0=>by right;simp[kK]
 |true::m,x::xs,t+1=>by simpa[kK]using G5 π m xs t
 |false::m,x::xs,t+1=>by simpa[kK]using G5 π m xs t
 | [],x::xs,t+1=>by simpa[kK]using G5 π [] xs t
def amb (σ S:St):Prop:=∃(m:List Bool) (π:List (Nat×Bool)),IE σ.base σ.ents π=true∧S=⟨kK π m σ.slots,vI σ.ents π,σ.base⟩
theorem Holds.axr {C:Cx} {ok:Nat→Prop} {H:List Hd} {σ S:St} {a:Act} {w:World} (h:Holds C ok H σ a w) (hs:amb σ S):∃H',Holds C ok H' S a w:=by
 obtain⟨m,π,hok,rfl⟩:=hs;refine⟨π.map fun p=>H.getD p.1 ⟨undef,0⟩,h.mem.norm π (h.base▸hok),by simp[zY,h.size],h.defers,h.base,fun t ht=>?_⟩;rcases G5 π m σ.slots t with e|e
 ·simp only[e];exact(h.get (.tmp t)).back π
 simp only[e];exact .junk _
def Sub (σ S:St):Prop:=∀(C:Cx) (ok:Nat→Prop) (H:List Hd) (a:Act) (w:World),Holds C ok H σ a w→∃ok' H',Holds C ok' H' S a w
theorem amb.sub {σ S:St} (h:amb σ S):Sub σ S:=fun _ ok _ _ _ hh=>let⟨H',h'⟩:=hh.axr h;⟨ok,H',h'⟩
theorem apL {σ S:St} (σ2:St) (h:∀C ok H a w,Holds C ok H σ a w→∃ok',Holds C ok' H σ2 a w) (k:Sub σ2 S):Sub σ S:=fun C _ H a w hh=>let⟨ok',h'⟩:=h C _ H a w hh;k C ok' H a w h'
end Go.Proofs.YtolgdkhlelfpoaaGreat
end
section
namespace Go.Proofs.YtolgdkhlelfpoaaGreat
open Go.RowKit
section
variable {P : Program} {ops : Array Oper} {Q : Exit → Act → World → Prop}
def toCome (listed:Array Bool):Nat:=(listed.toList.filter (!·)).length
theorem toCome_set {listed:Array Bool} {i:Nat} (hi:i<listed.size) (h:listed.getD i true=false):toCome (listed.setIfInBounds i true)+1=toCome listed:=by
 unfold toCome;have hl:listed.toList[i]'(by simpa using hi)=false:=by simpa[Array.getD,hi]using h
 have e:listed.toList=listed.toList.take i++false::listed.toList.drop (i+1):=by
  rw[←hl,List.getElem_cons_drop,List.take_append_drop]
 have e2:(listed.setIfInBounds i true).toList=listed.toList.take i++true::listed.toList.drop (i+1):=by
  rw[Array.toList_setIfInBounds,List.set_eq_take_append_cons_drop,if_pos (by simpa using hi)]
 rw[e2]
 conv=>rhs;rw[e]
 simp[List.filter_append];omega
def written (ops:Array Oper):List Tmp:=ops.toList.filterMap (·.dst)
def IG (ops:Array Oper):Bool:=(List.range ops.size).all fun i=>(List.range ops.size).all fun j=>i==j||match(ops[i]?).bind (·.dst),(ops[j]?).bind (·.dst)with
 |some d,some d'=>d != d'
 |_,_=>true
def BR (ops:Array Oper) (n:Nat):Bool:=(written ops).all fun d=>decide (d<n)
theorem Ux (h:IG ops=true):∀(i j:Nat) (o o':Oper) (d:Tmp),ops[i]? =some o→ops[j]? =some o'→o.dst=some d→o'.dst=some d→i=j:=by
 intro i j o o' d h1 h2 h3 h4;unfold IG at h;rw[List.all_eq_true]at h;have hi:i<ops.size:=(Array.getElem?_eq_some_iff.1 h1).1;have hj:j<ops.size:=(Array.getElem?_eq_some_iff.1 h2).1;have:=h i (by simpa using hi);rw[List.all_eq_true]at this;have:=this j (by simpa using hj);rw[h1,h2]at this;simp[h3,h4]at this;exact this
theorem Uy {i:Nat} {o:Oper} {d:Tmp} (h:ops[i]? =some o) (hd:o.dst=some d):d∈written ops:=by
 unfold written;rw[List.mem_filterMap]
 exact⟨o,by
  have⟨hi,he⟩:=Array.getElem?_eq_some_iff.1 h
  rw[←he];exact Array.getElem_mem_toList hi,hd⟩
theorem NK {a:Act} {d:Tmp} {v:Value} (h:d<a.tmps.size):(a.put (some d) v).tmps.getD d undef=v:=by
 simp[Act.put,Array.getD,h]
theorem KI {a:Act} {d t:Tmp} {v:Value} (h:d≠t):(a.put (some d) v).tmps.getD t undef=a.tmps.getD t undef:=by
 simp[Act.put,Array.getD_eq_getD_getElem?,Array.getElem?_setIfInBounds_ne h]
theorem size_put {a:Act} {d:Option Tmp} {v:Value}:(a.put d v).tmps.size=a.tmps.size:=by cases d<;>simp[Act.put]
theorem WJ {a:Act} {d:Option Tmp} {v:Value}:(a.put d v).defers=a.defers:=by cases d<;>rfl
end
end Go.Proofs.YtolgdkhlelfpoaaGreat
end
section
namespace Go.Proofs.YtolgdkhlelfpoaaGreat
open Go.RowKit
def zZ (ops:Array Oper) (σ:St) (g:Option (Nat×Bool)):Prop:=g=none∨
 ∃j want d b,g=some (j,want)∧(ops[j]?).bind (·.dst)=some d∧σ.slots.getD d .junk=.d (.lit (.bool b))∧b=want
def Ii (ops:Array Oper) (σ:St) (g:Option (Nat×Bool)):Prop:=
 ∃j want d v,g=some (j,want)∧(ops[j]?).bind (·.dst)=some d∧σ.slots.getD d .junk=.d (.lit v)∧(v=.bool (!want)∨v=undef)
theorem amc {ops:Array Oper} {σ:St} {g:Option (Nat×Bool)} (j:Nat) (want:Bool) (d:Nat) (b:Bool) (hg:g=some (j,want)) (hd:(ops[j]?).bind (·.dst)=some d) (hs:σ.slots.getD d .junk=.d (.lit (.bool b))) (hb:b= !want):Ii ops σ g:=⟨j,want,d,_,hg,hd,hs,.inl (by rw[hb])⟩
theorem ahI {ops:Array Oper} {σ:St} {g:Option (Nat×Bool)} (j:Nat) (want:Bool) (d:Nat) (hg:g=some (j,want)) (hd:(ops[j]?).bind (·.dst)=some d) (hs:σ.slots.getD d .junk=.d (.lit undef)):Ii ops σ g:=⟨j,want,d,_,hg,hd,hs,.inr rfl⟩
theorem R.bool {ok:Nat→Prop} {w:World} {H:List Hd} {u v:Value} (h:R ok w H (.d (.lit u)) v):v=u:=by
 cases h with |d _ _ h=>cases h;rfl
theorem akA {C:Cx} {ok:Nat→Prop} {H:List Hd} {σ:St} {a:Act} {w:World} (h:Holds C ok H σ a w) {ops:Array Oper} {j d:Nat} {v:Value}
 (hj:(ops[j]?).bind (·.dst)=some d) (hb:σ.slots.getD d .junk=.d (.lit v)):yielded ops a.tmps j=(match v with | .bool b=>some b|_=>none):=by
 have hd:d<σ.slots.length:=by
  apply Classical.byContradiction;intro hn;rw[Ih hn]at hb;cases hb
 have hv:=(hb▸h.slot d hd).bool
 have hs:a.tmps[d]? =some v:=by
  have :d<a.tmps.size:=by rw[h.size];exact hd
  simp[Array.getD,this]at hv;simp[this,hv]
 unfold yielded;rw[hj];simp only[Option.bind_some,hs];cases v<;>rfl
theorem amd {C:Cx} {ok:Nat→Prop} {H:List Hd} {σ:St} {a:Act} {w:World} (h:Holds C ok H σ a w) {ops:Array Oper} {j d:Nat} {b:Bool}
 (hj:(ops[j]?).bind (·.dst)=some d) (hb:σ.slots.getD d .junk=.d (.lit (.bool b))):yielded ops a.tmps j=some b:=by
 have hd:d<σ.slots.length:=by
  apply Classical.byContradiction;intro hn;rw[Ih hn]at hb;cases hb
 have hv:=(hb▸h.slot d hd).bool
 have hs:a.tmps[d]? =some (.bool b):=by
  have :d<a.tmps.size:=by rw[h.size];exact hd
  simp[Array.getD,this]at hv;simp[this,hv]
 unfold yielded;rw[hj];simp only[Option.bind_some,hs]
theorem lZ {C:Cx} {ok:Nat→Prop} {H:List Hd} {σ:St} {a:Act} {w:World} (h:Holds C ok H σ a w) {ops:Array Oper} {o:Oper} (hg:zZ ops σ o.guard):Region.wanted o (yielded ops a.tmps)=true:=by
 unfold Region.wanted;rcases hg with hg|⟨j,want,d,b,hg,hj,hb,rfl⟩
 ·rw[hg]
 rw[hg];show(yielded ops a.tmps j==some b)=true;rw[amd h hj hb];simp
theorem zW {C:Cx} {ok:Nat→Prop} {H:List Hd} {σ:St} {a:Act} {w:World} (h:Holds C ok H σ a w) {ops:Array Oper} {o:Oper} (hg:Ii ops σ o.guard):Region.wanted o (yielded ops a.tmps)=false:=by
 unfold Region.wanted;obtain⟨j,want,d,v,hg,hj,hb,hv⟩:=hg;rw[hg];show(yielded ops a.tmps j==some want)=false;rw[akA h hj hb];rcases hv with rfl|rfl
 ·simp
 rfl
def needs (σ:St):List (Operand×AV)→Prop
 | []=>True
 |n::ns=>σ.get n.1=n.2∧needs σ ns
theorem nX {σ:St}:∀{ns:List (Operand×AV)},needs σ ns→∀n∈ns,σ.get n.1=n.2
 | [],_,n,h=>by simp at h
 |m::ns,hn,n,h=>by
  rcases List.mem_cons.1 h with rfl|h
  ·exact hn.1
  exact nX hn.2 n h
def tmpsOf (o:Oper):List Tmp:=o.op.operands.toList.filterMap fun | .tmp t=>some t|_=>none
def mZ (ns:List (Operand×AV)):List Tmp:=ns.filterMap fun n=>match n.1 with | .tmp t=>some t|_=>none
def tK (P:Program) (ops:Array Oper) (σ:St) (x:AV) (E:List bn) (bar:Bool) (o:Oper):Prop:=
 ((∃ns,bK P o ns σ.ents x E∧needs σ ns∧(mZ ns).all (tmpsOf o).contains=true∧zZ ops σ o.guard)∨(x=.d (.lit undef)∧E=σ.ents∧Ii ops σ o.guard))∧(bar=false→E=σ.ents)
theorem aiE {P:Program} {ops:Array Oper} {σ:St} {x:AV} {o:Oper} {ns:List (Operand×AV)} (h:bK P o ns σ.ents x σ.ents) (hn:needs σ ns) (hg:zZ ops σ o.guard) (ht:(mZ ns).all (tmpsOf o).contains=true):tK P ops σ x σ.ents false o:=
 ⟨.inl ⟨ns,h,hn,ht,hg⟩,fun _=>rfl⟩
def FW (ro:Option Nat):Fence:={ fn:=fun _=>True,depth:=none,alive:=false,round:=ro }
theorem WL {ro:Option Nat} {n:Nat} {P:Program} {f:FuncId} {args:Array Value} {w:World} {R:Ending→World→Prop}:CallsIn (FW ro) n P f args w R↔Calls P f args w R:=
 callsIn_wide (n:=n)
theorem asj {ro:Option Nat} {n:Nat} {P:Program} {row:String} {args:Array Value} {w:World} {R:Value→World→Prop} (h:Rows P row args w R):RowsIn (FW ro) n P row args w R:=
 fun c cs _=>let⟨v,w',r,s⟩:=h c cs;⟨v,w',r,(stepsIn_wide (P:=P)).2 s⟩
theorem bK.asl {P:Program} {o:Oper} {ns:List (Operand×AV)} {es es':List bn} {x:AV} (h:bK P o ns es x es') {C:Cx} {ok:Nat→Prop} {H:List Hd} {a:Act} {w:World} (hm:Mem C ok H es w) (hn:∀n∈ns,R ok w H n.2 (a.eval n.1)):∀c,o.op≠ .defer c:=by
 intro c hc;have h0:=h C ok H a w (fun _ _ _=>False) hm hn;unfold Oper.wp execOp at h0;rw[hc]at h0;simp only[Sem.run_bind]at h0;cases hr:(resolve a.eval c o.type).run P w with
 |ok d w'=>
  rw[hr]at h0;simp only[Result.andThen]at h0;obtain⟨v,_,_,he,_⟩:=h0;have:=congrArg (fun a=>a.defers.length) he;cases ho:o.dst<;>simp[Act.put,ho]at this
 |halt x w'=>
  rw[hr]at h0;cases x<;>exact h0
theorem bK.Vo {P:Program} {o:Oper} {ns:List (Operand×AV)} {es es':List bn} {x:AV} (h:bK P o ns es x es') (ro:Option Nat) (C:Cx) (ok:Nat→Prop) (H:List Hd) (a:Act) (w:World) (Q:Exit→Act→World→Prop)
 (hm:Mem C ok H es w) (hn:∀n∈ns,R ok w H n.2 (a.eval n.1)):
 o.wpIn (FW ro) 0 P a w (fun a' w'=>∃v ok' H',a'=a.put o.dst v∧Grow ok w ok' w'∧Names H H'∧Mem C ok' H' es' w'∧R ok' w' H' x v) Q:=by
 have h1:=h C ok H a w Q hm hn;refine⟨fun _ _=>trivial,?_⟩;rw[Oper.semAt_eq _ _ _ (h.asl hm hn)];unfold Oper.wp at h1;generalize(execOp a.eval o).run P w=r at h1;cases r with
 |ok n w'=>
  cases n<;>first
   |exact h1
   |exact h1.elim
   |exact⟨fun h=>(by cases h),WL.2 h1⟩
   |exact⟨fun h=>(by cases h),asj h1⟩
 |halt x w'=>cases x<;>exact h1
inductive Chain (P:Program) (ops:Array Oper):List Oper→St→St→Prop
 |nil (σ:St):Chain P ops [] σ σ
 |op {o:Oper} {rest:List Oper} {σ σ':St} {ns:List (Operand×AV)} {x:AV} (d:Option Tmp) (h:bK P o ns σ.ents x σ.ents) (hn:needs σ ns) (hg:zZ ops σ o.guard) (hd:o.dst=d)
  (k:Chain P ops rest (σ.qU d x) σ'):Chain P ops (o::rest) σ σ'
 |oe {o:Oper} {rest:List Oper} {σ σ':St} {ns:List (Operand×AV)} {x:AV} {es':List bn} (d:Option Tmp) (E:List bn) (h:bK P o ns σ.ents x es') (he:es'=E) (hn:needs σ ns) (hg:zZ ops σ o.guard) (hd:o.dst=d)
  (k:Chain P ops rest (σ.put d x E) σ'):Chain P ops (o::rest) σ σ'
 |skip {o:Oper} {rest:List Oper} {σ σ':St} (d:Option Tmp) (hg:Ii ops σ o.guard) (hd:o.dst=d) (k:Chain P ops rest (σ.qU d (.d (.lit undef))) σ'):Chain P ops (o::rest) σ σ'
 |any {o:Oper} {rest:List Oper} {σ σ':St} {x:AV} (d:Option Tmp) (h:tK P ops σ x σ.ents false o) (hd:o.dst=d) (k:Chain P ops rest (σ.qU d x) σ'):Chain P ops (o::rest) σ σ'
 |WM {o:Oper} {rest:List Oper} {σ σ':St} {x:AV} {E:List bn} {bar:Bool} (d:Option Tmp) (h:tK P ops σ x E bar o) (hd:o.dst=d) (k:Chain P ops rest (σ.put d x E) σ'):Chain P ops (o::rest) σ σ'
 |conv {rest:List Oper} {σ σ':St} (σ2:St) (h:∀C ok H a w,Holds C ok H σ a w→∃ok',Holds C ok' H σ2 a w) (k:Chain P ops rest σ2 σ'):Chain P ops rest σ σ'
theorem Chain.sound {P:Program} {ops:Array Oper} {l:List Oper} {σ σ':St} (h:Chain P ops l σ σ') {ro:Option Nat} {C:Cx} {H0:List Hd} {Q:Exit→Act→World→Prop}:
 ∀{ok:Nat→Prop} {H:List Hd} {a:Act} {w:World},Holds C ok H σ a w→Names H0 H→(∀ok' H' a' w',Holds C ok' H' σ' a' w'→Names H0 H'→Q .normal a' w')→wpListIn (FW ro) 0 P ops Q l a w:=by
 induction h with
 |nil σ=>intro ok H a w hh hn hQ;exact hQ ok H a w hh hn
 | @op o rest σ σ' ns x d ho hn hg hd k ih=>
   intro ok H a w hh hnm hQ;subst hd;unfold wpListIn;rw[if_pos (lZ hh hg)];refine Oper.wpIn_mono ?_ (ho.Vo ro C ok H a w Q hh.mem (fun n hn'=>nX hn n hn'▸hh.get n.1));rintro a' w' ⟨v,ok',H',rfl,hgr,hnn,hm,hx⟩;exact ih (hh.put o.dst hgr hnn hm hx) (hnm.trans hnn) hQ
 | @oe o rest σ σ' ns x es' d E ho he hn hg hd k ih=>
   intro ok H a w hh hnm hQ;subst hd;subst he;unfold wpListIn;rw[if_pos (lZ hh hg)];refine Oper.wpIn_mono ?_ (ho.Vo ro C ok H a w Q hh.mem (fun n hn'=>nX hn n hn'▸hh.get n.1));rintro a' w' ⟨v,ok',H',rfl,hgr,hnn,hm,hx⟩;exact ih (hh.put o.dst hgr hnn hm hx) (hnm.trans hnn) hQ
 | @skip o rest σ σ' d hg hd k ih=>
   intro ok H a w hh hnm hQ;subst hd;unfold wpListIn;rw[if_neg (by rw[zW hh hg];simp)];exact⟨fun _ _=>trivial,ih (hh.put o.dst (.refl _ _) (.refl _) hh.mem (.d _ _ (.lit _))) hnm hQ⟩
 | @any o rest σ σ' x d hs hd k ih=>
   intro ok H a w hh hnm hQ;subst hd;unfold wpListIn;rcases hs.1 with⟨ns,ho,hn,_,hg⟩|⟨rfl,_,hg⟩
   ·rw[if_pos (lZ hh hg)];refine Oper.wpIn_mono ?_ (ho.Vo ro C ok H a w Q hh.mem (fun n hn'=>nX hn n hn'▸hh.get n.1));rintro a' w' ⟨v,ok',H',rfl,hgr,hnn,hm,hx⟩;exact ih (hh.put o.dst hgr hnn hm hx) (hnm.trans hnn) hQ
   rw[if_neg (by rw[zW hh hg];simp)];exact⟨fun _ _=>trivial,ih (hh.put o.dst (.refl _ _) (.refl _) hh.mem (.d _ _ (.lit _))) hnm hQ⟩
 | @WM o rest σ σ' x E bar d hs hd k ih=>
   intro ok H a w hh hnm hQ;subst hd;unfold wpListIn;rcases hs.1 with⟨ns,ho,hn,_,hg⟩|⟨rfl,rfl,hg⟩
   ·rw[if_pos (lZ hh hg)];refine Oper.wpIn_mono ?_ (ho.Vo ro C ok H a w Q hh.mem (fun n hn'=>nX hn n hn'▸hh.get n.1));rintro a' w' ⟨v,ok',H',rfl,hgr,hnn,hm,hx⟩;exact ih (hh.put o.dst hgr hnn hm hx) (hnm.trans hnn) hQ
   rw[if_neg (by rw[zW hh hg];simp)];exact⟨fun _ _=>trivial,ih (hh.put o.dst (.refl _ _) (.refl _) hh.mem (.d _ _ (.lit _))) hnm hQ⟩
 |conv σ2 hc k ih=>
  intro ok H a w hh hnm hQ;obtain⟨ok',hh'⟩:=hc C ok H a w hh;exact ih hh' hnm hQ
def CV :Code→Bool
 | .seq a b=>CV a&&CV b
 | .cond _ a b=>CV a&&CV b
 | .block _ a=>CV a
 | .loop a=>CV a
 | .scope a=>CV a
 | .rangeFunc ..=>false
 |_=>true
def Fl (ro:Option Nat) (c:Code):Prop:=ro=none∨CV c=true
theorem Fl.two {ro:Option Nat} {c x y:Code} (h:Fl ro c) (e:CV c=(CV x&&CV y)):Fl ro x∧Fl ro y:=by
 rcases h with h|h
 ·exact⟨.inl h,.inl h⟩
 rw[e,Bool.and_eq_true]at h;exact⟨.inr h.1,.inr h.2⟩
def SPr (P:Program) (c:Code) (σ:St) (Q:Exit→St→Prop):Prop:=
 ∀(ro:Option Nat),Fl ro c→∀(C:Cx) (ok:Nat→Prop) (H:List Hd) (a:Act) (w:World),Holds C ok H σ a w→c.wpIn (FW ro) 0 P (fun e a' w'=>∃ok' H' σ',Holds C ok' H' σ' a' w'∧Q e σ') a w
structure SP (P:Program) (c:Code) (σ:St) (Q:Exit→St→Prop):Prop where
 run:SPr P c σ Q
section
variable {P : Program} {σ σ' : St} {Q : Exit → St → Prop}
theorem SP.mono {c:Code} {Q':Exit→St→Prop} (h:SP P c σ Q) (hq:∀e σ,Q e σ→Q' e σ):SP P c σ Q':=
 ⟨fun ro hr C ok H a w hh=>wpIn_mono (h.run ro hr C ok H a w hh) fun _ _ _ ⟨ok',H',σ',h1,h2⟩=>⟨ok',H',σ',h1,hq _ _ h2⟩⟩
theorem SP.region {id:Nat} {ops:Array Oper} (h:Chain P ops ops.toList σ σ') (hQ:Q .normal σ'):SP P (.region id ops false) σ Q:=⟨fun ro _ C ok H a w hh=>
 wpIn_region_list (h.sound hh (.refl H) fun ok' H' a' w' h1 _=>⟨ok',H',σ',h1,hQ⟩)⟩
theorem SP.skip (h:Q .normal σ):SP P .skip σ Q:=⟨fun _ _ _ ok H a w hh=>wpIn_skip ⟨ok,H,σ,hh,h⟩⟩
theorem SP.label {l:Nat} (h:Q .normal σ):SP P (.label l) σ Q:=⟨fun _ _ _ ok H a w hh=>wpIn_label ⟨ok,H,σ,hh,h⟩⟩
theorem SP.exit {i:Nat} (h:Q (.exit i) σ):SP P (.exit i) σ Q:=⟨fun _ _ _ ok H a w hh=>wpIn_exit ⟨ok,H,σ,hh,h⟩⟩
theorem SP.ret (h:Q .ret σ):SP P .ret σ Q:=⟨fun _ _ _ ok H a w hh=>wpIn_ret ⟨ok,H,σ,hh,h⟩⟩
def Cm (K:St→Prop) (Q:Exit→St→Prop):Exit→St→Prop
 | .normal,σ=>K σ
 |e,σ=>Q e σ
theorem SP.seq {x y:Code} (K:St→Prop) (hx:SP P x σ (Cm K Q)) (hy:∀σ',K σ'→SP P y σ' Q):SP P (.seq x y) σ Q:=⟨fun ro hr C ok H a w hh=>
 wpIn_seq (wpIn_mono (hx.run ro (hr.two rfl).1 C ok H a w hh) (by
  rintro e a' w' ⟨ok',H',σ',h1,h2⟩;cases e with
  |normal=>exact(hy σ' h2).run ro (hr.two rfl).2 C ok' H' a' w' h1
  |_=>exact⟨ok',H',σ',h1,h2⟩))⟩
theorem SP.seq1 {x y:Code} (σ1:St) (hx:SP P x σ (Cm (fun σ'=>σ'=σ1) Q)) (hy:SP P y σ1 Q):SP P (.seq x y) σ Q:=SP.seq _ hx (fun _ e=>e▸hy)
theorem SP.cond {c:Operand} {x y:Code} (b:Bool) (hc:σ.get c=.d (.lit (.bool b))) (ht:b=true→SP P x σ Q) (hf:b=false→SP P y σ Q):SP P (.cond c x y) σ Q:=by
 refine⟨fun ro hr C ok H a w hh=>?_⟩;have e:=(hc▸hh.get c).bool;exact wpIn_cond_split e (fun h=>(ht h).run ro (hr.two rfl).1 C ok H a w hh) (fun h=>(hf h).run ro (hr.two rfl).2 C ok H a w hh)
def anN (i:Nat) (Q:Exit→St→Prop):Exit→St→Prop
 | .exit j,σ=>if j=i then Q .normal σ else Q (.exit j) σ
 |e,σ=>Q e σ
theorem SP.block {i:Nat} {c:Code} (h:SP P c σ (anN i Q)):SP P (.block i c) σ Q:=⟨fun ro hr C ok H a w hh=>
 wpIn_block (wpIn_mono (h.run ro hr C ok H a w hh) (by
  rintro e a' w' ⟨ok',H',σ',h1,h2⟩;cases e with
  |exit j=>
   show if j=i then _ else _
   simp only[anN]at h2;split<;>rename_i hj
   ·rw[if_pos hj]at h2;exact⟨ok',H',σ',h1,h2⟩
   rw[if_neg hj]at h2;exact⟨ok',H',σ',h1,h2⟩
  |_=>exact⟨ok',H',σ',h1,h2⟩))⟩
theorem aiF {ro:Option Nat} {P:Program} {Q:Exit→Act→World→Prop} {c:Code} (I:Nat→Act→World→Prop)
 (round:∀n a w,I n a w→c.wpIn (FW ro) 0 P (Exit.then (fun a' w'=>∃m,m<n∧I m a' w') Q) a w):∀n a w,I n a w→(Code.loop c).wpIn (FW ro) 0 P Q a w:=by
 intro n a w h₀ b k cs hro hb hr
 have key:∀n a w,I n a w→∃e a' w',Q e a' w'∧ArrivesIn (Machine.fenced P (FW ro)) P (lone (b.atR a (.code c::.inLoop c::k)) cs w) b k cs e a' w':=by
  intro n
  induction n using Nat.strongRecOn with
  |_ n ih=>
   intro a w hI;obtain⟨e,a₁,w₁,hq,harr⟩:=round n a w hI b (.inLoop c::k) cs hro hb hr;cases e with
   |normal=>
    obtain⟨m,hlt,hI₁⟩:=hq;obtain⟨e₂,a₂,w₂,hq₂,harr₂⟩:=ih m hlt a₁ w₁ hI₁;exact⟨e₂,a₂,w₂,hq₂,.of_steps (StepsIn.trans harr (.one (fenced_calm hb hr rfl) stepR_inLoop)) harr₂⟩
   |exit id=>exact⟨_,a₁,w₁,hq,.pass (x:=.inLoop c) rfl (fun _ _=>.inl (by simp)) harr⟩
   |goto l=>exact⟨_,a₁,w₁,hq,.pass (x:=.inLoop c) rfl (fun _ _=>.inl (by simp)) harr⟩
   |ret=>exact⟨_,a₁,w₁,hq,.pass (x:=.inLoop c) rfl (fun _ _=>.inl (by simp)) harr⟩
   |panic ch=>exact⟨_,a₁,w₁,hq,.pass (x:=.inLoop c) rfl (fun _ _=>.inl (by simp)) harr⟩
   |outgrown=>exact⟨_,a₁,w₁,hq,.pass (x:=.inLoop c) rfl (fun _ _=>.inl (by simp)) harr⟩
 obtain⟨e,a',w',hq,harr⟩:=key n a w h₀;exact⟨e,a',w',hq,.of_steps (.one (fenced_calm hb hr rfl) stepR_loop) harr⟩
theorem SP.loop {c:Code} (I:Nat→St→Prop) (n:Nat) (h:I n σ) (round:∀n σ,I n σ→SP P c σ (Cm (fun σ'=>∃m,m<n∧I m σ') Q)):SP P (.loop c) σ Q:=by
 refine⟨fun ro hr C ok H a w hh=>?_⟩;refine aiF (fun n a w=>∃ok H σ,Holds C ok H σ a w∧I n σ) ?_ n a w ⟨ok,H,σ,hh,h⟩;rintro n a w ⟨ok,H,σ,hh,hI⟩;refine wpIn_mono ((round n σ hI).run ro hr C ok H a w hh) ?_;rintro e a' w' ⟨ok',H',σ',h1,h2⟩;cases e with
 |normal=>obtain⟨m,hm,hI'⟩:=h2;exact⟨m,hm,ok',H',σ',h1,hI'⟩
 |_=>exact⟨ok',H',σ',h1,h2⟩
end
theorem SP.sub {P:Program} {σ S:St} {Q:Exit→St→Prop} {c:Code} (hs:Sub σ S) (h:SP P c S Q):SP P c σ Q:=⟨fun ro hr C ok H a w hh=>by
 obtain⟨ok',H',h'⟩:=hs C ok H a w hh
 exact h.run ro hr C ok' H' a w h'⟩
section
variable {P : Program} {ops : Array Oper} {Q : Exit → Act → World → Prop}
theorem ED {F:Fence} {n:Nat} (I:Array Bool→Act→World→Prop) (hsize:∀l a w,I l a w→l.size=ops.size)
 (hstep:∀l a w,I l a w→∀i,i∈Region.ready .any ops l→wpOpIn F n P ops Q i (fun a' w'=>I (l.setIfInBounds i true) a' w') a w)
 (hend:∀l a w,I l a w→Region.ready .any ops l=[]→Q .normal a w):
 ∀(fuel:Nat) l a w,toCome l≤fuel→I l a w→wpAnyIn F n P .any ops Q fuel l a w:=by
 intro fuel
 induction fuel with
 |zero=>
  intro l a w hc hI
  have hr:Region.ready .any ops l=[]:=by
   unfold Region.ready;rw[List.filter_eq_nil_iff];intro i hi;have hi':i<l.size:=by rw[hsize l a w hI];simpa using hi
   have hz:l.toList.filter (!·)=[]:=List.eq_nil_of_length_eq_zero (by unfold toCome at hc;omega);rw[List.filter_eq_nil_iff]at hz;have:=hz (l[i]) (by simp);have hli:l[i]=true:=by simpa using this
   simp[Array.getD,hi',hli]
  exact⟨hr,hend l a w hI hr⟩
 |succ fuel ih=>
  intro l a w hc hI;refine⟨hend l a w hI,fun i hi=>?_⟩;have hi2:=hi;unfold Region.ready at hi2;rw[List.mem_filter]at hi2;have hi':i<l.size:=by rw[hsize l a w hI];simpa using hi2.1
  have hf:l.getD i true=false:=by
   have:=hi2.2;simp only[Bool.and_eq_true,Bool.not_eq_true']at this;exact this.1
  have hs:=toCome_set hi' hf;exact wpOpIn_mono (fun a' w' h=>ih _ a' w' (by omega) h) (hstep l a w hI i hi)
end
def jv (o:Oper) (j:Nat):Bool:=o.after.toList.any fun e=>decide (e.on=j)&&Region.binds .any e
def II (ops:Array Oper):Bool:=(List.range ops.size).all fun i=>match ops[i]? with
 |some o=>((List.range ops.size).all fun j=>match(ops[j]?).bind (·.dst)with
  |some d=>!(tmpsOf o).contains d||jv o j||(match ops[j]? with |some o'=>jv o' i|none=>false)
  |none=>true)&&(match o.guard with |some (j,_)=>jv o j|none=>true)
 |none=>true
inductive iK (P:Program) (ops:Array Oper):List Oper→St→List AV→List (List bn)→List Bool→St→Prop
 |nil (σ:St):iK P ops [] σ [] [] [] σ
 |op {o:Oper} {rest:List Oper} {σ σ':St} {ns:List (Operand×AV)} {x:AV} {rs:List AV} {ess:List (List bn)} {bs:List Bool} (d:Option Tmp) (h:bK P o ns σ.ents x σ.ents) (hn:needs σ ns)
  (hg:zZ ops σ o.guard) (hd:o.dst=d) (ht:(mZ ns).all (tmpsOf o).contains=true) (k:iK P ops rest (σ.qU d x) rs ess bs σ'):iK P ops (o::rest) σ (x::rs) (σ.ents::ess) (false::bs) σ'
 |oe {o:Oper} {rest:List Oper} {σ σ':St} {ns:List (Operand×AV)} {x:AV} {es':List bn} {rs:List AV} {ess:List (List bn)} {bs:List Bool} (d:Option Tmp) (E:List bn) (h:bK P o ns σ.ents x es') (he:es'=E) (hn:needs σ ns)
  (hg:zZ ops σ o.guard) (hd:o.dst=d) (ht:(mZ ns).all (tmpsOf o).contains=true) (k:iK P ops rest (σ.put d x E) rs ess bs σ'):iK P ops (o::rest) σ (x::rs) (E::ess) (true::bs) σ'
 |any {o:Oper} {rest:List Oper} {σ σ':St} {x:AV} {rs:List AV} {ess:List (List bn)} {bs:List Bool} (d:Option Tmp) (h:tK P ops σ x σ.ents false o) (hd:o.dst=d) (k:iK P ops rest (σ.qU d x) rs ess bs σ'):iK P ops (o::rest) σ (x::rs) (σ.ents::ess) (false::bs) σ'
 |WM {o:Oper} {rest:List Oper} {σ σ':St} {x:AV} {E:List bn} {bar:Bool} {rs:List AV} {ess:List (List bn)} {bs:List Bool} (d:Option Tmp) (h:tK P ops σ x E bar o) (hd:o.dst=d) (k:iK P ops rest (σ.put d x E) rs ess bs σ'):iK P ops (o::rest) σ (x::rs) (E::ess) (bar::bs) σ'
 |skip {o:Oper} {rest:List Oper} {σ σ':St} {rs:List AV} {ess:List (List bn)} {bs:List Bool} (d:Option Tmp) (hg:Ii ops σ o.guard) (hd:o.dst=d) (k:iK P ops rest (σ.qU d (.d (.lit undef))) rs ess bs σ'):iK P ops (o::rest) σ (.d (.lit undef)::rs) (σ.ents::ess) (false::bs) σ'
section
variable {P : Program} {ops : Array Oper} {es : List bn}
def iC (ops:Array Oper) (σ0:St) (r:Nat→AV) (ev:Nat→List bn):Nat→St
 |0=>σ0
 |i+1=>match ops[i]? with
  |some o=>(iC ops σ0 r ev i).put o.dst (r i) (ev i)
  |none=>iC ops σ0 r ev i
theorem iK.facts {l:List Oper} {σ σ':St} {rs:List AV} {ess:List (List bn)} {bs:List Bool} (h:iK P ops l σ rs ess bs σ') (σ0:St) (r:Nat→AV) (ev:Nat→List bn) (bar:Nat→Bool):∀i,(∀k:Nat,l[k]? =ops[i+k]?)→i+l.length=ops.size→σ=iC ops σ0 r ev i→
 (∀(k:Nat) y,rs[k]? =some y→r (i+k)=y)→(∀(k:Nat) y,ess[k]? =some y→ev (i+k)=y)→(∀(k:Nat) y,bs[k]? =some y→bar (i+k)=y)→
 (∀j (o:Oper),i≤j→ops[j]? =some o→tK P ops (iC ops σ0 r ev j) (r j) (ev j) (bar j) o)∧σ'=iC ops σ0 r ev ops.size:=by
 induction h with
 |nil σ=>
  intro i hl hsz hσ hr _ _;have :i=ops.size:=by simpa using hsz
  subst this;refine⟨fun j o hij ho=>?_,hσ⟩;have:=(Array.getElem?_eq_some_iff.1 ho).1;omega
 | @op o rest σ σ' ns x rs ess bs d ho hn hg hd ht k ih=>
   intro i hl hsz hσ hr he hb;subst hd;have h0:ops[i]? =some o:=by simpa using(hl 0).symm
   have hx:r i=x:=by simpa using hr 0 x (by simp)
   have hev:ev i=σ.ents:=by simpa using he 0 σ.ents (by simp)
   obtain⟨h1,h2⟩:=ih (i+1) (fun k=>by have:=hl (k+1);simpa[Nat.add_assoc,Nat.add_comm 1 k]using this) (by simp at hsz;omega) (by
    rw[St.PZ];simp only[iC,h0,hx,hev];rw[←hσ]) (fun k y hy=>by have:=hr (k+1) y (by simpa using hy);simpa[Nat.add_assoc,Nat.add_comm 1 k]using this)
    (fun k y hy=>by have:=he (k+1) y (by simpa using hy);simpa[Nat.add_assoc,Nat.add_comm 1 k]using this) (fun k y hy=>by have:=hb (k+1) y (by simpa using hy);simpa[Nat.add_assoc,Nat.add_comm 1 k]using this)
   refine⟨fun j o' hij ho'=>?_,h2⟩;by_cases e:i=j
   ·subst e;rw[h0]at ho';obtain rfl:=Option.some.inj ho';exact⟨.inl ⟨ns,by rw[hx,hev,←hσ];exact ho,hσ▸hn,ht,hσ▸hg⟩,fun _=>by rw[hev,←hσ]⟩
   exact h1 j o' (by omega) ho'
 | @oe o rest σ σ' ns x es' rs ess bs d E ho hE hn hg hd ht k ih=>
   intro i hl hsz hσ hr he hb;subst hd;subst hE;have h0:ops[i]? =some o:=by simpa using(hl 0).symm
   have hx:r i=x:=by simpa using hr 0 x (by simp)
   have hev:ev i=es':=by simpa using he 0 es' (by simp)
   have hbr:bar i=true:=by simpa using hb 0 true (by simp)
   obtain⟨h1,h2⟩:=ih (i+1) (fun k=>by have:=hl (k+1);simpa[Nat.add_assoc,Nat.add_comm 1 k]using this) (by simp at hsz;omega) (by
    simp only[iC,h0,hx,hev];rw[←hσ]) (fun k y hy=>by have:=hr (k+1) y (by simpa using hy);simpa[Nat.add_assoc,Nat.add_comm 1 k]using this)
    (fun k y hy=>by have:=he (k+1) y (by simpa using hy);simpa[Nat.add_assoc,Nat.add_comm 1 k]using this) (fun k y hy=>by have:=hb (k+1) y (by simpa using hy);simpa[Nat.add_assoc,Nat.add_comm 1 k]using this)
   refine⟨fun j o' hij ho'=>?_,h2⟩;by_cases e:i=j
   ·subst e;rw[h0]at ho';obtain rfl:=Option.some.inj ho';exact⟨.inl ⟨ns,by rw[hx,hev,←hσ];exact ho,hσ▸hn,ht,hσ▸hg⟩,fun hf=>by rw[hbr]at hf;cases hf⟩
   exact h1 j o' (by omega) ho'
 | @any o rest σ σ' x rs ess bs d hs hd k ih=>
   intro i hl hsz hσ hr he hb;subst hd;have h0:ops[i]? =some o:=by simpa using(hl 0).symm
   have hx:r i=x:=by simpa using hr 0 x (by simp)
   have hev:ev i=σ.ents:=by simpa using he 0 σ.ents (by simp)
   obtain⟨h1,h2⟩:=ih (i+1) (fun k=>by have:=hl (k+1);simpa[Nat.add_assoc,Nat.add_comm 1 k]using this) (by simp at hsz;omega) (by
    rw[St.PZ];simp only[iC,h0,hx,hev];rw[←hσ]) (fun k y hy=>by have:=hr (k+1) y (by simpa using hy);simpa[Nat.add_assoc,Nat.add_comm 1 k]using this)
    (fun k y hy=>by have:=he (k+1) y (by simpa using hy);simpa[Nat.add_assoc,Nat.add_comm 1 k]using this) (fun k y hy=>by have:=hb (k+1) y (by simpa using hy);simpa[Nat.add_assoc,Nat.add_comm 1 k]using this)
   refine⟨fun j o' hij ho'=>?_,h2⟩;by_cases e:i=j
   ·subst e;rw[h0]at ho';obtain rfl:=Option.some.inj ho';refine⟨?_,fun _=>by rw[hev,←hσ]⟩;rw[hx,hev,←hσ];exact hs.1
   exact h1 j o' (by omega) ho'
 | @WM o rest σ σ' x E br rs ess bs d hs hd k ih=>
   intro i hl hsz hσ hr he hb;subst hd;have h0:ops[i]? =some o:=by simpa using(hl 0).symm
   have hx:r i=x:=by simpa using hr 0 x (by simp)
   have hev:ev i=E:=by simpa using he 0 E (by simp)
   have hbr:bar i=br:=by simpa using hb 0 br (by simp)
   obtain⟨h1,h2⟩:=ih (i+1) (fun k=>by have:=hl (k+1);simpa[Nat.add_assoc,Nat.add_comm 1 k]using this) (by simp at hsz;omega) (by
    simp only[iC,h0,hx,hev];rw[←hσ]) (fun k y hy=>by have:=hr (k+1) y (by simpa using hy);simpa[Nat.add_assoc,Nat.add_comm 1 k]using this)
    (fun k y hy=>by have:=he (k+1) y (by simpa using hy);simpa[Nat.add_assoc,Nat.add_comm 1 k]using this) (fun k y hy=>by have:=hb (k+1) y (by simpa using hy);simpa[Nat.add_assoc,Nat.add_comm 1 k]using this)
   refine⟨fun j o' hij ho'=>?_,h2⟩;by_cases e:i=j
   ·subst e;rw[h0]at ho';obtain rfl:=Option.some.inj ho';rw[hx,hev,hbr,←hσ];exact hs
   exact h1 j o' (by omega) ho'
 | @skip o rest σ σ' rs ess bs d hg hd k ih=>
   intro i hl hsz hσ hr he hb;subst hd;have h0:ops[i]? =some o:=by simpa using(hl 0).symm
   have hx:r i=.d (.lit undef):=by simpa using hr 0 (.d (.lit undef)) (by simp)
   have hev:ev i=σ.ents:=by simpa using he 0 σ.ents (by simp)
   obtain⟨h1,h2⟩:=ih (i+1) (fun k=>by have:=hl (k+1);simpa[Nat.add_assoc,Nat.add_comm 1 k]using this) (by simp at hsz;omega) (by
    rw[St.PZ];simp only[iC,h0,hx,hev];rw[←hσ]) (fun k y hy=>by have:=hr (k+1) y (by simpa using hy);simpa[Nat.add_assoc,Nat.add_comm 1 k]using this)
    (fun k y hy=>by have:=he (k+1) y (by simpa using hy);simpa[Nat.add_assoc,Nat.add_comm 1 k]using this) (fun k y hy=>by have:=hb (k+1) y (by simpa using hy);simpa[Nat.add_assoc,Nat.add_comm 1 k]using this)
   refine⟨fun j o' hij ho'=>?_,h2⟩;by_cases e:i=j
   ·subst e;rw[h0]at ho';obtain rfl:=Option.some.inj ho';exact⟨.inr ⟨hx,by rw[hev,←hσ],hσ▸hg⟩,fun _=>by rw[hev,←hσ]⟩
   exact h1 j o' (by omega) ho'
theorem qg {σ0:St} {r:Nat→AV} {ev:Nat→List bn} {t:Nat}:∀i,(∀j (o:Oper),j<i→ops[j]? =some o→o.dst≠some t)→(iC ops σ0 r ev i).slots.getD t .junk=σ0.slots.getD t .junk
 |0,_=>rfl
 |i+1,h=>by
  have ih:=qg (σ0:=σ0) (r:=r) (ev:=ev) i (fun j o hj ho=>h j o (by omega) ho);simp only[iC];split
  ·rename_i o ho;have hne:=h i o (by omega) ho;cases hd:o.dst with
   |none=>exact ih
   |some d=>
    have hdt:d≠t:=fun e=>hne (by rw[hd,e]);show((iC ops σ0 r ev i).slots.set d (r i)).getD t .junk=_;rw[←ih];simp[List.getD,List.getElem?_set_ne hdt]
  exact ih
theorem pX {σ0:St} {r:Nat→AV} {ev:Nat→List bn}:∀i,(iC ops σ0 r ev i).slots.length=σ0.slots.length
 |0=>rfl
 |i+1=>by
  simp only[iC];split
  ·rename_i o ho;cases hd:o.dst with
   |none=>exact pX i
   |some d=>show((iC ops σ0 r ev i).slots.set d (r i)).length=_;rw[List.length_set];exact pX i
  exact pX i
theorem Ij {σ0:St} {r:Nat→AV} {ev:Nat→List bn}:∀i,(iC ops σ0 r ev i).base=σ0.base
 |0=>rfl
 |i+1=>by
  simp only[iC];split
  ·exact Ij i
  exact Ij i
theorem uT {σ0:St} {r:Nat→AV} {ev:Nat→List bn} (hinj:∀(i j:Nat) (o o':Oper) (d:Tmp),ops[i]? =some o→ops[j]? =some o'→o.dst=some d→o'.dst=some d→i=j) {t j:Nat} {o:Oper} (ho:ops[j]? =some o) (hd:o.dst=some t) (ht:t<σ0.slots.length):
 ∀i,j<i→(iC ops σ0 r ev i).slots.getD t .junk=r j
 |0,h=>by omega
 |i+1,h=>by
  by_cases e:j=i
  ·subst e;simp only[iC,ho,hd];have hl:t<(iC ops σ0 r ev j).slots.length:=by rw[pX];exact ht
   show((iC ops σ0 r ev j).slots.set t (r j)).getD t .junk=_;simp[List.getD,hl]
  have ih:=uT (r:=r) (ev:=ev) hinj ho hd ht i (by omega);simp only[iC];split
  ·rename_i o' ho';cases hd':o'.dst with
   |none=>exact ih
   |some d=>
    have hdt:d≠t:=fun e'=>e (hinj j i o o' t ho ho' hd (by rw[hd',e']));show((iC ops σ0 r ev i).slots.set d (r i)).getD t .junk=_;rw[←ih];simp[List.getD,List.getElem?_set_ne hdt]
  exact ih
theorem Uz (h:II ops=true):∀(i:Nat) (o:Oper),ops[i]? =some o→(∀(j:Nat) (o':Oper) (d:Tmp),ops[j]? =some o'→o'.dst=some d→d∈tmpsOf o→jv o j=true∨jv o' i=true)∧(∀j b,o.guard=some (j,b)→jv o j=true):=by
 intro i o ho;unfold II at h;rw[List.all_eq_true]at h;have hi:i<ops.size:=(Array.getElem?_eq_some_iff.1 ho).1;have h1:=h i (by simpa using hi);rw[ho]at h1;simp only[Bool.and_eq_true,List.all_eq_true]at h1;refine⟨fun j o' d ho' hd hm=>?_,fun j b hg=>?_⟩
 ·have hj:j<ops.size:=(Array.getElem?_eq_some_iff.1 ho').1;have h2:=h1.1 j (by simpa using hj);rw[ho']at h2;simp only[Option.bind_some,hd,Bool.or_eq_true,Bool.not_eq_true']at h2;rcases h2 with(h2|h2)|h2
  ·have :(tmpsOf o).contains d=true:=by simpa using hm
   rw[this]at h2;cases h2
  ·exact .inl h2
  exact .inr h2
 have h2:=h1.2;rw[hg]at h2;exact h2
def Na (ops:Array Oper) (bs:List Bool):Bool:=(List.range ops.size).all fun i=>!(bs.getD i false)||
 (((List.range i).all fun j=>(List.range (i+1)).any fun m=>decide (j<m)&&(match ops[m]? with |some o=>jv o j|none=>false))&&
  ((List.range ops.size).all fun k=>!decide (i<k)||(List.range k).any fun m=>decide (i≤m)&&(match ops[k]? with |some o=>jv o m|none=>false)))
theorem rU {bs:List Bool} (h:Na ops bs=true) {i:Nat} (hi:i<ops.size) (hb:bs.getD i false=true) {D:Nat→Prop} (hd:∀(j:Nat) (o:Oper),ops[j]? =some o→D j→∀m,jv o m=true→D m)
 (h0:∀(o:Oper),ops[i]? =some o→∀m,jv o m=true→D m):∀j,j<i→D j:=by
 unfold Na at h;rw[List.all_eq_true]at h;have h1:=h i (by simpa using hi);simp only[hb,Bool.not_true,Bool.false_or,Bool.and_eq_true,List.all_eq_true]at h1
 have key:∀n j,i-j≤n→j<i→D j:=by
  intro n
  induction n with
  |zero=>intro j h2 h3;omega
  |succ n ih=>
   intro j h2 h3;have h4:=h1.1 j (by simpa using h3);rw[List.any_eq_true]at h4;obtain⟨m,hm,h5⟩:=h4;simp only[List.mem_range]at hm;simp only[Bool.and_eq_true,decide_eq_true_eq]at h5;obtain⟨h6,h7⟩:=h5;have hml:m<ops.size:=by omega
   have ho:ops[m]? =some ops[m]:=by simp[hml]
   rw[ho]at h7;by_cases e:m=i
   ·subst e;exact h0 _ ho j h7
   exact hd m _ ho (ih m (by omega) (by omega)) j h7
 exact fun j hj=>key (i-j) j (Nat.le_refl _) hj
theorem SH {bs:List Bool} (h:Na ops bs=true) {i:Nat} (hi:i<ops.size) (hb:bs.getD i false=true) {D:Nat→Prop} (hd:∀(j:Nat) (o:Oper),ops[j]? =some o→D j→∀m,jv o m=true→D m):
 ∀k,i<k→∀(o:Oper),ops[k]? =some o→(∀m,jv o m=true→D m)→D i:=by
 unfold Na at h;rw[List.all_eq_true]at h;have h1:=h i (by simpa using hi);simp only[hb,Bool.not_true,Bool.false_or,Bool.and_eq_true,List.all_eq_true]at h1;intro k
 induction k using Nat.strongRecOn with
 |_ k ih=>
  intro hik o ho aiG;have hk:k<ops.size:=(Array.getElem?_eq_some_iff.1 ho).1;have h4:=h1.2 k (by simpa using hk);simp only[hik,decide_true,Bool.not_true,Bool.false_or,List.any_eq_true]at h4;obtain⟨m,hm,h5⟩:=h4;simp only[List.mem_range]at hm;simp only[Bool.and_eq_true,decide_eq_true_eq,ho]at h5;obtain⟨h6,h7⟩:=h5;have hDm:=aiG m h7;by_cases e:m=i
  ·subst e;exact hDm
  have hml:m<ops.size:=by omega
  have hom:ops[m]? =some ops[m]:=by simp[hml]
  exact ih m hm (by omega) _ hom (hd m _ hom hDm)
def Aa (ops:Array Oper):Bool:=(List.range ops.size).all fun i=>match ops[i]? with
 |some o=>o.after.toList.all fun(e:Edge)=>!Region.binds .any e||decide (e.on<i)
 |none=>true
theorem NM (h:Aa ops=true):∀(i:Nat) (o:Oper),ops[i]? =some o→∀e∈o.after.toList,Region.binds .any e=true→e.on<i:=by
 intro i o ho e he hb;unfold Aa at h;rw[List.all_eq_true]at h;have hi:i<ops.size:=(Array.getElem?_eq_some_iff.1 ho).1;have:=h i (by simpa using hi);rw[ho]at this;rw[List.all_eq_true]at this;have:=this e he;simpa[hb]using this
theorem SP.draw {id:Nat} {σ σ':St} {Q:Exit→St→Prop} {rs:List AV} {ess:List (List bn)} {bs:List Bool} (hm:P.follows .mixedOrders=true) (hcalm:(Aa ops&&IG ops&&BR ops σ.slots.length&&II ops)=true) (l7:Na ops bs=true)
 (h:iK P ops ops.toList σ rs ess bs σ') (hQ:Q .normal σ'):SP P (.region id ops true) σ Q:=by
 refine⟨fun ro _ C ok H a w hh=>?_⟩;simp only[Bool.and_eq_true]at hcalm;obtain⟨⟨⟨he,hd⟩,hs⟩,hc⟩:=hcalm;have IJ:=NM he;have hinj:=Ux hd;have hcalm:=Uz hc
 have CW:∀(i:Nat) (o:Oper) (d:Tmp),ops[i]? =some o→o.dst=some d→d<σ.slots.length:=by
  intro i o d h1 h2;unfold BR at hs;rw[List.all_eq_true]at hs;simpa using hs d (Uy h1 h2)
 let r:Nat→AV:=fun i=>rs.getD i .junk
 let ev:Nat→List bn:=fun i=>ess.getD i []
 let bar:Nat→Bool:=fun i=>bs.getD i false
 obtain⟨Dx,hend⟩:=h.facts σ r ev bar 0 (fun k=>by simp) (by simp) rfl (fun k y hy=>by simp[r,List.getD,hy]) (fun k y hy=>by simp[ev,List.getD,hy]) (fun k y hy=>by simp[bar,List.getD,hy])
 let U:Nat→St:=iC ops σ r ev
 have hU:∀i,i<ops.size→(U (i+1)).ents=ev i:=by
  intro i hi;have ho:ops[i]? =some ops[i]:=by simp[hi]
  show(iC ops σ r ev (i+1)).ents=_;simp only[iC,ho];rfl
 have hconst:∀n lo,(∀b,lo≤b→b<lo+n→bar b=false)→lo+n≤ops.size→(U (lo+n)).ents=(U lo).ents:=by
  intro n
  induction n with
  |zero=>intro lo _ _;rfl
  |succ n ih=>
   intro lo hb hle;have h1:=ih lo (fun b h1 h2=>hb b h1 (by omega)) (by omega);have hi:lo+n<ops.size:=by omega
   have ho:ops[lo+n]? =some ops[lo+n]:=by simp[hi]
   have h2:=(Dx (lo+n) _ (by omega) ho).2 (hb (lo+n) (by omega) (by omega));rw[←Nat.add_assoc,hU _ hi,h2];exact h1
 have sO:∀lo hi,lo≤hi→hi≤ops.size→(∀b,lo≤b→b<hi→bar b=false)→(U hi).ents=(U lo).ents:=by
  intro lo hi h1 h2 h3;obtain⟨n,rfl⟩:=Nat.exists_eq_add_of_le h1;exact hconst n lo h3 h2
 refine wpIn_region_any hm ?_
 let I:Array Bool→Act→World→Prop:=fun l a w=>l.size=ops.size∧∃ok H m,m≤ops.size∧(∀b,bar b=true→b<ops.size→(l.getD b false=true↔b<m))∧Mem C ok H (U m).ents w∧a.tmps.size=σ.slots.length∧Marks C ok w a.defers∧
  (∀t,t<σ.slots.length→(∀(j:Nat) (o:Oper),ops[j]? =some o→o.dst=some t→l.getD j false=false)→R ok w H (σ.slots.getD t .junk) (a.tmps.getD t undef))∧
  (∀(i:Nat) (o:Oper) (d:Tmp),ops[i]? =some o→o.dst=some d→l.getD i false=true→R ok w H (r i) (a.tmps.getD d undef))∧
  (∀(j:Nat) (o:Oper),ops[j]? =some o→l.getD j false=true→∀i,jv o i=true→l.getD i false=true)
 refine ED I (fun l a w h=>h.1) ?_ ?_ ops.size _ _ _ ?_ ?_
 ·rintro l a w ⟨h1,ok,H,m,FU,oU,hmem0,hsz,hdf,h5,h6,h7⟩ i hi;unfold Region.ready at hi;rw[List.mem_filter]at hi;obtain⟨hi1,hi2⟩:=hi;have hi':i<ops.size:=by simpa using hi1
  have ho:ops[i]? =some ops[i]:=by simp[hi']
  simp only[Bool.and_eq_true]at hi2;have Ac:=hi2.2;rw[ho]at Ac;simp only[Option.map_some,Option.getD_some]at Ac;have Qc:=fun e he=>(Array.all_eq_true_iff_forall_mem.1 Ac) e he
  have hdone:∀j,jv ops[i] j=true→l.getD j false=true∧j<i:=by
   intro j hj;unfold jv at hj;rw[List.any_eq_true]at hj;obtain⟨e,hee,hj⟩:=hj;simp only[Bool.and_eq_true,decide_eq_true_eq]at hj;have:=Qc e (by simpa using hee);simp only[hj.2,Bool.not_true,Bool.false_or]at this;rw[hj.1]at this;exact⟨this,hj.1▸IJ i _ ho e hee hj.2⟩
  have hself:l.getD i false=false:=by
   have h8:=hi2.1;have hil:i<l.size:=by omega
   simp[Array.getD,hil]at h8 ⊢;exact h8
  have qV:∀(j:Nat) (o:Oper),ops[j]? =some o→l.getD j false=true→∀m,jv o m=true→l.getD m false=true:=fun j o hj hl m hm=>h7 j o hj hl m hm
  have hmem:Mem C ok H (U i).ents w:=by
   have hE:(U i).ents=(U m).ents:=by
    by_cases him:i≤m
    ·refine(sO i m him FU (fun b h2 h3=>?_)).symm;rw[←Bool.not_eq_true];intro hb;have hbl:=(oU b hb (by omega)).2 h3;by_cases e:b=i
     ·subst e;rw[hself]at hbl;cases hbl
     have hob:ops[b]? =some (ops[b]'(by omega)):=by simp[show b<ops.size by omega]
     have:=rU l7 (show b<ops.size by omega) hb (D:=fun j=>l.getD j false=true) qV (fun o ho m hm=>qV b o ho hbl m hm) i (by omega);rw[hself]at this;cases this
    refine sO m i (by omega) (by omega) (fun b h2 h3=>?_);rw[←Bool.not_eq_true];intro hb;have:=SH l7 (show b<ops.size by omega) hb (D:=fun j=>l.getD j false=true) qV i h3 _ ho (fun m hm=>(hdone m hm).1);exact absurd ((oU b hb (by omega)).1 this) (by omega)
   rw[hE];exact hmem0
  have hread:∀t,t∈tmpsOf ops[i]→R ok w H ((iC ops σ r ev i).slots.getD t .junk) (a.tmps.getD t undef):=by
   intro t ht;by_cases hw:∃(j:Nat) (o:Oper),ops[j]? =some o∧o.dst=some t
   ·obtain⟨j,o,hj,hjd⟩:=hw;rcases(hcalm i _ ho).1 j o t hj hjd ht with hce|hce
    ·obtain⟨hdj,hji⟩:=hdone j hce;rw[uT hinj hj hjd (CW j o t hj hjd) i hji];exact h6 j o t hj hjd hdj
    have hij:i<j:=by
     unfold jv at hce;rw[List.any_eq_true]at hce;obtain⟨e,hee,hce⟩:=hce;simp only[Bool.and_eq_true,decide_eq_true_eq]at hce;exact hce.1▸IJ j _ hj e hee hce.2
    rw[qg i (fun j' o' hj' ho' hd'=>by have:=hinj j j' o o' t hj ho' hjd hd';omega)];refine h5 t (CW j o t hj hjd) (fun j' o' ho' hd'=>?_);have hjj:=hinj j j' o o' t hj ho' hjd hd';subst hjj;rw[←Bool.not_eq_true];intro hd;rw[h7 j o hj hd i hce]at hself;cases hself
   have hw':∀(j:Nat) (o:Oper),ops[j]? =some o→o.dst≠some t:=fun j o h1 h2=>hw ⟨j,o,h1,h2⟩;rw[qg i (fun j o _ hj=>hw' j o hj)];by_cases htn:t<σ.slots.length
   ·exact h5 t htn (fun j o hj hjd=>absurd hjd (hw' j o hj))
   rw[Ih htn];exact .junk _
  have Nb:∀j d v,jv ops[i] j=true→(ops[j]?).bind (·.dst)=some d→(iC ops σ r ev i).slots.getD d .junk=.d (.lit v)→yielded ops a.tmps j=(match v with | .bool b=>some b|_=>none):=by
   intro j d v hj hjd hb;cases hoj:ops[j]? with
   |none=>rw[hoj]at hjd;simp at hjd
   |some oj=>
    rw[hoj]at hjd;simp only[Option.bind_some]at hjd;obtain⟨hdj,hji⟩:=hdone j hj;have hdn:=CW j oj d hoj hjd;rw[uT hinj hoj hjd hdn i hji]at hb;have hv:=(hb▸h6 j oj d hoj hjd hdj).bool
    have hs:a.tmps[d]? =some v:=by
     have :d<a.tmps.size:=by rw[hsz];exact hdn
     simp[Array.getD,this]at hv;simp[this,hv]
    unfold yielded;rw[hoj];simp only[Option.bind_some,hjd,hs];cases v<;>rfl
  have hput:∀(x:AV) (v:Value) (ok':Nat→Prop) (H':List Hd) (w':World),x=r i→Grow ok w ok' w'→Names H H'→Mem C ok' H' (ev i) w'→R ok' w' H' x v→I (l.setIfInBounds i true) (a.put ops[i].dst v) w':=by
   intro x v ok' H' w' hx hgr hnm hmem' hR;subst hx
   have hother:∀(d t:Nat),ops[i].dst=some d→d≠t→(a.put ops[i].dst v).tmps.getD t undef=a.tmps.getD t undef:=by
    intro d t hd hne;rw[hd];exact KI hne
   obtain⟨m',adt,Vp,adu⟩:∃m',m'≤ops.size∧(∀b,bar b=true→b<ops.size→((l.setIfInBounds i true).getD b false=true↔b<m'))∧Mem C ok' H' (U m').ents w':=by
    have hget:∀b,b≠i→(l.setIfInBounds i true).getD b false=l.getD b false:=fun b hb=>by
     simp only[Array.getD_eq_getD_getElem?,Array.getElem?_setIfInBounds_ne (Ne.symm hb)]
    have adv:(l.setIfInBounds i true).getD i false=true:=by simp[Array.getD,h1,hi']
    cases hbi:bar i with
    |false=>
     refine⟨m,FU,fun b hb hbs=>?_,?_⟩
     ·have hne:b≠i:=fun e=>by subst e;rw[hbi]at hb;cases hb
      rw[hget b hne];exact oU b hb hbs
     have h2:=(Dx i _ (by omega) ho).2 hbi;rw[h2]at hmem'
     have hE:(U i).ents=(U m).ents:=by
      by_cases him:i≤m
      ·refine(sO i m him FU (fun b h2 h3=>?_)).symm;rw[←Bool.not_eq_true];intro hb;have hbl:=(oU b hb (by omega)).2 h3;by_cases e:b=i
       ·subst e;rw[hself]at hbl;cases hbl
       have:=rU l7 (show b<ops.size by omega) hb (D:=fun j=>l.getD j false=true) qV (fun o ho m hm=>qV b o ho hbl m hm) i (by omega);rw[hself]at this;cases this
      refine sO m i (by omega) (by omega) (fun b h2 h3=>?_);rw[←Bool.not_eq_true];intro hb;have:=SH l7 (show b<ops.size by omega) hb (D:=fun j=>l.getD j false=true) qV i h3 _ ho (fun m hm=>(hdone m hm).1);exact absurd ((oU b hb (by omega)).1 this) (by omega)
     rw[←hE];exact hmem'
    |true=>
     refine⟨i+1,by omega,fun b hb hbs=>?_,by rw[hU i hi'];exact hmem'⟩;by_cases e:b=i
     ·subst e;rw[adv];simp
     rw[hget b e];constructor
     ·intro hbl;apply Classical.byContradiction;intro hn;have:=rU l7 hbs hb (D:=fun j=>l.getD j false=true) qV (fun o ho m hm=>qV b o ho hbl m hm) i (by omega);rw[hself]at this;cases this
     intro hlt;exact rU l7 hi' hbi (D:=fun j=>l.getD j false=true) qV (fun o ho' m hm=>by rw[ho]at ho';obtain rfl:=Option.some.inj ho';exact(hdone m hm).1) b (by omega)
   refine⟨by simp[h1],ok',H',m',adt,Vp,adu,by rw[size_put];exact hsz,by rw[WJ];exact hdf.mono hgr,?_,?_,?_⟩
   ·intro t ht hno
    have hne:ops[i].dst≠some t:=by
     intro e;have:=hno i _ ho e;simp[Array.getD,h1,hi']at this
    have hold:(a.put ops[i].dst v).tmps.getD t undef=a.tmps.getD t undef:=by
     cases hdi:ops[i].dst with
     |none=>rfl
     |some d=>exact hdi▸hother d t hdi (fun e=>hne (by rw[hdi,e]))
    rw[hold];refine(h5 t ht (fun j o hj hjd=>?_)).mono hgr hnm;have hij:i≠j:=fun e=>by subst e;rw[ho]at hj;obtain rfl:=Option.some.inj hj;exact hne hjd
    have:=hno j o hj hjd;simpa only[Array.getD_eq_getD_getElem?,Array.getElem?_setIfInBounds_ne hij]using this
   ·intro k o d hk hkd hl;by_cases hik:i=k
    ·subst hik;rw[ho]at hk;obtain rfl:=Option.some.inj hk;rw[hkd,NK (by rw[hsz];exact CW i _ d ho hkd)];exact hR
    have hl':l.getD k false=true:=by
     simp only[Array.getD_eq_getD_getElem?,Array.getElem?_setIfInBounds_ne hik]at hl ⊢;exact hl
    have:=(h6 k o d hk hkd hl').mono hgr hnm;cases hdst:ops[i].dst with
    |none=>exact this
    |some d'=>
     have hne:d'≠d:=fun e=>hik (hinj i k _ _ d' ho hk hdst (e▸hkd));rw[←hdst,hother d' d hdst hne];exact this
   intro j o hj hl k hk;have hil:i<l.size:=by omega
   by_cases hik:i=k
   ·subst hik;simp[Array.getD,hil]
   have hkk:l.getD k false=true:=by
    by_cases hij:i=j
    ·subst hij;rw[ho]at hj;obtain rfl:=Option.some.inj hj;exact(hdone k hk).1
    have hl':l.getD j false=true:=by
     simp only[Array.getD_eq_getD_getElem?,Array.getElem?_setIfInBounds_ne hij]at hl ⊢;exact hl
    exact h7 j o hj hl' k hk
   simp only[Array.getD_eq_getD_getElem?,Array.getElem?_setIfInBounds_ne hik]at hkk ⊢;exact hkk
  unfold wpOpIn;rw[ho];show if Region.wanted ops[i] (yielded ops a.tmps)=true then _ else _
  rcases(Dx i ops[i] (by omega) ho).1 with⟨ns,hop,WO,hnt,hg⟩|⟨hx,hev,hg⟩
  ·have hwant:Region.wanted ops[i] (yielded ops a.tmps)=true:=by
    unfold Region.wanted;rcases hg with hg|⟨j,want,d,b,hg,hj,hb,rfl⟩
    ·rw[hg]
    rw[hg];show(yielded ops a.tmps j==some b)=true;rw[Nb j d _ ((hcalm i _ ho).2 j b hg) hj hb];simp
   rw[if_pos hwant];refine Oper.wpIn_mono ?_ (hop.Vo ro C ok H a w _ hmem (fun n hn=>?_))
   ·rintro a' w' ⟨v,ok',H',rfl,hgr,hnn,hm',hx⟩;exact hput _ v ok' H' w' rfl hgr hnn hm' hx
   have hnv:=nX WO n hn;obtain⟨x,y⟩:=n;simp only at hnv ⊢;subst hnv;cases x with
   |tmp t=>
    refine hread t ?_;rw[List.all_eq_true]at hnt
    have :t∈mZ ns:=by
     unfold mZ;rw[List.mem_filterMap];exact⟨_,hn,rfl⟩
    simpa using hnt t this
   |const v=>exact .d _ _ (.lit v)
   |global g=>exact .d _ _ (.lit _)
   |func f=>exact .d _ _ (.fn (.func f) [] [] #[] #[] rfl rfl (fun i hi=>by simp at hi) (fun i hi=>by simp at hi))
  have hwant:Region.wanted ops[i] (yielded ops a.tmps)=false:=by
   unfold Region.wanted;obtain⟨j,want,d,v,hg,hj,hb,hv⟩:=hg;rw[hg];show(yielded ops a.tmps j==some want)=false;rw[Nb j d _ ((hcalm i _ ho).2 j want hg) hj hb];rcases hv with rfl|rfl
   ·simp
   rfl
  rw[if_neg (by rw[hwant];simp)];exact⟨fun _ _=>trivial,hput _ _ ok H w hx.symm (.refl _ _) (.refl _) (by rw[hev];exact hmem) (.d _ _ (.lit _))⟩
 ·rintro l a w ⟨h1,ok,H,m,FU,oU,hmem,hsz,hdf,h5,h6,h7⟩ hr
  have hall:∀n i,i<n→i<ops.size→l.getD i false=true:=by
   intro n
   induction n with
   |zero=>intro i hi;omega
   |succ n ih=>
    intro i hi hi2;by_cases hn:i<n
    ·exact ih i hn hi2
    have hin:i=n:=by omega
    subst hin;rw[←Bool.not_eq_false];intro hf;have ho:ops[i]? =some ops[i]:=by simp[hi2]
    have hmem:i∈Region.ready .any ops l:=by
     unfold Region.ready;rw[List.mem_filter];refine⟨by simpa using hi2,?_⟩;have hil:i<l.size:=by omega
     have hf':l.getD i true=false:=by simp[Array.getD,hil]at hf ⊢;exact hf
     rw[hf',ho];simp only[Bool.not_false,Bool.true_and,Option.map_some,Option.getD_some];rw[Array.all_eq_true_iff_forall_mem];intro e he;cases hbe:Region.binds .any e with
     |false=>simp
     |true=>
      have hlt:=IJ i _ ho e (by simpa using he) hbe;rw[ih e.on (by omega) (by omega)];simp
    rw[hr]at hmem;simp at hmem
  refine⟨ok,H,σ',?_,hQ⟩;subst hend
  have hE:(U ops.size).ents=(U m).ents:=sO m ops.size FU (Nat.le_refl _) (fun b h2 h3=>by
   rw[←Bool.not_eq_true];intro hb
   exact absurd ((oU b hb h3).1 (hall (b+1) b (by omega) h3)) (by omega))
  refine⟨by show Mem C ok H (U ops.size).ents w;rw[hE];exact hmem,by rw[pX];exact hsz,hdf,by rw[Ij];exact hh.base,fun t ht=>?_⟩;rw[pX]at ht;by_cases hw:∃(j:Nat) (o:Oper),ops[j]? =some o∧o.dst=some t
  ·obtain⟨j,o,hj,hjd⟩:=hw;have hjn:j<ops.size:=(Array.getElem?_eq_some_iff.1 hj).1;rw[uT hinj hj hjd ht ops.size hjn];exact h6 j o t hj hjd (hall (j+1) j (by omega) hjn)
  have hw':∀(j:Nat) (o:Oper),ops[j]? =some o→o.dst≠some t:=fun j o h1 h2=>hw ⟨j,o,h1,h2⟩;rw[qg ops.size (fun j o _ hj=>hw' j o hj)];exact h5 t ht (fun j o hj hjd=>absurd hjd (hw' j o hj))
 ·unfold toCome;simp
 refine⟨by simp,ok,H,0,Nat.zero_le _,fun b hb _=>by simp[Array.getD],?_,hh.size,hh.defers.mono (fun b hb=>⟨hb,rfl⟩),fun t ht _=>?_,fun i o d _ _ hl=>?_,fun j o _ hl=>?_⟩
 ·exact⟨⟨hh.mem.fr.os,hh.mem.fr.tape,hh.mem.fr.output,hh.mem.fr.size,hh.mem.fr.block⟩,hh.mem.rP,hh.mem.rQ,hh.mem.jH,hh.mem.names,hh.mem.hlen,fun k e h h1 h2=>(hh.mem.ent k e h h1 h2).drew,hh.mem.blk,hh.mem.yQ⟩
 ·exact R.mono (w:=w) (ok:=ok) (w':={ w with drawn:=w.drawn+1 }) (fun b hb=>⟨hb,rfl⟩) (.refl _) (hh.slot t ht)
 ·simp[Array.getD]at hl
 simp[Array.getD]at hl
end
def Runs (P:Program) (f:FuncId) (args:List AV) (E:List bn) (res:AV) (E':List bn):Prop:=
 ∀(ok:Nat→Prop) (X:List Nat) (H:List Hd) (w:World) (vals:Array Value),Mem ⟨w,ok,X,H⟩ ok H E w→vals.size=args.length→(∀i,i<args.length→R ok w H (args.getD i .junk) (vals.getD i undef))→
  Calls P f vals w fun e w'=>∃v ok' H',e=.returned v∧Mem ⟨w,ok,X,H⟩ ok' H' E' w'∧R ok' w' H' res v
theorem Holds.alB {C:Cx} {ok:Nat→Prop} {H:List Hd} {σ:St} {a:Act} {w:World} (h:Holds C ok H σ a w) (t:Nat):R ok w H (σ.slots.getD t .junk) (a.tmps.getD t undef):=h.get (.tmp t)
def St.enter (args:List AV) (n:Nat) (E:List bn):St:=⟨args++List.replicate (n-args.length) .junk,E,E.length⟩
end Go.Proofs.YtolgdkhlelfpoaaGreat
end
section
namespace Go.Proofs.YtolgdkhlelfpoaaGreat
open Go.RowKit
theorem R.lit {ok:Nat→Prop} {w:World} {H:List Hd} {u v:Value} (h:R ok w H (.d (.lit u)) v):v=u:=by
 cases h with |d _ _ h=>cases h;rfl
structure Ty (P:Program) (t:TypeId) (agg:Bool) (size:Nat):Prop where
 agg:∀w,(isAgg t).run P w=.ok agg w
 size:∀w,(sizeOf t).run P w=.ok size w
def tyB (P:Program) (t:TypeId) (agg:Bool) (size:Nat):Bool:=
 (match P.underlying t with |some (.struct _)|some (.array _ _)=>agg|some _=>!agg|none=>false)&&(match P.info? t with |some i=>decide (i.size=size)|none=>false)
theorem jl {P:Program} {t:TypeId} {agg:Bool} {size:Nat} (h:tyB P t agg size=true):Ty P t agg size:=by
 unfold tyB at h;simp only[Bool.and_eq_true]at h;refine⟨fun w=>?_,fun w=>?_⟩
 ·have h1:=h.1;cases hu:P.underlying t with
  |none=>rw[hu]at h1;cases h1
  |some d=>
   rw[hu]at h1;have e:(underlying t).run P w=.ok d w:=by simp[underlying,hu]
   simp only[isAgg,Sem.run_bind,e,Result.andThen_ok];cases d<;>cases agg<;>simp_all
 have h2:=h.2;cases hi:P.info? t with
 |none=>rw[hi]at h2;cases h2
 |some i=>
  rw[hi]at h2;have :i.size=size:=by simpa using h2
  simp[sizeOf,typeInfo,hi,this]
section
variable {P : Program} {o : Oper} {es : List bn}
theorem mem1 {α:Type} {p:α→Prop} {a:α} (h:∀n∈[a],p n):p a:=h a (by simp)
theorem mem2 {α:Type} {p:α→Prop} {a b:α} (h:∀n∈[a,b],p n):p a∧p b:=⟨h a (by simp),h b (by simp)⟩
theorem asn {x:Operand} {v:AV} (ho:o.op=.move x):bK P o [(x,v)] es v es:=
 .pure fun _ _ a _ _ _ hn=>⟨a.eval x,by simp[execOp,ho],hn (x,v) (by simp)⟩
theorem anO {x:Operand} {v:AV} (ho:o.op=.assign x):bK P o [(x,v)] es v es:=
 .pure fun _ _ a _ _ _ hn=>⟨a.eval x,by simp[execOp,ho],hn (x,v) (by simp)⟩
theorem aso {c x y:Operand} {v:AV} (b:Bool) (hb:b=true) (ho:o.op=.pick c x y):bK P o [(c,.d (.lit (.bool b))),(x,v)] es v es:=
 .pure fun _ _ a _ _ _ hn=>⟨a.eval x,by
  have:=(mem2 hn).1.lit;simp only at this
  simp[execOp,ho,this,asBool,hb],(mem2 hn).2⟩
theorem apM {c x y:Operand} {v:AV} (b:Bool) (hb:b=false) (ho:o.op=.pick c x y):bK P o [(c,.d (.lit (.bool b))),(y,v)] es v es:=
 .pure fun _ _ a _ _ _ hn=>⟨a.eval y,by
  have:=(mem2 hn).1.lit;simp only at this
  simp[execOp,ho,this,asBool,hb],(mem2 hn).2⟩
theorem Gs {op:BinOp} {t t':TypeId} {x y:Operand} {u v r:Value} (ho:o.op=.binOp op t x y t') (h:∀w,(binOp op t u v).run P w=.ok r w) (hu:u.oneCell'=true∧u matches .int _ _| .string _| .bool _):
 bK P o [(x,.d (.lit u)),(y,.d (.lit v))] es (.d (.lit r)) es:=
 .pure fun _ _ a w _ _ hn=>⟨r,by
  have h1:=(mem2 hn).1.lit;have h2:=(mem2 hn).2.lit;simp only at h1 h2
  have hg:(eqGuard op t x y u v).run P w=.ok () w:=by
   unfold eqGuard;cases u<;>simp at hu<;>(cases op<;>simp[pure,Sem.run_pure'])
  simp only[execOp,ho,h1,h2,Sem.run_bind,hg,h w,Result.andThen_ok,Sem.run_pure],.d _ _ (.lit _)⟩
theorem ame {op:UnOp} {t:TypeId} {x:Operand} {u r:Value} (ho:o.op=.unOp op t x) (h:∀w,(Op.unary op u).run P w=.ok r w):bK P o [(x,.d (.lit u))] es (.d (.lit r)) es:=
 .pure fun _ _ a w _ _ hn=>⟨r,by
  have h1:=(mem1 hn).lit;simp only at h1
  simp only[execOp,ho,h1,Sem.run_bind,h w,Result.andThen_ok,Sem.run_pure],.d _ _ (.lit _)⟩
theorem alC {s t:TypeId} {x:Operand} {u r:Value} (ho:o.op=.convert s t x) (h:∀w,(convert s t u).run P w=.ok r w):bK P o [(x,.d (.lit u))] es (.d (.lit r)) es:=
 .pure fun _ _ a w _ _ hn=>⟨r,by
  have h1:=(mem1 hn).lit;simp only at h1
  simp only[execOp,ho,h1,Sem.run_bind,h w,Result.andThen_ok,Sem.run_pure],.d _ _ (.lit _)⟩
theorem amf {x:Operand} {i:Nat} {xs:List AV} {v:AV} (ho:o.op=.extract x i) (hv:xs[i]? =some v):bK P o [(x,.eH xs)] es v es:=
 .pure fun ok H a w _ _ hn=>by
  have h1:=mem1 hn;simp only at h1;generalize he:a.eval x=u at h1;cases h1 with
  |eH _ vs hl h=>
   obtain⟨hi,hv'⟩:=List.getElem?_eq_some_iff.1 hv;have h2:=h i hi;have e1:xs.getD i .junk=v:=by simp[List.getD,hi,hv']
   have hiv:i<vs.size:=by omega
   have e2:vs.getD i undef=vs[i]:=by simp[Array.getD,hiv]
   rw[e1,e2]at h2;exact⟨vs[i],by simp[execOp,ho,he,Instr.extract,hiv],h2⟩
theorem atV {x:Operand} {t e:TypeId} {xs:List D} (ht:P.underlying t=some (.slice e)) (ho:o.op=.call { callee:=.builtin .len,args:=#[x],argTypes:=#[t] }):
 bK P o [(x,.d (.sl xs))] es (.d (.lit (.int .i64 xs.length))) es:=
 .pure fun ok H a w _ _ hn=>by
  have h1:=mem1 hn;simp only at h1;generalize he:a.eval x=u at h1;have hu:(underlying t).run P w=.ok (.slice e) w:=by simp[underlying,ht]
  refine⟨_,?_,.d _ _ (.lit _)⟩;cases h1 with
  |d _ _ h=>
   cases h with
   |sl0 ad cap=>simp[execOp,ho,resolve,invoke,builtin,Builtin.len_,he,hu,goInt]
   |sl _ b off cap size=>simp[execOp,ho,resolve,invoke,builtin,Builtin.len_,he,hu,goInt]
theorem amg {x:Operand} {t:TypeId} {s:ByteArray} (ht:P.underlying t=some .string) (ho:o.op=.call { callee:=.builtin .len,args:=#[x],argTypes:=#[t] }):
 bK P o [(x,.d (.lit (.string s)))] es (.d (.lit (.int .i64 s.size))) es:=
 .pure fun ok H a w _ _ hn=>by
  have h1:=(mem1 hn).lit;simp only at h1;have hu:(underlying t).run P w=.ok .string w:=by simp[underlying,ht]
  exact⟨_,by simp[execOp,ho,resolve,invoke,builtin,Builtin.len_,h1,hu,goInt],.d _ _ (.lit _)⟩
theorem jy {es:List bn} {H:List Hd} {ok:Nat→Prop} {w:World} (he:∀(k:Nat) (e:bn) (h:Hd),es[k]? =some e→H[k]? =some h→iL ok w H h e) (hl:H.length=es.length) {k:Nat} {e:bn} (hk:es[k]? =some e):
 ∃h,H[k]? =some h∧iL ok w H h e:=by
 have hlt:k<H.length:=by rw[hl];exact(List.getElem?_eq_some_iff.1 hk).1
 exact⟨H[k],by simp[hlt],he k e _ hk (by simp[hlt])⟩
theorem amh {x:Operand} {t e e':TypeId} {k s:Nat} {xs:List D} (hk:es[k]? =some (.arr e' s xs)) (ht:P.underlying t=some (.slice e)) (ho:o.op=.call { callee:=.builtin .len,args:=#[x],argTypes:=#[t] }):
 bK P o [(x,.aK k)] es (.d (.lit (.int .i64 xs.length))) es:=
 .pure fun ok H a w hent hl hn=>by
  have h1:=mem1 hn;simp only at h1;generalize he:a.eval x=u at h1;have hu:(underlying t).run P w=.ok (.slice e) w:=by simp[underlying,ht]
  obtain⟨h,hh,hok⟩:=jy hent hl hk;refine⟨_,?_,.d _ _ (.lit _)⟩;cases h1 with
  |aK _ ad n cap s' hH=>
   rw[hh]at hH;obtain rfl:=Option.some.inj hH;obtain⟨_,_,ys,⟨_,ho2⟩,_⟩:=hok
   have hn':n=xs.length:=by
    rcases ho2 with⟨h2,h3⟩|⟨g,cap',cur,h2,_⟩
    ·simp at h2;omega
    simp at h2;omega
   subst hn';simp[execOp,ho,resolve,invoke,builtin,Builtin.len_,he,hu,goInt]
structure bU (P:Program) (t:TypeId) (f off:Nat):Prop where
 run:∀(b o:Nat) w,(Instr.fieldAt t (.pointer (some ⟨b,o,none⟩)) f).run P w=.ok (.pointer (some ⟨b,o+off,none⟩)) w
def anP (P:Program) (t:TypeId) (f off:Nat):Bool:=
 match P.underlying t with
 |some (.struct fs)=>match fs[f]? with
  |some fd=>decide (fd.offset=off)&&(match P.info? fd.type with |some i=>decide (i.size≠0)|none=>false)
  |none=>false
 |_=>false
theorem bI {P:Program} {t:TypeId} {f off:Nat} (h:anP P t f off=true):bU P t f off:=by
 unfold anP at h;refine⟨fun b o w=>?_⟩;split at h
 ·rename_i fs hu;split at h
  ·rename_i fd hf;simp only[Bool.and_eq_true,decide_eq_true_eq]at h;obtain⟨h1,h2⟩:=h;split at h2
   ·rename_i i hi;have hs:(sizeOf fd.type).run P w=.ok i.size w:=by simp[sizeOf,typeInfo,hi]
    have h3:i.size≠0:=by simpa using h2
    have hu':(underlying t).run P w=.ok (.struct fs) w:=by simp[underlying,hu]
    simp[Instr.fieldAt,hu',hf,Instr.sureAddr,fieldPlace,hs,h3,addr_add,h1]
   cases h2
  cases h
 cases h
theorem aiH {x:Operand} {t:TypeId} {f off o':Nat} {cs:List D} (hf:bU P t f off) (ho:o.op=.fieldAddr t x f):bK P o [(x,.d (.ref cs o'))] es (.d (.ref cs (o'+off))) es:=
 .pure fun ok H a w _ _ hn=>by
  have h1:=mem1 hn;simp only at h1;generalize he:a.eval x=u at h1;cases h1 with
  |d _ _ h=>
   cases h with
   |ref _ _ b p hok hfl hx hc=>
    refine⟨.pointer (some ⟨b,p+(o'+off),none⟩),?_,.d _ _ (.ref cs (o'+off) b p hok hfl hx hc)⟩;simp only[execOp,ho,he,Sem.run_bind,hf.run,Result.andThen_ok,Sem.run_pure,Nat.add_assoc]
theorem aiI {x:Operand} {t:TypeId} {f off k o':Nat} (hf:bU P t f off) (ho:o.op=.fieldAddr t x f):bK P o [(x,.ptr k o')] es (.ptr k (o'+off)) es:=
 .pure fun ok H a w _ _ hn=>by
  have h1:=mem1 hn;simp only at h1;generalize he:a.eval x=u at h1;cases h1 with
  |ptr _ _ b s h=>
   refine⟨.pointer (some ⟨b,o'+off,none⟩),?_,.ptr _ _ b s h⟩;simp only[execOp,ho,he,Sem.run_bind,hf.run,Result.andThen_ok,Sem.run_pure]
theorem ahJ {x:Operand} {t:TypeId} {f off k i o':Nat} (hf:bU P t f off) (ho:o.op=.fieldAddr t x f):bK P o [(x,.jV k i o')] es (.jV k i (o'+off)) es:=
 .pure fun ok H a w _ _ hn=>by
  have h1:=mem1 hn;simp only at h1;generalize he:a.eval x=u at h1;cases h1 with
  |jV _ _ _ b n cap s h=>
   refine⟨.pointer (some ⟨b,i*s+(o'+off),none⟩),?_,.jV _ _ _ b n cap s h⟩;simp only[execOp,ho,he,Sem.run_bind,hf.run,Result.andThen_ok,Sem.run_pure,Nat.add_assoc]
theorem apN {x y:Operand} {t e:TypeId} {k:IntKind} {i:Int} {xs:List D} {el:D} {agg:Bool} {size:Nat} (ht:P.underlying t=some (.slice e)) (hT:Ty P e agg size) (h0:0≤i) (hi:xs[i.toNat]? =some el) (hs:el.cells.length=size)
 (ho:o.op=.indexAddr t x y):bK P o [(x,.d (.sl xs)),(y,.d (.lit (.int k i)))] es (.d (.ref el.cells 0)) es:=
 .pure fun ok H a w _ _ hn=>by
  have h1:=(mem2 hn).1;have h2:=(mem2 hn).2.lit;simp only at h1 h2;generalize he:a.eval x=u at h1;have hu:(underlying t).run P w=.ok (.slice e) w:=by simp[underlying,ht]
  obtain⟨hlt,hel⟩:=List.getElem?_eq_some_iff.1 hi;cases h1 with
  |d _ _ h=>
   cases h with
   |sl0 ad cap=>simp at hlt
   |sl _ b off cap size' hcap hok hs' hf hx hc=>
    have hd:xs.getD i.toNat dz=el:=by simp[List.getD,hlt,hel]
    have hsz:size'=size:=by rw[←hs' _ hlt,hd,hs]
    subst hsz;refine⟨.pointer (some ⟨b,off+i.toNat*size'+0,none⟩),?_,.d _ _ (.ref el.cells 0 b (off+i.toNat*size') (fun h=>hok (by omega) (by rw[hs]at h;exact h)) ?_ ?_ ?_)⟩
    ·have hlen:0≤i∧i<(xs.length:Int):=⟨h0,by omega⟩
     simp only[execOp,ho,he,h2,Instr.indexAt,asIntOf,Sem.run_bind,Sem.run_pure,hu,Result.andThen_ok,Sem.run_ite,hlen,and_self,if_true,hT.size,addr_add,Nat.add_zero]
    ·intro j hj;rw[hs]at hj;rw[←hd];exact hf _ hlt j hj
    ·intro j hj;rw[hs]at hj;rw[Nat.add_assoc];exact hx _ hlt j hj
    intro j hj;rw[hs]at hj;rw[Nat.add_assoc,←hd];exact hc _ hlt j hj
theorem aiJ {x y:Operand} {t e e':TypeId} {kd:IntKind} {i:Int} {k size:Nat} {xs:List D} {agg:Bool} (hk:es[k]? =some (.arr e' size xs)) (ht:P.underlying t=some (.slice e)) (hT:Ty P e agg size) (h0:0≤i) (hi:i.toNat<xs.length)
 (ho:o.op=.indexAddr t x y):bK P o [(x,.aK k),(y,.d (.lit (.int kd i)))] es (.jV k i.toNat 0) es:=
 .pure fun ok H a w hent hl hn=>by
  have h1:=(mem2 hn).1;have h2:=(mem2 hn).2.lit;simp only at h1 h2;generalize he:a.eval x=u at h1;have hu:(underlying t).run P w=.ok (.slice e) w:=by simp[underlying,ht]
  obtain⟨h,hh,hok⟩:=jy hent hl hk;cases h1 with
  |aK _ ad n cap s' hH=>
   rw[hh]at hH;obtain rfl:=Option.some.inj hH;obtain⟨hs,_,ys,⟨_,ho2⟩,_⟩:=hok;simp only at hs;subst hs;rcases ho2 with⟨h2',h3⟩|⟨g,cap',cur,h2',_⟩
   ·omega
   simp only[Value.slice.injEq]at h2';obtain⟨rfl,rfl,rfl⟩:=h2';refine⟨.pointer (some ⟨g,i.toNat*s'+0,none⟩),?_,.jV _ _ _ _ _ _ _ hh⟩;have hlen:0≤i∧i<(xs.length:Int):=⟨h0,by omega⟩
   simp only[execOp,ho,he,h2,Instr.indexAt,asIntOf,Sem.run_bind,Sem.run_pure,hu,Result.andThen_ok,Sem.run_ite,hlen,and_self,if_true,hT.size,addr_add,Nat.zero_add,Nat.add_zero]
theorem aiK {x y:Operand} {t:TypeId} {k:IntKind} {i:Int} {s:ByteArray} {c:UInt8} (ht:P.underlying t=some .string) (h0:0≤i) (hi:s[i.toNat]? =some c) (ho:o.op=.index t x y):
 bK P o [(x,.d (.lit (.string s))),(y,.d (.lit (.int k i)))] es (.d (.lit (.int .u8 c.toNat))) es:=
 .pure fun ok H a w _ _ hn=>by
  have h1:=(mem2 hn).1.lit;have h2:=(mem2 hn).2.lit;simp only at h1 h2;have hu:(underlying t).run P w=.ok .string w:=by simp[underlying,ht]
  exact⟨_,by simp only[execOp,ho,h1,h2,Instr.index,asIntOf,Sem.run_bind,Sem.run_pure,hu,Result.andThen_ok,h0,if_true,hi],.d _ _ (.lit _)⟩
def nY (l:List AV):List D:=l.map fun | .d x=>x|_=>dz
def AV.xk:AV→Bool
 | .d _=>true
 |_=>false
theorem R.toD {ok:Nat→Prop} {w:World} {H:List Hd} {x:AV} {v:Value} (h:R ok w H x v) (hd:x.xk=true):RD ok w ((fun | .d x=>x|_=>dz) x) v:=by
 cases h with
 |d _ _ h=>exact h
 |_=>simp[AV.xk]at hd
def qh (agg:Bool) (cs:List D) (off n:Nat):D:=if agg then .agg ((cs.drop off).take n)else cs.getD off dz
theorem WQ {P:Program} {ok:Nat→Prop} {w:World} {t:TypeId} {agg:Bool} {n b p off:Nat} {cs:List D} (hT:Ty P t agg n) (hn:off+n≤cs.length) (h1:agg=false→n=1)
 (hf:∀i,i<cs.length→(cs.getD i dz).leaf=true) (hx:∀j,j<cs.length→(w.cell? ⟨b,p+j,none⟩).isSome=true) (hc:∀j,j<cs.length→RD ok w (cs.getD j dz) (cellAt w b (p+j))):
 ∃v,(Instr.loadAt t (.pointer (some ⟨b,p+off,none⟩))).run P w=.ok v w∧RD ok w (qh agg cs off n) v:=by
 have hget:∀j,j<cs.length→w.cell? ⟨b,p+j,none⟩=some (cellAt w b (p+j)):=by
  intro j hj;have:=hx j hj;obtain⟨u,hu⟩:=Option.isSome_iff_exists.1 this;simp[cellAt,hu]
 cases agg with
 |false=>
  have:=h1 rfl;subst this;refine⟨cellAt w b (p+off),?_,hc off (by omega)⟩;have hg:=hget off (by omega);simp[Instr.loadAt,Instr.sureAddr,loadVar,hT.agg,hg]
 |true=>
  let vs:Array Value:=((List.range n).map fun j=>cellAt w b (p+(off+j))).toArray
  have hvs:vs.size=n:=by simp[vs]
  have hvg:∀j,j<n→vs.getD j undef=cellAt w b (p+(off+j)):=by
   intro j hj;simp[vs,Array.getD,hj]
  refine⟨.agg vs,?_,?_⟩
  ·simp only[Instr.loadAt,Instr.sureAddr,Sem.run_bind,Sem.run_pure,Result.andThen_ok]
   have h:=adr (P:=P) w t b (p+off) vs (hT.agg w) (by rw[hvs];exact hT.size w) (fun j hj=>by
    rw[hvs]at hj;rw[hvg j hj,Nat.add_assoc]
    exact hget (off+j) (by omega))
   exact h
  simp only[qh,if_true];have hlen:((cs.drop off).take n).length=n:=by simp;omega
  have hg:∀i,i<n→((cs.drop off).take n).getD i dz=cs.getD (off+i) dz:=by
   intro i hi;simp[List.getD,List.getElem?_take_of_lt hi,List.getElem?_drop]
  refine .agg _ vs (by rw[hlen,hvs]) (fun i hi=>?_) (fun i hi=>?_)
  ·rw[hlen]at hi;rw[hg i hi];exact hf _ (by omega)
  rw[hlen]at hi;rw[hg i hi,hvg i hi];exact hc _ (by omega)
theorem akB {x:Operand} {t:TypeId} {agg:Bool} {n off:Nat} {cs:List D} (hT:Ty P t agg n) (hn:off+n≤cs.length) (h1:agg=false→n=1) (ho:o.op=.load t x):
 bK P o [(x,.d (.ref cs off))] es (.d (qh agg cs off n)) es:=
 .pure fun ok H a w _ _ hn'=>by
  have h1':=mem1 hn';simp only at h1';generalize he:a.eval x=u at h1';cases h1' with
  |d _ _ h=>
   cases h with
   |ref _ _ b p hok hf hx hc=>
    obtain⟨v,hr,hd⟩:=WQ hT hn h1 hf hx hc;exact⟨v,by simp only[execOp,ho,he,Sem.run_bind,hr,Result.andThen_ok,Sem.run_pure],.d _ _ hd⟩
theorem Dy (l:List AV):(nY l).length=l.length:=by simp[nY]
theorem ahe {l:List AV} {i:Nat} (h:i<l.length):(nY l).getD i dz=(fun | .d x=>x|_=>dz) (l.getD i .junk):=by
 simp[nY,List.getD,h]
theorem WR {ok:Nat→Prop} {w:World} {H:List Hd} {h:Hd} {cs:List AV} (he:iL ok w H h (.box cs)) (hd:cs.all AV.xk=true):
 ∃b,h.v=.pointer (some ⟨b,0,none⟩)∧(∀i,i<(nY cs).length→((nY cs).getD i dz).leaf=true)∧(∀j,j<(nY cs).length→(w.cell? ⟨b,0+j,none⟩).isSome=true)∧(∀j,j<(nY cs).length→RD ok w ((nY cs).getD j dz) (cellAt w b (0+j))):=by
 obtain⟨b,vs,T,h1,h2,h3,h4⟩:=he;rw[List.all_eq_true]at hd
 have hcell:∀j,j<cs.length→w.cell? ⟨b,0+j,none⟩=some (vs.toList.getD j undef):=by
  intro j hj;rw[Nat.zero_add];have hj':j<vs.size:=by simpa using(by omega:j<vs.toList.length)
  simp[World.cell?,h2,hj',List.getD]
 refine⟨b,h1,fun i hi=>?_,fun j hj=>?_,fun j hj=>?_⟩
 ·rw[Dy]at hi;rw[ahe hi];have h5:=(h4 i hi).1;have h6:=hd (cs.getD i .junk) (by simp[List.getD,hi]);cases hx:cs.getD i .junk with
  |d x=>rw[hx]at h5;exact h5
  |_=>rw[hx]at h6;simp[AV.xk]at h6
 ·rw[Dy]at hj;rw[hcell j hj];rfl
 rw[Dy]at hj;rw[ahe hj];unfold cellAt;rw[hcell j hj];exact(h4 j hj).2.toD (hd (cs.getD j .junk) (by simp[List.getD,hj]))
theorem akC {x:Operand} {t:TypeId} {agg:Bool} {k n off:Nat} {cs:List AV} (hk:es[k]? =some (.box cs)) (hd:cs.all AV.xk=true) (hT:Ty P t agg n) (hn:off+n≤cs.length) (h1:agg=false→n=1) (ho:o.op=.load t x):
 bK P o [(x,.ptr k off)] es (.d (qh agg (nY cs) off n)) es:=
 .pure fun ok H a w hent hl hn'=>by
  have h1':=mem1 hn';simp only at h1';generalize he:a.eval x=u at h1';obtain⟨h,hh,hok⟩:=jy hent hl hk;obtain⟨b,hb,hf,hx,hc⟩:=WR hok hd;cases h1' with
  |ptr _ _ b' s hH=>
   rw[hh]at hH;obtain rfl:=Option.some.inj hH;simp at hb;subst hb;obtain⟨v,hr,hD⟩:=WQ hT (by rw[Dy];exact hn) h1 hf hx hc;rw[Nat.zero_add]at hr;exact⟨v,by simp only[execOp,ho,he,Sem.run_bind,hr,Result.andThen_ok,Sem.run_pure],.d _ _ hD⟩
theorem YF {x:Operand} {t:TypeId} {k off:Nat} {cs:List AV} {v:AV} (hk:es[k]? =some (.box cs)) (hv:cs[off]? =some v) (hT:Ty P t false 1) (ho:o.op=.load t x):bK P o [(x,.ptr k off)] es v es:=
 .pure fun ok H a w hent hl hn'=>by
  have h1':=mem1 hn';simp only at h1';generalize he:a.eval x=u at h1';obtain⟨h,hh,b,vs,T,hb,h2,h3,h4⟩:=jy hent hl hk;cases h1' with
  |ptr _ _ b' s hH=>
   rw[hh]at hH;obtain rfl:=Option.some.inj hH;simp at hb;subst hb;obtain⟨hlt,hv'⟩:=List.getElem?_eq_some_iff.1 hv;have h5:=(h4 off hlt).2;have e1:cs.getD off .junk=v:=by simp[List.getD,hlt,hv']
   have hlt':off<vs.size:=by simpa using(by omega:off<vs.toList.length)
   have e2:vs.toList.getD off undef=vs[off]:=by simp[List.getD,hlt']
   rw[e1,e2]at h5;refine⟨vs[off],?_,h5⟩;have hc:w.cell? ⟨b',off,none⟩=some vs[off]:=by simp[World.cell?,h2,hlt']
   simp[execOp,ho,he,Instr.loadAt,Instr.sureAddr,loadVar,hT.agg,hc]
end
end Go.Proofs.YtolgdkhlelfpoaaGreat
end
section
namespace Go.Proofs.YtolgdkhlelfpoaaGreat
open Go.RowKit
theorem Mem.change {C:Cx} {ok ok':Nat→Prop} {H H':List Hd} {es es':List bn} {w w':World} (hm:Mem C ok H es w) (B:Nat→Prop)
 (hos:w'.os=w.os) (htape:w'.tape=w.tape) (hout:w'.output=w.output) (hsize:w.heap.size≤w'.heap.size)
 (hblk:∀b,b<w.heap.size→¬B b→w'.heap[b]? =w.heap[b]?) (hB:∀b,B b→b<w.heap.size→¬ok b∧(C.w0.heap.size≤b∨b∈C.X))
 (hok:∀b,ok b→ok' b) (hok':∀b,ok' b→ok b∨(w.heap.size≤b∧b<w'.heap.size)) (anQ:Names H H') (hlen:H'.length=es'.length)
 (hent:∀(k:Nat) (e:bn) (h:Hd),es'[k]? =some e→H'[k]? =some h→
  (es[k]? =some e∧H[k]? =some h∧(e.live=true→∀b,eG h.v=some b→¬B b))∨
  (iL ok' w' H' h e∧(e.live=true→∀b,eG h.v=some b→¬ok' b∧b<w'.heap.size∧(C.w0.heap.size≤b∨b∈C.X)∧
   ∀(k':Nat) (e':bn) (h':Hd),k'≠k→es'[k']? =some e'→e'.live=true→H'[k']? =some h'→eG h'.v≠some b))):
 Mem C ok' H' es' w'∧Grow ok w ok' w':=by
 have hg:Grow ok w ok' w':=fun b hb=>⟨hok b hb,hblk b (hm.jH b hb) (fun hb'=>(hB b hb' (hm.jH b hb)).1 hb)⟩
 refine⟨⟨⟨hos.trans hm.fr.os,htape.trans hm.fr.tape,hout.trans hm.fr.output,Nat.le_trans hm.fr.size hsize,fun k hk hx=>?_⟩,fun b hb=>hok b (hm.rP b hb),?_,?_,hm.names.trans anQ,hlen,?_,?_,?_⟩,hg⟩
 ·have hkw:k<w.heap.size:=Nat.lt_of_lt_of_le hk hm.fr.size;rw[hblk k hkw (fun hb=>(hB k hb hkw).2.elim (fun h=>by omega) hx)];exact hm.fr.block k hk hx
 ·intro b hb;rcases hok' b hb with h|⟨h,_⟩
  ·exact hm.rQ b h
  exact .inr (.inl (Nat.le_trans hm.fr.size h))
 ·intro b hb;rcases hok' b hb with h|⟨_,h⟩
  ·exact Nat.lt_of_lt_of_le (hm.jH b h) hsize
  exact h
 ·intro k e h he hh;rcases hent k e h he hh with⟨h1,h2,h3⟩|⟨h1,_⟩
  ·exact(hm.ent k e h h1 h2).mono hg anQ (fun hl b hb=>hblk b (hm.blk k e h b h1 hl h2 hb).2.1 (h3 hl b hb))
  exact h1
 ·intro k e h b he hl hh hb;rcases hent k e h he hh with⟨h1,h2,h3⟩|⟨_,h1⟩
  ·have:=hm.blk k e h b h1 hl h2 hb;refine⟨fun hb'=>?_,Nat.lt_of_lt_of_le this.2.1 hsize,this.2.2⟩;rcases hok' b hb' with h4|⟨h4,_⟩
   ·exact this.1 h4
   omega
  exact⟨(h1 hl b hb).1,(h1 hl b hb).2.1,(h1 hl b hb).2.2.1⟩
 intro k k' e e' h h' b he he' hl hl' hh hh' hb hb';apply Classical.byContradiction;intro hne;rcases hent k e h he hh with⟨h1,h2,h3⟩|⟨_,h1⟩
 ·rcases hent k' e' h' he' hh' with⟨h1',h2',h3'⟩|⟨_,h1'⟩
  ·exact hne (hm.yQ k k' e e' h h' b h1 h1' hl hl' h2 h2' hb hb')
  exact(h1' hl' b hb').2.2.2 k e h hne he hl hh hb
 exact(h1 hl b hb).2.2.2 k' e' h' (fun e=>hne e.symm) he' hl' hh' hb'
theorem O5 {α:Type} {l:List α} {i:Nat} {z:α} (h:i<l.length):l.getD i z=l[i]:=by simp[List.getD,h]
theorem Ad {α:Type} {l:List α} {a x:α} {k:Nat} (h:(l++[a])[k]? =some x):l[k]? =some x∨(k=l.length∧x=a):=by
 by_cases hk:k<l.length
 ·rw[List.getElem?_append_left hk]at h;exact .inl h
 have hk':=(List.getElem?_eq_some_iff.1 h).1;simp at hk';have :k=l.length:=by omega
 subst this;simp at h;exact .inr ⟨rfl,h.symm⟩
theorem Mem.push {C:Cx} {ok:Nat→Prop} {H:List Hd} {es:List bn} {w:World} (hm:Mem C ok H es w) (o:Obj) (h:Hd) (e:bn) (hb:∀b,eG h.v=some b→b=w.heap.size)
 (he:iL ok (w.alloc o) (H++[h]) h e):Mem C ok (H++[h]) (es++[e]) (w.alloc o)∧Grow ok w ok (w.alloc o):=by
 refine hm.change (fun _=>False) rfl rfl rfl (by simp) (fun b hb _=>Below.heap_alloc _ _ _ hb) (fun _ h=>h.elim) (fun _ h=>h) (fun _ h=>.inl h) (Names.push _ _) (by simp[hm.hlen]) ?_;intro k e' h' he' hh';rcases Ad he' with h1|⟨h1,h2⟩
 ·left;refine⟨h1,?_,fun _ _ _ h=>h⟩;have hk:k<H.length:=by rw[hm.hlen];exact(List.getElem?_eq_some_iff.1 h1).1
  rwa [List.getElem?_append_left hk]at hh'
 subst h2;have hk:k=H.length:=by rw[hm.hlen];exact h1
 subst hk;simp at hh';subst hh';refine .inr ⟨he,fun _ b hb'=>?_⟩;obtain rfl:=hb b hb';refine⟨fun h3=>absurd (hm.jH _ h3) (by omega),by simp,.inl hm.fr.size,fun k' e'' h'' hne hk' hl Qd YG=>?_⟩;rcases Ad hk' with h3|⟨h3,_⟩
 ·have hk2:k'<H.length:=by rw[hm.hlen];exact(List.getElem?_eq_some_iff.1 h3).1
  rw[List.getElem?_append_left hk2]at Qd;exact absurd (hm.blk k' e'' h'' _ h3 hl Qd YG).2.1 (by omega)
 rw[←hm.hlen]at h3;exact hne h3
theorem Mem.fresh {C:Cx} {ok:Nat→Prop} {H:List Hd} {es:List bn} {w:World} (hm:Mem C ok H es w) (o:Obj):
 Mem C (fun b=>ok b∨b=w.heap.size) H es (w.alloc o)∧Grow ok w (fun b=>ok b∨b=w.heap.size) (w.alloc o):=by
 refine hm.change (fun _=>False) rfl rfl rfl (by simp) (fun b hb _=>Below.heap_alloc _ _ _ hb) (fun _ h=>h.elim) (fun _ h=>.inl h) (fun b h=>?_) (.refl _) hm.hlen ?_
 ·rcases h with h|rfl
  ·exact .inl h
  exact .inr ⟨Nat.le_refl _,by simp⟩
 intro k e h he hh;exact .inl ⟨he,hh,fun _ _ _ h=>h⟩
theorem Mem.drew {C:Cx} {ok:Nat→Prop} {H:List Hd} {es:List bn} {w:World} (hm:Mem C ok H es w):Mem C ok H es w.drew∧Grow ok w ok w.drew:=
 hm.change (fun _=>False) rfl rfl rfl (Nat.le_refl _) (fun _ _ _=>rfl) (fun _ h=>h.elim) (fun _ h=>h) (fun _ h=>.inl h) (.refl _) hm.hlen fun _ _ _ he hh=>.inl ⟨he,hh,fun _ _ _ h=>h⟩
theorem iL.dead {ok:Nat→Prop} {w:World} {H:List Hd} {h:Hd}:iL ok w H h .dead:=trivial
theorem R.aag {ok:Nat→Prop} {w:World} {H:List Hd} {x:AV} {v:Value} (h:R ok w H x v) (hl:x.cells.all AV.leaf=true):Rs ok w H x.cells v.cells.toList:=by
 rw[List.all_eq_true]at hl;cases h with
 |d x v h=>
  cases h with
  |agg cs vs hs hf hc=>
   refine⟨by simp[AV.cells,D.cells,Value.cells,hs],fun i hi=>?_⟩;simp only[AV.cells,D.cells,List.length_map]at hi;have e1:(AV.cells (.d (.agg cs))).getD i .junk=.d (cs.getD i dz):=by simp[AV.cells,D.cells,List.getD,hi]
   have hi2:i<vs.size:=by omega
   have e2:(Value.cells (.agg vs)).toList.getD i undef=vs.getD i undef:=by simp[Value.cells,List.getD,Array.getD,hi2]
   rw[e1,e2];exact⟨hf i hi,.d _ _ (hc i hi)⟩
  |lit v=>
   have h1:=hl (.d (.lit v)) (by simp[AV.cells,D.cells]);have e:v.cells= #[v]:=by cases v<;>first|rfl|(simp[AV.leaf,D.leaf,Value.oneCell']at h1)
   refine⟨by simp[AV.cells,D.cells,e],fun i hi=>?_⟩;simp[AV.cells,D.cells]at hi;subst hi;rw[e];exact⟨h1,.d _ _ (.lit v)⟩
  |sl0 ad cap=>
   refine⟨rfl,fun i hi=>?_⟩;simp[AV.cells,D.cells]at hi;subst hi;exact⟨rfl,.d _ _ (.sl0 ad cap)⟩
  |sl es b off cap size h1 h2 h3 h4 h5 h6=>
   refine⟨rfl,fun i hi=>?_⟩;simp[AV.cells,D.cells]at hi;subst hi;exact⟨rfl,.d _ _ (.sl es b off cap size h1 h2 h3 h4 h5 h6)⟩
  |ref cs off b o h1 h2 h3 h4=>
   refine⟨rfl,fun i hi=>?_⟩;simp[AV.cells,D.cells]at hi;subst hi;exact⟨rfl,.d _ _ (.ref cs off b o h1 h2 h3 h4)⟩
  |fn f first cap vs us h1 h2 h3 h4=>
   refine⟨rfl,fun i hi=>?_⟩;simp[AV.cells,D.cells]at hi;subst hi;exact⟨rfl,.d _ _ (.fn f first cap vs us h1 h2 h3 h4)⟩
  |Gq t x v h1=>
   refine⟨rfl,fun i hi=>?_⟩;simp[AV.cells,D.cells]at hi;subst hi;exact⟨rfl,.d _ _ (.Gq t x v h1)⟩
 |ptr k off b s h=>
  exact⟨rfl,fun i hi=>by simp[AV.cells]at hi;subst hi;exact⟨rfl,.ptr k off b s h⟩⟩
 |aK k ad n cap s h=>
  exact⟨rfl,fun i hi=>by simp[AV.cells]at hi;subst hi;exact⟨rfl,.aK k ad n cap s h⟩⟩
 |jV k i off b n cap s h=>
  exact⟨rfl,fun j hi=>by simp[AV.cells]at hi;subst hi;exact⟨rfl,.jV k i off b n cap s h⟩⟩
 |fn f first cap vs us h1 h2 h3 h4=>
  exact⟨rfl,fun i hi=>by simp[AV.cells]at hi;subst hi;exact⟨rfl,.fn f first cap vs us h1 h2 h3 h4⟩⟩
 |mp k v s hl h=>
  have e:v.cells= #[v]:=by cases v<;>first|rfl|(simp[Value.oneCell']at hl)
  exact⟨by simp[AV.cells,e],fun j hi=>by simp[AV.cells]at hi;subst hi;rw[e];exact⟨rfl,.mp k v s hl h⟩⟩
 |clip xs ad h=>exact⟨rfl,fun i hi=>by simp[AV.cells]at hi;subst hi;exact⟨rfl,.clip xs ad h⟩⟩
 |qR k ad n cap s h=>exact⟨rfl,fun i hi=>by simp[AV.cells]at hi;subst hi;exact⟨rfl,.qR k ad n cap s h⟩⟩
 |eH xs vs h1 h2=>have:=hl (.eH xs) (by simp[AV.cells]);simp[AV.leaf]at this
 |ag xs vs h1 hf h2=>
  refine⟨by simp[AV.cells,Value.cells,h1],fun i hi=>?_⟩;have hi2:i<vs.size:=by rw[h1];exact hi
  have e2:(Value.cells (.agg vs)).toList.getD i undef=vs.getD i undef:=by simp[Value.cells,List.getD,Array.getD,hi2]
  rw[e2];exact⟨hf i hi,h2 i hi⟩
 |junk v=>have:=hl .junk (by simp[AV.cells]);simp[AV.leaf]at this
section
variable {P : Program} {o : Oper} {es : List bn}
theorem aah (w:World):∀b,eG (Hd.v ⟨.pointer (some ⟨w.heap.size,0,none⟩),0⟩)=some b→b=w.heap.size:=fun b hb=>by simpa[eG]using hb.symm
theorem bK.eff {ns:List (Operand×AV)} {x:AV} {es':List bn}
 (h:∀(C:Cx) (ok:Nat→Prop) (H:List Hd) (a:Act) (w:World),Mem C ok H es w→(∀n∈ns,R ok w H n.2 (a.eval n.1))→
  ∃v w' ok' H',((execOp a.eval o).run P w=.ok (.value v) w'∨(v=undef∧(execOp a.eval o).run P w=.ok .skip w'))∧Grow ok w ok' w'∧Names H H'∧Mem C ok' H' es' w'∧R ok' w' H' x v):bK P o ns es x es':=by
 intro C ok H a w Q hm hn;obtain⟨v,w',ok',H',hr,h1,h2,h3,h4⟩:=h C ok H a w hm hn;unfold Oper.wp;rcases hr with hr|⟨rfl,hr⟩
 ·rw[hr];exact⟨v,ok',H',rfl,h1,h2,h3,h4⟩
 rw[hr];exact⟨undef,ok',H',rfl,h1,h2,h3,h4⟩
theorem atW {t:TypeId} {x:Operand} {v:AV} (hl:v.cells.all AV.leaf=true) (ho:o.op=.box t x):bK P o [(x,v)] es (.ptr es.length 0) (es++[.box v.cells]):=
 .eff fun C ok H a w hm hn=>by
  have h1:=mem1 hn;simp only at h1
  have hb:iL ok (w.alloc (.cells (a.eval x).cells t)) (H++[⟨.pointer (some ⟨w.heap.size,0,none⟩),0⟩]) ⟨.pointer (some ⟨w.heap.size,0,none⟩),0⟩ (.box v.cells):=
   ⟨w.heap.size,(a.eval x).cells,t,rfl,heap_alloc_new w _,(h1.aag hl).mono (fun b hb=>⟨hb,Below.heap_alloc _ _ _ (hm.jH b hb)⟩) (Names.push _ _)⟩
  obtain⟨h2,h3⟩:=hm.push (.cells (a.eval x).cells t) ⟨.pointer (some ⟨w.heap.size,0,none⟩),0⟩ _ (aah w) hb;refine⟨_,_,ok,_,.inl ?_,h3,Names.push _ _,h2,.ptr _ _ w.heap.size 0 (by rw[←hm.hlen];simp)⟩;simp[execOp,ho,Instr.box,newVar,newRow]
def zD :Value→D
 | .slice none 0 0=>.sl []
 |v=>.lit v
theorem aai {ok:Nat→Prop} {w:World} (v:Value):RD ok w (zD v) v:=by
 unfold zD;split
 ·exact .sl0 none 0
 exact .lit v
theorem Vq {v:Value} (h:v.oneCell'=true):(zD v).leaf=true:=by
 unfold zD;split
 ·rfl
 exact h
def iH (z:Value):List AV:=z.cells.toList.map fun v=>.d (zD v)
theorem apO {t:TypeId} {z:Value} (hz:(P.info? t).bind (·.zero)=some z) (hl:z.cells.all (·.oneCell')=true) (ho:o.op=.alloc t):bK P o [] es (.ptr es.length 0) (es++[.box (iH z)]):=
 .eff fun C ok H a w hm hn=>by
  have hb:iL ok (w.alloc (.cells z.cells t)) (H++[⟨.pointer (some ⟨w.heap.size,0,none⟩),0⟩]) ⟨.pointer (some ⟨w.heap.size,0,none⟩),0⟩ (.box (iH z)):=by
   refine⟨w.heap.size,z.cells,t,rfl,heap_alloc_new w _,by simp[iH],fun i hi=>?_⟩;simp only[iH,List.length_map,Array.length_toList]at hi;have e1:(iH z).getD i .junk=.d (zD z.cells[i]):=by simp[iH,List.getD,hi]
   have e2:z.cells.toList.getD i undef=z.cells[i]:=by simp[List.getD,hi]
   rw[e1,e2];exact⟨Vq ((Array.all_eq_true_iff_forall_mem.1 hl) _ (by simp)),.d _ _ (aai _)⟩
  obtain⟨h2,h3⟩:=hm.push (.cells z.cells t) ⟨.pointer (some ⟨w.heap.size,0,none⟩),0⟩ _ (aah w) hb;refine⟨_,_,ok,_,.inl ?_,h3,Names.push _ _,h2,.ptr _ _ w.heap.size 0 (by rw[←hm.hlen];simp)⟩;obtain⟨i,hi,hz'⟩:=Option.bind_eq_some_iff.1 hz;simp[execOp,ho,Instr.alloc,zeroValue,typeInfo,hi,hz',newVar,newRow]
theorem mQ {l:List bn} {k j:Nat} {a x:bn} (hk:k<l.length) (h:(l.set k a)[j]? =some x):(j=k∧x=a)∨(j≠k∧l[j]? =some x):=by
 by_cases e:k=j
 ·subst e;simp[hk]at h;exact .inl ⟨rfl,h.symm⟩
 rw[List.getElem?_set_ne e]at h;exact .inr ⟨fun h'=>e h'.symm,h⟩
theorem Mem.upd {C:Cx} {ok:Nat→Prop} {H:List Hd} {w w':World} (hm:Mem C ok H es w) {k:Nat} {e0 e:bn} {h:Hd} {b:Nat} (hk:es[k]? =some e0) (hl0:e0.live=true) (hh:H[k]? =some h) (hb:eG h.v=some b)
 (hos:w'.os=w.os) (htape:w'.tape=w.tape) (hout:w'.output=w.output) (hsize:w'.heap.size=w.heap.size)
 (hblk:∀c,c≠b→w'.heap[c]? =w.heap[c]?) (he:Grow ok w ok w'→iL ok w' H h e):Mem C ok H (es.set k e) w'∧Grow ok w ok w':=by
 have h0:=hm.blk k e0 h b hk hl0 hh hb;have hg:Grow ok w ok w':=fun c hc=>⟨hc,hblk c (fun e=>h0.1 (e▸hc))⟩
 refine hm.change (fun c=>c=b) hos htape hout (by omega) (fun c _ hc=>hblk c hc) (fun c hc _=>by subst hc;exact⟨h0.1,h0.2.2⟩) (fun _ h=>h) (fun _ h=>.inl h) (.refl _) (by simp[hm.hlen]) ?_;intro j e' h' hj hh';have hkl:k<es.length:=(List.getElem?_eq_some_iff.1 hk).1;rcases mQ hkl hj with⟨rfl,rfl⟩|⟨hne,hj'⟩
 ·rw[hh]at hh';obtain rfl:=Option.some.inj hh';refine .inr ⟨he hg,fun _ c hc=>?_⟩;rw[hb]at hc;obtain rfl:=Option.some.inj hc;refine⟨h0.1,by omega,h0.2.2,fun k' e'' h'' hne hk' hl' Qd YG=>hne ?_⟩;rcases mQ hkl hk' with⟨rfl,_⟩|⟨_,hk''⟩
  ·rfl
  exact hm.yQ k' j e'' e0 h'' h b hk'' hk hl' hl0 Qd hh YG hb
 refine .inl ⟨hj',hh',fun hl c hc hcb=>hne ?_⟩;subst hcb;exact hm.yQ j k e' e0 h' h c hj' hk hl hl0 hh' hh hc hb
theorem Qe (w:World) (g:Nat) (cs:Array Value) (k:Nat) (h:k≠g):(w.setRow g cs).heap[k]? =w.heap[k]?:=setRow_other w g k cs h
def setAt {α:Type} (cs:List α) (off:Nat) (ys:List α):List α:=cs.take off++ys++cs.drop (off+ys.length)
theorem lG {α:Type} {cs ys:List α} {off:Nat} (h:off+ys.length≤cs.length):(setAt cs off ys).length=cs.length:=by simp[setAt];omega
theorem xq {α:Type} {cs ys:List α} {off:Nat} (h:off+ys.length≤cs.length) (i:Nat) (z:α):(setAt cs off ys).getD i z=if off≤i∧i<off+ys.length then ys.getD (i-off) z else cs.getD i z:=by
 unfold setAt;have h1:(cs.take off).length=off:=by simp;omega
 by_cases hi:i<off
 ·rw[if_neg (by omega)];simp only[List.getD];rw[List.append_assoc,List.getElem?_append_left (by omega),List.getElem?_take_of_lt hi]
 by_cases hj:i<off+ys.length
 ·rw[if_pos (by omega)];simp only[List.getD];rw[List.append_assoc,List.getElem?_append_right (by omega),h1,List.getElem?_append_left (by omega)]
 rw[if_neg (by omega)];simp only[List.getD];rw[List.getElem?_append_right (by simp;omega),List.getElem?_drop];congr 2;simp;omega
theorem YH {t:TypeId} {x y:Operand} {k off n:Nat} {cs:List AV} {v:AV} (hk:es[k]? =some (.box cs)) (hl:v.cells.all AV.leaf=true) (hs:∀w,(sizeOf t).run P w=.ok n w) (hn:v.cells.length=n) (hle:off+n≤cs.length) (ho:o.op=.store t x y):
 bK P o [(x,.ptr k off),(y,v)] es .junk (es.set k (.box (setAt cs off v.cells))):=
 .eff fun C ok H a w hm hn'=>by
  have h1:=(mem2 hn').1;have h2:=(mem2 hn').2;simp only at h1 h2;generalize he:a.eval x=u at h1;obtain⟨h,hh,hok⟩:=jy hm.ent hm.hlen hk;obtain⟨b,vs,T,hb,hblk,hvs,hrs⟩:=hok;have hcells:=h2.aag hl;cases h1 with
  |ptr _ _ b' s hH=>
   rw[hh]at hH;obtain rfl:=Option.some.inj hH;simp at hb;subst hb;have hvl:(a.eval y).cells.toList.length=n:=by rw[hcells.1,hn]
   have ax8:vs.size=cs.length:=by simpa using hvs
   have hsz:(a.eval y).cells.size=n:=by simpa using hvl
   have hst:=run_storeCells_at (P:=P) b' off T (a.eval y).cells.toList 0 vs w hblk (by rw[hvl];omega) (fun u hu=>by
    obtain⟨i,hi,rfl⟩:=List.getElem_of_mem hu;have h5:=hcells.2 i (by rw[←hcells.1];exact hi);have:=h5.2.leaf h5.1
    rwa [O5 hi]at this)
   simp only[Nat.add_zero]at hst;have hlt:b'<w.heap.size:=(Array.getElem?_eq_some_iff.1 hblk).1
   obtain⟨h3,h4⟩:=hm.upd (e:=.box (setAt cs off v.cells)) (w':=w.setRow b' (vs.toList.take off++(a.eval y).cells.toList++vs.toList.drop (off+(a.eval y).cells.toList.length)).toArray) hk rfl hh rfl rfl rfl rfl (by simp[World.setRow]) (fun c hc=>Qe _ _ _ _ hc) (fun hg=>by
    refine⟨b',_,T,rfl,setRow_heap w b' vs _ T (0,0) hblk,?_,fun i hi=>?_⟩
    ·have e1:(vs.toList.take off++(a.eval y).cells.toList++vs.toList.drop (off+(a.eval y).cells.toList.length))=setAt vs.toList off (a.eval y).cells.toList:=rfl;rw[e1,List.toList_toArray,lG (by have:=vs.length_toList;omega),lG (by omega)];simpa using hvs
    have e1:(vs.toList.take off++(a.eval y).cells.toList++vs.toList.drop (off+(a.eval y).cells.toList.length))=setAt vs.toList off (a.eval y).cells.toList:=rfl;rw[lG (by omega)]at hi;rw[e1,List.toList_toArray,xq (by have:=vs.length_toList;omega),xq (by omega),hvl,hn];split
    ·have h5:=hcells.2 (i-off) (by omega);exact⟨h5.1,h5.2.mono hg (.refl _)⟩
    exact⟨(hrs i hi).1,(hrs i hi).2.mono hg (.refl _)⟩)
   refine⟨undef,_,ok,H,.inr ⟨rfl,?_⟩,h4,.refl _,h3,.junk _⟩;simp only[execOp,ho,he,Instr.storeAt,Instr.sureAddr,storeVar,Sem.run_bind,Sem.run_pure,Result.andThen_ok,hs,hsz,ne_eq,not_true_eq_false,if_false,hst]
end
end Go.Proofs.YtolgdkhlelfpoaaGreat
end
section
namespace Go.Proofs.YtolgdkhlelfpoaaGreat
open Go.RowKit
theorem Ik (x:D) (es:List D):flat (x::es)=x.cells.map .d++flat es:=by simp[flat]
theorem L9 (xs ys:List D):flat (xs++ys)=flat xs++flat ys:=by simp[flat]
theorem tN {size:Nat}:∀{es:List D},(∀x∈es,x.cells.length=size)→(flat es).length=es.length*size
 | [],_=>by simp[flat]
 |x::es,h=>by
  rw[Ik,List.length_append,List.length_map,h x (by simp),tN (fun y hy=>h y (List.mem_cons_of_mem _ hy)),List.length_cons,Nat.succ_mul,Nat.add_comm]
theorem flat_get {size:Nat}:∀{es:List D},(∀x∈es,x.cells.length=size)→∀i j,i<es.length→j<size→(flat es).getD (i*size+j) .junk=.d ((es.getD i dz).cells.getD j dz)
 | [],_,i,j,hi,_=>by simp at hi
 |x::es,h,0,j,_,hj=>by
  have hx:=h x (by simp);rw[Ik,Nat.zero_mul,Nat.zero_add];simp only[List.getD];rw[List.getElem?_append_left (by simp[hx,hj])];have hj':j<x.cells.length:=by omega
  simp[hj']
 |x::es,h,i+1,j,hi,hj=>by
  have hx:=h x (by simp);have ih:=flat_get (fun y hy=>h y (List.mem_cons_of_mem _ hy)) i j (by simpa using hi) hj;rw[Ik];simp only[List.getD]at ih ⊢;rw[List.getElem?_append_right (by simp[hx,Nat.succ_mul];omega)];have e:(i+1)*size+j-(x.cells.map AV.d).length=i*size+j:=by simp[hx,Nat.succ_mul];omega
  rw[e,ih];simp
section
variable {P : Program} {o : Oper} {es : List bn}
structure Src (w:World) (v:Value) (m size:Nat) (news:List Value):Prop where
 len:news.length=m*size
 one:∀u∈news,u.oneCell'=true
 at_:(∃ad c,v=.slice (some ad) m c∧∀(j:Nat) (u:Value),news[j]? =some u→w.cell? (ad.add j)=some u)∨(∃c,v=.slice none 0 c∧m=0)
theorem KJ {ok:Nat→Prop} {w:World} (H:List Hd) {ys:List D} {v:Value} {size:Nat} (h:RD ok w (.sl ys) v) (hs:∀x∈ys,x.cells.length=size):
 ∃news,Src w v ys.length size news∧Rs ok w H (flat ys) news:=by
 cases h with
 |sl0 ad cap=>
  refine⟨[],⟨by simp,by simp,?_⟩,by simp[flat],fun i hi=>by simp[flat]at hi⟩;cases ad with
  |none=>exact .inr ⟨cap,rfl,rfl⟩
  |some ad=>exact .inl ⟨ad,cap,rfl,fun j u h=>by simp at h⟩
 |sl _ b off cap size' hcap hok hs' hf hx hc=>
  by_cases hy:ys=[]
  ·subst hy;refine⟨[],⟨by simp,by simp,.inl ⟨⟨b,off,none⟩,cap,rfl,fun j u h=>by simp at h⟩⟩,by simp[flat],fun i hi=>by simp[flat]at hi⟩
  have hpos:0<ys.length:=List.length_pos_iff.2 hy;have hsz:size'=size:=by rw[←hs' 0 hpos];exact hs _ (by simp[List.getD,hpos])
  subst hsz;have hl:=tN hs
  have key:∀k,k<ys.length*size'→∃i j,k=i*size'+j∧i<ys.length∧j<size':=by
   intro k hk
   have hp:0<size':=by
    rcases Nat.eq_zero_or_pos size' with h0|h0
    ·rw[h0,Nat.mul_zero]at hk;omega
    exact h0
   exact⟨k/size',k % size',by rw[Nat.mul_comm];exact(Nat.div_add_mod k size').symm,Nat.div_lt_of_lt_mul (by rwa [Nat.mul_comm]at hk),Nat.mod_lt _ hp⟩
  let news:List Value:=(List.range (ys.length*size')).map fun k=>cellAt w b (off+k)
  have hnl:news.length=ys.length*size':=by simp[news]
  have hng:∀k,k<ys.length*size'→news.getD k undef=cellAt w b (off+k):=by
   intro k hk;simp[news,List.getD,hk]
  have hrs:Rs ok w H (flat ys) news:=by
   refine⟨by rw[hnl,hl],fun k hk=>?_⟩;rw[hl]at hk;obtain⟨i,j,rfl,hi,hj⟩:=key k hk;rw[flat_get hs i j hi hj,hng _ hk];exact⟨hf i hi j hj,.d _ _ (hc i hi j hj)⟩
  refine⟨news,⟨hnl,fun u hu=>?_,.inl ⟨⟨b,off,none⟩,cap,rfl,fun k u hk=>?_⟩⟩,hrs⟩
  ·obtain⟨k,hk,rfl⟩:=List.getElem_of_mem hu;have h5:=hrs.2 k (by rw[←hrs.1];exact hk);have:=h5.2.leaf h5.1
   rwa [O5 hk]at this
  obtain⟨hk',rfl⟩:=List.getElem?_eq_some_iff.1 hk;rw[addr_add];have hk2:k<ys.length*size':=by rw[←hnl];exact hk'
  obtain⟨i,j,e,hi,hj⟩:=key k hk2;have hxx:=hx i hi j hj;rw[←e]at hxx;obtain⟨u',hu'⟩:=Option.isSome_iff_exists.1 hxx;have:=hng k hk2;rw[O5 hk']at this;rw[this];simp[cellAt,hu']
structure El (P:Program) (t e:TypeId) (size bytes:Nat):Prop where
 und:P.underlying t=some (.slice e)
 info:∃i z,P.info? e=some i∧i.zero=some z∧i.size=size∧i.bytes=bytes∧z.cells.size=size
 pos:0<size
def elB (P:Program) (t e size bytes:Nat):Bool:=
 (match P.underlying t with |some (.slice e')=>decide (e'=e)|_=>false)&&(match P.info? e with |some i=>decide (i.size=size)&&decide (i.bytes=bytes)&&(match i.zero with |some z=>decide (z.cells.size=size)|none=>false)|none=>false)&&decide (0<size)
theorem yE {P:Program} {t e size bytes:Nat} (h:elB P t e size bytes=true):El P t e size bytes:=by
 unfold elB at h;simp only[Bool.and_eq_true,decide_eq_true_eq]at h;obtain⟨⟨h1,h2⟩,h3⟩:=h;refine⟨?_,?_,h3⟩
 ·split at h1
  ·rename_i e' he;rw[he];simp at h1;rw[h1]
  cases h1
 split at h2
 ·rename_i i hi;simp only[Bool.and_eq_true,decide_eq_true_eq]at h2;obtain⟨⟨h4,h5⟩,h6⟩:=h2;split at h6
  ·rename_i z hz;exact⟨i,z,hi,hz,h4,h5,by simpa using h6⟩
  cases h6
 cases h2
theorem akD {w:World} {t e:TypeId} {ty:TypeId} {size bytes:Nat} (hE:El P t e size bytes) {v:Value} {n:Nat} {xs:List Value} (hown:w.ownsRow 0 e size v n xs) {x:Value} {m:Nat} {news:List Value} (hsrc:Src w x m size news)
 (hb:(n+m)*bytes≤140737488355328) (hn:n+m≤maxLen):
 ∃v' w',(Builtin.append_ #[t,t] ty #[v,x]).run P w=.ok v' w'∧w'.ownsRow 0 e size v' (n+m) (xs++news)∧w.grownBy w' v.ownBlock∧(∀g,eG v'=some g→eG v=some g∨w.heap.size≤g):=by
 obtain⟨i,z,hi,hz,hs,hby,hzs⟩:=hE.info;rcases hsrc.at_ with⟨ad,c,rfl,hcells⟩|⟨c,rfl,rfl⟩
 ·obtain⟨v',w',hr,ho',hg,hnil⟩:=run_append_own (P:=P) w 0 t ty e i z size bytes hE.und hi hz hs hby hzs hE.pos v n xs hown ad m c news hsrc.len hcells hsrc.one hn hb (Nat.zero_le _);refine⟨v',w',hr,ho',hg,fun g hgv=>?_⟩;rcases hown.2 with⟨rfl,rfl⟩|⟨g0,cap,cur,rfl,hbg,hg0,hnc,hcm,hcs,htake⟩
  ·have hx:xs=[]:=List.eq_nil_of_length_eq_zero (by simpa using hown.1);subst hx;obtain⟨v2,w2,hr2,ho2,_,_⟩:=run_append_own (P:=P) w w.heap.size t ty e i z size bytes hE.und hi hz hs hby hzs hE.pos _ 0 [] (World.ownsRow_nil w w.heap.size e size) ad m c news hsrc.len hcells hsrc.one hn hb (Nat.le_refl _);rw[hr]at hr2;simp only[Result.ok.injEq]at hr2;obtain⟨rfl,rfl⟩:=hr2;rcases ho2.2 with⟨rfl,_⟩|⟨g',_,_,rfl,hle,_⟩
   ·simp[eG]at hgv
   simp[eG]at hgv;subst hgv;exact .inr hle
  by_cases hroom:n+m≤cap
  ·have hfit:n*i.size+news.length≤cur.size:=by rw[hsrc.len,hcs,hs,←Nat.add_mul];exact Nat.mul_le_mul_right _ hroom
   have hr2:=run_append_room (P:=P) w t ty e i hE.und hi g0 n cap cur hg0 ad m c news (by rw[hs];exact hsrc.len) hcells hsrc.one hroom hfit;rw[hr]at hr2;simp only[Result.ok.injEq]at hr2;obtain⟨rfl,rfl⟩:=hr2;exact .inl hgv
  have holds:∀(j:Nat) (u:Value),xs[j]? =some u→w.cell? ((⟨g0,0,none⟩:Addr).add j)=some u:=hown.cells (g:=g0) rfl;have hr2:=run_append_grow (P:=P) w t ty e i z hE.und hi hz ⟨g0,0,none⟩ n cap xs (by rw[hs];exact hown.1) holds ad m c news (by rw[hs];exact hsrc.len) hcells (by omega) (by unfold maxLen at hn;omega) (growslice_fits (by omega) (by rw[hby];exact hb));rw[hr]at hr2;simp only[Result.ok.injEq]at hr2;obtain⟨rfl,rfl⟩:=hr2;simp[eG]at hgv;subst hgv;exact .inr (Nat.le_refl _)
 have hnews:news=[]:=List.eq_nil_of_length_eq_zero (by simpa using hsrc.len);subst hnews;refine⟨v,w,?_,by simpa using hown,⟨rfl,rfl,rfl,Nat.le_refl _,fun _ _ _=>rfl⟩,fun g hg=>.inl hg⟩;rcases hown.2 with⟨rfl,rfl⟩|⟨g,cap,cur,rfl,_,_,hnc,_⟩
 ·simp[Builtin.append_,run_underlying hE.und,sizeOf,typeInfo,hi,Builtin.lenOf,Builtin.firstCells]
 simp[Builtin.append_,run_underlying hE.und,sizeOf,typeInfo,hi,Builtin.lenOf,Builtin.firstCells,hnc,storeCells]
theorem adw {w:World} {t e:TypeId} {ty:TypeId} {size bytes:Nat} (hE:El P t e size bytes) {v:Value} {n:Nat} {xs:List Value} (hown:lY w e size v n xs) {x:Value} {m:Nat} {news:List Value} (hsrc:Src w x m size news)
 (hb:(n+m)*bytes≤140737488355328) (hn:n+m≤maxLen):
 ∃v' w',(Builtin.append_ #[t,t] ty #[v,x]).run P w=.ok v' w'∧lY w' e size v' (n+m) (xs++news)∧w.grownBy w' v.ownBlock∧(∀g,eG v'=some g→eG v=some g∨w.heap.size≤g):=by
 rcases hown.2 with h|⟨g,cap,cur,rfl,h0,hg0,hnc,hcm,hcs,htake⟩
 ·obtain⟨v',w',h1,h2,h3,h4⟩:=akD (ty:=ty) hE ⟨hown.1,.inl h⟩ hsrc hb hn;exact⟨v',w',h1,.of h2,h3,h4⟩
 obtain⟨i,z,hi,hz,hs,hby,hzs⟩:=hE.info;have hlen:(xs++news).length=(n+m)*size:=by rw[List.length_append,hown.1,hsrc.len,Nat.add_mul]
 rcases hsrc.at_ with⟨ad,c,rfl,hcells⟩|⟨c,rfl,rfl⟩
 ·by_cases hroom:n+m≤cap
  ·have hfit:n*i.size+news.length≤cur.size:=by
    rw[hsrc.len,hs,←Nat.add_mul];exact Nat.le_trans (Nat.mul_le_mul_right _ hroom) hcs
   have hr:=run_append_room (P:=P) w t ty e i hE.und hi g n cap cur hg0 ad m c news (by rw[hs];exact hsrc.len) hcells hsrc.one hroom hfit;rw[hs]at hr hfit;refine⟨_,_,hr,⟨hlen,.inr ⟨g,cap,_,rfl,Nat.zero_le _,setRow_heap w g cur _ e _ hg0,hroom,hcm,?_,?_⟩⟩,⟨rfl,rfl,rfl,by simp,fun k _ hk=>setRow_other w g k _ (fun e=>hk (by simp[Value.ownBlock,e]))⟩,fun g' hg'=>.inl hg'⟩
   ·simp only[List.size_toArray,List.length_append,List.length_take,List.length_drop,Array.length_toList];omega
   rw[htake,←hlen];exact List.take_left
  obtain⟨v',w',h1,h2,h3⟩:=run_append_arg_grows (P:=P) w t ty e i z size bytes hE.und hi hz hs hby hzs hE.pos ⟨g,0,none⟩ n cap xs hown.1 (hown.cells (g:=g) rfl) ad m c news hsrc.len hcells (by omega) hn hb;refine⟨v',w',h1,.of h2,⟨h3.os,h3.tape,h3.output,h3.size,fun k hk _=>h3.block k hk (by simp)⟩,fun g' hg'=>.inr ?_⟩;rcases h2.2 with⟨rfl,_⟩|⟨g2,_,_,rfl,hle2,_⟩
  ·simp[eG]at hg'
  simp[eG]at hg';subst hg';exact hle2
 have hnews:news=[]:=List.eq_nil_of_length_eq_zero (by simpa using hsrc.len);subst hnews;refine⟨.slice (some ⟨g,0,none⟩) n cap,w,?_,by simpa using hown,⟨rfl,rfl,rfl,Nat.le_refl _,fun _ _ _=>rfl⟩,fun g hg=>.inl hg⟩;simp[Builtin.append_,run_underlying hE.und,sizeOf,typeInfo,hi,Builtin.lenOf,Builtin.firstCells,hnc,storeCells]
theorem Mem.turn {C:Cx} {ok:Nat→Prop} {H:List Hd} {w w':World} (hm:Mem C ok H es w) {k:Nat} {e0 e:bn} {h h':Hd} (hk:es[k]? =some e0) (hl0:e0.live=true) (hh:H[k]? =some h)
 (hos:w'.os=w.os) (htape:w'.tape=w.tape) (hout:w'.output=w.output) (hsize:w.heap.size≤w'.heap.size)
 (hblk:∀c,c<w.heap.size→eG h.v≠some c→w'.heap[c]? =w.heap[c]?) (hb':∀g,eG h'.v=some g→g<w'.heap.size∧(eG h.v=some g∨w.heap.size≤g))
 (he:Grow ok w ok w'→iL ok w' (H++[h']) h' e):Mem C ok (H++[h']) (es.set k .dead++[e]) w'∧Grow ok w ok w':=by
 have h0:=fun b hb=>hm.blk k e0 h b hk hl0 hh hb;have hkl:k<es.length:=(List.getElem?_eq_some_iff.1 hk).1;have hg:Grow ok w ok w':=fun c hc=>⟨hc,hblk c (hm.jH c hc) (fun e=>(h0 c e).1 hc)⟩
 refine hm.change (fun c=>eG h.v=some c) hos htape hout hsize hblk (fun c hc _=>⟨(h0 c hc).1,(h0 c hc).2.2⟩) (fun _ h=>h) (fun _ h=>.inl h) (Names.push _ _) (by simp[hm.hlen]) ?_;intro j e' hj' hj hh';rcases Ad hj with h1|⟨h1,h2⟩
 ·have hjl:j<H.length:=by rw[hm.hlen];simpa using(List.getElem?_eq_some_iff.1 h1).1
  rw[List.getElem?_append_left hjl]at hh';rcases mQ hkl h1 with⟨rfl,rfl⟩|⟨hne,h3⟩
  ·exact .inr ⟨trivial,fun h=>by cases h⟩
  refine .inl ⟨h3,hh',fun hl c hc hcb=>hne ?_⟩;exact hm.yQ j k e' e0 hj' h c h3 hk hl hl0 hh' hh hc hcb
 subst h2;have hk2:j=H.length:=by rw[hm.hlen];simpa using h1
 subst hk2;simp at hh';subst hh';refine .inr ⟨he hg,fun _ c hc=>?_⟩;obtain⟨h3,h4⟩:=hb' c hc;refine⟨fun hok=>?_,h3,?_,fun k' e'' h'' hne hk' hl' Qd YG=>?_⟩
 ·rcases h4 with h4|h4
  ·exact(h0 c h4).1 hok
  have:=hm.jH c hok;omega
 ·rcases h4 with h4|h4
  ·exact(h0 c h4).2.2
  exact .inl (Nat.le_trans hm.fr.size h4)
 rcases Ad hk' with h5|⟨h5,_⟩
 ·have hkl':k'<H.length:=by rw[hm.hlen];simpa using(List.getElem?_eq_some_iff.1 h5).1
  rw[List.getElem?_append_left hkl']at Qd;rcases mQ hkl h5 with⟨rfl,rfl⟩|⟨hne',h6⟩
  ·cases hl'
  rcases h4 with h4|h4
  ·exact hne' (hm.yQ k' k e'' e0 h'' h c h6 hk hl' hl0 Qd hh YG h4)
  have:=(hm.blk k' e'' h'' c h6 hl' Qd YG).2.1;omega
 simp at h5;exact hne (by rw[h5,hm.hlen])
theorem O6 {w:World} {e size n:Nat} {v:Value} {xs:List Value} (h:lY w e size v n xs) {g:Nat} (hg:eG v=some g):g<w.heap.size:=by
 rcases h.2 with⟨rfl,_⟩|⟨g',_,_,rfl,_,hh,_⟩
 ·simp[eG]at hg
 simp[eG]at hg;subst hg;exact(Array.getElem?_eq_some_iff.1 hh).1
theorem WS {w:World} {e size n:Nat} {v:Value} {xs:List Value} (h:lY w e size v n xs):v.ownBlock=eG v:=by
 rcases h.2 with⟨rfl,_⟩|⟨g',_,_,rfl,_⟩<;>rfl
theorem oV {ok:Nat→Prop} {w:World} {H:List Hd} {k:Nat} {v:Value} {h:Hd} (hr:R ok w H (.aK k) v) (hh:H[k]? =some h):v=h.v:=by
 cases hr with
 |aK _ ad n cap s hH=>rw[hh]at hH;rw[Option.some.inj hH]
theorem akE {C:Cx} {ok:Nat→Prop} {H:List Hd} {w:World} (hm:Mem C ok H es w) {t ty e:TypeId} {size bytes k:Nat} {xs ys:List D} (hE:El P t e size bytes) (hk:es[k]? =some (.arr e size xs))
 {v x:Value} (hv:R ok w H (.aK k) v) {news:List Value} (hsrc:Src w x ys.length size news) (hnews:Rs ok w H (flat ys) news) (hys:∀y∈ys,y.cells.length=size) (hb:(xs.length+ys.length)*bytes≤140737488355328) (hn:xs.length+ys.length≤maxLen):
 ∃v' w' H',(Builtin.append_ #[t,t] ty #[v,x]).run P w=.ok v' w'∧Grow ok w ok w'∧Names H H'∧Mem C ok H' (es.set k .dead++[.arr e size (xs++ys)]) w'∧R ok w' H' (.aK es.length) v':=by
 obtain⟨h,hh,hok⟩:=jy hm.ent hm.hlen hk;obtain rfl:=oV hv hh;obtain⟨h1,h2,zs,hown,hrs⟩:=hok;obtain⟨v',w',hr,ho',hg,hblk⟩:=adw (P:=P) (ty:=ty) hE hown hsrc hb hn
 obtain⟨h3,h4⟩:=hm.turn (h':=⟨v',size⟩) (e:=.arr e size (xs++ys)) hk rfl hh hg.os hg.tape hg.output hg.size (fun c hc hne=>hg.block c hc (by rw[WS hown];exact fun e=>hne e.symm)) (fun g hg'=>⟨O6 ho' hg',hblk g hg'⟩) (fun hgr=>by
  refine⟨rfl,fun y hy=>?_,zs++news,by simpa using ho',?_⟩
  ·rcases List.mem_append.1 hy with h|h
   ·exact h2 y h
   exact hys y h
  have a1:=hrs.mono hgr (Names.push H [⟨v',size⟩]);have a2:=hnews.mono hgr (Names.push H [⟨v',size⟩]);rw[L9];refine⟨by rw[List.length_append,List.length_append,a1.1,a2.1],fun i hi=>?_⟩;by_cases hi2:i<(flat xs).length
  ·have e1:(flat xs++flat ys).getD i .junk=(flat xs).getD i .junk:=by simp[List.getD,List.getElem?_append_left hi2]
   have e2:(zs++news).getD i undef=zs.getD i undef:=by simp[List.getD,List.getElem?_append_left (by rw[a1.1];exact hi2:i<zs.length)]
   rw[e1,e2];exact a1.2 i hi2
  have hi3:i-(flat xs).length<(flat ys).length:=by rw[List.length_append]at hi;omega
  have e1:(flat xs++flat ys).getD i .junk=(flat ys).getD (i-(flat xs).length) .junk:=by simp[List.getD,List.getElem?_append_right (Nat.le_of_not_lt hi2)]
  have e2:(zs++news).getD i undef=news.getD (i-(flat xs).length) undef:=by simp[List.getD,List.getElem?_append_right (by rw[a1.1];omega:zs.length≤i),a1.1]
  rw[e1,e2];exact a2.2 _ hi3)
 refine⟨v',w',_,hr,h4,Names.push _ _,h3,?_⟩;have hH:(H++[(⟨v',size⟩:Hd)])[es.length]? =some ⟨v',size⟩:=by rw[←hm.hlen];simp
 rcases ho'.2 with⟨rfl,_⟩|⟨g',c',_,rfl,_⟩
 ·exact .aK _ _ _ _ size hH
 exact .aK _ _ _ _ size hH
theorem anR {s x:Operand} {t e:TypeId} {size bytes k:Nat} {xs ys:List D} (hE:El P t e size bytes) (hk:es[k]? =some (.arr e size xs)) (hys:∀y∈ys,y.cells.length=size)
 (hb:(xs.length+ys.length)*bytes≤140737488355328) (hn:xs.length+ys.length≤maxLen) (ho:o.op=.call { callee:=.builtin .append,args:=#[s,x],argTypes:=#[t,t] }):
 bK P o [(s,.aK k),(x,.d (.sl ys))] es (.aK es.length) (es.set k .dead++[.arr e size (xs++ys)]):=
 .eff fun C ok H a w hm hn'=>by
  have h1:=(mem2 hn').1;have h2:=(mem2 hn').2;simp only at h1 h2;have h2':RD ok w (.sl ys) (a.eval x):=by cases h2 with |d _ _ h=>exact h
  obtain⟨news,hsrc,hrs⟩:=KJ H h2' hys;obtain⟨v',w',H',hr,r1,r2,r3,r4⟩:=akE (ty:=o.type) hm hE hk h1 hsrc hrs hys hb hn;refine⟨v',w',ok,H',.inl ?_,r1,r2,r3,r4⟩;simp[execOp,ho,resolve,invoke,builtin,hr]
theorem afs {C:Cx} {ok:Nat→Prop} {H:List Hd} {w:World} (hm:Mem C ok H es w) (e:TypeId) (size:Nat):
 Mem C ok (H++[⟨.slice none 0 0,size⟩]) (es++[.arr e size []]) w∧R ok w (H++[⟨.slice none 0 0,size⟩]) (.aK es.length) (.slice none 0 0):=by
 obtain⟨h,_⟩:=hm.change (ok':=ok) (w':=w) (H':=H++[⟨.slice none 0 0,size⟩]) (es':=es++[.arr e size []]) (fun _=>False) rfl rfl rfl (Nat.le_refl _) (fun _ _ _=>rfl) (fun _ h=>h.elim) (fun _ h=>h) (fun _ h=>.inl h) (Names.push _ _) (by simp[hm.hlen]) (by
  intro k e' h' he' hh';rcases Ad he' with h1|⟨h1,h2⟩
  ·have hk:k<H.length:=by rw[hm.hlen];exact(List.getElem?_eq_some_iff.1 h1).1
   rw[List.getElem?_append_left hk]at hh';exact .inl ⟨h1,hh',fun _ _ _ h=>h⟩
  subst h2;have hk:k=H.length:=by rw[hm.hlen];exact h1
  subst hk;simp at hh';subst hh'
  exact .inr ⟨⟨rfl,by simp,[],⟨by simp,.inl ⟨rfl,rfl⟩⟩,by simp[flat],fun i hi=>by simp[flat]at hi⟩,fun _ b hb=>by simp[eG]at hb⟩)
 exact⟨h,.aK _ _ _ _ size (by rw[←hm.hlen];simp)⟩
theorem aP (e:TypeId) (size:Nat) (ho:o.op=.assign (.const (.slice none 0 0))):bK P o [] es (.aK es.length) (es++[.arr e size []]):=
 .eff fun C ok H a w hm _=>by
  obtain⟨h1,h2⟩:=afs hm e size;exact⟨.slice none 0 0,w,ok,_,.inl (by simp[execOp,ho];rfl),.refl _ _,Names.push _ _,h1,h2⟩
theorem ahK (ho:o.op=.assign (.const (.slice none 0 0))):bK P o [] es (.d (.sl [])) es:=
 .pure fun _ _ a w _ _ _=>⟨.slice none 0 0,by simp[execOp,ho];rfl,.d _ _ (.sl0 none 0)⟩
theorem akF (ho:o.op=.move (.const (.slice none 0 0))):bK P o [] es (.d (.sl [])) es:=
 .pure fun _ _ a w _ _ _=>⟨.slice none 0 0,by simp[execOp,ho];rfl,.d _ _ (.sl0 none 0)⟩
end
end Go.Proofs.YtolgdkhlelfpoaaGreat
end
section
namespace Go.Proofs.YtolgdkhlelfpoaaGreat
open Go.RowKit
theorem alD (off:Nat):∀(vs:List Value) (i:Nat) (cells:Array Value),off+i+vs.length≤cells.size→
 ((vs.zipIdx i).foldl (fun cs (p:Value×Nat)=>cs.setIfInBounds (off+p.2) p.1) cells).toList=setAt cells.toList (off+i) vs
 | [],i,cells,h=>by simp[setAt]
 |v::vs,i,cells,h=>by
  simp only[List.length_cons]at h;rw[List.zipIdx_cons,List.foldl_cons];rw[alD off vs (i+1) _ (by simp;omega)];simp only[Array.toList_setIfInBounds];have hlt:off+i<cells.toList.length:=by simp;omega
  unfold setAt;rw[List.set_eq_take_append_cons_drop,if_pos hlt];have h1:(cells.toList.take (off+i)).length=off+i:=by simp;omega
  have e1:(List.take (off+i) cells.toList++v::List.drop (off+i+1) cells.toList).take (off+(i+1))=cells.toList.take (off+i)++[v]:=by
   rw[List.take_append,h1,List.take_of_length_le (by omega)];have :off+(i+1)-(off+i)=1:=by omega
   rw[this];simp
  have e2:(List.take (off+i) cells.toList++v::List.drop (off+i+1) cells.toList).drop (off+(i+1)+vs.length)=cells.toList.drop (off+i+(vs.length+1)):=by
   rw[List.drop_append,h1,List.drop_of_length_le (by omega)];have :off+(i+1)+vs.length-(off+i)=vs.length+1:=by omega
   rw[this];simp[List.drop_drop];congr 1;omega
  rw[e1,e2];simp
def lg :List (Nat×Operand)→List AV→List (Operand×AV)
 |(_,x)::ps,v::vs=>(x,v)::lg ps vs
 |_,_=>[]
def sD (place:Nat→Option (Nat×Nat)) (n:Nat):List (Nat×Operand)→List AV→Bool
 |(i,_)::ps,v::vs=>(match place i with |some (off,s)=>decide (v.cells.length=s)&&decide (off+s≤n)&&v.cells.all AV.leaf|none=>false)&&sD place n ps vs
 | [],[]=>true
 |_,_=>false
def qK (place:Nat→Option (Nat×Nat)):List AV→List (Nat×Operand)→List AV→List AV
 |cs,(i,_)::ps,v::vs=>qK place (setAt cs ((place i).getD (0,0)).1 v.cells) ps vs
 |cs,_,_=>cs
theorem Rs.setAt {ok:Nat→Prop} {w:World} {H:List Hd} {cs ys:List AV} {vs us:List Value} {off:Nat} (h:Rs ok w H cs vs) (k:Rs ok w H ys us) (hle:off+ys.length≤cs.length):Rs ok w H (setAt cs off ys) (setAt vs off us):=by
 refine⟨by rw[lG (by rw[h.1,k.1];exact hle),lG hle,h.1],fun i hi=>?_⟩;rw[lG hle]at hi;rw[xq hle,xq (by rw[h.1,k.1];exact hle),k.1];split
 ·exact k.2 _ (by omega)
 exact h.2 i hi
theorem Qg {ok:Nat→Prop} {w:World} {H:List Hd} {place:Nat→Option (Nat×Nat)} {a:Act}:∀(ps:List (Nat×Operand)) (vs:List AV) (cs:List AV) (cells:Array Value),Rs ok w H cs cells.toList→sD place cs.length ps vs=true→
 (∀n∈lg ps vs,R ok w H n.2 (a.eval n.1))→∃cells',Instr.fill place cells (ps.map fun p=>(p.1,a.eval p.2))=some cells'∧Rs ok w H (qK place cs ps vs) cells'.toList
 | [],[],cs,cells,hr,_,_=>⟨cells,rfl,hr⟩
 | [],_::_,_,_,_,h,_=>by simp[sD]at h
 |_::_,[],_,_,_,h,_=>by simp[sD]at h
 |(i,x)::ps,v::vs,cs,cells,hr,h,hn=>by
  simp only[sD,Bool.and_eq_true]at h;obtain⟨h1,h2⟩:=h;cases hp:place i with
  |none=>rw[hp]at h1;cases h1
  |some os=>
   obtain⟨off,s⟩:=os;rw[hp]at h1;simp only[Bool.and_eq_true,decide_eq_true_eq]at h1;obtain⟨⟨h3,h4⟩,h5⟩:=h1;have hv:Rs ok w H v.cells (a.eval x).cells.toList:=(hn (x,v) (by simp[lg])).aag h5;have hsz:(a.eval x).cells.size=s:=by have:=hv.1;simp at this;omega
   have hcsz:cells.size=cs.length:=by simpa using hr.1
   have hset:((a.eval x).cells.zipIdx.foldl (fun cs (p:Value×Nat)=>cs.setIfInBounds (off+p.2) p.1) cells).toList=setAt cells.toList off (a.eval x).cells.toList:=by
    rw[←Array.foldl_toList,Array.toList_zipIdx];exact alD off (a.eval x).cells.toList 0 cells (by simp;omega)
   have hrs:=hr.setAt hv (off:=off) (by omega);rw[←hset]at hrs;obtain⟨cells',hc,hR⟩:=Qg ps vs (setAt cs off v.cells) _ hrs (by rw[lG (by omega)];exact h2) (fun n hn'=>hn n (by simp[lg,hn']));refine⟨cells',?_,?_⟩
   ·simp only[List.map_cons,Instr.fill,hp];rw[if_neg (by simp;omega)];exact hc
   simp only[qK,hp,Option.getD_some];exact hR
def uZ (z:Value) (n:Nat):List AV:=(List.range n).map fun k=>(iH z).getD (k % z.cells.size) .junk
theorem ami {ok:Nat→Prop} {w:World} {H:List Hd} {z:Value} {n:Nat} (hl:z.cells.all (·.oneCell')=true) (hz:0<z.cells.size):Rs ok w H (uZ z n) (((Array.range n).map (z.cells[· % z.cells.size]!)).toList):=by
 refine⟨by simp[uZ],fun i hi=>?_⟩;have hi':i<n:=by simpa[uZ]using hi
 have hm:i % z.cells.size<z.cells.size:=Nat.mod_lt _ hz;have e1:(uZ z n).getD i .junk=.d (zD z.cells[i % z.cells.size]):=by simp[uZ,iH,List.getD,hi',hm]
 have e2:(((Array.range n).map (z.cells[· % z.cells.size]!)).toList).getD i undef=z.cells[i % z.cells.size]:=by simp[List.getD,hi',hm]
 rw[e1,e2];exact⟨Vq ((Array.all_eq_true_iff_forall_mem.1 hl) _ (by simp)),.d _ _ (aai _)⟩
theorem YI {ok:Nat→Prop} {w:World} {H:List Hd} {z:Value} (hl:z.cells.all (·.oneCell')=true):Rs ok w H (iH z) z.cells.toList:=by
 refine⟨by simp[iH],fun i hi=>?_⟩;simp only[iH,List.length_map,Array.length_toList]at hi;have e1:(iH z).getD i .junk=.d (zD z.cells[i]):=by simp[iH,List.getD,hi]
 have e2:z.cells.toList.getD i undef=z.cells[i]:=by simp[List.getD,hi]
 rw[e1,e2];exact⟨Vq ((Array.all_eq_true_iff_forall_mem.1 hl) _ (by simp)),.d _ _ (aai _)⟩
theorem IK {P:Program} {w:World}:∀(l:List Field),(∀f∈l,(P.info? f.type).isSome=true)→
 (l.mapM fun f=>(do pure (f.offset,←sizeOf f.type):Sem (Nat×Nat))).run P w=.ok (l.map fun f=>(f.offset,P.cellsOf f.type)) w
 | [],_=>rfl
 |f::l,h=>by
  obtain⟨i,hi⟩:=Option.isSome_iff_exists.1 (h f (by simp));have ih:=IK (P:=P) (w:=w) l (fun g hg=>h g (by simp[hg]));have hs:(sizeOf f.type).run P w=.ok i.size w:=by simp[sizeOf,typeInfo,hi]
  have hc:P.cellsOf f.type=i.size:=by simp[Program.cellsOf,hi]
  simp only[List.mapM_cons,Sem.run_bind,hs,Result.andThen_ok,Sem.run_pure,ih,List.map_cons,hc]
structure jA (P:Program) (t:TypeId) (places:List (Nat×Nat)) (z:Value):Prop where
 fields:∃fs,P.underlying t=some (.struct fs)∧(∀f∈fs.toList,(P.info? f.type).isSome=true)∧(fs.toList.map fun f=>(f.offset,P.cellsOf f.type))=places
 zero:(P.info? t).bind (·.zero)=some z
 one:z.cells.all (·.oneCell')=true
def alE (P:Program) (t:TypeId) (places:List (Nat×Nat)):Bool:=
 match P.underlying t with
 |some (.struct fs)=>fs.toList.all (fun f=>(P.info? f.type).isSome)&&decide ((fs.toList.map fun f=>(f.offset,P.cellsOf f.type))=places)
 |_=>false
theorem jY {P:Program} {t:TypeId} {places:List (Nat×Nat)} {z:Value} (h:alE P t places=true) (hz:(P.info? t).bind (·.zero)=some z) (h1:z.cells.all (·.oneCell')=true):jA P t places z:=by
 unfold alE at h;split at h
 ·rename_i fs hu;simp only[Bool.and_eq_true,List.all_eq_true,decide_eq_true_eq]at h;exact⟨⟨fs,hu,h.1,h.2⟩,hz,h1⟩
 cases h
section
variable {P : Program} {o : Oper} {es : List bn}
theorem WT {t:TypeId} {z:Value} (hz:(P.info? t).bind (·.zero)=some z) (w:World):(zeroValue t).run P w=.ok z w:=by
 obtain⟨i,hi,hz'⟩:=Option.bind_eq_some_iff.1 hz;simp[zeroValue,typeInfo,hi,hz']
theorem alF {l:List AV} (h:l.all AV.xk=true):l=(nY l).map .d:=by
 rw[List.all_eq_true]at h;unfold nY;rw[List.map_map]
 conv=>lhs;rw[←List.map_id l]
 refine List.map_congr_left fun x hx=>?_;have:=h x hx;cases x<;>first|rfl|(simp[AV.xk]at this)
theorem anS {t:TypeId} {parts:Array (Nat×Operand)} {places:List (Nat×Nat)} {z:Value} (hS:jA P t places z) (vs:List AV) (hp:sD (fun(i:Nat)=>places[i]?) (iH z).length parts.toList vs=true) (ho:o.op=.build t parts):
 bK P o (lg parts.toList vs) es (.ag (qK (fun(i:Nat)=>places[i]?) (iH z) parts.toList vs)) es:=
 .pure fun ok H a w _ _ hn=>by
  obtain⟨⟨fs,hu,hf,hpl⟩,hz,h1⟩:=hS;have hzr:=WT (P:=P) hz w;have hu':(underlying t).run P w=.ok (.struct fs) w:=by simp[underlying,hu]
  have hm:(fs.mapM fun f=>(do pure (f.offset,←sizeOf f.type):Sem (Nat×Nat))).run P w=.ok places.toArray w:=by
   rw[Array.mapM_eq_mapM_toList];rw[Sem.run_map,IK _ hf,hpl];rfl
  obtain⟨cells',hc,hR⟩:=Qg (place:=fun(i:Nat)=>places[i]?) parts.toList vs (iH z) z.cells (YI (ok:=ok) (w:=w) (H:=H) h1) hp hn;refine⟨.agg cells',?_,.ag _ _ (by simpa using hR.1) (fun i hi=>(hR.2 i hi).1) (fun i hi=>?_)⟩
  rotate_left
  ·have h3:=(hR.2 i hi).2;have hi2:i<cells'.size:=by have:=hR.1;simp at this;omega
   have e2:cells'.toList.getD i undef=cells'.getD i undef:=by simp[List.getD,Array.getD,hi2]
   rw[e2]at h3;exact h3
  have e:(parts.map fun(i,x)=>(i,a.eval x)).toList=parts.toList.map fun p=>(p.1,a.eval p.2):=by simp
  have e2:(fun(i:Nat)=>places.toArray[i]?)=(fun(i:Nat)=>places[i]?):=by funext i;simp
  simp only[execOp,ho,Instr.build,Sem.run_bind,hzr,hu',hm,Result.andThen_ok];rw[e,e2,hc];rfl
theorem apP {t:TypeId} {parts:Array (Nat×Operand)} {places:List (Nat×Nat)} {z:Value} (hS:jA P t places z) (vs:List AV) (hp:sD (fun(i:Nat)=>places[i]?) (iH z).length parts.toList vs=true)
 (hd:(qK (fun(i:Nat)=>places[i]?) (iH z) parts.toList vs).all AV.xk=true) (ho:o.op=.build t parts):
 bK P o (lg parts.toList vs) es (.d (.agg (nY (qK (fun(i:Nat)=>places[i]?) (iH z) parts.toList vs)))) es:=
 .pure fun ok H a w _ _ hn=>by
  obtain⟨⟨fs,hu,hf,hpl⟩,hz,h1⟩:=hS;have hzr:=WT (P:=P) hz w;have hu':(underlying t).run P w=.ok (.struct fs) w:=by simp[underlying,hu]
  have hm:(fs.mapM fun f=>(do pure (f.offset,←sizeOf f.type):Sem (Nat×Nat))).run P w=.ok places.toArray w:=by
   rw[Array.mapM_eq_mapM_toList];rw[Sem.run_map,IK _ hf,hpl];rfl
  obtain⟨cells',hc,hR⟩:=Qg (place:=fun(i:Nat)=>places[i]?) parts.toList vs (iH z) z.cells (YI (ok:=ok) (w:=w) (H:=H) h1) hp hn;refine⟨.agg cells',?_,.d _ _ ?_⟩
  ·have e:(parts.map fun(i,x)=>(i,a.eval x)).toList=parts.toList.map fun p=>(p.1,a.eval p.2):=by simp
   have e2:(fun(i:Nat)=>places.toArray[i]?)=(fun(i:Nat)=>places[i]?):=by funext i;simp
   simp only[execOp,ho,Instr.build,Sem.run_bind,hzr,hu',hm,Result.andThen_ok];rw[e,e2,hc];rfl
  rw[alF hd]at hR;generalize nY (qK (fun(i:Nat)=>places[i]?) (iH z) parts.toList vs)=xs at hR ⊢;obtain⟨h2,h3⟩:=hR;simp only[List.length_map]at h2 h3
  have hg:∀i,i<xs.length→(xs.map AV.d).getD i .junk=.d (xs.getD i dz):=by
   intro i hi;simp[List.getD,hi]
  have hsz:cells'.size=xs.length:=by simpa using h2
  refine .agg xs cells' hsz ?_ ?_<;>intro i hi
  ·have:=(h3 i hi).1;rw[hg i hi]at this;exact this
  have h4:=(h3 i hi).2;rw[hg i hi]at h4;have hi2:i<cells'.size:=by omega
  have e:cells'.toList.getD i undef=cells'.getD i undef:=by simp[List.getD,Array.getD,hi2]
  rw[e]at h4;cases h4 with |d _ _ h=>exact h
theorem atX {ok:Nat→Prop} {w:World} {H:List Hd} {ys:List D} {size b:Nat} {cells:Array Value} {e:TypeId} {fr:Nat×Nat} (hy:∀y∈ys,y.cells.length=size) (hb:w.heap[b]? =some (.cells cells e fr)) (hok:ok b) (hr:Rs ok w H (flat ys) cells.toList):
 RD ok w (.sl ys) (.slice (some ⟨b,0,none⟩) ys.length ys.length):=by
 have hl:=tN hy;have hcs:cells.size=ys.length*size:=by have:=hr.1;simp at this;omega
 have hg:∀i,i<ys.length→ys.getD i dz∈ys:=fun i hi=>by simp[List.getD,hi]
 have hk:∀i j,i<ys.length→j<size→i*size+j<ys.length*size:=by
  intro i j hi hj
  calc i*size+j<i*size+size:=by omega
   _=(i+1)*size:=by rw[Nat.succ_mul]
   _≤ys.length*size:=Nat.mul_le_mul_right _ hi
 have hc:∀i j,i<ys.length→j<size→w.cell? ⟨b,0+(i*size+j),none⟩=some (cells.toList.getD (i*size+j) undef):=by
  intro i j hi hj;have:=hk i j hi hj;rw[Nat.zero_add];simp[World.cell?,hb,hcs,this,List.getD]
 refine .sl ys b 0 ys.length size (Nat.le_refl _) (fun _ _=>hok) (fun i hi=>hy _ (hg i hi)) (fun i hi j hj=>?_) (fun i hi j hj=>?_) (fun i hi j hj=>?_)
 ·have:=(hr.2 (i*size+j) (by rw[hl];exact hk i j hi hj)).1;rw[flat_get hy i j hi hj]at this;exact this
 ·rw[hc i j hi hj];rfl
 have:=(hr.2 (i*size+j) (by rw[hl];exact hk i j hi hj)).2;rw[flat_get hy i j hi hj]at this;unfold cellAt;rw[hc i j hi hj];cases this with |d _ _ h=>exact h
theorem Vr {t e:TypeId} {size bytes len:Nat} {z:Value} (hE:El P t e size bytes) (hz:(P.info? e).bind (·.zero)=some z) (h1:z.cells.all (·.oneCell')=true) (hzs:z.cells.size=size) (hlen:len*size≤16777216) {parts:Array (Nat×Operand)} {vs:List AV}
 (hp:sD (fun i=>some (i*size,size)) (len*size) parts.toList vs=true) {ok:Nat→Prop} {w:World} {H:List Hd} {a:Act} (hn:∀n∈lg parts.toList vs,R ok w H n.2 (a.eval n.1)):
 ∃cells,(Instr.buildSlice t len (parts.map fun(i,x)=>(i,a.eval x))).run P w=.ok (.slice (some ⟨w.heap.size,0,none⟩) len len) (w.alloc (.cells cells e))∧Rs ok w H (qK (fun i=>some (i*size,size)) (uZ z (len*size)) parts.toList vs) cells.toList:=by
 obtain⟨i,z',hi,_,hs,_,_⟩:=hE.info;have hzr:=WT (P:=P) hz w;have hsz:(sizeOf e).run P w=.ok size w:=by simp[sizeOf,typeInfo,hi,hs]
 have hu':(underlying t).run P w=.ok (.slice e) w:=by simp[underlying,hE.und]
 have e0:(parts.map fun(i,x)=>(i,a.eval x)).toList=parts.toList.map fun p=>(p.1,a.eval p.2):=by simp
 have hzl:(uZ z (len*size)).length=len*size:=by simp[uZ]
 have hpos:0<z.cells.size:=by rw[hzs];exact hE.pos
 obtain⟨cells',hc,hR⟩:=Qg (place:=fun i=>some (i*size,size)) parts.toList vs (uZ z (len*size)) _ (ami (ok:=ok) (w:=w) (H:=H) (n:=len*size) h1 hpos) (by rw[hzl];exact hp) hn;refine⟨cells',?_,hR⟩;have h24:¬(len*size>2^24):=by omega
 by_cases h0:len*size=0
 ·have hr0:(Array.range (len*size)).map (fun k=>(z.cells[k % z.cells.size]! :Value))= #[]:=by rw[h0];simp
  rw[hr0]at hc;have hr1:(Array.range (len*size)).map (fun k=>((#[]:Array Value)[k % (#[]:Array Value).size]! :Value))= #[]:=by rw[h0];simp
  simp only[Instr.buildSlice,Sem.run_bind,hu',Result.andThen_ok,hsz,h24,if_false,Sem.run_ite,h0,if_true,Sem.run_pure];simp only[h0]at hr1;rw[hr1,e0,hc];rfl
 simp only[Instr.buildSlice,Sem.run_bind,hu',Result.andThen_ok,hsz,h24,if_false,Sem.run_ite,h0,hzr,Sem.run_pure];rw[e0,hc];rfl
theorem Vs {t e:TypeId} {size bytes len:Nat} {z:Value} (hE:El P t e size bytes) (hz:(P.info? e).bind (·.zero)=some z) (h1:z.cells.all (·.oneCell')=true) (hzs:z.cells.size=size) (hlen:len*size≤16777216) {parts:Array (Nat×Operand)} (vs:List AV) (ys:List D)
 (hp:sD (fun i=>some (i*size,size)) (len*size) parts.toList vs=true) (hy:qK (fun i=>some (i*size,size)) (uZ z (len*size)) parts.toList vs=flat ys) (hl:ys.length=len) (hyl:ys.all (fun y=>decide (y.cells.length=size))=true) (ho:o.op=.buildSlice t len parts):
 bK P o (lg parts.toList vs) es (.d (.sl ys)) es:=
 .eff fun C ok H a w hm hn=>by
  obtain⟨cells,hr,hrs⟩:=Vr hE hz h1 hzs hlen hp hn;rw[hy]at hrs;obtain⟨h2,h3⟩:=hm.fresh (.cells cells e);refine⟨.slice (some ⟨w.heap.size,0,none⟩) len len,_,_,H,.inl ?_,h3,.refl _,h2,.d _ _ ?_⟩
  ·simp only[execOp,ho,Sem.run_bind,hr,Result.andThen_ok,Sem.run_pure]
  rw[←hl];exact atX (H:=H) (fun y hy=>by rw[List.all_eq_true]at hyl;simpa using hyl y hy) (heap_alloc_new w _) (.inr rfl) (hrs.mono h3 (.refl _))
theorem abn {t e:TypeId} {size bytes len:Nat} {z:Value} (hE:El P t e size bytes) (hz:(P.info? e).bind (·.zero)=some z) (h1:z.cells.all (·.oneCell')=true) (hzs:z.cells.size=size) (hlen:len*size≤16777216) {parts:Array (Nat×Operand)} (vs:List AV) (ys:List D)
 (hp:sD (fun i=>some (i*size,size)) (len*size) parts.toList vs=true) (hy:qK (fun i=>some (i*size,size)) (uZ z (len*size)) parts.toList vs=flat ys) (hl:ys.length=len) (hyl:ys.all (fun y=>decide (y.cells.length=size))=true) (ho:o.op=.buildSlice t len parts):
 bK P o (lg parts.toList vs) es (.aK es.length) (es++[.arr e size ys]):=
 .eff fun C ok H a w hm hn=>by
  obtain⟨cells,hr,hrs⟩:=Vr hE hz h1 hzs hlen hp hn;rw[hy]at hrs;have hy':∀y∈ys,y.cells.length=size:=fun y hy=>by rw[List.all_eq_true]at hyl;simpa using hyl y hy
  have hfl:=tN hy';have hcs:cells.size=ys.length*size:=by have:=hrs.1;simp at this;omega
  have hpos:=hE.pos
  have hmax:ys.length≤16777216:=by
   have :ys.length*1≤ys.length*size:=Nat.mul_le_mul_left _ hpos;rw[hl]at this ⊢;omega
  obtain⟨h2,h3⟩:=hm.push (.cells cells e) ⟨.slice (some ⟨w.heap.size,0,none⟩) len len,size⟩ (.arr e size ys) (fun b hb=>by simpa[eG]using hb.symm) (by
   refine⟨rfl,hy',cells.toList,⟨by simpa using hcs,.inr ⟨w.heap.size,len,cells,by rw[hl],Nat.zero_le _,heap_alloc_new w _,by omega,by unfold maxLen;omega,Nat.le_of_eq (by rw[hcs,hl]),?_⟩⟩,?_⟩
   ·rw[List.take_of_length_le (by simp;omega)]
   exact hrs.mono (fun b hb=>⟨hb,Below.heap_alloc _ _ _ (hm.jH b hb)⟩) (Names.push _ _))
  refine⟨.slice (some ⟨w.heap.size,0,none⟩) len len,_,ok,_,.inl ?_,h3,Names.push _ _,h2,.aK _ _ _ _ size (by rw[←hm.hlen];simp)⟩;simp only[execOp,ho,Sem.run_bind,hr,Result.andThen_ok,Sem.run_pure]
end
end Go.Proofs.YtolgdkhlelfpoaaGreat
end
section
namespace Go.Proofs.YtolgdkhlelfpoaaGreat
open Go.RowKit
section
variable {P : Program} {ops : Array Oper} {Q : Exit → Act → World → Prop} {φ : Nat → Value → World → Prop} {W : World} {a0 : Act} {i : Nat}
variable {d : Option Tmp} {t : TypeId} {p : String} {af : Array Edge} {g : Option (Nat × Bool)}
def Enters (P:Program) (f:FuncId):Prop:=∀args w,(callFunc f args).run P w=.ok (.enter f args) w
theorem enters_of {f:FuncId} {fn:Func} {c:Code} (hf:P.funcs[f]? =some fn) (hname:(fn.name== "runtime.NumGoroutine")=false) (hb:fn.body=some c):Enters P f:=by
 intro args w;have h1:fn.name≠ "runtime.NumGoroutine":=by simpa using hname
 simp[callFunc,hf,h1,hb]
def aF (P:Program) (f:FuncId):Bool:=match P.funcs[f]? with
 |some fn=>!(fn.name== "runtime.NumGoroutine")&&fn.body.isSome
 |none=>false
theorem oC {f:FuncId} (h:aF P f=true):Enters P f:=by
 unfold aF at h;cases hf:P.funcs[f]? with
 |none=>rw[hf]at h;cases h
 |some fn=>
  rw[hf]at h;simp only[Bool.and_eq_true,Bool.not_eq_true']at h;obtain⟨c,hc⟩:=Option.isSome_iff_exists.1 h.2;exact enters_of hf h.1 hc
theorem Gt {o:Oper} {a:Act} {f:FuncId} {ats:Array TypeId} {ayd:Array Operand} (hop:o.op=.call { callee:=.value (.func f),args:=ayd,argTypes:=ats }):execOp a.eval o=callFunc f (ayd.map a.eval):=by
 have ef:a.eval (.func f)=.func (.func f) #[] #[]:=rfl;unfold execOp;simp[hop,resolve,Deferred.ofValue,invoke,ef]
end
end Go.Proofs.YtolgdkhlelfpoaaGreat
end
section
namespace Go.Proofs.YtolgdkhlelfpoaaGreat
open Go.RowKit
inductive Sr where
 |ent (k:Nat)
 |nil (size:Nat)
def Sr.hd (H:List Hd):Sr→Hd
 | .ent k=>H.getD k ⟨undef,0⟩
 | .nil s=>⟨.slice none 0 0,s⟩
def AV.Nc (srcs:List Sr) (n:Nat):AV→AV
 | .d x=>.d x
 | .ptr k off=>match srcs[k]? with |some (.ent j)=>.ptr j off|some (.nil _)=>.junk|none=>.ptr (n+(k-srcs.length)) off
 | .aK k=>match srcs[k]? with |some (.ent j)=>.aK j|some (.nil _)=>.junk|none=>.aK (n+(k-srcs.length))
 | .jV k i off=>match srcs[k]? with |some (.ent j)=>.jV j i off|some (.nil _)=>.junk|none=>.jV (n+(k-srcs.length)) i off
 | .mp k=>match srcs[k]? with |some (.ent j)=>.mp j|some (.nil _)=>.junk|none=>.mp (n+(k-srcs.length))
 | .qR k=>match srcs[k]? with |some (.ent j)=>.qR j|some (.nil _)=>.junk|none=>.qR (n+(k-srcs.length))
 | .clip xs=>.clip xs
 |_=>.junk
def AV.up (srcs:List Sr) (n:Nat):AV→AV
 | .eH xs=>.eH (xs.map (AV.Nc srcs n))
 | .fn f fi ca=>.fn f (fi.map (AV.Nc srcs n)) (ca.map (AV.Nc srcs n))
 |x=>x.Nc srcs n
def aiL (srcs:List Sr):AV→AV→Prop
 | .d x,y=>y=.d x
 | .ptr k off,y=>∃i,y=.ptr i off∧srcs[i]? =some (.ent k)
 | .mp k,y=>∃i,y=.mp i∧srcs[i]? =some (.ent k)
 |_,_=>False
def Vt (srcs:List Sr):List AV→List AV→Prop
 |x::xs,y::ys=>aiL srcs x y∧Vt srcs xs ys
 | [],[]=>True
 |_,_=>False
theorem Nh {srcs:List Sr}:∀{xs ys:List AV},Vt srcs xs ys→xs.length=ys.length
 | [],[],_=>rfl
 |_::xs,_::ys,h=>by simp[Nh h.2]
 | [],_::_,h=>h.elim
 |_::_,[],h=>h.elim
theorem abP {srcs:List Sr}:∀{xs ys:List AV},Vt srcs xs ys→∀i,i<ys.length→aiL srcs (xs.getD i .junk) (ys.getD i .junk)
 | [],[],_,i,hi=>by simp at hi
 |_::xs,_::ys,h,0,_=>by simpa using h.1
 |_::xs,_::ys,h,i+1,hi=>by simpa using abP h.2 i (by simpa using hi)
 | [],_::_,h,_,_=>h.elim
 |_::_,[],h,_,_=>h.elim
def arF (srcs:List Sr):AV→AV→Prop
 | .fn f fi ca,y=>∃fi' ca',y=.fn f fi' ca'∧Vt srcs fi fi'∧Vt srcs ca ca'
 | .d x,y=>y=.d x∨(∃i s,x=.lit (.slice none 0 0)∧y=.aK i∧srcs[i]? =some (.nil s))∨(x=.lit (.slice none 0 0)∧y=.d (.sl []))
 | .aK k,y=>∃i,y=.aK i∧srcs[i]? =some (.ent k)
 | .ptr k off,y=>∃i,y=.ptr i off∧srcs[i]? =some (.ent k)
 | .mp k,y=>∃i,y=.mp i∧srcs[i]? =some (.ent k)
 |_,_=>False
def bn.closed:bn→Bool
 | .box cs=>cs.all AV.xk
 | .loop ..=>false
 |_=>true
theorem iL.any {ok:Nat→Prop} {w:World} {H H2:List Hd} {h:Hd} {e:bn} (he:iL ok w H h e) (hc:e.closed=true):iL ok w H2 h e:=by
 cases e with
 |dead=>trivial
 |box cs=>
  obtain⟨b,vs,T,h1,h2,h3,h4⟩:=he;refine⟨b,vs,T,h1,h2,h3,fun i hi=>⟨(h4 i hi).1,?_⟩⟩;have h5:=(h4 i hi).2;simp only[bn.closed,List.all_eq_true]at hc;have h6:=hc (cs.getD i .junk) (by simp[List.getD,hi]);cases hx:cs.getD i .junk with
  |d x=>rw[hx]at h5;cases h5 with |d _ _ h=>exact .d _ _ h
  |_=>rw[hx]at h6;simp[AV.xk]at h6
 |arr e s es=>
  obtain⟨h1,h2,xs,h3,h4,h5⟩:=he;refine⟨h1,h2,xs,h3,h4,fun i hi=>⟨(h5 i hi).1,?_⟩⟩;have h6:=(h5 i hi).2;have hm:(flat es).getD i .junk∈flat es:=by simp[List.getD,hi]
  unfold flat at hm ⊢;simp only[List.mem_flatMap,List.mem_map]at hm;obtain⟨x,_,y,_,hy⟩:=hm;unfold flat at h6;rw[←hy]at h6 ⊢;cases h6 with |d _ _ h=>exact .d _ _ h
 |map es=>exact he
 |dA es=>exact he
 |iter es vis=>exact he
 |loop=>cases hc
def bn.up (srcs:List Sr) (n:Nat):bn→bn
 | .box cs=>.box (cs.map (AV.Nc srcs n))
 |e=>e
def AV.aiu (srcs:List Sr):AV→Bool
 | .d _=>true
 | .mp k=>match srcs[k]? with |some (.ent _)=>true|_=>false
 | .ptr k _=>match srcs[k]? with |some (.ent _)=>true|_=>false
 |_=>false
def bn.adx (srcs:List Sr):bn→Bool
 | .box cs=>cs.all (AV.aiu srcs)
 | .loop ..=>false
 |_=>true
def bn.aft (srcs:List Sr) (n:Nat):bn→Bool
 | .box cs=>cs.all fun x=>x.xk||(x.Nc srcs n).leaf
 | .loop ..=>false
 |_=>true
theorem bn.Vu (srcs:List Sr) (n:Nat) (e:bn):(e.up srcs n).live=e.live:=by cases e<;>rfl
theorem anT {srcs:List Sr} {n:Nat} {x:AV} (h:x.xk=true):x.Nc srcs n=x:=by cases x<;>first|rfl|cases h
theorem bn.anU {srcs:List Sr} {n:Nat} {e:bn} (h:e.closed=true):e.up srcs n=e:=by
 cases e with
 |box cs=>
  simp only[bn.closed,List.all_eq_true]at h;show bn.box (cs.map (AV.Nc srcs n))=bn.box cs
  rw[show cs.map (AV.Nc srcs n)=cs from by
   conv=>rhs;rw[←List.map_id cs]
   exact List.map_congr_left fun x hx=>anT (h x hx)]
 |_=>rfl
theorem ady {srcs:List Sr} {n:Nat}:∀{E:List bn},E.all bn.closed=true→E.map (bn.up srcs n)=E
 | [],_=>rfl
 |e::E,h=>by
  simp only[List.all_cons,Bool.and_eq_true]at h;rw[List.map_cons,bn.anU h.1,ady h.2]
theorem akG {srcs:List Sr} {n:Nat} {e:bn} (h:e.closed=true):e.aft srcs n=true:=by
 cases e with
 |box cs=>
  simp only[bn.closed,bn.aft,List.all_eq_true]at h ⊢;intro x hx;rw[h x hx];rfl
 |loop=>cases h
 |_=>rfl
theorem iL.down {ok:Nat→Prop} {w:World} {H Hc:List Hd} {h:Hd} {srcs:List Sr} {n:Nat} {e:bn} (hc:∀(j:Nat) (s:Sr),srcs[j]? =some s→Hc[j]? =some (Sr.hd H s)) (hd:e.adx srcs=true) (he:iL ok w H h (e.up srcs n)):iL ok w Hc h e:=by
 cases e with
 |dead=>trivial
 |arr=>exact he.any rfl
 |map=>exact he
 |dA=>exact he
 |iter=>exact he
 |loop=>cases hd
 |box cs=>
  obtain⟨b,vs,T,h1,h2,h3,h4⟩:=he;refine⟨b,vs,T,h1,h2,by rw[h3,List.length_map],fun i hi=>?_⟩;obtain⟨h7,h5⟩:=h4 i (by rw[List.length_map];exact hi);rw[jS _ _ _ hi]at h5 h7;simp only[bn.adx,List.all_eq_true]at hd;have h6:=hd (cs.getD i .junk) (by simp[List.getD,hi]);generalize cs.getD i .junk=x at h5 h6 h7 ⊢;generalize vs.toList.getD i undef=v at h5 ⊢;cases x with
  |d x=>exact⟨h7,by cases h5 with |d _ _ h=>exact .d _ _ h⟩
  |mp k=>
   refine⟨rfl,?_⟩;simp only[AV.aiu]at h6;simp only[AV.Nc]at h5;cases hs:srcs[k]? with
   |none=>rw[hs]at h6;cases h6
   |some s=>
    cases s with
    |nil _=>rw[hs]at h6;cases h6
    |ent j=>
     rw[hs]at h5;cases h5 with
     |mp _ _ s hl hH=>
      refine .mp k _ s hl ?_;rw[hc k _ hs];simp[Sr.hd,List.getD,hH]
  |ptr k off=>
   refine⟨rfl,?_⟩;simp only[AV.aiu]at h6;simp only[AV.Nc]at h5;cases hs:srcs[k]? with
   |none=>rw[hs]at h6;cases h6
   |some s=>
    cases s with
    |nil _=>rw[hs]at h6;cases h6
    |ent j=>
     rw[hs]at h5;cases h5 with
     |ptr _ _ b s hH=>
      refine .ptr k off b s ?_;rw[hc k _ hs];simp[Sr.hd,List.getD,hH]
  |_=>simp[AV.aiu]at h6
def uo (srcs:List Sr) (es E':List bn):List bn:=
 (es.zipIdx.map fun(e,j)=>match srcs.findIdx? (fun s=>match s with | .ent k=>k==j| .nil _=>false)with |some i=>(E'.getD i .dead).up srcs es.length|none=>e)++(E'.drop srcs.length).map (bn.up srcs es.length)
def O7 (srcs:List Sr) (es E E':List bn):Bool:=
 decide (srcs.length=E.length)&&decide (srcs.length≤E'.length)&&E.all (bn.adx srcs)&&E'.all (bn.aft srcs es.length)&&
 decide ((srcs.filterMap fun s=>match s with | .ent k=>some k| .nil _=>none).Nodup)&&
 ((srcs.zip E').all fun p=>match p.1 with | .ent _=>true| .nil _=>!p.2.live)&&(srcs.all fun s=>match s with | .ent k=>decide (k<es.length)&&(es.getD k .dead).live| .nil _=>true)
def Qh (srcs:List Sr) (es:List bn):List bn→Prop
 |E=>∀(i:Nat) (s:Sr),srcs[i]? =some s→match s with | .ent k=>(E[i]?).map (bn.up srcs es.length)=es[k]? | .nil sz=>∃e,E[i]? =some (.arr e sz [])
theorem Dz {ok:Nat→Prop} {w:World} {H Hc H':List Hd} {srcs:List Sr} {x:AV} {v:Value} (hc:Hc=srcs.map (Sr.hd H)) (hlt:∀(i k:Nat),srcs[i]? =some (.ent k)→k<H.length) (hn:Names Hc H') (h:R ok w H' x v):R ok w (H++H'.drop srcs.length) (x.Nc srcs H.length) v:=by
 have key:∀(k:Nat) (hd:Hd),H'[k]? =some hd→(∀(j:Nat),srcs[k]? =some (.ent j)→(H++H'.drop srcs.length)[j]? =some hd)∧(srcs[k]? =none→(H++H'.drop srcs.length)[H.length+(k-srcs.length)]? =some hd):=by
  intro k hd hk;refine⟨fun j hj=>?_,fun hno=>?_⟩
  ·have hjl:=hlt k j hj;have h1:Hc[k]? =some (H.getD j ⟨undef,0⟩):=by rw[hc,List.getElem?_map,hj];rfl
   have h2:=hn _ _ h1;rw[hk]at h2;rw[List.getElem?_append_left hjl];simp[List.getD,hjl]at h2;simp[hjl,h2]
  have hk2:srcs.length≤k:=by simpa using hno
  rw[List.getElem?_append_right (by omega),List.getElem?_drop];have :srcs.length+(H.length+(k-srcs.length)-H.length)=k:=by omega
  rw[this,hk]
 cases h with
 |d x v h=>exact .d x v h
 |ptr k off b s h=>
  obtain⟨h1,h2⟩:=key k _ h;simp only[AV.Nc];split<;>rename_i hs
  ·exact .ptr _ off b s (h1 _ hs)
  ·exact .junk _
  exact .ptr _ off b s (h2 hs)
 |aK k ad n cap s h=>
  obtain⟨h1,h2⟩:=key k _ h;simp only[AV.Nc];split<;>rename_i hs
  ·exact .aK _ ad n cap s (h1 _ hs)
  ·exact .junk _
  exact .aK _ ad n cap s (h2 hs)
 |jV k i off b n cap s h=>
  obtain⟨h1,h2⟩:=key k _ h;simp only[AV.Nc];split<;>rename_i hs
  ·exact .jV _ i off b n cap s (h1 _ hs)
  ·exact .junk _
  exact .jV _ i off b n cap s (h2 hs)
 |mp k v s hl h=>
  obtain⟨h1,h2⟩:=key k _ h;simp only[AV.Nc];split<;>rename_i hs
  ·exact .mp _ v s hl (h1 _ hs)
  ·exact .junk _
  exact .mp _ v s hl (h2 hs)
 |clip xs ad h=>exact .clip xs ad h
 |qR k ad n cap s h=>
  obtain⟨h1,h2⟩:=key k _ h;simp only[AV.Nc];split<;>rename_i hs
  ·exact .qR _ ad n cap s (h1 _ hs)
  ·exact .junk _
  exact .qR _ ad n cap s (h2 hs)
 |fn f first cap vs us hl hm h h'=>exact .junk _
 |eH xs vs hl h=>exact .junk _
 |ag xs vs hl hf h=>exact .junk _
 |junk v=>exact .junk _
theorem arG {ok:Nat→Prop} {w:World} {H Hc H':List Hd} {srcs:List Sr} {x:AV} {v:Value} (hc:Hc=srcs.map (Sr.hd H)) (hlt:∀(i k:Nat),srcs[i]? =some (.ent k)→k<H.length) (hn:Names Hc H') (h:R ok w H' x v):R ok w (H++H'.drop srcs.length) (x.up srcs H.length) v:=by
 cases h with
 |eH xs vs hl h=>exact .eH _ vs (by simp[hl]) (fun i hi=>by rw[List.length_map]at hi;rw[jS _ _ _ hi];exact Dz hc hlt hn (h i hi))
 |ag xs vs hl hf h=>exact .junk _
 |d x v h=>exact Dz hc hlt hn (.d x v h)
 |ptr k off b s h=>exact Dz hc hlt hn (.ptr k off b s h)
 |aK k ad n cap s h=>exact Dz hc hlt hn (.aK k ad n cap s h)
 |jV k i off b n cap s h=>exact Dz hc hlt hn (.jV k i off b n cap s h)
 |mp k v s hl h=>exact Dz hc hlt hn (.mp k v s hl h)
 |clip xs ad h=>exact Dz hc hlt hn (.clip xs ad h)
 |qR k ad n cap s h=>exact Dz hc hlt hn (.qR k ad n cap s h)
 |fn f first cap vs us hl hm h h'=>exact .fn f _ _ vs us (by simp[hl]) (by simp[hm]) (fun i hi=>by rw[List.length_map]at hi;rw[jS _ _ _ hi];exact Dz hc hlt hn (h i hi)) (fun i hi=>by rw[List.length_map]at hi;rw[jS _ _ _ hi];exact Dz hc hlt hn (h' i hi))
 |junk v=>exact .junk _
theorem iL.upw {ok:Nat→Prop} {w:World} {H Hc H':List Hd} {h:Hd} {srcs:List Sr} {n:Nat} {e:bn} (hc:Hc=srcs.map (Sr.hd H)) (hlt:∀(i k:Nat),srcs[i]? =some (.ent k)→k<H.length) (hn:Names Hc H') (hl:H.length=n) (hu:e.aft srcs n=true) (he:iL ok w H' h e):
 iL ok w (H++H'.drop srcs.length) h (e.up srcs n):=by
 cases e with
 |dead=>trivial
 |arr=>exact he.any rfl
 |map=>exact he
 |dA=>exact he
 |iter=>exact he
 |loop=>cases hu
 |box cs=>
  obtain⟨b,vs,T,h1,h2,h3,h4⟩:=he;refine⟨b,vs,T,h1,h2,by rw[h3,List.length_map],fun i hi=>?_⟩;rw[List.length_map]at hi;obtain⟨h7,h5⟩:=h4 i hi;simp only[bn.aft,List.all_eq_true]at hu;have h6:=hu (cs.getD i .junk) (by simp[List.getD,hi]);rw[jS _ _ _ hi];refine⟨?_,by have:=Dz hc hlt hn h5;rwa [hl]at this⟩;rcases Bool.or_eq_true_iff.1 h6 with h6|h6
  ·rw[anT h6];exact h7
  exact h6
def fV :List Operand→List AV→List (Operand×AV)
 |x::xs,v::vs=>(x,v)::fV xs vs
 |_,_=>[]
def yR (srcs:List Sr):List AV→List AV→Prop
 |x::xs,y::ys=>arF srcs x y∧yR srcs xs ys
 | [],[]=>True
 |_,_=>False
theorem aiM {srcs:List Sr}:∀{xs ys:List AV},yR srcs xs ys→xs.length=ys.length
 | [],[],_=>rfl
 |_::xs,_::ys,h=>by simp[aiM h.2]
 | [],_::_,h=>h.elim
 |_::_,[],h=>h.elim
theorem asq {srcs:List Sr} {ops:List Operand}:∀{xs ys:List AV},ops.length=xs.length→yR srcs xs ys→∀i,i<ys.length→∃o x,ops[i]? =some o∧(o,x)∈fV ops xs∧arF srcs x (ys.getD i .junk):=by
 induction ops with
 |nil=>
  intro xs ys hl h i hi;cases xs with
  |nil=>cases ys with |nil=>simp at hi|cons _ _=>exact h.elim
  |cons _ _=>simp at hl
 |cons o ops ih=>
  intro xs ys hl h i hi;cases xs with
  |nil=>simp at hl
  |cons x xs=>
   cases ys with
   |nil=>exact h.elim
   |cons y ys=>
    cases i with
    |zero=>exact⟨o,x,rfl,by simp[fV],h.1⟩
    |succ i=>
     obtain⟨o',x',h1,h2,h3⟩:=ih (by simpa using hl) h.2 i (by simpa using hi);exact⟨o',x',by simpa using h1,by simp[fV,h2],by simpa using h3⟩
theorem amj {srcs:List Sr} {H:List Hd} {b:Nat}:b∈(srcs.filterMap fun s=>match s with | .ent k=>eG (H.getD k ⟨undef,0⟩).v| .nil _=>none)↔∃k,.ent k∈srcs∧eG (H.getD k ⟨undef,0⟩).v=some b:=by
 rw[List.mem_filterMap];constructor
 ·rintro⟨s,hs,h⟩;cases s with
  |ent k=>exact⟨k,hs,h⟩
  |nil _=>cases h
 rintro⟨k,hs,h⟩;exact⟨_,hs,h⟩
section
variable {P : Program} {o : Oper} {es : List bn}
theorem ahf :∀{srcs:List Sr},(srcs.filterMap fun s=>match s with | .ent k=>some k| .nil _=>none).Nodup→∀(i j k:Nat),srcs[i]? =some (.ent k)→srcs[j]? =some (.ent k)→i=j
 | [],_,i,j,k,h,_=>by simp at h
 |s::srcs,hn,i,j,k,hi,hj=>by
  have hmem:∀(n:Nat),srcs[n]? =some (.ent k)→k∈srcs.filterMap fun s=>match s with | .ent k=>some k| .nil _=>none:=fun n h=>by
   rw[List.mem_filterMap];exact⟨_,List.mem_of_getElem? h,rfl⟩
  have hn2:(srcs.filterMap fun s=>match s with | .ent k=>some k| .nil _=>none).Nodup:=by
   cases s with
   |ent k'=>simp only[List.filterMap_cons]at hn;exact(List.nodup_cons.1 hn).2
   |nil _=>simpa only[List.filterMap_cons]using hn
  match i,j with
  |0,0=>rfl
  |0,j+1=>
   simp at hi hj;subst hi;simp only[List.filterMap_cons]at hn;exact absurd (hmem j hj) (List.nodup_cons.1 hn).1
  |i+1,0=>
   simp at hi hj;subst hj;simp only[List.filterMap_cons]at hn;exact absurd (hmem i hi) (List.nodup_cons.1 hn).1
  |i+1,j+1=>rw[ahf hn2 i j k (by simpa using hi) (by simpa using hj)]
theorem ahg {f:FuncId} {C:Cx} {ok:Nat→Prop} {H:List Hd} {w:World} (hm:Mem C ok H es w) (srcs:List Sr) {dI dK:List AV} {E E':List bn} {res:AV} (hr:Runs P f dK E res E')
 (hb:O7 srcs es E E'=true) (hE:Qh srcs es E) (ha:yR srcs dI dK) {ops:List Operand} (hl:ops.length=dI.length) {a:Act} (hn:∀n∈fV ops dI,R ok w H n.2 (a.eval n.1)):
 Calls P f (ops.map a.eval).toArray w fun e w'=>∃v ok' H',e=.returned v∧Grow ok w ok' w'∧Names H H'∧Mem C ok' H' (uo srcs es E') w'∧R ok' w' H' (res.up srcs es.length) v:=by
 unfold O7 at hb;simp only[Bool.and_eq_true,decide_eq_true_eq,List.all_eq_true]at hb;obtain⟨⟨⟨⟨⟨⟨hb1,hb2⟩,hb3⟩,hb4⟩,hb5⟩,hb6⟩,hb7⟩:=hb;have hidx:=ahf hb5
 let Hc:=srcs.map (Sr.hd H)
 let X:=srcs.filterMap fun s=>match s with | .ent k=>eG (H.getD k ⟨undef,0⟩).v| .nil _=>none
 have hX:∀b,b∈X↔∃k,.ent k∈srcs∧eG (H.getD k ⟨undef,0⟩).v=some b:=fun b=>amj
 have hsrc:∀(i k:Nat),srcs[i]? =some (.ent k)→k<es.length∧(es.getD k .dead).live=true:=by
  intro i k hi;have:=hb7 _ (List.mem_of_getElem? hi);simpa using this
 have hlt:∀(i k:Nat),srcs[i]? =some (.ent k)→k<H.length:=fun i k hi=>by rw[hm.hlen];exact(hsrc i k hi).1
 have hHk:∀(k:Nat),k<H.length→H[k]? =some (H.getD k ⟨undef,0⟩):=fun k hk=>by simp[List.getD,hk]
 have afu:∀(k:Nat),k<es.length→es[k]? =some (es.getD k .dead):=fun k hk=>by simp[List.getD,hk]
 have Vw:∀b,b∈X→∃(i k:Nat),srcs[i]? =some (.ent k)∧eG (H.getD k ⟨undef,0⟩).v=some b∧¬ok b∧b<w.heap.size∧(C.w0.heap.size≤b∨b∈C.X):=by
  intro b hb;obtain⟨k,hk,hbk⟩:=(hX b).1 hb;obtain⟨i,hi,he⟩:=List.getElem_of_mem hk;have hi':srcs[i]? =some (.ent k):=by simp[hi,he]
  have:=hm.blk k _ _ b (afu k (hsrc i k hi').1) (hsrc i k hi').2 (hHk k (hlt i k hi')) hbk;exact⟨i,k,hi',hbk,this⟩
 have hmc:Mem ⟨w,ok,X,Hc⟩ ok Hc E w:=by
  refine⟨.refl _ _,fun _ h=>h,fun _ h=>.inl h,hm.jH,.refl _,by simp[Hc,hb1],?_,?_,?_⟩
  ·intro i e h he hh;have hi:i<srcs.length:=by rw[hb1];exact(List.getElem?_eq_some_iff.1 he).1
   have hcl:e.adx srcs=true:=hb3 e (List.mem_of_getElem? he);have axt:∀(j:Nat) (s:Sr),srcs[j]? =some s→Hc[j]? =some (Sr.hd H s):=fun j s hs=>by simp[Hc,hs]
   have hs:srcs[i]? =some srcs[i]:=by simp[hi]
   have hd:=hE i _ hs;simp only[Hc,List.getElem?_map,hs,Option.map_some,Option.some.injEq]at hh;cases hsi:srcs[i]with
   |ent k=>
    rw[hsi]at hd hh hs;simp only[Sr.hd]at hh;subst hh;simp only at hd;rw[he,Option.map_some]at hd;exact iL.down axt hcl (hm.ent k _ _ hd.symm (hHk k (hlt i k hs)))
   |nil sz=>
    rw[hsi]at hd hh;simp only[Sr.hd]at hh;subst hh;obtain⟨e',he'⟩:=hd;rw[he]at he';obtain rfl:=Option.some.inj he';exact⟨rfl,by simp,[],⟨by simp,.inl ⟨rfl,rfl⟩⟩,by simp[flat],fun i hi=>by simp[flat]at hi⟩
  ·intro i e h b he hlv hh hbl;have hi:i<srcs.length:=by rw[hb1];exact(List.getElem?_eq_some_iff.1 he).1
   have hs:srcs[i]? =some srcs[i]:=by simp[hi]
   simp only[Hc,List.getElem?_map,hs,Option.map_some,Option.some.injEq]at hh;cases hsi:srcs[i]with
   |ent k=>
    rw[hsi]at hh hs;simp only[Sr.hd]at hh;subst hh;have hbX:b∈X:=(hX b).2 ⟨k,List.mem_of_getElem? hs,hbl⟩;obtain⟨_,_,_,_,h1,h2,_⟩:=Vw b hbX;exact⟨h1,h2,.inr hbX⟩
   |nil sz=>
    rw[hsi]at hh;simp only[Sr.hd]at hh;subst hh;simp[eG]at hbl
  intro i j e e' h h' b he he' hlv abQ hh hh' hbl abR;have hi:i<srcs.length:=by rw[hb1];exact(List.getElem?_eq_some_iff.1 he).1
  have hj:j<srcs.length:=by rw[hb1];exact(List.getElem?_eq_some_iff.1 he').1
  have hs:srcs[i]? =some srcs[i]:=by simp[hi]
  have hs':srcs[j]? =some srcs[j]:=by simp[hj]
  simp only[Hc,List.getElem?_map,hs,Option.map_some,Option.some.injEq]at hh;simp only[Hc,List.getElem?_map,hs',Option.map_some,Option.some.injEq]at hh';cases hsi:srcs[i]with
  |nil sz=>rw[hsi]at hh;simp only[Sr.hd]at hh;subst hh;simp[eG]at hbl
  |ent k=>
   cases hsj:srcs[j]with
   |nil sz=>rw[hsj]at hh';simp only[Sr.hd]at hh';subst hh';simp[eG]at abR
   |ent k'=>
    rw[hsi]at hh hs;rw[hsj]at hh' hs';simp only[Sr.hd]at hh hh';subst hh;subst hh';have hkk:=hm.yQ k k' _ _ _ _ b (afu k (hsrc i k hs).1) (afu k' (hsrc j k' hs').1) (hsrc i k hs).2 (hsrc j k' hs').2 (hHk k (hlt i k hs)) (hHk k' (hlt j k' hs')) hbl abR;subst hkk;exact hidx i j k hs hs'
 have hargs:∀i,i<dK.length→R ok w Hc (dK.getD i .junk) ((ops.map a.eval).toArray.getD i undef):=by
  intro i hi;obtain⟨op,x,ho,hmem,harg⟩:=asq hl ha i hi;have hR:=hn _ hmem
  have e:(ops.map a.eval).toArray.getD i undef=a.eval op:=by
   obtain⟨h1,h2⟩:=List.getElem?_eq_some_iff.1 ho;simp[Array.getD,h1,h2]
  rw[e];simp only at hR;generalize dK.getD i .junk=y at harg ⊢;generalize a.eval op=u at hR ⊢;have hHc:∀(j:Nat) (s:Sr),srcs[j]? =some s→Hc[j]? =some (Sr.hd H s):=fun j s hs=>by simp[Hc,hs]
  cases x with
  |d x=>
   rcases harg with rfl|⟨j,s,rfl,rfl,hs⟩|⟨rfl,rfl⟩
   ·cases hR with |d _ _ h=>exact .d _ _ h
   ·have:=hR.lit;rw[this];exact .aK j none 0 0 s (hHc j _ hs)
   have:=hR.lit;rw[this];exact .d _ _ (.sl0 none 0)
  |aK k=>
   obtain⟨j,rfl,hs⟩:=harg;cases hR with
   |aK _ ad n cap s hH=>
    refine .aK j ad n cap s ?_;rw[hHc j _ hs];simp[Sr.hd,List.getD,hH]
  |ptr k off=>
   obtain⟨j,rfl,hs⟩:=harg;cases hR with
   |ptr _ _ b s hH=>
    refine .ptr j off b s ?_;rw[hHc j _ hs];simp[Sr.hd,List.getD,hH]
  |mp k=>
   obtain⟨j,rfl,hs⟩:=harg;cases hR with
   |mp _ _ s hl hH=>
    refine .mp j _ s hl ?_;rw[hHc j _ hs];simp[Sr.hd,List.getD,hH]
  |fn f fi ca=>
   obtain⟨fi',ca',rfl,h1,h2⟩:=harg
   have one:∀(x y:AV) (v:Value),aiL srcs x y→R ok w H x v→R ok w Hc y v:=by
    intro x y v hxy hx;cases x with
    |d x=>obtain rfl:=hxy;cases hx with |d _ _ h=>exact .d _ _ h
    |mp k=>
     obtain⟨j,rfl,hs⟩:=hxy;cases hx with
     |mp _ _ s hl hH=>
      refine .mp j _ s hl ?_;rw[hHc j _ hs];simp[Sr.hd,List.getD,hH]
    |ptr k off=>
     obtain⟨j,rfl,hs⟩:=hxy;cases hx with
     |ptr _ _ b s hH=>
      refine .ptr j off b s ?_;rw[hHc j _ hs];simp[Sr.hd,List.getD,hH]
    |_=>exact hxy.elim
   cases hR with
   |fn _ _ _ vs us hl1 hl2 h3 h4=>
    refine .fn f fi' ca' vs us (by rw[hl1,Nh h1]) (by rw[hl2,Nh h2]) (fun i hi=>?_) (fun i hi=>?_)
    ·exact one _ _ _ (abP h1 i hi) (h3 i (by rw[Nh h1];exact hi))
    exact one _ _ _ (abP h2 i hi) (h4 i (by rw[Nh h2];exact hi))
  |_=>exact harg.elim
 refine(hr ok X Hc w _ hmc (by simp[hl,aiM ha]) hargs).mono ?_;rintro e w' ⟨v,ok',H',rfl,hm',hR⟩;have hgr:Grow ok w ok' w':=fun b hb=>⟨hm'.rP b hb,hm'.fr.block b (hm.jH b hb) (fun hbX=>by obtain⟨_,_,_,_,h1,_⟩:=Vw b hbX;exact h1 hb)⟩
 have ax7:srcs.length≤H'.length:=by rw[hm'.hlen];exact hb2
 refine⟨v,ok',H++H'.drop srcs.length,rfl,hgr,Names.push _ _,?_,by have:=arG rfl hlt hm'.names hR;rwa [hm.hlen]at this⟩
 let idx:Nat→Option Nat:=fun j=>srcs.findIdx? (fun s=>match s with | .ent k=>k==j| .nil _=>false)
 have awr:∀(j i:Nat),idx j=some i→srcs[i]? =some (.ent j):=by
  intro j i h;simp only[idx,List.findIdx?_eq_some_iff_getElem]at h;obtain⟨h1,h2,_⟩:=h;have :srcs[i]? =some srcs[i]:=by simp[h1]
  cases hs:srcs[i]with
  |ent k=>rw[hs]at h2 this;simp at h2;rw[this,h2]
  |nil _=>rw[hs]at h2;simp at h2
 have awt:∀(j:Nat),idx j=none→∀(i:Nat),srcs[i]? ≠some (.ent j):=by
  intro j h i hi;simp only[idx,List.findIdx?_eq_none_iff]at h;have:=h _ (List.mem_of_getElem? hi);simp at this
 have hlow:∀(j:Nat),j<es.length→(uo srcs es E')[j]? =some (match idx j with |some i=>(E'.getD i .dead).up srcs es.length|none=>es.getD j .dead):=by
  intro j hj;unfold uo;rw[List.getElem?_append_left (by simpa using hj)];simp only[List.getElem?_map,List.getElem?_zipIdx,afu j hj,Option.map_some,Nat.zero_add];rfl
 have atY:(uo srcs es E').length=es.length+(E'.length-srcs.length):=by simp[uo]
 have hhigh:∀(j:Nat),es.length≤j→(uo srcs es E')[j]? =(E'[srcs.length+(j-es.length)]?).map (bn.up srcs es.length):=by
  intro j hj;unfold uo;rw[List.getElem?_append_right (by simpa using hj),List.getElem?_map,List.getElem?_drop];simp
 have awu:∀(j:Nat),j<es.length→(H++H'.drop srcs.length)[j]? =H[j]?:=fun j hj=>List.getElem?_append_left (by rw[hm.hlen];exact hj)
 have atZ:∀(j:Nat),es.length≤j→(H++H'.drop srcs.length)[j]? =H'[srcs.length+(j-es.length)]?:=by
  intro j hj;rw[List.getElem?_append_right (by rw[hm.hlen];exact hj),List.getElem?_drop,hm.hlen]
 have hcls:∀(j:Nat) (e:bn) (h:Hd),(uo srcs es E')[j]? =some e→e.live=true∨True→(H++H'.drop srcs.length)[j]? =some h→
  (∃(i:Nat) (e0:bn),e=e0.up srcs es.length∧E'[i]? =some e0∧H'[i]? =some h∧((j<es.length∧srcs[i]? =some (.ent j))∨(es.length≤j∧i=srcs.length+(j-es.length))))∨(j<es.length∧es[j]? =some e∧H[j]? =some h∧∀(i:Nat),srcs[i]? ≠some (.ent j)):=by
  intro j e h he _ hh;by_cases hj:j<es.length
  ·rw[hlow j hj]at he;rw[awu j hj]at hh;cases hi:idx j with
   |none=>
    rw[hi]at he;simp only[Option.some.injEq]at he;exact .inr ⟨hj,by rw[afu j hj,he],hh,awt j hi⟩
   |some i=>
    rw[hi]at he;simp only[Option.some.injEq]at he;have hs:=awr j i hi;have hil:i<srcs.length:=(List.getElem?_eq_some_iff.1 hs).1;have hiE:i<E'.length:=by omega
    refine .inl ⟨i,_,he.symm,by simp[List.getD,hiE],?_,.inl ⟨hj,hs⟩⟩;refine hm'.names i h ?_;simp only[Hc,List.getElem?_map,hs,Option.map_some,Sr.hd];simp[List.getD,hh]
  rw[hhigh j (by omega)]at he;rw[atZ j (by omega)]at hh;rw[Option.map_eq_some_iff]at he;obtain⟨e0,he,rfl⟩:=he;exact .inl ⟨_,_,rfl,he,hh,.inr ⟨by omega,rfl⟩⟩
 have hold:∀(j:Nat) (e:bn) (h:Hd) (b:Nat),es[j]? =some e→H[j]? =some h→(∀(i:Nat),srcs[i]? ≠some (.ent j))→e.live=true→eG h.v=some b→b<w.heap.size∧b∉X∧¬ok b∧(C.w0.heap.size≤b∨b∈C.X):=by
  intro j e h b he hh hno hlv hbl;have h1:=hm.blk j e h b he hlv hh hbl;refine⟨h1.2.1,fun hbX=>?_,h1.1,h1.2.2⟩;obtain⟨i,k,hs,hbk,_⟩:=Vw b hbX;have:=hm.yQ j k e _ h _ b he (afu k (hsrc i k hs).1) hlv (hsrc i k hs).2 hh (hHk k (hlt i k hs)) hbl hbk;subst this;exact hno i hs
 have afv:∀(i:Nat) (e:bn) (h:Hd) (b:Nat),E'[i]? =some e→H'[i]? =some h→e.live=true→eG h.v=some b→¬ok' b∧b<w'.heap.size∧(w.heap.size≤b∨b∈X):=fun i e h b he hh hlv hbl=>hm'.blk i e h b he hlv hh hbl;refine⟨⟨hm'.fr.os.trans hm.fr.os,hm'.fr.tape.trans hm.fr.tape,hm'.fr.output.trans hm.fr.output,Nat.le_trans hm.fr.size hm'.fr.size,fun k hk hx=>?_⟩,fun b hb=>hm'.rP b (hm.rP b hb),?_,hm'.jH,hm.names.trans (Names.push _ _),?_,?_,?_,?_⟩
 ·have hkw:k<w.heap.size:=Nat.lt_of_lt_of_le hk hm.fr.size
  rw[hm'.fr.block k hkw (fun hkX=>by
   obtain⟨_,_,_,_,_,_,h⟩:=Vw k hkX;rcases h with h|h
   ·omega
   exact hx h)]
  exact hm.fr.block k hk hx
 ·intro b hb;rcases hm'.rQ b hb with h|h|h
  ·exact hm.rQ b h
  ·exact .inr (.inl (Nat.le_trans hm.fr.size h))
  obtain⟨_,_,_,_,_,_,h⟩:=Vw b h;exact .inr h
 ·rw[atY,List.length_append,List.length_drop,hm.hlen,hm'.hlen]
 ·intro j e h he hh;rcases hcls j e h he (.inr trivial) hh with⟨i,e0,rfl,h1,h2,_⟩|⟨_,h1,h2,h3⟩
  ·exact iL.upw rfl hlt hm'.names hm.hlen (hb4 e0 (List.mem_of_getElem? h1)) (hm'.ent i e0 h h1 h2)
  refine(hm.ent j e h h1 h2).mono hgr (Names.push _ _) (fun hlv b hbl=>?_);have h4:=hold j e h b h1 h2 h3 hlv hbl;exact hm'.fr.block b h4.1 h4.2.1
 ·intro j e h b he hlv hh hbl;rcases hcls j e h he (.inr trivial) hh with⟨i,e0,rfl,h1,h2,_⟩|⟨_,h1,h2,h3⟩
  ·have h4:=afv i e0 h b h1 h2 (by rw[bn.Vu]at hlv;exact hlv) hbl;refine⟨h4.1,h4.2.1,?_⟩;rcases h4.2.2 with h5|h5
   ·exact .inl (Nat.le_trans hm.fr.size h5)
   obtain⟨_,_,_,_,_,_,h⟩:=Vw b h5;exact h
  have h4:=hold j e h b h1 h2 h3 hlv hbl;refine⟨fun hok'=>?_,Nat.lt_of_lt_of_le h4.1 hm'.fr.size,h4.2.2.2⟩;rcases hm'.rQ b hok' with h5|h5|h5
  ·exact h4.2.2.1 h5
  ·have :w.heap.size≤b:=h5;omega
  exact h4.2.1 h5
 intro j j' e e' h h' b he he' hlv abQ hh hh' hbl abR;rcases hcls j e h he (.inr trivial) hh with⟨i,e0,rfl,h1,h2,h3⟩|⟨_,h1,h2,h3⟩
 ·rcases hcls j' e' h' he' (.inr trivial) hh' with⟨i',e0',rfl,h1',h2',h3'⟩|⟨_,h1',h2',h3'⟩
  ·have hii:=hm'.yQ i i' e0 e0' h h' b h1 h1' (by rw[bn.Vu]at hlv;exact hlv) (by rw[bn.Vu]at abQ;exact abQ) h2 h2' hbl abR;subst hii;rcases h3 with⟨_,h4⟩|⟨h4,h5⟩
   ·rcases h3' with⟨_,h4'⟩|⟨h4',h5'⟩
    ·rw[h4]at h4';simpa using h4'
    have:=(List.getElem?_eq_some_iff.1 h4).1;omega
   rcases h3' with⟨_,h4'⟩|⟨h4',h5'⟩
   ·have:=(List.getElem?_eq_some_iff.1 h4').1;omega
   omega
  have h4:=hold j' e' h' b h1' h2' h3' abQ abR;rcases(afv i e0 h b h1 h2 (by rw[bn.Vu]at hlv;exact hlv) hbl).2.2 with h5|h5
  ·omega
  exact absurd h5 h4.2.1
 rcases hcls j' e' h' he' (.inr trivial) hh' with⟨i',e0',rfl,h1',h2',h3'⟩|⟨_,h1',h2',h3'⟩
 ·have h4:=hold j e h b h1 h2 h3 hlv hbl;rcases(afv i' e0' h' b h1' h2' (by rw[bn.Vu]at abQ;exact abQ) abR).2.2 with h5|h5
  ·omega
  exact absurd h5 h4.2.1
 exact hm.yQ j j' e e' h h' b h1 h1' hlv abQ h2 h2' hbl abR
theorem alG {f:FuncId} {ops:Array Operand} {ats:Array TypeId} (srcs:List Sr) {dI dK:List AV} {E E':List bn} {res:AV} (hr:Runs P f dK E res E') (hf:aF P f=true) (hb:O7 srcs es E E'=true) (hE:Qh srcs es E) (ha:yR srcs dI dK) (hl:ops.toList.length=dI.length)
 (ho:o.op=.call { callee:=.value (.func f),args:=ops,argTypes:=ats }):bK P o (fV ops.toList dI) es (res.up srcs es.length) (uo srcs es E'):=by
 intro C ok H a w Q hm hn;unfold Oper.wp;rw[Gt ho,oC hf,Oper.upon_enter];have e:ops.map a.eval=(ops.toList.map a.eval).toArray:=by apply Array.ext';simp
 rw[e];refine(ahg hm srcs hr hb hE ha hl hn).mono ?_;rintro e w' ⟨v,ok',H',rfl,h1,h2,h3,h4⟩;exact⟨v,ok',H',rfl,h1,h2,h3,h4⟩
end
end Go.Proofs.YtolgdkhlelfpoaaGreat
end
section
namespace Go.Proofs.YtolgdkhlelfpoaaGreat
open Go.RowKit
def eI (n:Int):D:=.lit (.int .i64 n)
def dY (n:Int):D:=.lit (.int .u8 n)
def eB (b:Bool):D:=.lit (.bool b)
def eS (s:ByteArray):D:=.lit (.string s)
def eL {α:Type} (e:α→D) (l:List α):D:=.sl (l.map e)
def dc (x:D):List AV:=x.cells.map .d
def aV {α:Type} (l:List α) (i:Int):Option α:=if 0≤i then l[i.toNat]? else none
def gK {α:Type} (bytes:Nat) (l m:List α):Option (List α):=if(l.length+m.length)*bytes≤140737488355328 then some (l++m)else none
def lJ (s:ByteArray) (i:Int):Option Int:=if 0≤i then(s[i.toNat]?).map fun c=>(c.toNat:Int)else none
def wM {α:Type} (l:List α) (lo hi:Int):Option (List α):=if 0≤lo∧lo≤hi∧hi≤l.length then some ((l.drop lo.toNat).take (hi.toNat-lo.toNat))else none
def DC (s:ByteArray) (lo hi:Int):Option ByteArray:=if 0≤lo∧lo≤hi∧hi≤s.size then some (s.extract lo.toNat hi.toNat)else none
def pO {α:Type} (bytes:Nat) (z:α) (n c:Int):Option (List α):=if 0≤n∧n≤c∧(bytes:Int)*c≤140737488355328 then some (List.replicate n.toNat z)else none
theorem jP {α:Type} {l:List α} {i:Int} {x:α} (h:aV l i=some x):0≤i∧l[i.toNat]? =some x:=by
 unfold aV at h;split at h
 ·exact⟨‹_›,h⟩
 cases h
theorem asr {α β:Type} {l:List α} {i:Nat} {x:α} (f:α→β) (h:l[i]? =some x):(l.map f)[i]? =some (f x):=by simp[h]
theorem aW {α:Type} {b:Bool} {x y z:α} (hb:b=true) (h:(bif b then x else y)=z):x=z:=by subst hb;exact h
theorem aU {α:Type} {b:Bool} {x y z:α} (hb:b=false) (h:(bif b then x else y)=z):y=z:=by subst hb;exact h
theorem ig {α β:Type} {x:Option α} {f:α→Option β} {z:β} (h:x.bind f=some z):∃a,x=some a∧f a=some z:=Option.bind_eq_some_iff.1 h
def fuel :Nat:=9223372036854775808
section
variable {P : Program} {o : Oper} {es : List bn} {α : Type}
theorem aI {x:Operand} {t e:TypeId} (enc:α→D) (l:List α) (ht:P.underlying t=some (.slice e)) (ho:o.op=.call { callee:=.builtin .len,args:=#[x],argTypes:=#[t] }):
 bK P o [(x,.d (eL enc l))] es (.d (eI l.length)) es:=by
 have:=atV (es:=es) (xs:=l.map enc) ht ho;rw[List.length_map]at this;exact this
theorem vg {x:Operand} {t e e':TypeId} {k s:Nat} (enc:α→D) (l:List α) (hk:es[k]? =some (.arr e' s (l.map enc))) (ht:P.underlying t=some (.slice e)) (ho:o.op=.call { callee:=.builtin .len,args:=#[x],argTypes:=#[t] }):
 bK P o [(x,.aK k)] es (.d (eI l.length)) es:=by
 have:=amh hk ht ho;rw[List.length_map]at this;exact this
theorem asu {x:Operand} {t:TypeId} (s:ByteArray) (ht:P.underlying t=some .string) (ho:o.op=.call { callee:=.builtin .len,args:=#[x],argTypes:=#[t] }):
 bK P o [(x,.d (eS s))] es (.d (eI s.size)) es:=amg ht ho
theorem alH {x y:Operand} {t e:TypeId} {k:IntKind} {i:Int} {agg:Bool} {size:Nat} (enc:α→D) {l:List α} {a:α} (h:aV l i=some a) (ht:P.underlying t=some (.slice e)) (hT:Ty P e agg size) (hs:(enc a).cells.length=size) (ho:o.op=.indexAddr t x y):
 bK P o [(x,.d (eL enc l)),(y,.d (.lit (.int k i)))] es (.d (.ref (enc a).cells 0)) es:=
 apN ht hT (jP h).1 (asr enc (jP h).2) hs ho
theorem sQ {x y:Operand} {t e e':TypeId} {kd:IntKind} {i:Int} {k size:Nat} {agg:Bool} (enc:α→D) {l:List α} {a:α} (h:aV l i=some a) (hk:es[k]? =some (.arr e' size (l.map enc))) (ht:P.underlying t=some (.slice e)) (hT:Ty P e agg size) (ho:o.op=.indexAddr t x y):
 bK P o [(x,.aK k),(y,.d (.lit (.int kd i)))] es (.jV k i.toNat 0) es:=
 aiJ hk ht hT (jP h).1 (by have:=(List.getElem?_eq_some_iff.1 (jP h).2).1;simpa using this) ho
theorem amk {s:ByteArray} {i n:Int} (h:lJ s i=some n):∃c,0≤i∧s[i.toNat]? =some c∧n=c.toNat:=by
 unfold lJ at h;split at h
 ·rename_i h0;rw[Option.map_eq_some_iff]at h;obtain⟨c,h1,h2⟩:=h;exact⟨c,h0,h1,h2.symm⟩
 cases h
theorem Ae {x y:Operand} {t:TypeId} {k:IntKind} {i n:Int} {s:ByteArray} (h:lJ s i=some n) (ht:P.underlying t=some .string) (ho:o.op=.index t x y):
 bK P o [(x,.d (eS s)),(y,.d (.lit (.int k i)))] es (.d (dY n)) es:=by
 obtain⟨c,h0,h1,rfl⟩:=amk h;exact aiK ht h0 h1 ho
theorem SI {b:Nat} {l m r:List α} (h:gK b l m=some r):r=l++m∧(l.length+m.length)*b≤140737488355328:=by
 unfold gK at h;split at h
 ·exact⟨(Option.some.inj h).symm,‹_›⟩
 cases h
theorem Qi {n b:Nat} (hb:0<b) (h:n*b≤140737488355328):n≤maxLen:=by
 have :n*1≤n*b:=Nat.mul_le_mul_left _ hb;unfold maxLen;omega
theorem fB {s x:Operand} {t e:TypeId} {size bytes k:Nat} (enc:α→D) {l m r:List α} (h:gK bytes l m=some r) (hE:El P t e size bytes) (hk:es[k]? =some (.arr e size (l.map enc))) (hc:∀a,(enc a).cells.length=size) (hb:0<bytes)
 (ho:o.op=.call { callee:=.builtin .append,args:=#[s,x],argTypes:=#[t,t] }):
 bK P o [(s,.aK k),(x,.d (eL enc m))] es (.aK es.length) (es.set k .dead++[.arr e size (r.map enc)]):=by
 obtain⟨rfl,h2⟩:=SI h;have:=anR (ys:=m.map enc) hE hk (fun y hy=>by obtain⟨a,_,rfl⟩:=List.mem_map.1 hy;exact hc a) (by simpa using h2) (by simpa using Qi hb h2) ho;rw[←List.map_append]at this;exact this
theorem anV {s r:ByteArray} {lo hi:Int} (h:DC s lo hi=some r):(0≤lo∧lo≤hi∧hi≤s.size)∧r=s.extract lo.toNat hi.toNat:=by
 unfold DC at h;split at h
 ·exact⟨‹_›,(Option.some.inj h).symm⟩
 cases h
def DF (x:Option Operand) (n:Int):List (Operand×AV):=match x with |some y=>[(y,.d (eI n))]|none=>[]
theorem afw {t:TypeId} {x:Operand} {lo hi:Option Operand} {l h:Int} {s r:ByteArray} (hr:DC s l h=some r) (hl:lo=none→l=0) (hh:hi=none→h=s.size) (ht:P.underlying t=some .string) (ho:o.op=.slice t x lo hi none):
 bK P o ((x,.d (eS s))::(DF lo l++DF hi h)) es (.d (eS r)) es:=
 .pure fun ok H a w _ _ hn=>by
  obtain⟨⟨h0,h1,h2⟩,rfl⟩:=anV hr;have hx:=(hn (x,.d (eS s)) (by simp)).lit;simp only at hx;have hu:(underlying t).run P w=.ok .string w:=by simp[underlying,ht]
  refine⟨.string (s.extract l.toNat h.toNat),?_,.d _ _ (.lit _)⟩;have hlo:∀y,lo=some y→a.eval y=.int .i64 l:=fun y e=>(hn (y,.d (eI l)) (by simp[DF,e])).lit;have hhi:∀y,hi=some y→a.eval y=.int .i64 h:=fun y e=>(hn (y,.d (eI h)) (by simp[DF,e])).lit;have e1:((0:Int)≤h∧h≤(s.size:Int)):=⟨by omega,h2⟩
  have e2:((0:Int)≤l∧l≤(h.toNat:Int)):=⟨h0,by omega⟩
  cases lo with
  |none=>
   have hl0:=hl rfl;subst hl0;cases hi with
   |none=>
    have hh0:=hh rfl;subst hh0;simp[execOp,ho,hx,Instr.sliceAt,Instr.slice,hu,Instr.sliceBounds]
   |some y=>
    simp[execOp,ho,hx,Instr.sliceAt,Instr.slice,hu,Instr.sliceBounds,Instr.sliceBound,hhi y rfl,asIntOf,e1]
  |some z=>
   cases hi with
   |none=>
    have hh0:=hh rfl;subst hh0;have e2':((0:Int)≤l∧l≤(s.size:Int)):=⟨h0,by omega⟩
    simp[execOp,ho,hx,Instr.sliceAt,Instr.slice,hu,Instr.sliceBounds,Instr.sliceBound,hlo z rfl,asIntOf,e2']
   |some y=>
    simp[execOp,ho,hx,Instr.sliceAt,Instr.slice,hu,Instr.sliceBounds,Instr.sliceBound,hlo z rfl,hhi y rfl,asIntOf,e1];intro hc;have:=hc h0;omega
theorem ahh {l r:List α} {lo hi:Int} (h:wM l lo hi=some r):(0≤lo∧lo≤hi∧hi≤l.length)∧r=(l.drop lo.toNat).take (hi.toNat-lo.toNat):=by
 unfold wM at h;split at h
 ·exact⟨‹_›,(Option.some.inj h).symm⟩
 cases h
theorem anW {ok:Nat→Prop} {w:World} {xs:List D} {ad:Option Addr} {cap size l h:Nat} (hr:RD ok w (.sl xs) (.slice ad xs.length cap)) (hs:∀x∈xs,x.cells.length=size) (h1:l≤h) (h2:h≤xs.length):
 RD ok w (.sl ((xs.drop l).take (h-l))) (.slice (if cap=l then ad else ad.map (·.add (l*size))) (h-l) (cap-l)):=by
 have hlen:((xs.drop l).take (h-l)).length=h-l:=by simp;omega
 by_cases hz:h-l=0
 ·have :(xs.drop l).take (h-l)=[]:=by rw[hz];rfl
  rw[this,hz];exact .sl0 _ _
 have hxs:0<xs.length:=by omega
 generalize hn:xs.length=n at hr;cases hr with
 |sl0=>simp at hxs
 |sl _ b off _ size' hcap hok hs' hf hx hc=>
  have hsz:size'=size:=by
   rw[←hs' 0 hxs];exact hs _ (by simp[List.getD,hxs])
  subst hsz;have hne:cap≠l:=by omega
  rw[if_neg hne];simp only[Option.map_some,addr_add]
  have hg:∀i,i<h-l→((xs.drop l).take (h-l)).getD i dz=xs.getD (l+i) dz:=by
   intro i hi;simp[List.getD,List.getElem?_take_of_lt hi,List.getElem?_drop]
  have hoff:∀i j,off+l*size'+(i*size'+j)=off+((l+i)*size'+j):=by
   intro i j;rw[Nat.add_mul];omega
  have:=RD.sl ((xs.drop l).take (h-l)) b (off+l*size') (cap-l) size' (ok:=ok) (w:=w) (by rw[hlen];omega) (fun h1 h2=>hok (by rw[hlen]at h1;omega) h2) (fun i hi=>by rw[hlen]at hi;rw[hg i hi];exact hs' _ (by omega))
   (fun i hi j hj=>by rw[hlen]at hi;rw[hg i hi];exact hf _ (by omega) j hj) (fun i hi j hj=>by rw[hlen]at hi;rw[hoff];exact hx _ (by omega) j hj)
   (fun i hi j hj=>by rw[hlen]at hi;rw[hg i hi,hoff];exact hc _ (by omega) j hj)
  rw[hlen]at this;exact this
theorem P5 {t e:TypeId} {agg:Bool} {size:Nat} {x:Operand} {lo hi:Option Operand} {l h:Int} (enc:α→D) {xs r:List α} (hr:wM xs l h=some r) (hl:lo=none→l=0) (hh:hi=none→h=xs.length) (ht:P.underlying t=some (.slice e)) (hT:Ty P e agg size)
 (hc:∀a,(enc a).cells.length=size) (ho:o.op=.slice t x lo hi none):bK P o ((x,.d (eL enc xs))::(DF lo l++DF hi h)) es (.d (eL enc r)) es:=
 .pure fun ok H a w _ _ hn=>by
  obtain⟨⟨h0,h1,h2⟩,rfl⟩:=ahh hr;have hx:=hn (x,.d (eL enc xs)) (by simp);simp only at hx;generalize hv:a.eval x=v at hx;have hu:(underlying t).run P w=.ok (.slice e) w:=by simp[underlying,ht]
  have hlo:∀y,lo=some y→a.eval y=.int .i64 l:=fun y e=>(hn (y,.d (eI l)) (by simp[DF,e])).lit;have hhi:∀y,hi=some y→a.eval y=.int .i64 h:=fun y e=>(hn (y,.d (eI h)) (by simp[DF,e])).lit;have hrd:RD ok w (.sl (xs.map enc)) v:=by cases hx with |d _ _ h=>exact h
  have hform:∃ad cap,v=.slice ad (xs.map enc).length cap∧(xs.map enc).length≤cap:=by
   generalize hys:xs.map enc=ys at hrd;cases hrd with
   |sl0 ad cap=>exact⟨ad,cap,rfl,Nat.zero_le _⟩
   |sl _ b off cap size hcap=>exact⟨_,cap,rfl,hcap⟩
  obtain⟨ad,cap,rfl,hcap⟩:=hform;have hsub:=anW (l:=l.toNat) (h:=h.toNat) hrd (size:=size) (fun y hy=>by obtain⟨b,_,rfl⟩:=List.mem_map.1 hy;exact hc b) (by omega) (by simp;omega);rw[←List.map_drop,←List.map_take]at hsub;rw[List.length_map]at hcap;refine⟨_,?_,.d _ _ hsub⟩;have e1:((0:Int)≤h∧h≤(cap:Int)):=⟨by omega,by omega⟩
  cases lo with
  |none=>
   have hl0:=hl rfl;subst hl0;cases hi with
   |none=>
    have hh0:=hh rfl;subst hh0;simp[execOp,ho,hv,Instr.sliceAt,Instr.slice,hu,Instr.sliceBounds,hT.size]
   |some y=>
    simp[execOp,ho,hv,Instr.sliceAt,Instr.slice,hu,Instr.sliceBounds,Instr.sliceBound,hhi y rfl,asIntOf,e1,hT.size]
  |some z=>
   cases hi with
   |none=>
    have hh0:=hh rfl;subst hh0;have e2':((0:Int)≤l∧l≤(xs.length:Int)):=⟨h0,by omega⟩
    simp[execOp,ho,hv,Instr.sliceAt,Instr.slice,hu,Instr.sliceBounds,Instr.sliceBound,hlo z rfl,asIntOf,e2',hT.size]
   |some y=>
    simp[execOp,ho,hv,Instr.sliceAt,Instr.slice,hu,Instr.sliceBounds,Instr.sliceBound,hlo z rfl,hhi y rfl,asIntOf,e1,hT.size];intro hc';have:=hc' h0;omega
def aaj (P:Program) (t:TypeId) (f off:Nat) (agg:Bool) (n:Nat):Bool:=
 match P.underlying t with
 |some (.struct fs)=>match fs[f]? with
  |some fd=>decide (fd.offset=off)&&tyB P fd.type agg n
  |none=>false
 |_=>false
theorem anX {x:Operand} {t:TypeId} {f off n:Nat} {agg:Bool} {cs:List D} (hp:aaj P t f off agg n=true) (hn:off+n≤cs.length) (h1:agg=false→n=1) (ho:o.op=.field t x f):bK P o [(x,.d (.agg cs))] es (.d (qh agg cs off n)) es:=
 .pure fun ok H a w _ _ hn'=>by
  have hx:=mem1 hn';simp only at hx;generalize hv:a.eval x=v at hx;unfold aaj at hp;split at hp
  ·rename_i fs hu;split at hp
   ·rename_i fd hf;simp only[Bool.and_eq_true,decide_eq_true_eq]at hp;obtain⟨rfl,hT⟩:=hp;have hT:=jl hT;have hu':(underlying t).run P w=.ok (.struct fs) w:=by simp[underlying,hu]
    cases hx with
    |d _ _ h=>
     cases h with
     |agg _ vs hl hf' hc=>
      cases agg with
      |false=>
       have:=h1 rfl;subst this;have hlt:fd.offset<vs.size:=by omega
       refine⟨vs[fd.offset],?_,?_⟩
       ·simp[execOp,ho,hv,Instr.field,hu',hf,asAgg,part,hT.agg,hlt]
       have:=hc fd.offset (by omega);simp[Array.getD,hlt]at this;exact .d _ _ this
      |true=>
       refine⟨.agg (vs.extract fd.offset (fd.offset+n)),?_,?_⟩
       ·simp[execOp,ho,hv,Instr.field,hu',hf,asAgg,part,hT.agg,hT.size]
       simp only[qh,if_true];have hlen:((cs.drop fd.offset).take n).length=n:=by simp;omega
       have hg:∀i,i<n→((cs.drop fd.offset).take n).getD i dz=cs.getD (fd.offset+i) dz:=by
        intro i hi;simp[List.getD,List.getElem?_take_of_lt hi,List.getElem?_drop]
       refine .d _ _ (.agg _ _ (by rw[hlen];simp;omega) ?_ ?_)<;>intro i hi<;>rw[hlen]at hi<;>rw[hg i hi]
       ·exact hf' _ (by omega)
       have:=hc (fd.offset+i) (by omega)
       have e:(vs.extract fd.offset (fd.offset+n)).getD i undef=vs.getD (fd.offset+i) undef:=by
        have h3:fd.offset+i<vs.size:=by omega
        have h4:i<(vs.extract fd.offset (fd.offset+n)).size:=by simp;omega
        have h5:i<min (fd.offset+n) vs.size-fd.offset:=by omega
        simp[Array.getD,h3,h5]
       rw[e];exact this
   cases hp
  cases hp
def AV.flat:AV→Bool
 | .d (.lit _)=>true
 | .eH xs=>xs.all fun x=>match x with | .d (.lit _)=>true|_=>false
 |_=>false
def anY (es:List bn):AV→AV→Prop
 | .d x,y=>y=.d x
 | .aK k,y=>∃e s xs,es[k]? =some (.arr e s xs)∧y=.d (.sl xs)
 |_,_=>False
def KL (es:List bn):List AV→List AV→Prop
 |x::xs,y::ys=>anY es x y∧KL es xs ys
 | [],[]=>True
 |_,_=>False
theorem abS :∀{xs ys:List AV},KL es xs ys→xs.length=ys.length
 | [],[],_=>rfl
 |_::xs,_::ys,h=>by simp[abS h.2]
 | [],_::_,h=>h.elim
 |_::_,[],h=>h.elim
theorem aiN {ops:List Operand}:∀{xs ys:List AV},ops.length=xs.length→KL es xs ys→∀i,i<ys.length→∃o x,ops[i]? =some o∧(o,x)∈fV ops xs∧anY es x (ys.getD i .junk):=by
 induction ops with
 |nil=>
  intro xs ys hl h i hi;cases xs with
  |nil=>cases ys with |nil=>simp at hi|cons _ _=>exact h.elim
  |cons _ _=>simp at hl
 |cons o ops ih=>
  intro xs ys hl h i hi;cases xs with
  |nil=>simp at hl
  |cons x xs=>
   cases ys with
   |nil=>exact h.elim
   |cons y ys=>
    cases i with
    |zero=>exact⟨o,x,rfl,by simp[fV],h.1⟩
    |succ i=>
     obtain⟨o',x',h1,h2,h3⟩:=ih (by simpa using hl) h.2 i (by simpa using hi);exact⟨o',x',by simpa using h1,by simp[fV,h2],by simpa using h3⟩
theorem DI {ok ok':Nat→Prop} {w:World} {H:List Hd} {h:Hd} {e s:Nat} {xs:List D} (he:iL ok w H h (.arr e s xs)) (hsub:∀b,ok b→ok' b) (hb:∀b,eG h.v=some b→ok' b):RD ok' w (.sl xs) h.v:=by
 obtain⟨h1,h2,ys,⟨h3,h4⟩,h5⟩:=he;rcases h4 with⟨h6,h7⟩|⟨g,cap,cur,h6,h7,h8,h9,h10,h11,h12⟩
 ·rw[List.eq_nil_of_length_eq_zero h7,h6];exact .sl0 none 0
 rw[h6];have axu:=hb g (by rw[h6];rfl);have hfl:=tN h2
 have hk:∀i j,i<xs.length→j<s→i*s+j<xs.length*s:=by
  intro i j hi hj
  calc i*s+j<i*s+s:=by omega
   _=(i+1)*s:=by rw[Nat.succ_mul]
   _≤xs.length*s:=Nat.mul_le_mul_right _ hi
 have hcur:xs.length*s≤cur.size:=by
  exact Nat.le_trans (Nat.mul_le_mul_right _ h9) h11
 have hc:∀i j,i<xs.length→j<s→w.cell? ⟨g,0+(i*s+j),none⟩=some (ys.getD (i*s+j) undef):=by
  intro i j hi hj;have h13:=hk i j hi hj;rw[Nat.zero_add]
  have e1:ys.getD (i*s+j) undef=cur[i*s+j]'(by omega):=by
   rw[←h12];simp[List.getD,List.getElem?_take_of_lt h13,show i*s+j<cur.size by omega]
  rw[e1];simp[World.cell?,h8,show i*s+j<cur.size by omega]
 have hg:∀i,i<xs.length→xs.getD i dz∈xs:=fun i hi=>by simp[List.getD,hi]
 refine .sl xs g 0 cap s h9 (fun _ _=>axu) (fun i hi=>h2 _ (hg i hi)) (fun i hi j hj=>?_) (fun i hi j hj=>?_) (fun i hi j hj=>?_)
 ·have:=(h5.2 (i*s+j) (by rw[hfl];exact hk i j hi hj)).1;rw[flat_get h2 i j hi hj]at this;exact this
 ·rw[hc i j hi hj];rfl
 have:=(h5.2 (i*s+j) (by rw[hfl];exact hk i j hi hj)).2;rw[flat_get h2 i j hi hj]at this;unfold cellAt;rw[hc i j hi hj];cases this with |d _ _ h=>exact h.mono (fun b hb=>⟨hsub b hb,rfl⟩)
theorem afx {f:FuncId} {ops:Array Operand} {ats:Array TypeId} {dI dK:List AV} {res:AV} (hr:Runs P f dK [] res []) (hf:aF P f=true) (hfl:res.flat=true) (ha:KL es dI dK) (hl:ops.toList.length=dI.length)
 (ho:o.op=.call { callee:=.value (.func f),args:=ops,argTypes:=ats }):bK P o (fV ops.toList dI) es res es:=by
 intro C ok H a w Q hm hn;unfold Oper.wp;rw[Gt ho,oC hf,Oper.upon_enter];have e:ops.map a.eval=(ops.toList.map a.eval).toArray:=by apply Array.ext';simp
 rw[e]
 let okA:Nat→Prop:=fun b=>b<w.heap.size
 have hmc:Mem ⟨w,okA,[],[]⟩ okA [] [] w:=
  ⟨.refl _ _,fun _ h=>h,fun _ h=>.inl h,fun _ h=>h,.refl _,rfl,fun k e h he _=>by simp at he,fun k e h b he=>by simp at he,fun k k' e e' h h' b he=>by simp at he⟩
 refine(hr okA [] [] w _ hmc (by simp[hl,abS ha]) (fun i hi=>?_)).mono ?_
 ·obtain⟨op,x,ho',hmem,harg⟩:=aiN hl ha i hi;have hR:=hn _ hmem
  have e:(ops.toList.map a.eval).toArray.getD i undef=a.eval op:=by
   obtain⟨h1,h2⟩:=List.getElem?_eq_some_iff.1 ho';have h3:i<ops.size:=by simpa using h1
   have h4:ops[i]=op:=by simpa using h2
   simp[Array.getD,h3,h4]
  rw[e];simp only at hR;generalize dK.getD i .junk=y at harg;generalize a.eval op=u at hR;cases x with
  |d x=>
   obtain rfl:=harg;cases hR with |d _ _ h=>exact .d _ _ (h.mono (fun b hb=>⟨hm.jH b hb,rfl⟩))
  |aK k=>
   obtain⟨e',s,xs,hk,rfl⟩:=harg;obtain⟨h,hh,hok⟩:=jy hm.ent hm.hlen hk;obtain rfl:=oV hR hh;exact .d _ _ (DI hok (fun b hb=>hm.jH b hb) (fun b hb=>(hm.blk k _ h b hk rfl hh hb).2.1))
  |_=>exact harg.elim
 rintro e w' ⟨v,ok',H',rfl,hm',hR⟩;have hblk:∀b,b<w.heap.size→¬False→w'.heap[b]? =w.heap[b]?:=fun b hb _=>hm'.fr.block b hb (by simp);obtain⟨h1,h2⟩:=hm.change (ok':=ok) (H':=H) (es':=es) (w':=w') (fun _=>False) hm'.fr.os hm'.fr.tape hm'.fr.output hm'.fr.size hblk (fun _ h=>h.elim) (fun _ h=>h) (fun _ h=>.inl h) (.refl _) hm.hlen (fun k e h he hh=>.inl ⟨he,hh,fun _ _ _ h=>h⟩);refine⟨v,ok,H,rfl,h2,.refl _,h1,?_⟩;cases hR with
 |d x v h=>
  cases x with
  |lit u=>cases h;exact .d _ _ (.lit _)
  |_=>simp[AV.flat]at hfl
 |eH xs vs hl' h=>
  refine .eH xs vs hl' (fun i hi=>?_);simp only[AV.flat,List.all_eq_true]at hfl;have h3:=hfl (xs.getD i .junk) (by simp[List.getD,hi]);have h4:=h i hi;generalize xs.getD i .junk=x at h3 h4;generalize vs.getD i undef=u at h4;cases h4 with
  |d y _ h5=>
   cases y with
   |lit u=>cases h5;exact .d _ _ (.lit _)
   |_=>simp at h3
  |_=>simp at h3
 |_=>simp[AV.flat]at hfl
end
def AV.thaw (k:Nat) (xs:List D):AV→AV
 | .aK j=>if j=k then .d (.sl xs)else .aK j
 | .jV j i off=>if j=k then .junk else .jV j i off
 |x=>x
def St.thaw (σ:St) (k:Nat) (xs:List D):St:=⟨σ.slots.map (AV.thaw k xs),σ.ents.set k .dead,σ.base⟩
theorem l9 {σ:St} (k:Nat) {e s:Nat} {xs:List D} (hk:σ.ents[k]? =some (.arr e s xs)):∀C ok H a w,Holds C ok H σ a w→∃ok',Holds C ok' H (σ.thaw k xs) a w:=by
 intro C ok H a w hh;obtain⟨hd,hhd,hok⟩:=jy hh.mem.ent hh.mem.hlen hk;have hkl:k<σ.ents.length:=(List.getElem?_eq_some_iff.1 hk).1
 let ok':Nat→Prop:=fun b=>ok b∨eG hd.v=some b
 have hblk:=fun b hb=>hh.mem.blk k _ hd b hk rfl hhd hb;have hg:Grow ok w ok' w:=fun b hb=>⟨.inl hb,rfl⟩
 refine⟨ok',⟨hh.mem.fr,fun b hb=>.inl (hh.mem.rP b hb),?_,?_,hh.mem.names,by simp[St.thaw,hh.mem.hlen],?_,?_,?_⟩,by simp[St.thaw,hh.size],hh.defers.mono hg,hh.base,?_⟩
 ·rintro b (hb|hb)
  ·exact hh.mem.rQ b hb
  exact .inr (hblk b hb).2.2
 ·rintro b (hb|hb)
  ·exact hh.mem.jH b hb
  exact(hblk b hb).2.1
 ·intro j e' h' he hh';rcases mQ hkl he with⟨rfl,rfl⟩|⟨_,he'⟩
  ·trivial
  exact(hh.mem.ent j e' h' he' hh').mono hg (.refl _) (fun _ _ _=>rfl)
 ·intro j e' h' b he hl hh' hb;rcases mQ hkl he with⟨rfl,rfl⟩|⟨hne,he'⟩
  ·cases hl
  have h3:=hh.mem.blk j e' h' b he' hl hh' hb;refine⟨fun hb'=>?_,h3.2⟩;rcases hb' with hb'|hb'
  ·exact h3.1 hb'
  exact hne (hh.mem.yQ j k e' _ h' hd b he' hk hl rfl hh' hhd hb hb')
 ·intro i j e1 e2 h1 h2 b he1 he2 hl1 hl2 hh1 hh2 hb1 hb2;rcases mQ hkl he1 with⟨rfl,rfl⟩|⟨_,abT⟩
  ·cases hl1
  rcases mQ hkl he2 with⟨rfl,rfl⟩|⟨_,abU⟩
  ·cases hl2
  exact hh.mem.yQ i j e1 e2 h1 h2 b abT abU hl1 hl2 hh1 hh2 hb1 hb2
 intro t ht;simp only[St.thaw,List.length_map]at ht
 have e1:(σ.thaw k xs).slots.getD t .junk=(σ.slots.getD t .junk).thaw k xs:=by
  simp only[St.thaw];exact jS _ _ _ ht
 rw[e1];have hR:=(hh.slot t ht).mono hg (Names.refl H);generalize σ.slots.getD t .junk=x at hR ⊢;generalize a.tmps.getD t undef=v at hR ⊢;cases x with
 |aK j=>
  simp only[AV.thaw];split
  ·rename_i hj;subst hj;obtain rfl:=oV hR hhd;exact .d _ _ (DI hok (fun b hb=>.inl hb) (fun b hb=>.inr hb))
  exact hR
 |jV j i off=>
  simp only[AV.thaw];split
  ·exact .junk _
  exact hR
 |_=>exact hR
theorem SP.thaw {P:Program} {c:Code} {σ:St} {Q:Exit→St→Prop} (k:Nat) {e s:Nat} {xs:List D} (hk:σ.ents[k]? =some (.arr e s xs)) (h:SP P c (σ.thaw k xs) Q):SP P c σ Q:=by
 refine⟨fun ro hr C ok H a w hh=>?_⟩;obtain⟨ok',hh'⟩:=l9 k hk C ok H a w hh;exact h.run ro hr C ok' H a w hh'
theorem Runs.view {P:Program} {f:FuncId} {args:List AV} {e s:Nat} {xs:List D} (h:Runs P f args [] (.aK 0) [.arr e s xs]):Runs P f args [] (.d (.sl xs)) []:=by
 intro ok X H w vals hm hs ha;refine(h ok X H w vals hm hs ha).mono ?_;rintro e' w' ⟨v,ok',H',rfl,hm',hR⟩;have hH:H=[]:=List.eq_nil_of_length_eq_zero hm.hlen;have hl:H'.length=1:=hm'.hlen
 match H',hl with
 | [hd],_=>
   obtain rfl:=oV hR (h:=hd) rfl;have hok:=hm'.ent 0 _ hd rfl rfl;have hb:=fun b hb=>hm'.blk 0 _ hd b rfl rfl rfl hb
   let okB:Nat→Prop:=fun b=>ok' b∨eG hd.v=some b
   refine⟨hd.v,okB,[],rfl,⟨hm'.fr,fun b h=>.inl (hm'.rP b h),?_,?_,by intro k v hv;subst hH;simp at hv,rfl,fun k e h he=>by simp at he,fun k e h b he=>by simp at he,fun k k' e e' h h' b he=>by simp at he⟩,.d _ _ (DI hok (fun b h=>.inl h) (fun b h=>.inr h))⟩
   ·rintro b (h|h)
    ·exact hm'.rQ b h
    exact .inr (hb b h).2.2
   rintro b (h|h)
   ·exact hm'.jH b h
   exact(hb b h).2.1
theorem aml (es E':List bn) (hc:E'.all bn.closed=true):uo [] es E'=es++E':=by
 unfold uo;simp only[List.findIdx?_nil,List.length_nil,List.drop_zero];rw[ady hc];congr 1;apply List.ext_getElem?;intro i;simp only[List.getElem?_map,List.getElem?_zipIdx];cases es[i]? <;>rfl
theorem Af {P:Program} {o:Oper} {es:List bn} {f:FuncId} {ops:Array Operand} {ats:Array TypeId} {dI dK:List AV} {res res':AV} {E':List bn} (hr:Runs P f dK [] res E') (hf:aF P f=true) (hc:E'.all bn.closed=true)
 (ha:yR [] dI dK) (hl:ops.toList.length=dI.length) (hu:res.up [] es.length=res') (ho:o.op=.call { callee:=.value (.func f),args:=ops,argTypes:=ats }):bK P o (fV ops.toList dI) es res' (es++E'):=by
 have:=alG (es:=es) [] hr hf (by
  have hu2:E'.all (bn.aft [] es.length)=true:=by
   rw[List.all_eq_true]at hc ⊢;exact fun e he=>akG (hc e he)
  simp[O7,hu2]) (fun i s h=>by simp at h) ha hl ho
 rw[aml _ _ hc,hu]at this;exact this
theorem abV {P:Program} {o:Oper} {es:List bn} {f:FuncId} {ops:Array Operand} {ats:Array TypeId} {dI dK:List AV} {res res':AV} (hr:Runs P f dK [] res []) (hf:aF P f=true)
 (ha:yR [] dI dK) (hl:ops.toList.length=dI.length) (hu:res.up [] es.length=res') (ho:o.op=.call { callee:=.value (.func f),args:=ops,argTypes:=ats }):bK P o (fV ops.toList dI) es res' es:=by
 have:=Af (es:=es) hr hf rfl ha hl hu ho;rw[List.append_nil]at this;exact this
end Go.Proofs.YtolgdkhlelfpoaaGreat
end
section
namespace Go.Proofs.YtolgdkhlelfpoaaGreat
open Go.RowKit
section
variable {P : Program} {σ : St} {Q : Exit → St → Prop}
def resV (P:Program) (σ:St):ResultVar→AV→Prop
 | .tmp t,x=>x=σ.slots.getD t .junk
 | .cell t T,x=>∃k cs agg n,σ.slots.getD t .junk=.ptr k 0∧σ.ents[k]? =some (.box cs)∧cs.all AV.xk=true∧Ty P T agg n∧n≤cs.length∧(agg=false→n=1)∧x=.d (qh agg (nY cs) 0 n)
theorem tV {P:Program} {σ:St} {t:Tmp} {x:AV} (h:x=σ.slots.getD t .junk):resV P σ (.tmp t) x:=h
def Nj (P:Program) (σ:St):List ResultVar→List AV→Prop
 |r::rs,x::xs=>resV P σ r x∧Nj P σ rs xs
 | [],[]=>True
 |_,_=>False
def pack :List AV→AV
 | [x]=>x
 |xs=>.eH xs
def at1 (P:Program) (fn:Func) (res:AV) (E':List bn):Exit→St→Prop
 | .ret,σ=>∃xs π,Nj P σ fn.results.toList xs∧IE σ.base σ.ents π=true∧res=(pack xs).back π∧E'=vI σ.ents π
 | .normal,σ=>∃xs π,Nj P σ fn.results.toList xs∧IE σ.base σ.ents π=true∧res=(pack xs).back π∧E'=vI σ.ents π
 |_,_=>False
def aiO (tmps:Array Value):ResultVar→Sem Value
 | .tmp t=>pure (tmps.getD t undef)
 | .cell t T=>do loadVar T (←asAddr (tmps.getD t undef))
theorem apQ {C:Cx} {ok:Nat→Prop} {H:List Hd} {a:Act} {w:World} (h:Holds C ok H σ a w) {r:ResultVar} {x:AV} (hr:resV P σ r x):
 ∃v,(aiO a.tmps r).run P w=.ok v w∧R ok w H x v:=by
 cases r with
 |tmp t=>
  obtain rfl:=hr;exact⟨_,rfl,h.alB t⟩
 |cell t T=>
  obtain⟨k,cs,agg,n,hs,hk,hd,hT,hn,h1,rfl⟩:=hr;have hp:=hs▸h.alB t;obtain⟨hd',hh,hok⟩:=jy h.mem.ent h.mem.hlen hk;obtain⟨b,hb,hf,hx,hc⟩:=WR hok hd;generalize hu:a.tmps.getD t undef=u at hp;cases hp with
  |ptr _ _ b' s hH=>
   rw[hh]at hH;obtain rfl:=Option.some.inj hH;simp at hb;subst hb;show ∃v,((do loadVar T (←asAddr (a.tmps.getD t undef)):Sem Value)).run P w=.ok v w∧_;rw[hu];obtain⟨v,hr,hD⟩:=WQ hT (off:=0) (by rw[Dy];omega) h1 hf hx hc;refine⟨v,?_,.d _ _ hD⟩;simp only[Instr.loadAt,Instr.sureAddr,Sem.run_bind,Sem.run_pure,Result.andThen_ok,Nat.zero_add]at hr;simp only[asAddr,Sem.run_bind,Sem.run_pure,Result.andThen_ok];exact hr
theorem adz {C:Cx} {ok:Nat→Prop} {H:List Hd} {a:Act} {w:World} (h:Holds C ok H σ a w):∀(rs:List ResultVar) (xs:List AV),Nj P σ rs xs→
 ∃vs:List Value,(rs.mapM (aiO a.tmps)).run P w=.ok vs w∧vs.length=xs.length∧∀i,i<xs.length→R ok w H (xs.getD i .junk) (vs.getD i undef)
 | [],[],_=>⟨[],rfl,rfl,fun i hi=>by simp at hi⟩
 | [],_::_,h'=>h'.elim
 |_::_,[],h'=>h'.elim
 |r::rs,x::xs,h'=>by
  obtain⟨v,hv,hR⟩:=apQ (P:=P) h h'.1;obtain⟨vs,hvs,hl,hRs⟩:=adz h rs xs h'.2;refine⟨v::vs,?_,by simp[hl],fun i hi=>?_⟩
  ·simp only[List.mapM_cons,Sem.run_bind,hv,hvs,Result.andThen_ok,Sem.run_pure]
  cases i with
  |zero=>exact hR
  |succ i=>simpa using hRs i (by simpa using hi)
theorem apR {C:Cx} {ok:Nat→Prop} {H:List Hd} {a:Act} {w:World} (h:Holds C ok H σ a w) {fn:Func} {xs:List AV} (hr:Nj P σ fn.results.toList xs):
 ∃v,(results fn a.tmps).run P w=.ok v w∧R ok w H (pack xs) v:=by
 obtain⟨vs,hvs,hl,hR⟩:=adz (P:=P) h _ _ hr
 have hm:(results fn a.tmps).run P w=.ok (if h:vs.toArray.size=1 then vs.toArray[0]else .tuple vs.toArray) w:=by
  have e:results fn a.tmps=(do let vs ←fn.results.mapM (aiO a.tmps);pure (if h:vs.size=1 then vs[0]else .tuple vs)):=rfl;rw[e,Array.mapM_eq_mapM_toList];simp only[Sem.run_bind,Sem.run_map,hvs,Result.andThen_ok,Sem.run_pure]
 refine⟨_,hm,?_⟩
 match xs,hl,hR with
 | [x],hl,hR=>
   have h1:vs.toArray.size=1:=by simpa using hl
   rw[dif_pos h1];have:=hR 0 (by simp)
   have e:vs.getD 0 undef=vs.toArray[0]:=by
    have :0<vs.length:=by simp[hl]
    simp[List.getD,this]
   rw[e]at this;exact this
 | [],hl,hR=>
   have h1:¬vs.toArray.size=1:=by simp at hl;simp[hl]
   rw[dif_neg h1];exact .eH [] _ (by simpa using hl) (fun i hi=>by simp at hi)
 |x::y::xs,hl,hR=>
  have h1:¬vs.toArray.size=1:=by simp at hl;simp[hl]
  rw[dif_neg h1];refine .eH _ _ (by simpa using hl) (fun i hi=>?_);have:=hR i hi;have hi2:i<vs.length:=by omega
  have e:vs.toArray.getD i undef=vs.getD i undef:=by simp[Array.getD,List.getD,hi2]
  rw[e];exact this
theorem ahL {w:World} {D:Nat} {x:Option (List Deferred)} (h:w.heap[D]? =some (.deferred x)) (o:Nat):w.cell? ⟨D,o,none⟩=none:=by
 unfold World.cell?;rw[h]
theorem Holds.take {C:Cx} {ok:Nat→Prop} {H:List Hd} {σ:St} {a:Act} {w:World} (hC:∀b,C.ok0 b→b<C.w0.heap.size) (h:Holds C ok H σ a w) {D:Nat} {Ds:List Nat} (hd:∀d∈Ds,ok d∧C.w0.heap.size≤d∧w.heap[d]? =some (.deferred (some [])))
 (hD:ok D∧C.w0.heap.size≤D∧w.heap[D]? =some (.deferred (some []))) (hne:(D::Ds).Nodup):
 ∃ok',Holds C ok' H σ { a with defers:=Ds.map fun D=>{ target:=.collected D,args:=#[] } } (w.putObj D (.deferred none))∧∀d∈Ds,ok' d∧C.w0.heap.size≤d∧(w.putObj D (.deferred none)).heap[d]? =some (.deferred (some [])):=by
 obtain⟨h1,h2,h3⟩:=hD;have hput:∀b,b≠D→(w.putObj D (.deferred none)).heap[b]? =w.heap[b]?:=fun b hb=>World.putObj_heap_other hb;have hsh:∀b o,ok b→(w.cell? ⟨b,o,none⟩).isSome=true→ok b∧b≠D:=fun b o hb hc=>⟨hb,fun e=>by subst e;rw[ahL h3]at hc;cases hc⟩
 have hg:Grow (fun b=>ok b∧b≠D) w (fun b=>ok b∧b≠D) (w.putObj D (.deferred none)):=fun b hb=>⟨hb,hput b hb.2⟩
 have hbk:∀(k:Nat) (e:bn) (hd:Hd) (b:Nat),σ.ents[k]? =some e→e.live=true→H[k]? =some hd→eG hd.v=some b→b≠D:=fun k e hd b he hl hh hb hbD=>(h.mem.blk k e hd b he hl hh hb).1 (hbD▸h1)
 have hds:∀d∈Ds,(ok d∧d≠D)∧C.w0.heap.size≤d∧(w.putObj D (.deferred none)).heap[d]? =some (.deferred (some [])):=fun d hdm=>by
  have hdD:d≠D:=fun e=>(List.nodup_cons.1 hne).1 (e▸hdm);exact⟨⟨(hd d hdm).1,hdD⟩,(hd d hdm).2.1,by rw[hput d hdD];exact(hd d hdm).2.2⟩
 refine⟨fun b=>ok b∧b≠D,⟨⟨⟨h.mem.fr.os,h.mem.fr.tape,h.mem.fr.output,by simpa[World.putObj]using h.mem.fr.size,fun k hk hX=>by rw[hput k (by omega)];exact h.mem.fr.block k hk hX⟩,fun b hb=>⟨h.mem.rP b hb,fun e=>by have:=hC b hb;omega⟩,fun b hb=>h.mem.rQ b hb.1,fun b hb=>by simpa[World.putObj]using h.mem.jH b hb.1,h.mem.names,h.mem.hlen,?_,?_,?_⟩,h.size,⟨Ds,rfl,(List.nodup_cons.1 hne).2,hds⟩,h.base,fun t ht=>((h.slot t ht).shrink hsh).mono hg (.refl _)⟩,hds⟩
 ·intro k e hd he hh;exact((h.mem.ent k e hd he hh).shrink hsh (fun b ms c hb hc=>⟨hb,fun e=>by subst e;rw[h3]at hc;cases hc⟩)).mono hg (.refl _) fun hl b hb=>hput b (hbk k e hd b he hl hh hb)
 ·intro k e hd b he hl hh hb;obtain⟨h4,h5,h6⟩:=h.mem.blk k e hd b he hl hh hb;exact⟨fun hx=>h4 hx.1,by simpa[World.putObj]using h5,h6⟩
 exact h.mem.yQ
theorem Qj {fn:Func} {Rr:Ending→World→Prop} {C:Cx} (hC:∀b,C.ok0 b→b<C.w0.heap.size) {H:List Hd} {σ:St}
 (hR:∀ok a w,Holds C ok H σ a w→∃v,(results fn a.tmps).run P w=.ok v w∧Rr (.returned v) w):∀(Ds:List Nat) {ok:Nat→Prop} {a:Act} {w:World},Holds C ok H σ a w→(∀d∈Ds,ok d∧C.w0.heap.size≤d∧w.heap[d]? =some (.deferred (some [])))→Ds.Nodup→
  LeavesInM (FW none) 0 P fn a.tmps Rr (Ds.map fun D=>{ target:=.collected D,args:=#[] }) .returning w
 | [],ok,a,w,h,_,_=>hR ok a w h
 |D::Ds,ok,a,w,h,hd,hn=>by
  obtain⟨ok',h',hd'⟩:=h.take hC (fun d hdm=>hd d (List.mem_cons_of_mem _ hdm)) (hd D (List.mem_cons_self ..)) hn;have h2:=Qj hC hR Ds h' hd' (List.nodup_cons.1 hn).2;exact⟨by simp,.inl ⟨D,_,rfl,run_takeDeferred (hd D (List.mem_cons_self ..)).2.2,h2⟩⟩
theorem Runs.aH {f:FuncId} {fn:Func} {c:Code} {args:List AV} {E E':List bn} {res:AV} (hf:P.funcs[f]? =some fn) (hb:fn.body=some c)
 (h:SP P c (.enter args fn.ntmps E) (at1 P fn res E')):Runs P f args E res E':=by
 intro ok X H w vals hm hs ha;refine(WL (ro:=none) (n:=0)).1 (callsIn_of_wp_marks hf hb trivial (wpIn_mono (h.run none (.inl rfl) ⟨w,ok,X,H⟩ ok H _ w ?_) ?_) rfl)
 ·refine⟨hm,?_,.nil _ _ _,hm.hlen,fun t ht=>?_⟩
  ·simp[St.enter,hs]
  simp only[St.enter];by_cases e:t<args.length
  ·have e1:(args++List.replicate (fn.ntmps-args.length) AV.junk).getD t .junk=args.getD t .junk:=by simp[List.getD,List.getElem?_append_left e]
   have e2:(vals++Array.replicate (fn.ntmps-vals.size) undef).getD t undef=vals.getD t undef:=by
    simp[Array.getD_eq_getD_getElem?,Array.getElem?_append_left (show t<vals.size by omega)]
   rw[e1,e2];exact ha t e
  have e1:(args++List.replicate (fn.ntmps-args.length) AV.junk).getD t .junk=.junk:=by
   simp only[List.getD,List.getElem?_append_right (Nat.le_of_not_lt e),List.getElem?_replicate];split<;>rfl
  rw[e1];exact .junk _
 rintro e a' w' ⟨ok',H',σ',h1,h2⟩;obtain⟨Ds,hDs,hnd,hds⟩:=h1.defers
 have key:∀(x:List AV) (π:List (Nat×Bool)),Nj P σ' fn.results.toList x→IE σ'.base σ'.ents π=true→res=(pack x).back π→E'=vI σ'.ents π→
  LeavesInM (FW none) 0 P fn a'.tmps (fun e w'=>∃v ok' H',e=.returned v∧Mem ⟨w,ok,X,H⟩ ok' H' E' w'∧R ok' w' H' res v) a'.defers .returning w':=by
  rintro x π hx hok rfl rfl;rw[hDs];refine Qj (P:=P) (C:=⟨w,ok,X,H⟩) hm.jH (fun ok2 a2 w2 h3=>?_) Ds h1 hds hnd;obtain⟨v,hv,hR⟩:=apR (P:=P) h3 hx;exact⟨v,hv,v,ok2,_,rfl,h3.mem.norm π (h3.base▸hok),hR.back π⟩
 cases e with
 |ret=>obtain⟨x,π,hx,hok,h3,h4⟩:=h2;exact key x π hx hok h3 h4
 |normal=>obtain⟨x,π,hx,hok,h3,h4⟩:=h2;exact key x π hx hok h3 h4
 |_=>exact h2.elim
theorem SP.aC {x y:Code} (hx:SP P x σ (Cm (fun s=>SP P y s Q) Q)):SP P (.seq x y) σ Q:=SP.seq _ hx (fun _ h=>h)
theorem SP.join {x y:Code} (K:St→Prop) (hy:∀s,K s→SP P y s Q) (hx:(∀s,K s→SP P y s Q)→SP P x σ (Cm (fun s=>SP P y s Q) Q)):SP P (.seq x y) σ Q:=SP.seq _ (hx hy) (fun _ h=>h)
theorem SP.SK {c:Operand} {x y:Code} (hc:σ.get c=.d (.lit (.bool true))) (h:SP P x σ Q):SP P (.cond c x y) σ Q:=SP.cond true hc (fun _=>h) (fun h=>by cases h)
theorem SP.G6 {c:Operand} {x y:Code} (hc:σ.get c=.d (.lit (.bool false))) (h:SP P y σ Q):SP P (.cond c x y) σ Q:=SP.cond false hc (fun h=>by cases h) (fun _=>h)
theorem SP.qH {id:Nat} {ops:Array Oper} {y:Code} {σ':St} {rs:List AV} {ess:List (List bn)} {bs:List Bool} (hm:P.follows .mixedOrders=true) (hcalm:(Aa ops&&IG ops&&BR ops σ.slots.length&&II ops)=true) (l7:Na ops bs=true)
 (h:iK P ops ops.toList σ rs ess bs σ') (hy:SP P y σ' Q):SP P (.seq (.region id ops true) y) σ Q:=
 SP.seq (fun s=>s=σ') (.draw hm hcalm l7 h rfl) (fun _ e=>e▸hy)
end
section
variable {P : Program} {o : Oper} {es : List bn}
theorem apS {x:Operand} {t:TypeId} {agg:Bool} {n off:Nat} {cs:List D} {y:D} (hy:y=qh agg cs off n) (hT:Ty P t agg n) (hn:off+n≤cs.length) (h1:agg=false→n=1) (ho:o.op=.load t x):bK P o [(x,.d (.ref cs off))] es (.d y) es:=hy▸akB hT hn h1 ho
theorem apT {x:Operand} {t:TypeId} {agg:Bool} {k n off:Nat} {cs:List AV} {y:D} (hy:y=qh agg (nY cs) off n) (hk:es[k]? =some (.box cs)) (hd:cs.all AV.xk=true) (hT:Ty P t agg n) (hn:off+n≤cs.length) (h1:agg=false→n=1) (ho:o.op=.load t x):
 bK P o [(x,.ptr k off)] es (.d y) es:=hy▸akC hk hd hT hn h1 ho
theorem anZ {x:Operand} {t:TypeId} {f off n:Nat} {agg:Bool} {cs:List D} {y:D} (hy:y=qh agg cs off n) (hp:aaj P t f off agg n=true) (hn:off+n≤cs.length) (h1:agg=false→n=1) (ho:o.op=.field t x f):bK P o [(x,.d (.agg cs))] es (.d y) es:=hy▸anX hp hn h1 ho
theorem an0 {t:TypeId} {parts:Array (Nat×Operand)} {places:List (Nat×Nat)} {z:Value} {y:D} (hS:jA P t places z) (vs:List AV) (ho:o.op=.build t parts) (hy:y=.agg (nY (qK (fun(i:Nat)=>places[i]?) (iH z) parts.toList vs))) (hp:sD (fun(i:Nat)=>places[i]?) (iH z).length parts.toList vs=true)
 (hd:(qK (fun(i:Nat)=>places[i]?) (iH z) parts.toList vs).all AV.xk=true):bK P o (lg parts.toList vs) es (.d y) es:=hy▸apP hS vs hp hd ho
theorem apU {s t:TypeId} {x:Operand} {k0 k:IntKind} {n:Int} (hs:P.underlying s=some (.int k0)) (ht:P.underlying t=some (.int k)) (ho:o.op=.convert s t x):bK P o [(x,.d (.lit (.int k0 n)))] es (.d (.lit (.int k (k.wrap n)))) es:=
 alC ho fun w=>by simp[convert,underlying,hs,ht,Conv.intToInt]
theorem apV {s t:TypeId} {x:Operand} {u:ByteArray} (hs:P.underlying s=some .string) (ht:P.underlying t=some .string) (ho:o.op=.convert s t x):bK P o [(x,.d (eS u))] es (.d (eS u)) es:=
 alC ho fun w=>by simp[convert,underlying,hs,ht]
theorem at6 {t t':TypeId} {x y:Operand} {a b:Bool} (ht:P.underlying t=some .bool) (ho:o.op=.binOp .eql t x y t'):bK P o [(x,.d (eB a)),(y,.d (eB b))] es (.d (eB (a==b))) es:=
 Gs (u:=.bool a) (v:=.bool b) (r:=.bool (a==b)) ho (fun w=>by
  show((do pure (.bool (←Op.equal t (.bool a) (.bool b))):Sem Value)).run P w=_
  simp only[Sem.run_bind,run_equal_bool w t a b ht,Result.andThen_ok,Sem.run_pure]) ⟨rfl,rfl⟩
theorem at7 {t t':TypeId} {x y:Operand} {a b:Bool} (ht:P.underlying t=some .bool) (ho:o.op=.binOp .neq t x y t'):bK P o [(x,.d (eB a)),(y,.d (eB b))] es (.d (eB (!(a==b)))) es:=
 Gs (u:=.bool a) (v:=.bool b) (r:=.bool (!(a==b))) ho (fun w=>by
  show((do pure (.bool (!(←Op.equal t (.bool a) (.bool b)))):Sem Value)).run P w=_
  simp only[Sem.run_bind,run_equal_bool w t a b ht,Result.andThen_ok,Sem.run_pure]) ⟨rfl,rfl⟩
end
def dB {A Rr:Type} (body:(A→Option Rr)→A→Option Rr):Nat→A→Option Rr
 |0,_=>none
 |n+1,a=>body (dB body n) a
theorem SP.dB {P:Program} {σ:St} {Q:Exit→St→Prop} {cd:Code} {A Rr:Type} (S:A→St) (body:(A→Option Rr)→A→Option Rr) (r:Rr) (a0:A) (hs:Sub σ (S a0)) (h:Go.Proofs.YtolgdkhlelfpoaaGreat.dB body fuel a0=some r)
 (round:∀(J:St→Prop) (k:A→Option Rr),(∀σ' a,Sub σ' (S a)→k a=some r→J σ')→∀a,body k a=some r→SP P cd (S a) (Cm J Q)):SP P (.loop cd) σ Q:=by
 refine SP.loop (fun n s=>∃a,Sub s (S a)∧Go.Proofs.YtolgdkhlelfpoaaGreat.dB body n a=some r) fuel ⟨a0,hs,h⟩ ?_;rintro n s ⟨a,hsub,hL⟩;refine SP.sub hsub ?_;cases n with
 |zero=>cases hL
 |succ n=>exact round _ (Go.Proofs.YtolgdkhlelfpoaaGreat.dB body n) (fun σ' a h1 h2=>⟨n,Nat.lt_succ_self n,a,h1,h2⟩) a hL
def aY {A B Rr:Type} (body:(A→B→Option Rr)→A→B→Option Rr):Nat→A→B→Option Rr
 |0,_,_=>none
 |n+1,a,b=>body (aY body n) a b
theorem SP.aY {P:Program} {σ:St} {Q:Exit→St→Prop} {cd:Code} {A B Rr:Type} (S:A→B→St) (body:(A→B→Option Rr)→A→B→Option Rr) (r:Rr) (a0:A) (b0:B) (hs:Sub σ (S a0 b0)) (h:Go.Proofs.YtolgdkhlelfpoaaGreat.aY body fuel a0 b0=some r)
 (round:∀(J:St→Prop) (k:A→B→Option Rr),(∀σ' a b,Sub σ' (S a b)→k a b=some r→J σ')→∀a b,body k a b=some r→SP P cd (S a b) (Cm J Q)):SP P (.loop cd) σ Q:=by
 refine SP.loop (fun n s=>∃a b,Sub s (S a b)∧Go.Proofs.YtolgdkhlelfpoaaGreat.aY body n a b=some r) fuel ⟨a0,b0,hs,h⟩ ?_;rintro n s ⟨a,b,hsub,hL⟩;refine SP.sub hsub ?_;cases n with
 |zero=>cases hL
 |succ n=>exact round _ (Go.Proofs.YtolgdkhlelfpoaaGreat.aY body n) (fun σ' a b h1 h2=>⟨n,Nat.lt_succ_self n,a,b,h1,h2⟩) a b hL
def sS {A B C Rr:Type} (body:(A→B→C→Option Rr)→A→B→C→Option Rr):Nat→A→B→C→Option Rr
 |0,_,_,_=>none
 |n+1,a,b,c=>body (sS body n) a b c
theorem SP.sS {P:Program} {σ:St} {Q:Exit→St→Prop} {cd:Code} {A B C Rr:Type} (S:A→B→C→St) (body:(A→B→C→Option Rr)→A→B→C→Option Rr) (r:Rr) (a0:A) (b0:B) (c0:C) (hs:Sub σ (S a0 b0 c0)) (h:Go.Proofs.YtolgdkhlelfpoaaGreat.sS body fuel a0 b0 c0=some r)
 (round:∀(J:St→Prop) (k:A→B→C→Option Rr),(∀σ' a b c,Sub σ' (S a b c)→k a b c=some r→J σ')→∀a b c,body k a b c=some r→SP P cd (S a b c) (Cm J Q)):SP P (.loop cd) σ Q:=by
 refine SP.loop (fun n s=>∃a b c,Sub s (S a b c)∧Go.Proofs.YtolgdkhlelfpoaaGreat.sS body n a b c=some r) fuel ⟨a0,b0,c0,hs,h⟩ ?_;rintro n s ⟨a,b,c,hsub,hL⟩;refine SP.sub hsub ?_;cases n with
 |zero=>cases hL
 |succ n=>exact round _ (Go.Proofs.YtolgdkhlelfpoaaGreat.sS body n) (fun σ' a b c h1 h2=>⟨n,Nat.lt_succ_self n,a,b,c,h1,h2⟩) a b c hL
def SL {A B C D Rr:Type} (body:(A→B→C→D→Option Rr)→A→B→C→D→Option Rr):Nat→A→B→C→D→Option Rr
 |0,_,_,_,_=>none
 |n+1,a,b,c,d=>body (SL body n) a b c d
theorem SP.SL {P:Program} {σ:St} {Q:Exit→St→Prop} {cd:Code} {A B C D Rr:Type} (S:A→B→C→D→St) (body:(A→B→C→D→Option Rr)→A→B→C→D→Option Rr) (r:Rr) (a0:A) (b0:B) (c0:C) (d0:D) (hs:Sub σ (S a0 b0 c0 d0)) (h:Go.Proofs.YtolgdkhlelfpoaaGreat.SL body fuel a0 b0 c0 d0=some r)
 (round:∀(J:St→Prop) (k:A→B→C→D→Option Rr),(∀σ' a b c d,Sub σ' (S a b c d)→k a b c d=some r→J σ')→∀a b c d,body k a b c d=some r→SP P cd (S a b c d) (Cm J Q)):SP P (.loop cd) σ Q:=by
 refine SP.loop (fun n s=>∃a b c d,Sub s (S a b c d)∧Go.Proofs.YtolgdkhlelfpoaaGreat.SL body n a b c d=some r) fuel ⟨a0,b0,c0,d0,hs,h⟩ ?_;rintro n s ⟨a,b,c,d,hsub,hL⟩;refine SP.sub hsub ?_;cases n with
 |zero=>cases hL
 |succ n=>exact round _ (Go.Proofs.YtolgdkhlelfpoaaGreat.SL body n) (fun σ' a b c d h1 h2=>⟨n,Nat.lt_succ_self n,a,b,c,d,h1,h2⟩) a b c d hL
def Ag {A B C D E Rr:Type} (body:(A→B→C→D→E→Option Rr)→A→B→C→D→E→Option Rr):Nat→A→B→C→D→E→Option Rr
 |0,_,_,_,_,_=>none
 |n+1,a,b,c,d,e=>body (Ag body n) a b c d e
theorem SP.Ag {P:Program} {σ:St} {Q:Exit→St→Prop} {cd:Code} {A B C D E Rr:Type} (S:A→B→C→D→E→St) (body:(A→B→C→D→E→Option Rr)→A→B→C→D→E→Option Rr) (r:Rr) (a0:A) (b0:B) (c0:C) (d0:D) (e0:E) (hs:Sub σ (S a0 b0 c0 d0 e0)) (h:Go.Proofs.YtolgdkhlelfpoaaGreat.Ag body fuel a0 b0 c0 d0 e0=some r)
 (round:∀(J:St→Prop) (k:A→B→C→D→E→Option Rr),(∀σ' a b c d e,Sub σ' (S a b c d e)→k a b c d e=some r→J σ')→∀a b c d e,body k a b c d e=some r→SP P cd (S a b c d e) (Cm J Q)):SP P (.loop cd) σ Q:=by
 refine SP.loop (fun n s=>∃a b c d e,Sub s (S a b c d e)∧Go.Proofs.YtolgdkhlelfpoaaGreat.Ag body n a b c d e=some r) fuel ⟨a0,b0,c0,d0,e0,hs,h⟩ ?_;rintro n s ⟨a,b,c,d,e,hsub,hL⟩;refine SP.sub hsub ?_;cases n with
 |zero=>cases hL
 |succ n=>exact round _ (Go.Proofs.YtolgdkhlelfpoaaGreat.Ag body n) (fun σ' a b c d e h1 h2=>⟨n,Nat.lt_succ_self n,a,b,c,d,e,h1,h2⟩) a b c d e hL
def Ah {A B C D E F Rr:Type} (body:(A→B→C→D→E→F→Option Rr)→A→B→C→D→E→F→Option Rr):Nat→A→B→C→D→E→F→Option Rr
 |0,_,_,_,_,_,_=>none
 |n+1,a,b,c,d,e,f=>body (Ah body n) a b c d e f
theorem SP.Ah {P:Program} {σ:St} {Q:Exit→St→Prop} {cd:Code} {A B C D E F Rr:Type} (S:A→B→C→D→E→F→St) (body:(A→B→C→D→E→F→Option Rr)→A→B→C→D→E→F→Option Rr) (r:Rr) (a0:A) (b0:B) (c0:C) (d0:D) (e0:E) (f0:F) (hs:Sub σ (S a0 b0 c0 d0 e0 f0)) (h:Go.Proofs.YtolgdkhlelfpoaaGreat.Ah body fuel a0 b0 c0 d0 e0 f0=some r)
 (round:∀(J:St→Prop) (k:A→B→C→D→E→F→Option Rr),(∀σ' a b c d e f,Sub σ' (S a b c d e f)→k a b c d e f=some r→J σ')→∀a b c d e f,body k a b c d e f=some r→SP P cd (S a b c d e f) (Cm J Q)):SP P (.loop cd) σ Q:=by
 refine SP.loop (fun n s=>∃a b c d e f,Sub s (S a b c d e f)∧Go.Proofs.YtolgdkhlelfpoaaGreat.Ah body n a b c d e f=some r) fuel ⟨a0,b0,c0,d0,e0,f0,hs,h⟩ ?_;rintro n s ⟨a,b,c,d,e,f,hsub,hL⟩;refine SP.sub hsub ?_;cases n with
 |zero=>cases hL
 |succ n=>exact round _ (Go.Proofs.YtolgdkhlelfpoaaGreat.Ah body n) (fun σ' a b c d e f h1 h2=>⟨n,Nat.lt_succ_self n,a,b,c,d,e,f,h1,h2⟩) a b c d e f hL
def SN {A B C D E F G Rr:Type} (body:(A→B→C→D→E→F→G→Option Rr)→A→B→C→D→E→F→G→Option Rr):Nat→A→B→C→D→E→F→G→Option Rr
 |0,_,_,_,_,_,_,_=>none
 |n+1,a,b,c,d,e,f,g=>body (SN body n) a b c d e f g
theorem SP.SN {P:Program} {σ:St} {Q:Exit→St→Prop} {cd:Code} {A B C D E F G Rr:Type} (S:A→B→C→D→E→F→G→St) (body:(A→B→C→D→E→F→G→Option Rr)→A→B→C→D→E→F→G→Option Rr) (r:Rr) (a0:A) (b0:B) (c0:C) (d0:D) (e0:E) (f0:F) (g0:G) (hs:Sub σ (S a0 b0 c0 d0 e0 f0 g0)) (h:Go.Proofs.YtolgdkhlelfpoaaGreat.SN body fuel a0 b0 c0 d0 e0 f0 g0=some r)
 (round:∀(J:St→Prop) (k:A→B→C→D→E→F→G→Option Rr),(∀σ' a b c d e f g,Sub σ' (S a b c d e f g)→k a b c d e f g=some r→J σ')→∀a b c d e f g,body k a b c d e f g=some r→SP P cd (S a b c d e f g) (Cm J Q)):SP P (.loop cd) σ Q:=by
 refine SP.loop (fun n s=>∃a b c d e f g,Sub s (S a b c d e f g)∧Go.Proofs.YtolgdkhlelfpoaaGreat.SN body n a b c d e f g=some r) fuel ⟨a0,b0,c0,d0,e0,f0,g0,hs,h⟩ ?_;rintro n s ⟨a,b,c,d,e,f,g,hsub,hL⟩;refine SP.sub hsub ?_;cases n with
 |zero=>cases hL
 |succ n=>exact round _ (Go.Proofs.YtolgdkhlelfpoaaGreat.SN body n) (fun σ' a b c d e f g h1 h2=>⟨n,Nat.lt_succ_self n,a,b,c,d,e,f,g,h1,h2⟩) a b c d e f g hL
end Go.Proofs.YtolgdkhlelfpoaaGreat
end
section
namespace Go.Proofs.YtolgdkhlelfpoaaGreat
open Go.RowKit
section
variable {P : Program} {o : Oper} {es : List bn} {α : Type}
theorem amm {b:Nat} {z:α} {n c:Int} {r:List α} (h:pO b z n c=some r):(0≤n∧n≤c∧(b:Int)*c≤140737488355328)∧r=List.replicate n.toNat z:=by
 unfold pO at h;split at h
 ·exact⟨‹_›,(Option.some.inj h).symm⟩
 cases h
theorem KN {x y:Operand} {t e:TypeId} {size bytes:Nat} {zv:Value} {n c:Int} {r:List α} (enc:α→D) (z:α) (h:pO bytes z n c=some r) (hE:El P t e size bytes) (hz:(P.info? e).bind (·.zero)=some zv) (h1:zv.cells.all (·.oneCell')=true) (hzs:zv.cells.size=size)
 (hzz:iH zv=(enc z).cells.map .d) (hb:0<bytes) (ho:o.op=.makeSlice t x y):bK P o [(x,.d (eI n)),(y,.d (eI c))] es (.aK es.length) (es++[.arr e size (List.map enc r)]):=
 .eff fun C ok H a w hm hn=>by
  obtain⟨⟨h0,hnc,hbc⟩,rfl⟩:=amm h;have hx:=(mem2 hn).1.lit;have hy:=(mem2 hn).2.lit;simp only at hx hy;obtain⟨i,z',hi,hz',hs,hby,_⟩:=hE.info;have hzv:i.zero=some zv:=by rw[hi]at hz;simpa using hz
  have hc63:c≤9223372036854775807:=by
   have h2:(1:Int)*c≤(bytes:Int)*c:=Int.mul_le_mul_of_nonneg_right (by omega) (by omega);omega
  have hr:=run_make (P:=P) w t e i zv hE.und hi hzv .i64 .i64 n c h0 hnc (by rw[hby];omega) hc63;rw[hs]at hr
  let cells:=madeCells zv.cells (c.toNat*size)
  have hpos:=hE.pos;have hcs:cells.size=c.toNat*size:=size_madeCells _ _;have hlc:(iH zv).length=size:=by simp[iH,hzs]
  have hel:∀y∈List.map enc (List.replicate n.toNat z),y.cells.length=size:=by
   intro y hy;simp only[List.map_replicate,List.mem_replicate]at hy;rw[hy.2,←hlc,hzz];simp
  have hfl:=tN hel;have hlen:(List.map enc (List.replicate n.toNat z)).length=n.toNat:=by simp
  rw[hlen]at hfl;have ax9:n.toNat*size≤c.toNat*size:=Nat.mul_le_mul_right _ (by omega)
  have hrs:∀{ok:Nat→Prop} {w:World} {H:List Hd},Rs ok w H (flat (List.map enc (List.replicate n.toNat z))) (cells.toList.take (n.toNat*size)):=by
   intro ok w H;refine⟨by rw[hfl,List.length_take,Array.length_toList,hcs];omega,fun k hk=>?_⟩;rw[hfl]at hk;have hd:=Nat.div_add_mod k size;have hq:k/size<n.toNat:=Nat.div_lt_of_lt_mul (by rwa [Nat.mul_comm]at hk);have hm':k % size<size:=Nat.mod_lt _ hpos;have e0:k=k/size*size+k % size:=by rw[Nat.mul_comm];exact hd.symm
   have e1:(flat (List.map enc (List.replicate n.toNat z))).getD k .junk=.d ((enc z).cells.getD (k % size) dz):=by
    have hg:=flat_get hel (k/size) (k % size) (by rw[hlen];exact hq) hm';rw[←e0]at hg;rw[hg];congr 3;simp[List.getD,hq]
   have hcl:(enc z).cells.length=size:=by rw[←hlc,hzz];simp
   have e2:(AV.d ((enc z).cells.getD (k % size) dz))=(iH zv).getD (k % size) .junk:=by
    rw[hzz];have :k % size<(enc z).cells.length:=by omega
    simp[List.getD,this]
   have hmz:k % size<zv.cells.size:=by omega
   have e3:(cells.toList.take (n.toNat*size)).getD k undef=zv.cells[k % size]:=by
    have hk2:k<c.toNat*size:=by omega
    have e:cells.toList=(List.range (c.toNat*size)).map fun i=>zv.cells[i % zv.cells.size]!:=by
     show(madeCells zv.cells (c.toNat*size)).toList=_;simp[madeCells]
    rw[e];simp only[List.getD,List.getElem?_take_of_lt hk];simp[hk2,hzs];rw[getElem!_pos zv.cells (k % size) hmz]
   rw[e1,e2,e3];have e4:(iH zv).getD (k % size) .junk=.d (zD zv.cells[k % size]):=by simp[iH,List.getD,hmz]
   rw[e4];exact⟨Vq ((Array.all_eq_true_iff_forall_mem.1 h1) _ (by simp)),.d _ _ (aai _)⟩
  obtain⟨h2,h3⟩:=hm.push (.cells cells e) ⟨.slice (some ⟨w.heap.size,0,none⟩) n.toNat c.toNat,size⟩ (.arr e size (List.map enc (List.replicate n.toNat z))) (fun b hb=>by simpa[eG]using hb.symm) (by
   refine⟨rfl,hel,cells.toList.take (n.toNat*size),⟨?_,.inr ⟨w.heap.size,c.toNat,cells,by rw[hlen],Nat.zero_le _,heap_alloc_new w _,by rw[hlen];omega,by unfold maxLen;omega,Nat.le_of_eq hcs.symm,by rw[hlen]⟩⟩,hrs⟩
   rw[hlen,List.length_take,Array.length_toList,hcs];omega)
  refine⟨.slice (some ⟨w.heap.size,0,none⟩) n.toNat c.toNat,_,ok,_,.inl ?_,h3,Names.push _ _,h2,.aK _ _ _ _ size (by rw[←hm.hlen];simp)⟩;simp only[execOp,ho,hx,hy,Sem.run_bind,hr,Result.andThen_ok,Sem.run_pure];rfl
def gCopy (l m:List α):List α:=m.take l.length++l.drop m.length
theorem asv {x y:Operand} {t e:TypeId} {size bytes k:Nat} (enc:α→D) (l m:List α) (hE:El P t e size bytes) (hk:es[k]? =some (.arr e size (List.map enc l))) (hc:∀a,(enc a).cells.length=size) (ho:o.op=.call { callee:=.builtin .copy,args:=#[x,y],argTypes:=#[t,t] }):
 bK P o [(x,.aK k),(y,.d (eL enc m))] es .junk (es.set k (.arr e size (List.map enc (gCopy l m)))):=
 .eff fun C ok H a w hm hn=>by
  have hx:=(mem2 hn).1;have hy:=(mem2 hn).2;simp only at hx hy;obtain⟨h,hh,hok⟩:=jy hm.ent hm.hlen hk;have hxv:=oV hx hh;obtain⟨i,z',hi,hz',hs,hby,_⟩:=hE.info;have hu:(underlying t).run P w=.ok (.slice e) w:=by simp[underlying,hE.und]
  have hsz:(sizeOf e).run P w=.ok size w:=by simp[sizeOf,typeInfo,hi,hs]
  have hel:∀(q:List α),∀y∈q.map enc,y.cells.length=size:=fun q y hy=>by obtain⟨b,_,rfl⟩:=List.mem_map.1 hy;exact hc b
  have hyR:RD ok w (.sl (m.map enc)) (a.eval y):=by cases hy with |d _ _ h=>exact h
  obtain⟨news,hsrc,axv⟩:=KJ H hyR (hel m);obtain⟨h1,h2,ys,hown,hrs⟩:=hok;have hlm:(m.map enc).length=m.length:=by simp
  have hll:(l.map enc).length=l.length:=by simp
  have hnl:news.length=m.length*size:=by rw[hsrc.len,hlm]
  let n:=Nat.min m.length l.length
  have hlenx:(Builtin.lenOf (a.eval y)).run P w=.ok m.length w:=by
   rcases hsrc.at_ with⟨ad,c,e1,_⟩|⟨c,e1,e2⟩
   ·rw[e1];simp[Builtin.lenOf]
   rw[e1];rw[hlm]at e2;simp[Builtin.lenOf,e2]
  have hfirst:(Builtin.firstCells size n (a.eval y)).run P w=.ok (news.take (n*size)).toArray w:=by
   rcases hsrc.at_ with⟨ad,c,e1,hcells⟩|⟨c,e1,e2⟩
   ·rw[e1];refine run_firstCells_some (P:=P) w size n ad _ c (news.take (n*size)) ?_ ?_
    ·rw[List.length_take,hnl];have :n*size≤m.length*size:=Nat.mul_le_mul_right _ (Nat.min_le_left _ _);omega
    intro j v hj;rw[List.getElem?_take]at hj;split at hj
    ·exact hcells j v hj
    cases hj
   rw[e1];rw[hlm]at e2;have :news=[]:=List.eq_nil_of_length_eq_zero (by rw[hnl,e2];simp);simp[Builtin.firstCells,this]
  have hone:∀u∈news.take (n*size),u.oneCell'=true:=fun u hu=>hsrc.one u (List.mem_of_mem_take hu);have hn1:n≤m.length:=Nat.min_le_left _ _;have hn2:n≤l.length:=Nat.min_le_right _ _
  have htl:(news.take (n*size)).length=n*size:=by
   rw[List.length_take,hnl];have :n*size≤m.length*size:=Nat.mul_le_mul_right _ hn1;omega
  have hgc:gCopy l m=m.take n++l.drop n:=by
   unfold gCopy;by_cases hle:m.length≤l.length
   ·have e1:n=m.length:=Nat.min_eq_left hle;rw[e1,List.take_of_length_le hle,List.take_length]
   have e1:n=l.length:=Nat.min_eq_right (by omega);rw[e1,List.drop_of_length_le (by omega),List.drop_length]
  have hgl:(gCopy l m).length=l.length:=by rw[hgc];simp;omega
  rcases hown.2 with⟨hv,hl0⟩|⟨g,cap,cur,hv,_,hg,hncap,hcm,hcs,htake⟩
  ·
   rw[hll]at hl0;have hn0:n=0:=by omega
   have hl:l=[]:=List.eq_nil_of_length_eq_zero hl0;have hge:gCopy l m=l:=by rw[hgc,hn0];simp
   rw[hge]
   have hset:es.set k (.arr e size (List.map enc l))=es:=by
    apply List.ext_getElem?;intro j;by_cases hj:k=j
    ·subst hj;have hkl:=(List.getElem?_eq_some_iff.1 hk).1;rw[List.getElem?_set_self hkl,hk]
    rw[List.getElem?_set_ne hj]
   rw[hset];refine⟨goInt n,w,ok,H,.inl ?_,.refl _ _,.refl _,hm,.junk _⟩;have e0:Nat.min m.length 0=n:=by rw[hn0];simp
   have hf0:(Builtin.firstCells size 0 (a.eval y)).run P w=.ok #[] w:=by rw[hn0]at hfirst;simpa using hfirst
   simp[execOp,ho,resolve,invoke,builtin,Builtin.copy_,hxv,hv,hu,hlenx,hsz,hf0,hn0]
  ·rw[hll]at hv hncap htake;have hlt:g<w.heap.size:=(Array.getElem?_eq_some_iff.1 hg).1
   have hfit:n*size≤cur.size:=by
    exact Nat.le_trans (Nat.mul_le_mul_right _ (by omega)) hcs
   have hst:=run_storeCells_at (P:=P) g 0 e (news.take (n*size)) 0 cur w hg (by rw[htl];omega) hone;have apW:∀y∈(gCopy l m).map enc,y.cells.length=size:=hel _
   obtain⟨h3,h4⟩:=hm.upd (e:=.arr e size (List.map enc (gCopy l m))) (w':=w.setRow g (cur.toList.take (0+0)++news.take (n*size)++cur.toList.drop (0+0+(news.take (n*size)).length)).toArray) hk rfl hh (by rw[hv];rfl) rfl rfl rfl (by simp[World.setRow]) (fun c hc=>Qe _ _ _ _ hc) (fun hg'=>by
    refine⟨h1,apW,news.take (n*size)++ys.drop (n*size),?_,?_⟩
    ·refine⟨?_,.inr ⟨g,cap,_,by rw[List.length_map,hgl];exact hv,Nat.zero_le _,setRow_heap w g cur _ e (0,0) hg,by rw[List.length_map,hgl];exact hncap,hcm,?_,?_⟩⟩
     ·simp only[List.length_append,htl,List.length_drop,hown.1,List.length_map,hgl];have :n*size≤l.length*size:=Nat.mul_le_mul_right _ hn2;omega
     ·simp only[Nat.add_zero,List.take_zero,List.nil_append,Nat.zero_add,htl];simp only[List.size_toArray,List.length_append,htl,List.length_drop,Array.length_toList];rw[show n*size+(cur.size-n*size)=cur.size by omega];exact hcs
     simp only[Nat.add_zero,List.take_zero,List.nil_append,Nat.zero_add,htl,List.toList_toArray];rw[List.length_map,hgl,←htake];rw[List.take_append,htl,List.take_of_length_le (by rw[htl];exact Nat.mul_le_mul_right _ hn2)];congr 1;rw[List.drop_take]
    have ha:=axv.mono hg' (Names.refl H);have hb:=hrs.mono hg' (Names.refl H);have axw:=tN (hel l);have amn:=tN (hel m);have aua:=tN apW;have aya:n*size≤l.length*size:=Nat.mul_le_mul_right _ hn2;have ayb:n*size≤m.length*size:=Nat.mul_le_mul_right _ hn1;refine⟨by simp only[aua,List.length_append,htl,List.length_drop,hown.1,List.length_map,hgl];omega,fun j hj=>?_⟩;rw[aua,List.length_map,hgl]at hj;have hpos:=hE.pos;have e0:j=j/size*size+j % size:=by rw[Nat.mul_comm];exact(Nat.div_add_mod j size).symm
    have hq:j/size<l.length:=Nat.div_lt_of_lt_mul (by rwa [Nat.mul_comm]at hj);have hr:j % size<size:=Nat.mod_lt _ hpos;have hg3:=flat_get apW (j/size) (j % size) (by rw[List.length_map,hgl];exact hq) hr;rw[←e0]at hg3;by_cases hjn:j<n*size
    ·have hqn:j/size<n:=Nat.div_lt_of_lt_mul (by rwa [Nat.mul_comm]at hjn);have hg2:=flat_get (hel m) (j/size) (j % size) (by rw[hlm];omega) hr;rw[←e0]at hg2
     have hsame:((gCopy l m).map enc).getD (j/size) dz=(m.map enc).getD (j/size) dz:=by
      rw[hgc];simp only[List.getD,List.map_append];rw[List.getElem?_append_left (by simp;omega),List.map_take,List.getElem?_take_of_lt hqn]
     rw[hg3,hsame,←hg2]
     have e5:(news.take (n*size)++ys.drop (n*size)).getD j undef=news.getD j undef:=by
      simp only[List.getD];rw[List.getElem?_append_left (by rw[htl];exact hjn),List.getElem?_take_of_lt hjn]
     rw[e5];exact ha.2 j (by rw[amn,hlm];omega)
    have hqn:n≤j/size:=(Nat.le_div_iff_mul_le hpos).2 (by omega);have hg1:=flat_get (hel l) (j/size) (j % size) (by rw[hll];exact hq) hr;rw[←e0]at hg1
    have hsame:((gCopy l m).map enc).getD (j/size) dz=(l.map enc).getD (j/size) dz:=by
     rw[hgc];have hlt':(m.take n).length=n:=by simp;omega
     simp only[List.getD,List.map_append];rw[List.getElem?_append_right (by rw[List.length_map,hlt'];exact hqn),List.length_map,hlt',List.map_drop,List.getElem?_drop];congr 2;omega
    rw[hg3,hsame,←hg1]
    have e5:(news.take (n*size)++ys.drop (n*size)).getD j undef=ys.getD j undef:=by
     simp only[List.getD];rw[List.getElem?_append_right (by rw[htl];omega),htl,List.getElem?_drop];congr 2;omega
    rw[e5]
    exact hb.2 j (by rw[axw,hll];omega))
   refine⟨goInt n,_,ok,H,.inl ?_,h4,.refl _,h3,.junk _⟩;have e0:Nat.min m.length l.length=n:=rfl;simp[execOp,ho,resolve,invoke,builtin,Builtin.copy_,hxv,hv,hu,hlenx,hsz,e0,hfirst];rw[hst];simp
end
def aX (s:ByteArray):List Int:=s.data.toList.map fun c=>(c.toNat:Int)
theorem dV (s:ByteArray):(aX s).length=s.size:=by unfold aX;rw[List.length_map,Array.length_toList];rfl
section
variable {P : Program} {o : Oper} {es : List bn} {α : Type}
theorem aak :∀(l:List Int),flat (l.map dY)=l.map fun n=>.d (dY n)
 | []=>rfl
 |n::l=>by rw[List.map_cons,Ik,aak l];rfl
theorem asw {w:World} {t u ty e:TypeId} {i:TypeInfo} (ht:P.underlying t=some (.slice e)) (hu:P.underlying u=some .string) (hi:P.info? e=some i) (hz:i.zero=some (.int .u8 0)) (hsize:i.size=1) (hby:i.bytes=1)
 {v:Value} {n:Nat} {xs:List Value} (hown:lY w e 1 v n xs) (s:ByteArray) (h63:n+s.size≤maxLen) (hbytes:n+s.size≤140737488355328):
 ∃v' w',(Builtin.append_ #[t,u] ty #[v,.string s]).run P w=.ok v' w'∧lY w' e 1 v' (n+s.size) (xs++Lib.strCells s)∧w.grownBy w' v.ownBlock∧(∀g',eG v'=some g'→eG v=some g'∨w.heap.size≤g'):=by
 have hxl:xs.length=n:=by simpa using hown.1
 have hlen:(xs++Lib.strCells s).length=(n+s.size)*1:=by rw[List.length_append,hxl,Lib.strCells_length,Nat.mul_one]
 rcases hown.2 with⟨rfl,rfl⟩|⟨g,cap,cur,rfl,_,hg,hnc,hcm,hcs,htake⟩
 ·have hx:xs=[]:=List.eq_nil_of_length_eq_zero hxl;subst hx;obtain⟨v',w',q1,q2,q3,q4⟩:=Lib.run_append_own_string (P:=P) w w.heap.size t u ty e i ht hu hi hz hsize hby _ 0 [] (World.ownsRow_nil w w.heap.size e 1) s h63 hbytes (Nat.le_refl _);refine⟨v',w',q1,.of q2,q3,fun g' hg'=>.inr ?_⟩;rcases q2.2 with⟨rfl,_⟩|⟨g2,_,_,rfl,hle,_⟩
  ·simp[eG]at hg'
  simp[eG]at hg';subst hg';exact hle
 rw[Nat.mul_one]at hcs htake;by_cases hroom:n+s.size≤cap
 ·have hr:=Lib.run_append_room_string (P:=P) w t u ty e i ht hu hi hsize g n cap cur hg s hroom (by omega);refine⟨_,_,hr,⟨hlen,.inr ⟨g,cap,_,rfl,Nat.zero_le _,setRow_heap w g cur _ e _ hg,hroom,hcm,?_,?_⟩⟩,⟨rfl,rfl,rfl,by simp,fun k _ hk=>setRow_other w g k _ (fun e=>hk (by simp[Value.ownBlock,e]))⟩,fun g' hg'=>.inl hg'⟩
  ·simp only[List.size_toArray,List.length_append,List.length_take,List.length_drop,Array.length_toList,Lib.strCells_length];omega
  rw[htake,←hlen];exact List.take_left
 have hr:=Lib.run_append_grow_string (P:=P) w t u ty e i (.int .u8 0) ht hu hi hz ⟨g,0,none⟩ n cap xs (by rw[hsize];simpa using hxl) (hown.cells (g:=g) rfl) s (by omega) (by unfold maxLen at h63;omega) (by rw[hby];exact growslice_fits (by omega) (by omega));have hge:=grownCap_ge w (n+s.size) cap e;have hcm:grownCap w (n+s.size) cap e≤maxLen:=grownCap_le_maxLen w (n+s.size) cap e h63;refine⟨_,_,hr,⟨hlen,.inr ⟨w.heap.size,_,_,rfl,Nat.zero_le _,heap_alloc_new w.drew _,hge,hcm,Nat.le_of_eq ?_,?_⟩⟩,⟨rfl,rfl,rfl,by simp,fun k hk _=>Below.heap_alloc w.drew _ k hk⟩,fun g' hg'=>.inr (by simp[eG]at hg';omega)⟩
 ·have hz1:(Value.int IntKind.u8 0).cells.size=1:=rfl;simp only[Array.size_append,List.size_toArray,size_zeroCells,hz1,hxl,Lib.strCells_length];omega
 simp only[Array.toList_append,List.append_assoc];rw[←List.append_assoc,←hlen];exact List.take_left
theorem asx {s x:Operand} {t u e:TypeId} {k:Nat} {l r:List Int} {str:ByteArray} (h:gK 1 l (aX str)=some r) (hE:El P t e 1 1) (hz:(P.info? e).bind (·.zero)=some (.int .u8 0)) (hu:P.underlying u=some .string) (hk:es[k]? =some (.arr e 1 (List.map dY l)))
 (ho:o.op=.call { callee:=.builtin .append,args:=#[s,x],argTypes:=#[t,u] }):bK P o [(s,.aK k),(x,.d (eS str))] es (.aK es.length) (es.set k .dead++[.arr e 1 (List.map dY r)]):=
 .eff fun C ok H a w hm hn=>by
  obtain⟨rfl,hlen⟩:=SI h;rw[dV,Nat.mul_one]at hlen;have hs:=(mem2 hn).1;have hx:=(mem2 hn).2.lit;simp only at hs hx;obtain⟨hd,hh,hok⟩:=jy hm.ent hm.hlen hk;have hsv:=oV hs hh;obtain⟨h1,h2,ys,hown,hrs⟩:=hok;obtain⟨i,z',hi,hz',hs1,hby,_⟩:=hE.info;have hz2:i.zero=some (.int .u8 0):=by rw[hi]at hz;simpa using hz
  have hll:(l.map dY).length=l.length:=by simp
  have hmax:(l.map dY).length+str.size≤maxLen:=by rw[hll];unfold maxLen;omega
  obtain⟨v',w',hr,ho',hg,hblk⟩:=asw (P:=P) (ty:=o.type) hE.und hu hi hz2 hs1 hby hown str hmax (by rw[hll];exact hlen)
  obtain⟨h3,h4⟩:=hm.turn (h':=⟨v',1⟩) (e:=.arr e 1 (List.map dY (l++aX str))) hk rfl hh hg.os hg.tape hg.output hg.size (fun c hc hne=>hg.block c hc (by rw[WS hown];exact fun e=>hne e.symm)) (fun g hg'=>⟨O6 ho' hg',hblk g hg'⟩) (fun hgr=>by
   refine⟨rfl,fun y hy=>by obtain⟨q,_,rfl⟩:=List.mem_map.1 hy;rfl,ys++Lib.strCells str,?_,?_⟩
   ·have e:(List.map dY (l++aX str)).length=(l.map dY).length+str.size:=by simp[dV]
    rw[e];exact ho'
   have a1:=hrs.mono hgr (Names.push H [⟨v',1⟩]);have hfl:(flat (l.map dY)).length=l.length:=by rw[aak];simp
   have hcl:(Lib.strCells str)=(aX str).map (.int .u8):=by unfold Lib.strCells aX;rw[List.map_map];rfl
   rw[List.map_append,L9,aak (aX str),hcl];refine⟨by rw[List.length_append,List.length_append,a1.1,List.length_map,List.length_map],fun i hi=>?_⟩;by_cases hi2:i<(flat (l.map dY)).length
   ·have e1:(flat (l.map dY)++(aX str).map fun n=>AV.d (dY n)).getD i .junk=(flat (l.map dY)).getD i .junk:=by simp[List.getD,List.getElem?_append_left hi2]
    have e2:(ys++(aX str).map (Value.int .u8)).getD i undef=ys.getD i undef:=by simp[List.getD,List.getElem?_append_left (by rw[a1.1];exact hi2:i<ys.length)]
    rw[e1,e2];exact a1.2 i hi2
   have hi3:i-(flat (l.map dY)).length<(aX str).length:=by rw[List.length_append,List.length_map]at hi;omega
   have e1:(flat (l.map dY)++(aX str).map fun n=>AV.d (dY n)).getD i .junk=.d (dY (aX str)[i-(flat (l.map dY)).length]):=by simp[List.getD,List.getElem?_append_right (Nat.le_of_not_lt hi2),hi3]
   have e2:(ys++(aX str).map (Value.int .u8)).getD i undef=.int .u8 (aX str)[i-(flat (l.map dY)).length]:=by simp[List.getD,List.getElem?_append_right (by rw[a1.1];omega:ys.length≤i),a1.1,hi3]
   rw[e1,e2]
   exact⟨rfl,.d _ _ (.lit _)⟩)
  have hH:(H++[(⟨v',1⟩:Hd)])[es.length]? =some ⟨v',1⟩:=by rw[←hm.hlen];simp
  refine⟨v',w',ok,_,.inl ?_,h4,Names.push _ _,h3,?_⟩
  ·simp[execOp,ho,resolve,invoke,builtin,hx,hsv,hr]
  rcases ho'.2 with⟨rfl,_⟩|⟨g',c',_,rfl,_⟩
  ·exact .aK _ _ _ _ 1 hH
  exact .aK _ _ _ _ 1 hH
def jg (op:BinOp) (k:IntKind) (x y:Int):Int:=
 match op with
 | .and=>k.wrap ((BitVec.ofInt k.bits x&&& BitVec.ofInt k.bits y).toNat)
 | .or=>k.wrap ((BitVec.ofInt k.bits x|||BitVec.ofInt k.bits y).toNat)
 | .xor=>k.wrap ((BitVec.ofInt k.bits x^^^BitVec.ofInt k.bits y).toNat)
 |_=>k.wrap ((BitVec.ofInt k.bits x&&& ~~~(BitVec.ofInt k.bits y)).toNat)
theorem yS {t t':TypeId} {x y:Operand} {k:IntKind} {u v:Int} (ho:o.op=.binOp .and t x y t'):bK P o [(x,.d (.lit (.int k u))),(y,.d (.lit (.int k v)))] es (.d (.lit (.int k (jg .and k u v)))) es:=
 Gs ho (fun w=>by simp[binOp,Op.intBits,jg]) ⟨rfl,rfl⟩
theorem O8 {t t':TypeId} {x y:Operand} {k:IntKind} {u v:Int} (ho:o.op=.binOp .or t x y t'):bK P o [(x,.d (.lit (.int k u))),(y,.d (.lit (.int k v)))] es (.d (.lit (.int k (jg .or k u v)))) es:=
 Gs ho (fun w=>by simp[binOp,Op.intBits,jg]) ⟨rfl,rfl⟩
theorem aub {t t':TypeId} {x y:Operand} {k:IntKind} {u v:Int} (ho:o.op=.binOp .xor t x y t'):bK P o [(x,.d (.lit (.int k u))),(y,.d (.lit (.int k v)))] es (.d (.lit (.int k (jg .xor k u v)))) es:=
 Gs ho (fun w=>by simp[binOp,Op.intBits,jg]) ⟨rfl,rfl⟩
theorem an1 {t t':TypeId} {x y:Operand} {k:IntKind} {u v:Int} (ho:o.op=.binOp .andNot t x y t'):bK P o [(x,.d (.lit (.int k u))),(y,.d (.lit (.int k v)))] es (.d (.lit (.int k (jg .andNot k u v)))) es:=
 Gs ho (fun w=>by simp[binOp,Op.intBits,jg]) ⟨rfl,rfl⟩
def aiP (k:IntKind) (x:Int):Int:=jg .xor k (if k.signed then -1 else k.max) x
theorem auc {t:TypeId} {x:Operand} {k:IntKind} {u:Int} (ho:o.op=.unOp .xor t x):bK P o [(x,.d (.lit (.int k u)))] es (.d (.lit (.int k (aiP k u)))) es:=
 ame ho (fun w=>by simp[Op.unary,Op.intBits,aiP,jg])
def SQ (op:BinOp) (k:IntKind) (x y:Int):Option Int:=
 if y<0 then none else some (match op with | .shl=>k.wrap (x*2^(min y.toNat k.bits))|_=>x.fdiv (2^(min y.toNat k.bits)))
theorem aiQ {t t':TypeId} {x y:Operand} {k k':IntKind} {u v r:Int} (h:SQ .shl k u v=some r) (ho:o.op=.binOp .shl t x y t'):bK P o [(x,.d (.lit (.int k u))),(y,.d (.lit (.int k' v)))] es (.d (.lit (.int k r))) es:=by
 unfold SQ at h;split at h
 ·cases h
 rename_i hv;obtain rfl:=Option.some.inj h;exact Gs ho (fun w=>by simp[binOp,Op.shift,hv]) ⟨rfl,rfl⟩
theorem an2 {t t':TypeId} {x y:Operand} {k k':IntKind} {u v r:Int} (h:SQ .shr k u v=some r) (ho:o.op=.binOp .shr t x y t'):bK P o [(x,.d (.lit (.int k u))),(y,.d (.lit (.int k' v)))] es (.d (.lit (.int k r))) es:=by
 unfold SQ at h;split at h
 ·cases h
 rename_i hv;obtain rfl:=Option.some.inj h;exact Gs ho (fun w=>by simp[binOp,Op.shift,hv]) ⟨rfl,rfl⟩
end
end Go.Proofs.YtolgdkhlelfpoaaGreat
end
section
namespace Go.Proofs.YtolgdkhlelfpoaaGreat
open Go.RowKit
section
variable {P : Program} {o : Oper} {es : List bn} {α : Type}
theorem aiR {ok:Nat→Prop} {w:World} {H:List Hd} {h:Hd} {e size k i off:Nat} {xs:List D} {v:Value} (hh:H[k]? =some h) (hok:iL ok w H h (.arr e size xs)) (hi:i<xs.length) (hv:R ok w H (.jV k i off) v):
 ∃g cap cur ys,h.v=.slice (some ⟨g,0,none⟩) xs.length cap∧w.heap[g]? =some (.cells cur e (0,0))∧xs.length≤cap∧cap≤maxLen∧xs.length*size≤cur.size∧cap*size≤cur.size∧cur.toList.take (xs.length*size)=ys∧ys.length=xs.length*size∧Rs ok w H (flat xs) ys∧(∀x∈xs,x.cells.length=size)∧v=.pointer (some ⟨g,i*size+off,none⟩):=by
 obtain⟨h1,h2,ys,⟨h3,h4⟩,h5⟩:=hok;rcases h4 with⟨h6,h7⟩|⟨g,cap,cur,h6,h7,h8,h9,h10,h11,h12⟩
 ·omega
 refine⟨g,cap,cur,ys,h6,h8,h9,h10,Nat.le_trans (Nat.mul_le_mul_right _ h9) h11,h11,h12,h3,h5,h2,?_⟩;cases hv with
 |jV _ _ _ b n c s hH=>
  rw[hh]at hH;obtain rfl:=Option.some.inj hH;simp only[Value.slice.injEq,Option.some.injEq,Addr.mk.injEq]at h6;simp only at h1;rw[h6.1.1,h1]
theorem an3 {size n i j:Nat} (hi:i<n) (hj:j<size):i*size+j<n*size:=
 calc i*size+j<i*size+size:=by omega
  _=(i+1)*size:=by rw[Nat.succ_mul]
  _≤n*size:=Nat.mul_le_mul_right _ hi
theorem oD {x:Operand} {t:TypeId} {agg:Bool} {k n i off e size:Nat} {y:D} (enc:α→D) {l:List α} {a:α} (hy:y=qh agg (enc a).cells off n) (hk:es[k]? =some (.arr e size (List.map enc l))) (ha:l[i]? =some a) (hT:Ty P t agg n) (hn:off+n≤(enc a).cells.length) (h1:agg=false→n=1)
 (ho:o.op=.load t x):bK P o [(x,.jV k i off)] es (.d y) es:=
 .pure fun ok H ac w hent hl hn'=>by
  have hx:=mem1 hn';simp only at hx;subst hy;obtain⟨h,hh,hok⟩:=jy hent hl hk;obtain⟨hil,hia⟩:=List.getElem?_eq_some_iff.1 ha;have afy:i<(List.map enc l).length:=by simpa using hil
  obtain⟨g,cap,cur,ys,e1,e2,e3,e4,e5,e5',e6,e7,e8,e9,e10⟩:=aiR hh hok afy hx;have awv:(List.map enc l).getD i dz=enc a:=by simp[List.getD,hil,hia]
  have hsz:(enc a).cells.length=size:=by
   refine e9 _ ?_;exact List.mem_map.2 ⟨a,by rw[←hia];exact List.getElem_mem hil,rfl⟩
  have hfl:=tN e9
  have hcell:∀j,j<size→w.cell? ⟨g,i*size+j,none⟩=some (ys.getD (i*size+j) undef):=by
   intro j hj;have h13:=an3 afy hj;have hcur:(List.map enc l).length*size≤cur.size:=e5;have h15:i*size+j<cur.size:=by omega
   have e11:ys.getD (i*size+j) undef=cur[i*size+j]'h15:=by
    rw[←e6];have h14:i*size+j<l.length*size:=by simpa using h13
    simp[List.getD,List.getElem?_take_of_lt h14,show i*size+j<cur.size by omega]
   rw[e11];simp[World.cell?,e2,show i*size+j<cur.size by omega]
  have hrs:∀j,j<size→((enc a).cells.getD j dz).leaf=true∧RD ok w ((enc a).cells.getD j dz) (ys.getD (i*size+j) undef):=by
   intro j hj;have h13:=e8.2 (i*size+j) (by rw[hfl];exact an3 afy hj);rw[flat_get e9 i j afy hj,awv]at h13;refine⟨h13.1,?_⟩;cases h13.2 with |d _ _ h=>exact h
  obtain⟨v,hr,hD⟩:=WQ (ok:=ok) (w:=w) (b:=g) (p:=i*size) (cs:=(enc a).cells) hT hn h1 (fun j hj=>(hrs j (by omega)).1) (fun j hj=>by rw[hcell j (by omega)];rfl) (fun j hj=>by unfold cellAt;rw[hcell j (by omega)];exact(hrs j (by omega)).2);exact⟨v,by simp only[execOp,ho,e10,Sem.run_bind,hr,Result.andThen_ok,Sem.run_pure],.d _ _ hD⟩
theorem G7 {t:TypeId} {x y:Operand} {k i off n e size:Nat} (enc:α→D) {l:List α} {a a':α} {v:AV} (hk:es[k]? =some (.arr e size (List.map enc l))) (ha:l[i]? =some a) (hl:v.cells.all AV.leaf=true) (hs:∀w,(sizeOf t).run P w=.ok n w) (hn:v.cells.length=n)
 (hle:off+n≤(enc a).cells.length) (hset:(enc a').cells.map AV.d=setAt ((enc a).cells.map AV.d) off v.cells) (hc:∀b,(enc b).cells.length=size) (ho:o.op=.store t x y):
 bK P o [(x,.jV k i off),(y,v)] es .junk (es.set k (.arr e size (List.map enc (l.set i a')))):=
 .eff fun C ok H ac w hm hn'=>by
  have h1:=(mem2 hn').1;have h2:=(mem2 hn').2;simp only at h1 h2;obtain⟨h,hh,hok⟩:=jy hm.ent hm.hlen hk;obtain⟨hil,hia⟩:=List.getElem?_eq_some_iff.1 ha;have afy:i<(List.map enc l).length:=by simpa using hil
  have hok1:=hok.1;obtain⟨g,cap,cur,ys,e1,e2,e3,e4,e5,e5',e6,e7,e8,e9,e10⟩:=aiR hh hok afy h1;have hcells:=h2.aag hl;have hll:(List.map enc l).length=l.length:=by simp
  rw[hll]at e1 e3 e6 e7;have hea:(enc a).cells.length=size:=hc a;have hvl:(ac.eval y).cells.toList.length=n:=by rw[hcells.1,hn]
  have hsz:(ac.eval y).cells.size=n:=by simpa using hvl
  have hcur:l.length*size≤cur.size:=by simpa using e5
  have hend:i*size+off+n≤l.length*size:=by
   have :(i+1)*size≤l.length*size:=Nat.mul_le_mul_right _ hil;rw[Nat.succ_mul]at this;omega
  have hst:=run_storeCells_at (P:=P) g (i*size+off) e (ac.eval y).cells.toList 0 cur w e2 (by rw[hvl];omega) (fun u hu=>by
   obtain⟨j,hj,rfl⟩:=List.getElem_of_mem hu;have h5:=hcells.2 j (by rw[←hcells.1];exact hj);have:=h5.2.leaf h5.1
   rwa [O5 hj]at this)
  simp only[Nat.add_zero]at hst;have hel:∀(q:List α),∀y∈q.map enc,y.cells.length=size:=fun q y hy=>by obtain⟨b,_,rfl⟩:=List.mem_map.1 hy;exact hc b
  obtain⟨h3,h4⟩:=hm.upd (e:=.arr e size (List.map enc (l.set i a'))) (w':=w.setRow g (cur.toList.take (i*size+off)++(ac.eval y).cells.toList++cur.toList.drop (i*size+off+(ac.eval y).cells.toList.length)).toArray) hk rfl hh (by rw[e1];rfl) rfl rfl rfl (by simp[World.setRow]) (fun c hc=>Qe _ _ _ _ hc) (fun hg'=>by
   have esz:(setAt cur.toList (i*size+off) (ac.eval y).cells.toList).length=cur.toList.length:=lG (by have:=cur.length_toList;omega);refine⟨hok1,hel _,setAt ys (i*size+off) (ac.eval y).cells.toList,⟨?_,.inr ⟨g,cap,_,by simp;exact e1,Nat.zero_le _,setRow_heap w g cur _ e (0,0) e2,by simpa using e3,e4,?_,?_⟩⟩,?_⟩
   ·rw[lG (by omega)];simpa using e7
   ·have h9:(setAt cur.toList (i*size+off) (ac.eval y).cells.toList).toArray.size=cur.size:=by rw[List.size_toArray,esz];simp
    show _≤(setAt cur.toList (i*size+off) (ac.eval y).cells.toList).toArray.size;rw[h9];exact e5'
   ·rw[List.toList_toArray];show(setAt cur.toList (i*size+off) (ac.eval y).cells.toList).take _=_;rw[←e6];have hlen':(List.map enc (l.set i a')).length=l.length:=by simp
    rw[hlen'];apply List.ext_getElem?;intro j;have hcl:=cur.length_toList;by_cases hj:j<l.length*size
    ·have a1:((setAt cur.toList (i*size+off) (ac.eval y).cells.toList).take (l.length*size))[j]? =some ((setAt cur.toList (i*size+off) (ac.eval y).cells.toList).getD j undef):=by
      rw[List.getElem?_take_of_lt hj];simp[List.getD,show j<(setAt cur.toList (i*size+off) (ac.eval y).cells.toList).length by rw[esz];omega]
     have tl:(cur.toList.take (l.length*size)).length=l.length*size:=by simp;omega
     have sl:(setAt (cur.toList.take (l.length*size)) (i*size+off) (ac.eval y).cells.toList).length=l.length*size:=by rw[lG (by omega),tl]
     have a2:(setAt (cur.toList.take (l.length*size)) (i*size+off) (ac.eval y).cells.toList)[j]? =some ((setAt (cur.toList.take (l.length*size)) (i*size+off) (ac.eval y).cells.toList).getD j undef):=by
      simp[List.getD,show j<(setAt (cur.toList.take (l.length*size)) (i*size+off) (ac.eval y).cells.toList).length by omega]
     rw[a1,a2,xq (by omega),xq (by omega)];congr 1;split
     ·rfl
     simp[List.getD,List.getElem?_take_of_lt hj]
    have tl:(cur.toList.take (l.length*size)).length=l.length*size:=by simp;omega
    have sl:(setAt (cur.toList.take (l.length*size)) (i*size+off) (ac.eval y).cells.toList).length=l.length*size:=by rw[lG (by omega),tl]
    rw[List.getElem?_eq_none (by simp;omega),List.getElem?_eq_none (by omega)]
   have hb:=e8.mono hg' (Names.refl H);have hcr:=hcells.mono hg' (Names.refl H);have hfl:=tN (hel l);have amn:=tN (hel (l.set i a'));refine⟨by rw[lG (by omega),e7,amn];simp,fun j hj=>?_⟩;rw[amn]at hj;simp only[List.length_map,List.length_set]at hj
   have hpos:0<size:=by
    rcases Nat.eq_zero_or_pos size with h0|h0
    ·rw[h0,Nat.mul_zero]at hj;omega
    exact h0
   have e0:j=j/size*size+j % size:=by rw[Nat.mul_comm];exact(Nat.div_add_mod j size).symm
   have hq:j/size<l.length:=Nat.div_lt_of_lt_mul (by rwa [Nat.mul_comm]at hj);have hr:j % size<size:=Nat.mod_lt _ hpos
   have hdiv:j/size=i↔i*size≤j∧j<i*size+size:=by
    rw[Nat.div_eq_iff hpos,Nat.mul_comm];omega
   rw[hvl]at hb hcr;generalize j/size=qd at e0 hq hdiv;generalize j % size=qm at e0 hr;have hg3:=flat_get (hel (l.set i a')) qd qm (by simpa using hq) hr;rw[←e0]at hg3;have hg1:=flat_get (hel l) qd qm (by simpa using hq) hr;rw[←e0]at hg1;rw[hg3,xq (by omega),hvl];by_cases hqi:qd=i
   ·have hnew:(List.map enc (l.set i a')).getD (qd) dz=enc a':=by rw[hqi];simp[List.getD,hil]
    have hold:(List.map enc l).getD (qd) dz=enc a:=by rw[hqi];simp[List.getD,hil,hia]
    rw[hnew];have ayc:(enc a').cells.length=size:=hc a'
    have e11:AV.d ((enc a').cells.getD (qm) dz)=(setAt ((enc a).cells.map AV.d) off v.cells).getD (qm) .junk:=by
     rw[←hset];simp[List.getD,show qm<(enc a').cells.length by omega]
    rw[e11,xq (by rw[List.length_map,hn];exact hle),hn];have hji:j=i*size+qm:=by rw[←hqi];exact e0
    by_cases hin:off≤qm∧qm<off+n
    ·rw[if_pos hin,if_pos (by omega)];have :j-(i*size+off)=qm-off:=by omega
     rw[this];exact hcr.2 _ (by omega)
    rw[if_neg hin,if_neg (by omega)];have e12:((enc a).cells.map AV.d).getD (qm) .junk=.d ((enc a).cells.getD (qm) dz):=by simp[List.getD,show qm<(enc a).cells.length by omega]
    rw[e12,←hold,←hg1];exact hb.2 j (by rw[hfl];simpa using hj)
   have hsame:(List.map enc (l.set i a')).getD (qd) dz=(List.map enc l).getD (qd) dz:=by
    simp[List.getD,List.getElem?_set_ne (Ne.symm hqi)]
   have hnot:¬(i*size+off≤j∧j<i*size+off+n):=by
    rintro⟨ha1,ha2⟩;exact hqi (hdiv.2 ⟨by omega,by omega⟩)
   rw[if_neg hnot,hsame,←hg1]
   exact hb.2 j (by rw[hfl];simpa using hj))
  refine⟨undef,_,ok,H,.inr ⟨rfl,?_⟩,h4,.refl _,h3,.junk _⟩;simp only[execOp,ho,e10,Instr.storeAt,Instr.sureAddr,storeVar,Sem.run_bind,Sem.run_pure,Result.andThen_ok,hs,hsz,ne_eq,not_true_eq_false,if_false,hst]
end
end Go.Proofs.YtolgdkhlelfpoaaGreat
end
section
namespace Go.Proofs.YtolgdkhlelfpoaaGreat
open Go.RowKit
def AV.Mc (k:Nat) (cs:List D):AV→AV
 | .ptr j off=>if j=k then .d (.ref cs off)else .ptr j off
 |x=>x
def St.Mc (σ:St) (k:Nat) (cs:List D):St:=⟨σ.slots.map (AV.Mc k cs),σ.ents.set k .dead,σ.base⟩
theorem pY {σ:St} (k:Nat) {cs:List AV} (hk:σ.ents[k]? =some (.box cs)) (hd:cs.all AV.xk=true):∀C ok H a w,Holds C ok H σ a w→∃ok',Holds C ok' H (σ.Mc k (nY cs)) a w:=by
 intro C ok H a w hh;obtain⟨h,hhd,hok⟩:=jy hh.mem.ent hh.mem.hlen hk;have hkl:k<σ.ents.length:=(List.getElem?_eq_some_iff.1 hk).1;obtain⟨b0,hb0,hf,hx,hc⟩:=WR hok hd
 let ok':Nat→Prop:=fun b=>ok b∨eG h.v=some b
 have hblk:=fun b hb=>hh.mem.blk k _ h b hk rfl hhd hb;have hg:Grow ok w ok' w:=fun b hb=>⟨.inl hb,rfl⟩
 refine⟨ok',⟨hh.mem.fr,fun b hb=>.inl (hh.mem.rP b hb),?_,?_,hh.mem.names,by simp[St.Mc,hh.mem.hlen],?_,?_,?_⟩,by simp[St.Mc,hh.size],hh.defers.mono hg,hh.base,?_⟩
 ·rintro b (hb|hb)
  ·exact hh.mem.rQ b hb
  exact .inr (hblk b hb).2.2
 ·rintro b (hb|hb)
  ·exact hh.mem.jH b hb
  exact(hblk b hb).2.1
 ·intro j e' h' he hh';rcases mQ hkl he with⟨rfl,rfl⟩|⟨_,he'⟩
  ·trivial
  exact(hh.mem.ent j e' h' he' hh').mono hg (.refl _) (fun _ _ _=>rfl)
 ·intro j e' h' b he hl hh' hb;rcases mQ hkl he with⟨rfl,rfl⟩|⟨hne,he'⟩
  ·cases hl
  have h3:=hh.mem.blk j e' h' b he' hl hh' hb;refine⟨fun hb'=>?_,h3.2⟩;rcases hb' with hb'|hb'
  ·exact h3.1 hb'
  exact hne (hh.mem.yQ j k e' _ h' h b he' hk hl rfl hh' hhd hb hb')
 ·intro i j e1 e2 h1 h2 b he1 he2 hl1 hl2 hh1 hh2 hb1 hb2;rcases mQ hkl he1 with⟨rfl,rfl⟩|⟨_,abT⟩
  ·cases hl1
  rcases mQ hkl he2 with⟨rfl,rfl⟩|⟨_,abU⟩
  ·cases hl2
  exact hh.mem.yQ i j e1 e2 h1 h2 b abT abU hl1 hl2 hh1 hh2 hb1 hb2
 intro t ht;simp only[St.Mc,List.length_map]at ht
 have e1:(σ.Mc k (nY cs)).slots.getD t .junk=(σ.slots.getD t .junk).Mc k (nY cs):=by
  simp only[St.Mc];exact jS _ _ _ ht
 rw[e1];have hR:=(hh.slot t ht).mono hg (Names.refl H);generalize σ.slots.getD t .junk=x at hR ⊢;generalize a.tmps.getD t undef=v at hR ⊢;cases x with
 |ptr j off=>
  simp only[AV.Mc];split
  ·rename_i hj;subst hj;cases hR with
   |ptr _ _ b s hH=>
    rw[hhd]at hH;obtain rfl:=Option.some.inj hH;simp at hb0;subst hb0;have:=RD.ref (ok:=ok') (w:=w) (nY cs) off b 0 (fun _=>.inr rfl) hf hx (fun j hj=>(hc j hj).mono hg);rw[Nat.zero_add]at this;exact .d _ _ this
  exact hR
 |_=>exact hR
section
variable {P : Program} {o : Oper} {es : List bn} {α β γ : Type}
theorem DJ {ok:Nat→Prop} {w:World} {H:List Hd} {a:Act}:∀{xs:List Operand} {vs:List AV},xs.length=vs.length→(∀n∈fV xs vs,R ok w H n.2 (a.eval n.1))→∀i,i<vs.length→R ok w H (vs.getD i .junk) ((xs.map a.eval).getD i undef)
 | [],[],_,_,i,hi=>by simp at hi
 | [],_::_,h,_,_,_=>by simp at h
 |_::_,[],h,_,_,_=>by simp at h
 |x::xs,v::vs,h,hn,0,_=>by simpa using hn (x,v) (by simp[fV])
 |x::xs,v::vs,h,hn,i+1,hi=>by
  have:=DJ (by simpa using h) (fun n hn'=>hn n (by simp[fV,hn'])) i (by simpa using hi);simpa using this
theorem rV {fn:Fn} {caps:Array Operand} (ds:List D) (hl:caps.toList.length=ds.length) (ho:o.op=.makeFunc fn #[] caps):bK P o (fV caps.toList (ds.map .d)) es (.d (.fn fn [] ds)) es:=
 .pure fun ok H a w _ _ hn=>by
  refine⟨.func fn #[] (caps.map a.eval),by simp[execOp,ho,Instr.makeFunc],.d _ _ (.fn fn [] ds #[] _ rfl (by simpa using hl) (fun i hi=>by simp at hi) (fun i hi=>?_))⟩;have h1:=DJ (xs:=caps.toList) (vs:=ds.map .d) (by simpa using hl) hn i (by simpa using hi);have e1:(ds.map AV.d).getD i .junk=.d (ds.getD i dz):=by simp[List.getD,hi]
  have hi2:i<caps.size:=by have :caps.size=ds.length:=by simpa using hl
                           omega
  have e2:(caps.toList.map a.eval).getD i undef=(caps.map a.eval).getD i undef:=by simp[List.getD,Array.getD,hi2]
  rw[e1,e2]at h1;cases h1 with |d _ _ h=>exact h
theorem ahi {f:FuncId} {C:Cx} {ok:Nat→Prop} {H:List Hd} {w:World} (hm:Mem C ok H es w) {ds:List D} {res:AV} (hr:Runs P f (ds.map .d) [] res []) (vals:Array Value) (hs:vals.size=ds.length) (hv:∀i,i<ds.length→RD ok w (ds.getD i dz) (vals.getD i undef)) (hres:res.up [] es.length=res):
 Calls P f vals w fun e w'=>∃v ok' H',e=.returned v∧Grow ok w ok' w'∧Names H H'∧Mem C ok' H' es w'∧R ok' w' H' res v:=by
 have hmc:Mem ⟨w,ok,[],[]⟩ ok [] [] w:=
  ⟨.refl _ _,fun _ h=>h,fun _ h=>.inl h,hm.jH,.refl _,rfl,fun k e h he _=>by simp at he,fun k e h b he=>by simp at he,fun k k' e e' h h' b he=>by simp at he⟩
 refine(hr ok [] [] w vals hmc (by simpa using hs) (fun i hi=>?_)).mono ?_
 ·have hi':i<ds.length:=by simpa using hi
  have e1:(ds.map AV.d).getD i .junk=.d (ds.getD i dz):=by simp[List.getD,hi']
  rw[e1];exact .d _ _ (hv i hi')
 rintro e w' ⟨v,ok',H',rfl,hm',hR⟩;have hH':H'=[]:=List.eq_nil_of_length_eq_zero hm'.hlen
 obtain⟨h1,h2⟩:=hm.change (ok':=ok') (H':=H) (es':=es) (w':=w') (fun _=>False) hm'.fr.os hm'.fr.tape hm'.fr.output hm'.fr.size (fun b hb _=>hm'.fr.block b hb (by simp)) (fun _ h=>h.elim) hm'.rP (fun b hb=>by
  rcases hm'.rQ b hb with h|h|h
  ·exact .inl h
  ·exact .inr ⟨h,hm'.jH b hb⟩
  simp at h) (.refl _) hm.hlen (fun k e h he hh=>.inl ⟨he,hh,fun _ _ _ h=>h⟩)
 refine⟨v,ok',H,rfl,h2,.refl _,h1,?_⟩;have:=arG (srcs:=[]) (H:=H) (Hc:=[]) (H':=H') rfl (fun i k h=>by simp at h) (fun k v hv=>by simp at hv) hR;rw[hm.hlen,hres,hH']at this;simpa using this
theorem aiS {f:FuncId} {x:Operand} {ops:Array Operand} {ats:Array TypeId} (ds cs:List D) {res:AV} (hr:Runs P f ((ds++cs).map .d) [] res []) (hf:aF P f=true) (hl:ops.toList.length=ds.length) (hres:res.up [] es.length=res)
 (ho:o.op=.call { callee:=.value x,args:=ops,argTypes:=ats }):bK P o ((x,.d (.fn (.func f) [] cs))::fV ops.toList (ds.map .d)) es res es:=by
 intro C ok H a w Q hm hn;have hx:=hn (x,.d (.fn (.func f) [] cs)) (by simp);simp only at hx;have hargs:=DJ (xs:=ops.toList) (vs:=ds.map .d) (by simpa using hl) (fun n hn'=>hn n (List.mem_cons_of_mem _ hn'));generalize hv:a.eval x=v at hx;cases hx with
 |d _ _ h=>
  cases h with
  |fn _ _ _ vs us hl1 hl2 h1 h2=>
   have hvs:vs= #[]:=Array.eq_empty_of_size_eq_zero (by simpa using hl1);subst hvs;unfold Oper.wp
   have he:(execOp a.eval o).run P w=.ok (.enter f ((ops.map a.eval)++us)) w:=by
    have:=oC hf (ops.map a.eval++us) w;simp[execOp,ho,resolve,hv,Deferred.ofValue,invoke,this]
   rw[he,Oper.upon_enter];have hsz:(ops.map a.eval).size=ds.length:=by simpa using hl
   refine(ahi hm hr _ (by simp[hsz,hl2]) (fun i hi=>?_) hres).mono ?_
   ·by_cases hi1:i<ds.length
    ·have h3:=hargs i (by simpa using hi1);have e1:(ds.map AV.d).getD i .junk=.d (ds.getD i dz):=by simp[List.getD,hi1]
     have hi2:i<ops.size:=by simpa using(by omega:i<(ops.map a.eval).size)
     have e2:(ops.toList.map a.eval).getD i undef=(ops.map a.eval++us).getD i undef:=by
      simp[List.getD,Array.getD_eq_getD_getElem?,Array.getElem?_append_left,hi2]
     have e3:(ds++cs).getD i dz=ds.getD i dz:=by simp[List.getD,List.getElem?_append_left hi1]
     rw[e1,e2]at h3;rw[e3];cases h3 with |d _ _ h=>exact h
    have hi2:i-ds.length<cs.length:=by rw[List.length_append]at hi;omega
    have e3:(ds++cs).getD i dz=cs.getD (i-ds.length) dz:=by simp[List.getD,List.getElem?_append_right (Nat.le_of_not_lt hi1)]
    have e4:(ops.map a.eval++us).getD i undef=us.getD (i-ds.length) undef:=by
     simp only[Array.getD_eq_getD_getElem?];rw[Array.getElem?_append_right (by omega),hsz]
    rw[e3,e4];exact h2 _ hi2
   rintro e w' ⟨v,ok',H',rfl,h3,h4,h5,h6⟩;exact⟨v,ok',H',rfl,h3,h4,h5,h6⟩
def Fn1 (P:Program) (ea:α→D) (eb:β→D) (d:D) (g:α→Option β):Prop:=∃f cs,d=.fn (.func f) [] cs∧aF P f=true∧∀a b,g a=some b→Runs P f (([ea a]++cs).map .d) [] (.d (eb b)) []
def Fn2 (P:Program) (ea:α→D) (eb:β→D) (ec:γ→D) (d:D) (g:α→β→Option γ):Prop:=∃f cs,d=.fn (.func f) [] cs∧aF P f=true∧∀a b c,g a b=some c→Runs P f (([ea a,eb b]++cs).map .d) [] (.d (ec c)) []
theorem YJ {x y:Operand} {ats:Array TypeId} {ea:α→D} {eb:β→D} {d:D} {g:α→Option β} {a:α} {b:β} (hd:Fn1 P ea eb d g) (h:g a=some b) (ho:o.op=.call { callee:=.value x,args:=#[y],argTypes:=ats }):
 bK P o [(x,.d d),(y,.d (ea a))] es (.d (eb b)) es:=by
 obtain⟨f,cs,rfl,hf,hg⟩:=hd;exact aiS [ea a] cs (hg a b h) hf rfl rfl ho
theorem Qk {x y z:Operand} {ats:Array TypeId} {ea:α→D} {eb:β→D} {ec:γ→D} {d:D} {g:α→β→Option γ} {a:α} {b:β} {c:γ} (hd:Fn2 P ea eb ec d g) (h:g a b=some c) (ho:o.op=.call { callee:=.value x,args:=#[y,z],argTypes:=ats }):
 bK P o [(x,.d d),(y,.d (ea a)),(z,.d (eb b))] es (.d (ec c)) es:=by
 obtain⟨f,cs,rfl,hf,hg⟩:=hd;exact aiS [ea a,eb b] cs (hg a b c h) hf rfl rfl ho
end
end Go.Proofs.YtolgdkhlelfpoaaGreat
end
