/- Part 2 of the laws' proofs (short forms by wip/shrink2.py). -/
import Derived.Test.YteiakhlfaaifnaaGreatTb1
set_option linter.defProp false
set_option linter.unnecessarySimpa false
set_option linter.unusedSectionVars false
set_option linter.unusedVariables false
set_option linter.unusedSimpArgs false
namespace Go.Proofs
open Go.Proofs.YteiakhlfaaifnaaGreat
open Go.Shelf
def Tryz.aBF:Go.Shelf.Ren:=⟨λ|137=>314|217=>377|266=>425|n=>n,λ|9=>9|5=>5|3=>3|n=>n,λ|n=>n⟩
noncomputable abbrev Ap:=Tryz.prog
def Tryz.lays137:Go.Proofs.Lays.n137 Ap Tryz.aBF:={
 mixed:=A8
 f137:=Tryz.func314.trans (BM some A8)
 f217:=Tryz.func377.trans (BM some A8)
 f266:=Tryz.func425.trans (BM some A8)
 t3:=IL
 a3:=lq
 z3:=qU
 v3:=qI
 t5:=uP
 a5:=Agr
 z5:=wI
 v5:=a00
 t9:=NW
 a9:=a0P
 z9:=uw
 v9:=a0g }
open Go.RowKit in
def Tryz.strings_IndexByte (s:BH)(c:Int)(w:BU):
 Calls Ap 314 #[.string s,.int .u8 c] w λe w'=>e=.returned (.int .i64 (Lib.indexByte s.data.toList c.toNat.toUInt8))/\w'=w:=Any.strings_IndexByte Tryz.lays137 s c w
def Tryz.aBG:Go.Shelf.Ren:=⟨λ|219=>426|217=>377|225=>447|224=>448|267=>449|266=>425|314=>459|n=>n,λ|9=>9|3=>3|4=>4|5=>5|46=>122|146=>383|51=>183|n=>n,λ|1=>0|n=>n⟩
def Tryz.lays219:Go.Proofs.Lays.n219 Ap Tryz.aBG:={
 mixed:=A8
 f217:=Tryz.func377.trans (BM some A8)
 f219:=Tryz.func426.trans (BM some A8)
 f224:=Tryz.func448.trans (BM some A8)
 f225:=Tryz.func447.trans (BM some A8)
 f266:=Tryz.func425.trans (BM some A8)
 f267:=Tryz.func449.trans (BM some A8)
 f314:=Tryz.func459.trans (BM some A8)
 t3:=IL
 a3:=lq
 z3:=qU
 v3:=qI
 t4:=SG
 a4:=Sub
 z4:=RdC
 v4:=zf
 t5:=uP
 a5:=Agr
 z5:=wI
 v5:=a00
 t9:=NW
 a9:=a0P
 z9:=uw
 v9:=a0g
 t46:=aAU
 a46:=Tryz.isAgg122
 z46:=a6L
 v46:=aBK
 t51:=a5t
 a51:=Tryz.isAgg183
 z51:=aAH
 v51:=a3n
 t146:=Tryz.underlying383
 a146:=Tryz.isAgg383
 z146:=Tryz.sizeOf383
 v146:=Tryz.zeroValue383
 g1:=by kernel_rfl }
open Go.RowKit Go.Lib in
def Tryz.stringslite_Index_one (s:BH)(c:UInt8)(w:BU):
 Calls Ap 426 #[.string s,.string ⟨#[c]⟩] w λe w'=>e=.returned (.int .i64 (Lib.indexByte s.data.toList c))/\w'=w:=Any.stringslite_Index_one Tryz.lays219 s c w
def Tryz.aBH:Go.Shelf.Ren:=⟨λ|189=>49|125=>88|257=>87|128=>145|129=>146|294=>136|295=>137|296=>138|297=>139|298=>140|299=>141|216=>142|300=>143|301=>144|328=>200|329=>201|330=>202|331=>203|332=>204|215=>205|343=>273|n=>n,λ|28=>24|3=>3|46=>122|0=>0|51=>183|53=>185|4=>4|183=>176|182=>175|131=>126|5=>5|9=>9|218=>219|222=>223|228=>269|229=>270|n=>n,λ|n=>n⟩
def Tryz.lays189:Go.Proofs.Lays.n189 Ap Tryz.aBH:={
 mixed:=A8
 f125:=Tryz.func88.trans (BM some A8)
 f128:=Tryz.func145.trans (BM some A8)
 f129:=Tryz.func146.trans (BM some A8)
 f189:=Tryz.func49.trans (BM some A8)
 f215:=Tryz.func205.trans (BM some A8)
 f216:=Tryz.func142.trans (BM some A8)
 f257:=Tryz.func87.trans (BM some A8)
 f294:=Tryz.func136.trans (BM some A8)
 f295:=Tryz.func137.trans (BM some A8)
 f296:=Tryz.func138.trans (BM some A8)
 f297:=Tryz.func139.trans (BM some A8)
 f298:=Tryz.func140.trans (BM some A8)
 f299:=Tryz.func141.trans (BM some A8)
 f300:=Tryz.func143.trans (BM some A8)
 f301:=Tryz.func144.trans (BM some A8)
 f328:=Tryz.func200.trans (BM some A8)
 f329:=Tryz.func201.trans (BM some A8)
 f330:=Tryz.func202.trans (BM some A8)
 f331:=Tryz.func203.trans (BM some A8)
 f332:=Tryz.func204.trans (BM some A8)
 f343:=Tryz.func273.trans (BM some A8)
 t0:=aBB
 a0:=Tryz.isAgg0
 z0:=Tryz.sizeOf0
 v0:=a9v
 t3:=IL
 a3:=lq
 z3:=qU
 v3:=qI
 t4:=SG
 a4:=Sub
 z4:=RdC
 v4:=zf
 t5:=uP
 a5:=Agr
 z5:=wI
 v5:=a00
 t9:=NW
 a9:=a0P
 z9:=uw
 v9:=a0g
 t28:=a1g
 a28:=Tryz.isAgg24
 z28:=Tryz.sizeOf24
 v28:=Tryz.zeroValue24
 t46:=aAU
 a46:=Tryz.isAgg122
 z46:=a6L
 v46:=aBK
 t51:=a5t
 a51:=Tryz.isAgg183
 z51:=aAH
 v51:=a3n
 t53:=Tryz.underlying185
 a53:=Tryz.isAgg185
 z53:=Tryz.sizeOf185
 v53:=Tryz.zeroValue185
 t131:=Tryz.underlying126
 a131:=Tryz.isAgg126
 z131:=Tryz.sizeOf126
 v131:=Tryz.zeroValue126
 t182:=Tryz.underlying175
 a182:=Tryz.isAgg175
 z182:=Tryz.sizeOf175
 v182:=Tryz.zeroValue175
 t183:=Tryz.underlying176
 a183:=Tryz.isAgg176
 z183:=Tryz.sizeOf176
 v183:=Tryz.zeroValue176
 t218:=Tryz.underlying219
 a218:=Tryz.isAgg219
 z218:=Tryz.sizeOf219
 v218:=Tryz.zeroValue219
 t222:=Tryz.underlying223
 a222:=Tryz.isAgg223
 z222:=Tryz.sizeOf223
 v222:=Tryz.zeroValue223
 t228:=Tryz.underlying269
 a228:=Tryz.isAgg269
 z228:=Tryz.sizeOf269
 v228:=Tryz.zeroValue269
 t229:=Tryz.underlying270
 a229:=Tryz.isAgg270
 z229:=Tryz.sizeOf270
 v229:=Tryz.zeroValue270 }
open Go.Sort Go.RowKit in
def Tryz.slices_Sort_int (blk off cap:Nat)(Dl:AA Int)(w:BU)(hH:Holds D8 w blk off Dl.toArray)(hblk:blk<w.heap.size)(hsz:Dl.length<4611686018427387904):
 Calls Ap 49 #[.slice (some ⟨blk,off,none⟩) Dl.length cap] w λe w'=>
  e=.returned (.tuple #[])/\∃n os,w'=grow (putRow D8 (Sort.ahead w n) blk off (Dl.mergeSort λx y=>x<=y).toArray) os:=Any.slices_Sort_int Tryz.lays189 blk off cap Dl w hH hblk hsz
def Tryz.axn:Go.Shelf.Ren:=⟨λ|20=>50|n=>n,λ|22=>24|3=>3|4=>4|0=>0|n=>n,λ|n=>n⟩
def Tryz.awm:Go.Proofs.Lays2.n20 Ap Tryz.axn:={
 mixed:=A8
 f20:=Tryz.func50.trans (BM some A8)
 t0:=aBB
 a0:=Tryz.isAgg0
 z0:=Tryz.sizeOf0
 v0:=a9v
 t3:=IL
 a3:=lq
 z3:=qU
 v3:=qI
 t4:=SG
 a4:=Sub
 z4:=RdC
 v4:=zf
 t22:=a1g
 a22:=Tryz.isAgg24
 z22:=Tryz.sizeOf24
 v22:=Tryz.zeroValue24
 i3:=by kernel_rfl }
open Go.RowKit Go.Lib Go.Sort in
def Tryz.slices_Compact_int (blk off cap:Nat)(Dl:AA Int)(w:BU)(hH:Holds D8 w blk off Dl.toArray)(hsz:Dl.length<=9223372036854775807)(hcap:Dl.length<=cap):
 Calls Ap 50 #[.slice (some ⟨blk,off,none⟩) Dl.length cap] w λe w'=>e=.returned (.slice (some ⟨blk,off,none⟩) (Lib.compact Dl).length cap)/\∃q,w'=putRow D8 (Sort.ahead w q) blk off (Lib.compact Dl++List.replicate (Dl.length-(Lib.compact Dl).length) 0).toArray:=Any.slices_Compact_int Tryz.awm blk off cap Dl w hH hsz hcap
open Go.RowKit Go.Lib Go.Sort in
def Tryz.slices_Compact_int_empty (a:AB Addr)(cap:Nat)(w:BU):
 Calls Ap 50 #[.slice a 0 cap] w λe w'=>e=.returned (.slice a 0 cap)/\w'=w:=Any.slices_Compact_int_empty Tryz.awm a cap w
open Go.RowKit Go.Sort in
def Tryz.slices_Sort_int_none (p:AB Addr)(cap:Nat)(w:BU):
 Calls Ap 49 #[.slice p 0 cap] w λe w'=>e=.returned (.tuple #[])/\w'=w:=Any.slices_Sort_int_none Tryz.lays189 p cap w
end Go.Proofs
namespace Go.Proofs.YteiakhlfaaifnaaGreat
open Go.RowKit Go.Proofs.Tryz
def iE (x:Int):AA Int->AA Int
 | []=>[x]
 |y::l=>bif x<=y then x::y::l else y::iE x l
def Rf (l:AA Int):AA Int:=l.foldr iE []
def aCP (x:Int):∀l,(iE x l).Perm (x::l)
 | []=>.refl _
 |y::l=>by
  unfold iE;cases h:decide (x<=y)with
  |true=>exact .refl _
  |false=>exact((aCP x l).cons y).trans (.swap x y l)
def X6 :∀l,(Rf l).Perm l
 | []=>.refl _
 |x::l=>(aCP x (Rf l)).trans ((X6 l).cons x)
def aSu (x:Int):∀l,l.Pairwise (· <= ·)->(iE x l).Pairwise (· <= ·)
 | [],_=>by simp[iE]
 |y::l,h=>by
  have h':=OE.1 h;unfold iE;cases I:decide (x<=y)with
  |true=>
   have q:x<=y:=LW I;refine OE.2 ⟨λz j=>?_,h⟩;rcases G7.1 j with rfl|j
   ·exact q
   have :=h'.1 z j;omega
  |false=>
   have q:¬x<=y:=Jk I;refine OE.2 ⟨λz j=>?_,aSu x l h'.2⟩;rcases G7.1 ((aCP x l).mem_iff.1 j)with rfl|j
   ·omega
   exact h'.1 z j
def a5y :∀l,(Rf l).Pairwise (· <= ·)
 | []=>.nil
 |x::l=>aSu x _ (a5y l)
def a6M (l:AA Int):Rf l=l.mergeSort λx y=>decide (x<=y):=by
 have hs:(l.mergeSort λx y=>x<=y).Pairwise (· <= ·):=by
  have :=List.pairwise_mergeSort (le:=λx y:Int=>x<=y) (by intro a b c;simp;omega) (by intro a b;simp;omega) l;exact this.imp (by intro a b h;simpa using h)
 exact((X6 l).trans (List.mergeSort_perm l _).symm).eq_of_pairwise (λa b _ _ h k=>AL) (a5y l) hs
abbrev AV:=AA Int
def O8 (l:AA Int):AB AV:=if l.length<=1099511627776 then some (Rf l)else none
def UY (l:AA Int):AB AV:=if l.length<=1099511627776 then some (Lib.compact l)else none
def lF.nil (w:BU)(e size:Nat):lF w e size (.slice none 0 0) 0 []:=.of (a9L w 0 e size)
variable {cap g n:Nat}{w:BU}
def agi {e:Bq}{os:Bh Obj}{j:Bh BJ}{q I:AA Int}(hl:I.length=q.length)(J:w.heap[g]? =some (.cells j e (0,0)))(h1:q.length<=cap)(h2:cap<=maxLen)(h3:cap*1<=j.size):
 lF (Go.Sort.grow (Go.Sort.putRow D8 (Go.Sort.ahead w n) g 0 I.toArray) os) e 1 (.slice (some ⟨g,0,none⟩) q.length cap) q.length (I.map D8):=
 ⟨dn,.inr ⟨g,cap,_,rfl,F6 _,heap_sortedI _ J,h1,h2,by simpa[Go.Sort.putCells]using h3,by rw[lX,←hl];exact take_putCellsI j I AL⟩⟩
variable {k q:Nat}
def aij {e:Bq}{Dl ys:AA Int}(h:lF w e 1 (.slice (some ⟨g,0,none⟩) n cap) n (Dl.map D8))(O:ys.length=n)(U:k<=n):
 lF (Go.Sort.putRow D8 (Go.Sort.ahead w q) g 0 ys.toArray) e 1 (.slice (some ⟨g,0,none⟩) k cap) k ((ys.take k).map D8):=by
 rcases h.2 with⟨I,_⟩|⟨Y,J,j,I,L,M,Z,hm,hs,ht⟩
 ·cases I
 injection I with e1 _ e3
 injection e1 with e1
 injection e1 with e1
 subst e1;subst e3;refine⟨Eh,.inr ⟨g,cap,Go.Sort.putCells D8 0 ys.toArray j,rfl,L,?_,AL,hm,by simpa[Go.Sort.putCells]using hs,?_⟩⟩
 ·simp[Go.Sort.putRow,Go.Sort.mapBlock,Go.Sort.ahead,X0,M,Go.Sort.onCells]
 have :=take_putCellsI j ys AL;rw[lX,bZ,←this,aI9,yU AL]
variable {l m:AA Int}
def aZ2 (h:l.Perm m):Rf l=Rf m:=by
 have hs:∀(l:AA Int),(Rf l).Pairwise (· <= ·):=a5y;exact((X6 l).trans (h.trans (X6 m).symm)).eq_of_pairwise (λa b _ _ h1 h2=>AL) (hs l) (hs m)
def aWu (h:l.Perm m):O8 l=O8 m:=by
 unfold O8;rw[h.length_eq,aZ2 h]
abbrev Dh:=EU Ap
def jJ (l r:AA Int)(h:O8 l=some r):Dh 49 [.aQ 0] [.arr 3 1 (List.map Ah l)] (.eu []) [.arr 3 1 (List.map Ah r)]:=by
 unfold O8 at h;split at h
 ·rename_i Z;obtain rfl:=E9 h;refine EU.aKK λv w q=>?_;rcases q.2 with⟨rfl,U⟩|⟨g,cap,Y,rfl,I,J,L,M,O,j⟩
  ·have hl:l=[]:=I4 U;subst hl;refine(Tryz.slices_Sort_int_none _ _ _).mono ?_;rintro e w' ⟨rfl,h⟩;subst h;exact⟨rfl,lF.nil _ _ _,Turns.refl _ _⟩
  have hs:(l.mergeSort λx y=>x<=y).length=l.length:=List.length_mergeSort _;refine(Tryz.slices_Sort_int g 0 cap l w (holds_of_blockI J WW) (Ic.1 J).1 AL).mono ?_;rintro e w' ⟨rfl,n,os,rfl⟩;rw[a6M];refine⟨rfl,?_,Turns.aIg (grownBy_sortedI _)⟩;rw[hs];exact agi (os:=os) (n:=n) hs J L M O
 cases h
def a7C (l r:AA Int)(h:UY l=some r):Dh 50 [.aQ 0] [.arr 3 1 (List.map Ah l)] (.aQ 1) [.dead,.arr 3 1 (List.map Ah r)]:=by
 unfold UY at h;split at h
 ·rename_i hn;obtain rfl:=E9 h;refine EU.turned λv w I=>?_;rcases I.2 with⟨rfl,Y⟩|⟨g,cap,Z,rfl,L,J,M,hcm,hcs,j⟩
  ·have hl:l=[]:=I4 Y;subst hl;refine(Tryz.slices_Compact_int_empty _ _ _).mono ?_;rintro e w' ⟨rfl,h⟩;subst h;exact⟨_,rfl,lF.nil _ _ _,Turns.refl _ _,λg J=>by simp[ED]at J⟩
  refine(Tryz.slices_Compact_int g 0 cap l w (holds_of_blockI J WW) AL M).mono ?_;rintro e w' ⟨rfl,q,rfl⟩;have O:=Lib.compact_length_le l;have hy:(Lib.compact l++List.replicate (l.length-(Lib.compact l).length) 0).length=l.length:=Eh
  refine⟨_,rfl,?_,?_,λg J=>.inl J⟩
  ·have :=aij (q:=q) I hy O;rw[tq rfl]at this;exact this
  exact⟨rfl,rfl,rfl,by simp[Sort.putRow,Sort.mapBlock,Sort.ahead],λk hk U=>by
   have :g≠k:=λe=>U pI
   simp[Sort.putRow,Sort.mapBlock,Sort.ahead,X0,this]⟩
 cases h
def strings_IndexByte (s:BH)(c:Int):AB Int:=some (Lib.indexByte s.data.toList c.toNat.toUInt8)
def akP (s:BH)(c:Int)(r:Int)(h:strings_IndexByte s c=some r):Dh 314 [.d (DV s),.d (Dt c)] [] (.d (Ah r)) []:=by
 rw[←E9 h];exact EU.plain (vs:=[.string s,.int .u8 c]) (v:=.int .i64 (Lib.indexByte s.data.toList c.toNat.toUInt8)) (λ_ _ _=>.d _ _ (.lit _)) λw=>(Tryz.strings_IndexByte s c w).mono λe w' ⟨h1,h2⟩=>⟨h1,aSg⟩
def a8f (s t:BH):AB Int:=match t.data.toList with
 | [c]=>some (Lib.indexByte s.data.toList c)
 |_=>none
def apo (s t:BH)(r:Int)(h:a8f s t=some r):Dh 426 [.d (DV s),.d (DV t)] [] (.d (Ah r)) []:=by
 unfold a8f at h;split at h
 ·rename_i c j;rw[←E9 h];obtain⟨⟨l⟩⟩:=t;simp only at j;subst j;exact EU.plain (vs:=[.string s,.string ⟨#[c]⟩]) (v:=.int .i64 (Lib.indexByte s.data.toList c)) (λ_ _ _=>.d _ _ (.lit _)) λw=>(Tryz.stringslite_Index_one s c w).mono λe w' ⟨h1,h2⟩=>⟨h1,aSg⟩
 cases h
structure ZQ (P:Program) (t:TypeId) (s:Nat) (z:Value):Prop where
 und:∃n e,P.underlying t=some (.array n e)/\∃i,P.info? e=some i/\i.size=s
 zero:(P.info? t).bind (·.zero)=some z
 one:z.cells.all (·.oneCell')=true
def aPr (P:Ch)(t:Bq)(s:Nat):Ac:=
 match P.underlying t with
 |some (.array _ e)=>match P.info? e with
  |some i=>i.size=s
  |none=>false
 |_=>false
variable {P:Ch}{s:Nat}{t:Bq}{z:BJ}
def uT (h:aPr P t s=true)(j:(P.info? t).bind (·.zero)=some z)(h1:z.cells.all (·.oneCell')=true):ZQ P t s z:=by
 unfold aPr at h;split at h
 ·rename_i n e q;split at h
  ·rename_i i hi;exact⟨⟨n,e,q,i,hi,LW h⟩,j,h1⟩
  cases h
 cases h
variable {α:Type}{es:AA Bc}{i:Int}{o:Oper}{off:Nat}{x:Bz}
def ahE {j:Bh (Nat×Bz)}(hA:ZQ P t s z)(vs:AA Am)(hp:OV (λi=>some (i*s,s)) (Gg z).length j.toList vs=true)(hd:(LY (λi=>some (i*s,s)) (Gg z) j.toList vs).all Am.Dn=true)(ho:o.op=.build t j:=by exact rfl):
 CG P o (Ot j.toList vs) es (.d (.agg (Jl (LY (λi=>some (i*s,s)) (Gg z) j.toList vs)))) es:=
 .pure λok H a w _ _ hn=>by
  obtain⟨⟨n,e,hu,i,hi,hs⟩,hz,h1⟩:=hA;have I:=a3t (P:=P) hz w;have J:(underlying t).run P w=.ok (.array n e) w:=a5m
  have L:(sizeOf e).run P w=.ok s w:=aHu
  obtain⟨q,hc,M⟩:=uZ (place:=λi=>some (i*s,s)) j.toList vs (Gg z) z.cells (aIW (ok:=ok) (w:=w) (H:=H) h1) hp hn;refine⟨.agg q,?_,.d _ _ ?_⟩
  ·have e:(j.map λ(i,x)=>(i,a.eval x)).toList=j.toList.map λp=>(p.1,a.eval p.2):=Bf
   simp only[execOp,ho,Instr.build,GL,I,J,L,GY];rw[e,hc];rfl
  rw[aLd hd]at M;generalize Jl (LY (λi=>some (i*s,s)) (Gg z) j.toList vs)=xs at M ⊢;obtain⟨h2,h3⟩:=M;simp only[DK]at h2 h3
  have Z:∀i,i<xs.length->(xs.map Am.d).getD i .junk=.d (xs.getD i EN):=by
   grind
  have O:q.size=xs.length:=LC
  refine .agg xs q O ?_ ?_<;>intro i hi
  ·have :=(h3 i hi).1;rw[Z i hi]at this;exact this
  have U:=(h3 i hi).2;rw[Z i hi]at U;have Y:i<q.size:=AL
  have e:q.toList.getD i undef=q.getD i undef:=by simp[List.getD,Array.getD,Y]
  rw[e]at U;cases U with |d _ _ h=>exact h
def OD (enc:α->D)(l:AA α):D:=.agg (l.map enc)
def a5k {y:Bz}{e:Bq}{k:IntKind}(enc:α->D){l:AA α}{a:α}(h:Aq l i=some a)(Y:P.underlying t=some (.array n e))(L:Ep P e false 1)(hl:l.length=n)(Z:o.op=.index t x y:=by exact rfl):
 CG P o [(x,.d (OD enc l)),(y,.d (.lit (.int k i)))] es (.d (enc a)) es:=
 .pure λok H ac w _ _ M=>by
  obtain⟨h0,h1⟩:=GV h;have q:=(F9 M).1;have O:=(F9 M).2.lit;simp only at q O;have I:=(H6.1 h1).1;have hu:(underlying t).run P w=.ok (.array n e) w:=by simp[underlying,Y]
  generalize hv:ac.eval x=v at q;cases q with
  |d _ _ q=>
   cases q with
   |agg _ vs J hf U=>
    rw[DK]at J hf U;have j:i.toNat<vs.size:=AL
    refine⟨vs[i.toNat],?_,?_⟩
    ·have hb:0<=i/\i<n:=⟨h0,AL⟩
     simp only[execOp,Z,hv,O,Instr.index,asIntOf,GL,Hg,hu,GY,hb,and_self,Jy,L.size w,part,L.agg w];simp[j]
    have :=U i.toNat I;simp only[Array.getD,j,dif_pos]at this;have e2:(l.map enc).getD i.toNat EN=enc a:=by simp[List.getD,h1]
    rw[e2]at this;exact .d _ _ this
def aqY (j:o.op=.nilCheck x:=by exact rfl):CG P o [(x,.ptr k off)] es (.ptr k off) es:=
 .pure λok H a w _ _ q=>by
  have h1:=MG q;simp only at h1;generalize I:a.eval x=u at h1;cases h1 with
  |ptr _ _ b s h=>exact⟨_,by simp[execOp,j,I],.ptr _ _ b s h⟩
def ahM {i:Nat}(j:o.op=.nilCheck x:=by exact rfl):CG P o [(x,.lH k i off)] es (.lH k i off) es:=
 .pure λok H a w _ _ q=>by
  have h1:=MG q;simp only at h1;generalize I:a.eval x=u at h1;cases h1 with
  |lH _ _ _ b n cap s h=>exact⟨_,by simp[execOp,j,I],.lH _ _ _ b n cap s h⟩
def aee {cs:AA D}(q:o.op=.nilCheck x:=by exact rfl):CG P o [(x,.d (.ref cs off))] es (.d (.ref cs off)) es:=
 .pure λok H a w _ _ I=>by
  have h1:=MG I;simp only at h1;generalize J:a.eval x=u at h1;cases h1 with
  |d _ _ h=>cases h with
   |ref _ _ b p j L M O=>exact⟨_,by simp[execOp,q,J],.d _ _ (.ref _ _ b p j L M O)⟩
def aVc (n:Nat):D:=.fn (.func n) [] []
def Qh {α:Type}(p:α->Prop):AA α->Prop
 | []=>True
 |x::l=>p x/\Qh p l
def Qh.mem {α:Type}{p:α->Prop}:∀{l:AA α},Qh p l->∀x∈l,p x
 | [],_,x,h=>Il
 |y::l,hl,x,h=>by
  rcases G7.1 h with rfl|h
  ·exact hl.1
  exact hl.2.mem x h
class Kn (P:Program) where
 und:List (Nat×TypeDesc)
 arj:Qh (λp:Nat×TypeDesc=>P.underlying p.1=some p.2) und
 ty:List (Nat×Bool×Nat)
 hty:Qh (λp:Nat×Bool×Nat=>Ep P p.1 p.2.1 p.2.2) ty
 fld:List ((Nat×Nat)×Nat)
 hfld:Qh (λp:(Nat×Nat)×Nat=>EF P p.1.1 p.1.2 p.2) fld
 part:List ((Nat×Nat)×Nat×Bool×Nat)
 hpart:Qh (λp:(Nat×Nat)×Nat×Bool×Nat=>iV P p.1.1 p.1.2 p.2.1 p.2.2.1 p.2.2.2=true) part
 zero:List (Nat×Value)
 hzero:Qh (λp:Nat×Value=>(P.info? p.1).bind (·.zero)=some p.2/\p.2.cells.all (·.oneCell')=true) zero
 st:List (Nat×List (Nat×Nat)×Value)
 hst:Qh (λp:Nat×List (Nat×Nat)×Value=>JZ P p.1 p.2.1 p.2.2) st
 arr:List (Nat×Nat×Value)
 harr:Qh (λp:Nat×Nat×Value=>ZQ P p.1 p.2.1 p.2.2) arr
 sl:List (Nat×Nat)
 hsl:Qh (λp:Nat×Nat=>P.underlying p.1=some (.slice p.2)) sl
def PY {β:Type}(t:Nat):AA (Nat×β)->AB β
 | []=>none
 |(u,b)::l=>match Nat.beq t u with |true=>some b|false=>PY t l
def Na {β:Type}{t:Nat}{b:β}:∀{l:AA (Nat×β)},PY t l=some b->(t,b)∈l
 | [],h=>GN
 |(u,c)::l,h=>by
  unfold PY at h;split at h
  ·rename_i e;cases h;rw[aBq e];exact Iu
  exact JX _ (Na h)
def xF {β:Type}(t f:Nat):AA ((Nat×Nat)×β)->AB β
 | []=>none
 |((u,g),b)::l=>match Nat.beq t u&&Nat.beq f g with |true=>some b|false=>xF t f l
def EvC {β:Type}{t f:Nat}{b:β}:∀{l:AA ((Nat×Nat)×β)},xF t f l=some b->((t,f),b)∈l
 | [],h=>GN
 |((u,g),c)::l,h=>by
  unfold xF at h;split at h
  ·rename_i e;cases h;rw[Dx]at e;rw[aBq e.1,aBq e.2];exact Iu
  exact JX _ (EvC h)
structure Qa where
 ns:List (Operand×Am)
 x:Am
 E:List Bc
 bar:Bool
def aDH (op:BinOp)(k:IntKind)(a b:Int):AB BJ:=
 match op with
 | .add=>some (.int k (k.wrap (a+b)))
 | .sub=>some (.int k (k.wrap (a-b)))
 | .mul=>some (.int k (k.wrap (a*b)))
 | .eql=>some (.bool (a==b))
 | .neq=>some (.bool (a != b))
 | .lss=>some (.bool (decide (a<b)))
 | .leq=>some (.bool (decide (a<=b)))
 | .gtr=>some (.bool (decide (a>b)))
 | .geq=>some (.bool (decide (a>=b)))
 |_=>none
variable {op:BinOp}{r:BJ}
def aYl {k:IntKind}{a b:Int}(h:aDH op k a b=some r)(w:BU):(binOp op t (.int k a) (.int k b)).run P w=.ok r w:=by
 unfold aDH at h;cases op<;>first|(cases h;done)|(cases h;simp[binOp,Op.intArith,Op.intCmp];done)|(cases h;cases k<;>rfl)
def aCu (op:BinOp)(a b:BH):AB BJ:=
 match op with
 | .eql=>some (.bool (a.toList==b.toList))
 | .neq=>some (.bool (!(a.toList==b.toList)))
 | .lss=>some (.bool (Op.bytesLess a.toList b.toList))
 | .leq=>some (.bool (Op.bytesLess a.toList b.toList||a.toList==b.toList))
 | .gtr=>some (.bool (!(Op.bytesLess a.toList b.toList||a.toList==b.toList)))
 | .geq=>some (.bool (!Op.bytesLess a.toList b.toList))
 |_=>none
def aoP {a b:BH}(h:aCu op a b=some r)(w:BU):(binOp op t (.string a) (.string b)).run P w=.ok r w:=by
 unfold aCu at h;cases op<;>first|(cases h;done)|(cases h;rfl)
variable {es':AA Bc}{ns:AA (Bz×Am)}{x:Am}
def CG.aMp {j:AA (Bz×Am)}(h:CG P o ns es x es')(q:∀n∈ns,n∈j\/n=(.const (.slice none 0 0),.d (.sl []))):CG P o j es x es':=by
 intro C ok H a w Q hm J;refine h C ok H a w Q hm (λn I=>?_);rcases q n I with h1|rfl
 ·exact J n h1
 exact .d _ _ (.sl0 none 0)
def aIo (K:Kn P)(σ:BP)(o:Oper):AB Qa:=
 match o.op with
 | .move x=>match x with
   | .const (.slice none 0 0)=>some ⟨[],.d (.sl []),σ.ents,false⟩
   |x=>some ⟨[(x,σ.get x)],σ.get x,σ.ents,false⟩
 | .assign x=>match x with
   | .const (.slice none 0 0)=>some ⟨[],.d (.sl []),σ.ents,false⟩
   |x=>some ⟨[(x,σ.get x)],σ.get x,σ.ents,false⟩
 | .pick c x y=>match σ.get c with
   | .d (.lit (.bool true))=>some ⟨[(c,.d (.lit (.bool true))),(x,σ.get x)],σ.get x,σ.ents,false⟩
   | .d (.lit (.bool false))=>some ⟨[(c,.d (.lit (.bool false))),(y,σ.get y)],σ.get y,σ.ents,false⟩
   |_=>none
 | .binOp op t x y _=>match σ.get x,σ.get y with
   | .d (.lit (.int k a)),.d (.lit (.int k' b))=>if k=k' then(aDH op k a b).map λr=>⟨[(x,.d (.lit (.int k a))),(y,.d (.lit (.int k b)))],.d (.lit r),σ.ents,false⟩else none
   | .d (.lit (.string a)),.d (.lit (.string b))=>(aCu op a b).map λr=>⟨[(x,.d (.lit (.string a))),(y,.d (.lit (.string b)))],.d (.lit r),σ.ents,false⟩
   | .d (.lit (.bool a)),.d (.lit (.bool b))=>match PY t K.und with
     |some .bool=>match op with
      | .eql=>some ⟨[(x,.d (EH a)),(y,.d (EH b))],.d (EH (a==b)),σ.ents,false⟩
      | .neq=>some ⟨[(x,.d (EH a)),(y,.d (EH b))],.d (EH (!(a==b))),σ.ents,false⟩
      |_=>none
     |_=>none
   |_,_=>none
 | .unOp op _ x=>match σ.get x with
   | .d (.lit (.bool b))=>match op with
     | .not=>some ⟨[(x,.d (.lit (.bool b)))],.d (.lit (.bool !b)),σ.ents,false⟩
     |_=>none
   | .d (.lit (.int k n))=>match op with
     | .neg=>some ⟨[(x,.d (.lit (.int k n)))],.d (.lit (.int k (k.wrap (0-n)))),σ.ents,false⟩
     |_=>none
   |_=>none
 | .convert s t x=>match PY s K.und,PY t K.und,σ.get x with
   |some (.int J),some (.int k),.d (.lit (.int L n))=>if J=L then some ⟨[(x,.d (.lit (.int J n)))],.d (.lit (.int k (k.wrap n))),σ.ents,false⟩else none
   |some .string,some .string,.d (.lit (.string u))=>some ⟨[(x,.d (DV u))],.d (DV u),σ.ents,false⟩
   |_,_,_=>none
 | .extract x i=>match σ.get x with
   | .eu xs=>match xs[i]? with
     |some v=>some ⟨[(x,.eu xs)],v,σ.ents,false⟩
     |none=>none
   |_=>none
 | .fieldAddr t x f=>match xF t f K.fld,σ.get x with
   |some off,.ptr k I=>some ⟨[(x,.ptr k I)],.ptr k (I+off),σ.ents,false⟩
   |some off,.lH k i I=>some ⟨[(x,.lH k i I)],.lH k i (I+off),σ.ents,false⟩
   |some off,.d (.ref cs I)=>some ⟨[(x,.d (.ref cs I))],.d (.ref cs (I+off)),σ.ents,false⟩
   |_,_=>none
 | .nilCheck x=>match σ.get x with
   | .ptr k I=>some ⟨[(x,.ptr k I)],.ptr k I,σ.ents,false⟩
   | .lH k i I=>some ⟨[(x,.lH k i I)],.lH k i I,σ.ents,false⟩
   | .d (.ref cs I)=>some ⟨[(x,.d (.ref cs I))],.d (.ref cs I),σ.ents,false⟩
   |_=>none
 | .field t x f=>match xF t f K.part,σ.get x with
   |some (off,agg,n),.d (.agg cs)=>if off+n<=cs.length/\(agg=false->n=1)then some ⟨[(x,.d (.agg cs))],.d (Qe agg cs off n),σ.ents,false⟩else none
   |_,_=>none
 | .load t x=>match PY t K.ty,σ.get x with
   |some (agg,n),.d (.ref cs off)=>if off+n<=cs.length/\(agg=false->n=1)then some ⟨[(x,.d (.ref cs off))],.d (Qe agg cs off n),σ.ents,false⟩else none
   |some (agg,n),.ptr k off=>match σ.ents[k]? with
    |some (.box cs)=>if(off+n<=cs.length/\(agg=false->n=1))/\cs.all Am.Dn=true then some ⟨[(x,.ptr k off)],.d (Qe agg (Jl cs) off n),σ.ents,false⟩else match agg,n,cs[off]? with
     |false,1,some v=>some ⟨[(x,.ptr k off)],v,σ.ents,false⟩
     |_,_,_=>none
    |_=>none
   |_,_=>none
 | .box _ x=>if(σ.get x).cells.all Am.leaf=true then some ⟨[(x,σ.get x)],.ptr σ.ents.length 0,σ.ents++[.box (σ.get x).cells],true⟩else none
 | .alloc t=>match PY t K.zero with
   |some z=>some ⟨[],.ptr σ.ents.length 0,σ.ents++[.box (Gg z)],true⟩
   |none=>none
 | .store t x y=>match PY t K.ty,σ.get x with
   |some (_,n),.ptr k off=>match σ.ents[k]? with
    |some (.box cs)=>match y with
     | .const (.slice none 0 0)=>if n=1/\off+1<=cs.length then some ⟨[(x,.ptr k off)],.junk,σ.ents.set k (.box (setAt cs off [.d (.sl [])])),true⟩else none
     |y=>if((σ.get y).cells.all Am.leaf=true/\(σ.get y).cells.length=n)/\off+n<=cs.length then some ⟨[(x,.ptr k off),(y,σ.get y)],.junk,σ.ents.set k (.box (setAt cs off (σ.get y).cells)),true⟩else none
    |_=>none
   |_,_=>none
 | .build t j=>match PY t K.st with
   |some (q,z)=>
    if OV (λ(i:Nat)=>q[i]?) (Gg z).length j.toList (j.toList.map λp=>σ.get p.2)=true/\(LY (λ(i:Nat)=>q[i]?) (Gg z) j.toList (j.toList.map λp=>σ.get p.2)).all Am.Dn=true
    then some ⟨Ot j.toList (j.toList.map λp=>σ.get p.2),.d (.agg (Jl (LY (λ(i:Nat)=>q[i]?) (Gg z) j.toList (j.toList.map λp=>σ.get p.2)))),σ.ents,false⟩
    else none
   |none=>match PY t K.arr with
    |some (s,z)=>
     if OV (λi=>some (i*s,s)) (Gg z).length j.toList (j.toList.map λp=>σ.get p.2)=true/\(LY (λi=>some (i*s,s)) (Gg z) j.toList (j.toList.map λp=>σ.get p.2)).all Am.Dn=true
     then some ⟨Ot j.toList (j.toList.map λp=>σ.get p.2),.d (.agg (Jl (LY (λi=>some (i*s,s)) (Gg z) j.toList (j.toList.map λp=>σ.get p.2)))),σ.ents,false⟩
     else none
    |none=>none
 | .call c=>match c.callee,c.args.toList,c.argTypes.toList with
   | .builtin .len,[x],[t]=>match PY t K.und,σ.get x with
     |some .string,.d (.lit (.string s))=>some ⟨[(x,.d (DV s))],.d (Ah s.size),σ.ents,false⟩
     |_,_=>none
   |_,_,_=>none
 |_=>none
def aGo (σ:BP):∀(l:AA (Nat×Bz)),needs σ (Ot l (l.map λp=>σ.get p.2))
 | []=>trivial
 |(_,x)::l=>⟨rfl,aGo σ l⟩
variable {r:Qa}{σ:BP}
def apU (K:Kn P)(h:aIo K σ o=some r):CG P o r.ns σ.ents r.x r.E/\needs σ r.ns/\(r.bar=false->r.E=σ.ents):=by
 unfold aIo at h;split at h
 ·rename_i x j;split at h
  ·cases h;exact⟨agS j,trivial,λ_=>rfl⟩
  cases h;exact⟨aZh j,⟨rfl,trivial⟩,λ_=>rfl⟩
 ·rename_i x j;split at h
  ·cases h;exact⟨ahS j,trivial,λ_=>rfl⟩
  cases h;exact⟨acF j,⟨rfl,trivial⟩,λ_=>rfl⟩
 ·rename_i c x y j;split at h
  ·rename_i e;cases h;exact⟨amo true rfl j,⟨e,rfl,trivial⟩,λ_=>rfl⟩
  ·rename_i e;cases h;exact⟨akX false rfl j,⟨e,rfl,trivial⟩,λ_=>rfl⟩
  cases h
 ·rename_i op t x y t' j;split at h
  ·rename_i k a k' b O U;split at h
   ·rename_i I;subst I;rw[dM]at h;obtain⟨v,L,rfl⟩:=h;exact⟨Ja j (aYl L) ⟨rfl,rfl⟩,⟨O,U,trivial⟩,λ_=>rfl⟩
   cases h
  ·rename_i a b O U;rw[dM]at h;obtain⟨v,L,rfl⟩:=h;exact⟨Ja j (aoP L) ⟨rfl,rfl⟩,⟨O,U,trivial⟩,λ_=>rfl⟩
  ·rename_i a b O U;split at h
   ·rename_i Y;have Y:=K.arj.mem _ (Na Y);split at h
    ·cases h;exact⟨alR Y j,⟨O,U,trivial⟩,λ_=>rfl⟩
    ·cases h;exact⟨afp Y j,⟨O,U,trivial⟩,λ_=>rfl⟩
    cases h
   cases h
  cases h
 ·rename_i op t x j;split at h
  ·rename_i b e;split at h
   ·cases h;exact⟨aCq j (λ_=>rfl),⟨e,trivial⟩,λ_=>rfl⟩
   cases h
  ·rename_i k n e;split at h
   ·cases h;exact⟨aCq j (λ_=>rfl),⟨e,trivial⟩,λ_=>rfl⟩
   cases h
  cases h
 ·rename_i s t x j;split at h
  ·rename_i k0 k k1 n h1 h2 e;split at h
   ·rename_i I;subst I;cases h;exact⟨afJ (K.arj.mem _ (Na h1)) (K.arj.mem _ (Na h2)) j,⟨e,trivial⟩,λ_=>rfl⟩
   cases h
  ·rename_i u h1 h2 e;cases h;exact⟨adO (K.arj.mem _ (Na h1)) (K.arj.mem _ (Na h2)) j,⟨e,trivial⟩,λ_=>rfl⟩
  cases h
 ·rename_i x i j;split at h
  ·rename_i xs e;split at h
   ·rename_i v L;cases h;exact⟨agr j L,⟨e,trivial⟩,λ_=>rfl⟩
   cases h
  cases h
 ·rename_i t x f j;split at h
  ·rename_i off k o' h1 e;cases h;exact⟨ajO (K.hfld.mem _ (EvC h1)) j,⟨e,trivial⟩,λ_=>rfl⟩
  ·rename_i off k i o' h1 e;cases h;exact⟨adS (K.hfld.mem _ (EvC h1)) j,⟨e,trivial⟩,λ_=>rfl⟩
  ·rename_i off cs o' h1 e;cases h;exact⟨adV (K.hfld.mem _ (EvC h1)) j,⟨e,trivial⟩,λ_=>rfl⟩
  cases h
 ·rename_i x j;split at h
  ·rename_i e;cases h;exact⟨aqY j,⟨e,trivial⟩,λ_=>rfl⟩
  ·rename_i e;cases h;exact⟨ahM j,⟨e,trivial⟩,λ_=>rfl⟩
  ·rename_i e;cases h;exact⟨aee j,⟨e,trivial⟩,λ_=>rfl⟩
  cases h
 ·rename_i t x f j;split at h
  ·rename_i off agg n cs h1 e;split at h
   ·rename_i q;cases h;exact⟨aYz rfl (K.hpart.mem _ (EvC h1)) q.1 q.2 j,⟨e,trivial⟩,λ_=>rfl⟩
   cases h
  cases h
 ·rename_i t x j;split at h
  ·rename_i agg n cs off h1 e;split at h
   ·rename_i q;cases h;exact⟨akS rfl (K.hty.mem _ (Na h1)) q.1 q.2 j,⟨e,trivial⟩,λ_=>rfl⟩
   cases h
  ·rename_i agg n k off h1 e;split at h
   ·rename_i cs I;split at h
    ·rename_i q;cases h;exact⟨ajf rfl I q.2 (K.hty.mem _ (Na h1)) q.1.1 q.1.2 j,⟨e,trivial⟩,λ_=>rfl⟩
    split at h
    ·rename_i v L _;cases h;exact⟨aUq I L (K.hty.mem _ (Na h1)) j,⟨e,trivial⟩,λ_=>rfl⟩
    cases h
   cases h
  cases h
 ·rename_i t x j;split at h
  ·rename_i q;cases h;exact⟨aaX q j,⟨rfl,trivial⟩,λM=>by cases M⟩
  cases h
 ·rename_i t j;split at h
  ·rename_i z hz;cases h;exact⟨afM (K.hzero.mem _ (Na hz)).1 (K.hzero.mem _ (Na hz)).2 j,trivial,λM=>by cases M⟩
  cases h
 ·rename_i t x y j;split at h
  ·rename_i agg n k off h1 e;split at h
   ·rename_i cs I;split at h
    ·split at h
     ·rename_i q;cases h;refine⟨CG.aMp (aSS (v:=.d (.sl [])) I rfl (by have h9:=(K.hty.mem _ (Na h1)).size;rw[q.1]at h9;exact h9) rfl q.2 j) (λn hn=>?_),⟨e,trivial⟩,λM=>by cases M⟩
      grind
     cases h
    split at h
    ·rename_i q;cases h;exact⟨aSS I q.1.1 (K.hty.mem _ (Na h1)).size q.1.2 q.2 j,⟨e,rfl,trivial⟩,λM=>by cases M⟩
    cases h
   cases h
  cases h
 ·rename_i t parts j;split at h
  ·rename_i Z z hs;split at h
   ·rename_i q;cases h;exact⟨ajY (K.hst.mem _ (Na hs)) _ j rfl q.1 q.2,aGo σ _,λ_=>rfl⟩
   cases h
  split at h
  ·rename_i s z hs;split at h
   ·rename_i q;cases h;exact⟨ahE (K.harr.mem _ (Na hs)) _ q.1 q.2 j,aGo σ _,λ_=>rfl⟩
   cases h
  cases h
 ·rename_i c j;split at h
  ·rename_i x t J ha ht
   have j:o.op=.call { callee:=.builtin .len,args:= #[x],argTypes:= #[t] }:=by
    obtain⟨cal,aWf,ts⟩:=c;simp only at J ha ht;rw[j,J,show aWf= #[x]from by rw[←jW (xs:=aWf),ha],show ts= #[t]from by rw[←jW (xs:=ts),ht]]
   split at h
   ·rename_i s h1 e;cases h;exact⟨agb s (K.arj.mem _ (Na h1)) j,⟨e,trivial⟩,λ_=>rfl⟩
   cases h
  cases h
 cases h
def LH (ops:Bh Oper)(σ:BP):AB (Nat×Ac)->AB Ac
 |none=>some true
 |some (j,want)=>match(ops[j]?).bind (·.dst)with
  |some d=>match σ.slots.getD d .junk with
   | .d (.lit (.bool b))=>some (b==want)
   | .d (.lit (.tuple a))=>match a.toList with
     | []=>some false
     |_=>none
   |_=>none
  |none=>none
variable {g:AB (Nat×Ac)}{ops:Bh Oper}
def QD (h:LH ops σ g=some true):Xv ops σ g:=by
 unfold LH at h;split at h
 ·exact .inl rfl
 rename_i j want;split at h
 ·rename_i d hd;split at h
  ·rename_i b hs;refine .inr ⟨j,want,d,b,rfl,hd,hs,?_⟩;simpa using h
  ·grind
  cases h
 cases h
def acL (h:LH ops σ g=some false):ZB ops σ g:=by
 unfold LH at h;split at h
 ·cases h
 rename_i j want;split at h
 ·rename_i d hd;split at h
  ·rename_i b hs;refine ag8 j want d b rfl hd hs ?_;have :(b==want)=false:=E9 h;cases b<;>cases want<;>first|rfl|cases this
  ·rename_i a hs;split at h
   ·rename_i ha;have ha:a= #[]:=by rw[←jW (xs:=a),ha]
    subst ha;exact anK j want d rfl hd hs
   cases h
  cases h
 cases h
def Zh (K:Kn P)(ops:Bh Oper)(σ:BP)(o:Oper):AB Qa:=
 match LH ops σ o.guard with
 |some true=>match aIo K σ o with
  |some r=>if(Ox r.ns).all (tmpsOf o).contains=true then some r else none
  |none=>none
 |some false=>some ⟨[],.d (.lit undef),σ.ents,false⟩
 |none=>none
def iQ (K:Kn P)(h:Zh K ops σ o=some r):TA P ops σ r.x r.E r.bar o:=by
 unfold Zh at h;split at h
 ·rename_i j;split at h
  ·rename_i J q;split at h
   ·rename_i I;cases h;obtain⟨h1,h2,h3⟩:=apU K q;exact⟨.inl ⟨_,h1,h2,I,QD j⟩,h3⟩
   cases h
  cases h
 ·rename_i j;cases h;exact⟨.inr ⟨rfl,rfl,acL j⟩,λ_=>rfl⟩
 cases h
def Gq {P:Ch}(K:Kn P)(ops:Bh Oper):Nat->AA Oper->BP->AB (BP×AA Qa)
 |0,_,σ=>some (σ,[])
 |n+1,l,σ=>match l with
  |o::l=>match Zh K ops σ o with
   |some r=>match Gq K ops n l (σ.put o.dst r.x r.E)with
    |some (σ',rs)=>some (σ',r::rs)
    |none=>none
   |none=>none
  | []=>none
def OA :AB (BP×AA Qa)->BP
 |some (σ,_)=>σ
 |none=>⟨[],[],0⟩
def fP :AB (BP×AA Qa)->AA Qa
 |some (_,rs)=>rs
 |none=>[]
def Chain.auto {P:Ch}(K:Kn P){ops:Bh Oper}:∀(n:Nat) {l:AA Oper} {σ σ':BP},(Gq K ops n l σ).isSome=true->Chain P ops (l.drop n) (OA (Gq K ops n l σ)) σ'->Chain P ops l σ σ'
 |0,l,σ,σ',_,k=>by simpa[Gq,OA]using k
 |n+1,l,σ,σ',h,k=>by
  unfold Gq at h k;split at h
  ·rename_i o l';split at h
   ·rename_i r j;split at h
    ·rename_i q rs h2;simp only[j,h2]at k;refine .auK o.dst (iQ K j) rfl (Chain.auto K n a8R ?_);rw[h2];exact k
    cases h
   cases h
  cases h
def Fr.auto {P:Ch}(K:Kn P){ops:Bh Oper}:∀(n:Nat) {l:AA Oper} {σ σ':BP} {rs:AA Am} {ess:AA (AA Bc)} {bs:AA Ac},(Gq K ops n l σ).isSome=true->Fr P ops (l.drop n) (OA (Gq K ops n l σ)) rs ess bs σ'->
 Fr P ops l σ ((fP (Gq K ops n l σ)).map Qa.x++rs) ((fP (Gq K ops n l σ)).map Qa.E++ess) ((fP (Gq K ops n l σ)).map Qa.bar++bs) σ'
 |0,l,σ,σ',rs,ess,bs,_,k=>by simpa[Gq,OA,fP]using k
 |n+1,l,σ,σ',rs,ess,bs,h,k=>by
  unfold Gq at h k ⊢;split at h
  ·rename_i o l';split at h
   ·rename_i r j;split at h
    ·rename_i I q h2;simp only[j,h2]at k ⊢;refine .auK o.dst (iQ K j) rfl ?_;have :=Fr.auto K n (l:=l') (σ:=σ.put o.dst r.x r.E) (σ':=σ') (rs:=rs) (ess:=ess) (bs:=bs) a8R (by rw[h2];exact k);rw[h2]at this;exact this
    cases h
   cases h
  cases h
variable {l:AA Oper}{σ':BP}
def Chain.a [T:Kn P](n:Nat)(k:Chain P ops (l.drop n) (OA (Gq T ops n l σ)) σ')(h:(Gq T ops n l σ).isSome=true:=by kernel_rfl):Chain P ops l σ σ':=Chain.auto T n h k
variable {bs:AA Ac}{ess:AA (AA Bc)}{rs:AA Am}
def Fr.a [T:Kn P](n:Nat)(k:Fr P ops (l.drop n) (OA (Gq T ops n l σ)) rs ess bs σ')(h:(Gq T ops n l σ).isSome=true:=by kernel_rfl):
 Fr P ops l σ ((fP (Gq T ops n l σ)).map Qa.x++rs) ((fP (Gq T ops n l σ)).map Qa.E++ess) ((fP (Gq T ops n l σ)).map Qa.bar++bs) σ':=Fr.auto T n h k
variable {rest:AA Oper}
def Fr.c [T:Kn P]{e c:Ac}(h:some e=some c)(k:Fr P ops rest (σ.vY o.dst (.d (.lit (.bool c)))) rs ess bs σ')(hs:(Zh T ops σ o).map (λr=>(r.x,r.E,r.bar))=some (.d (.lit (.bool e)),σ.ents,false):=by kernel_rfl):
 Fr P ops (o::rest) σ (.d (.lit (.bool c))::rs) (σ.ents::ess) (false::bs) σ':=by
 rw[dM]at hs;obtain⟨r,q,j⟩:=hs;have h1:=iQ T q;simp only[VF]at j;rw[j.1,j.2.1,j.2.2,E9 h]at h1;exact .auK o.dst h1 rfl k
def aNe (σ:BP)(ns:AA (Bz×Am)):Prop:=(ns.map λn=>σ.get n.1)=ns.map (·.2)
def Zr {σ:BP}:∀{ns:AA (Bz×Am)},aNe σ ns->needs σ ns
 | [],_=>trivial
 |n::ns,h=>by
  simp only[aNe,JE,a6H]at h;exact⟨h.1,Zr h.2⟩
def Fr.p (h:CG P o ns σ.ents x σ.ents)(k:Fr P ops rest (σ.vY o.dst x) rs ess bs σ')(j:(ns.map λn=>σ.get n.1)=ns.map (·.2):=by kernel_rfl)(q:LH ops σ o.guard=some true:=by kernel_rfl)(I:(Ox ns).all (tmpsOf o).contains=true:=by kernel_rfl):Fr P ops (o::rest) σ (x::rs) (σ.ents::ess) (false::bs) σ':=
 .op o.dst h (Zr j) (QD q) rfl I k
def Fr.e (E:AA Bc)(h:CG P o ns σ.ents x es')(k:Fr P ops rest (σ.put o.dst x E) rs ess bs σ')(j:es'=E:=by kernel_rfl)(q:(ns.map λn=>σ.get n.1)=ns.map (·.2):=by kernel_rfl)(I:LH ops σ o.guard=some true:=by kernel_rfl)(J:(Ox ns).all (tmpsOf o).contains=true:=by kernel_rfl):Fr P ops (o::rest) σ (x::rs) (E::ess) (true::bs) σ':=
 .oe o.dst E h j (Zr q) (QD I) rfl J k
def Wi (σ:BP)(o:Oper):AB (FuncId×AA Am):=
 match o.op with
 | .call c=>match c.callee with
   | .value (.func f)=>some (f,c.args.toList.map σ.get)
   |_=>none
 |_=>none
def aQ8 {srcs:AA Ec}:∀{l:AA Am},l.all Am.Dn=true->OG srcs l l
 | [],_=>trivial
 |x::l,h=>by
  simp only[List.all_cons,Dx]at h;refine⟨?_,aQ8 h.2⟩;cases x with
  |d x=>exact .inl rfl
  |_=>cases h.1
def aOS (σ:BP):∀(l:AA Bz),needs σ (GR l (l.map σ.get))
 | []=>trivial
 |_::l=>⟨rfl,aOS σ l⟩
variable {eY:AA Am}
def aHk {f:FuncId}{I:Am}(U:EU P f eY [] I [])(Y:IC P f=true)(q:Wi σ o=some (f,eY))(hd:eY.all Am.Dn=true):∃ns,CG P o ns σ.ents (I.up [] σ.ents.length) σ.ents/\needs σ ns/\(Ox ns).all (tmpsOf o).contains=true:=by
 unfold Wi at q;split at q
 ·rename_i c O;split at q
  ·rename_i f' j;cases q;obtain⟨callee,args,ats⟩:=c;simp only at j;subst j;refine⟨_,aXb U Y (aQ8 hd) Bf rfl O,aOS σ _,?_⟩;rw[GK];intro t L;unfold Ox at L;rw[iT]at L;obtain⟨n,Z,M⟩:=L
   have J:n.1∈args.toList:=by
    have :∀(l:AA Bz) (vs:AA Am),n∈GR l vs->n.1∈l:=by
     intro l
     induction l with
     |nil=>intro vs h;cases vs<;>simp[GR]at h
     |cons x l ih=>
      intro vs h;cases vs with
      |nil=>simp[GR]at h
      |cons v vs=>
       simp only[GR,G7]at h;rcases h with rfl|h
       ·exact Iu
       exact JX _ (ih vs h)
    exact this _ _ Z
   unfold tmpsOf;simp only[List.contains_iff_mem,iT];refine⟨n.1,?_,M⟩;rw[O];show n.1∈(#[Operand.func f]++args).toList;simp[J]
  cases q
 cases q
variable {j:Am}
def Fr.call {f:FuncId}(q:EU P f eY [] j [])(I:IC P f=true)(k:Fr P ops rest (σ.vY o.dst (j.up [] σ.ents.length)) rs ess bs σ')(J:Wi σ o=some (f,eY):=by kernel_rfl)(hd:eY.all Am.Dn=true:=by kernel_rfl)(L:LH ops σ o.guard=some true:=by kernel_rfl):Fr P ops (o::rest) σ (j.up [] σ.ents.length::rs) (σ.ents::ess) (false::bs) σ':=by
 obtain⟨ns,h1,h2,h3⟩:=aHk q I J hd;exact .op o.dst h1 h2 (QD L) rfl h3 k
def uq (v:BJ):Exit:=.panic [{ v,recovered:=false }]
structure Dp (P:Program) (ops:Array Oper) (l:List Oper) (σ:BP) (K:Exit->BP->Prop):Prop where
 run:∀(ro:Option Nat) (l2:List Oper) (Q:Exit->Act->World->Prop) (C:FI) (ok:Nat->Prop) (H:List CB) (a:Act) (w:World),Holds C ok H σ a w->
  ((∀σ' ok' H' a' w',K .normal σ'->Holds C ok' H' σ' a' w'->wpListIn (Js ro) 0 P ops Q l2 a' w')/\(∀v σ' ok' H' a' w',K (uq v) σ'->Holds C ok' H' σ' a' w'->Q (uq v) a' w'))->wpListIn (Js ro) 0 P ops Q (l++l2) a w
variable {K Q:Exit->BP->Prop}{y:Code}
def Dp.nil (h:K .normal σ):Dp P ops [] σ K:=⟨λ_ _ _ _ _ _ _ _ j q=>q.1 _ _ _ _ _ h j⟩
def Dp.aT {M:BP->Prop}(h:M σ):Dp P ops [] σ (Jd M K):=.nil h
def Dp.step {E:AA Bc}{bar:Ac}(hs:TA P ops σ x E bar o)(k:Dp P ops rest (σ.put o.dst x E) K):Dp P ops (o::rest) σ K:=by
 refine⟨λro q Q C ok H a w j O=>?_⟩;show wpListIn (Js ro) 0 P ops Q (o::(rest++q)) a w;unfold wpListIn;rcases hs.1 with⟨ns,U,Y,_,I⟩|⟨rfl,rfl,I⟩
 ·rw[Dw (WZ j I)];refine jH ?_ (U.inR ro C ok H a w Q j.mem (λn J=>Yp Y n J▸j.get n.1));rintro a' w' ⟨v,ok',H',rfl,L,M,hm,Z⟩;exact k.run ro q Q C _ _ _ _ (j.put o.dst L M hm Z) O
 rw[EC (by rw[aKq j I];simp)];exact⟨λ_ _=>trivial,k.run ro q Q C _ _ _ _ (j.put o.dst (.refl _ _) (.refl _) j.mem (.d _ _ (.lit _))) O⟩
def Dp.conv (q:BP)(h:∀C ok H a w,Holds C ok H σ a w->∃ok',Holds C ok' H q a w)(k:Dp P ops l q K):Dp P ops l σ K:=⟨λro I Q C ok H a w J L=>by
 obtain⟨ok',j⟩:=h C ok H a w J
 exact k.run ro I Q C _ _ _ _ j L⟩
def Dp.auto (T:Kn P):∀(n:Nat) {l:AA Oper} {σ:BP},(Gq T ops n l σ).isSome=true->Dp P ops (l.drop n) (OA (Gq T ops n l σ)) K->Dp P ops l σ K
 |0,l,σ,_,k=>by simpa[Gq,OA]using k
 |n+1,l,σ,h,k=>by
  unfold Gq at h k;split at h
  ·rename_i o l';split at h
   ·rename_i r j;split at h
    ·rename_i q rs h2;simp only[j,h2]at k;refine .step (iQ T j) (Dp.auto T n a8R ?_);rw[h2];exact k
    cases h
   cases h
  cases h
def Dp.a [T:Kn P](n:Nat)(k:Dp P ops (l.drop n) (OA (Gq T ops n l σ)) K)(h:(Gq T ops n l σ).isSome=true:=by kernel_rfl):Dp P ops l σ K:=Dp.auto T n h k
def Dp.p (h:CG P o ns σ.ents x σ.ents)(k:Dp P ops rest (σ.vY o.dst x) K)(j:(ns.map λn=>σ.get n.1)=ns.map (·.2):=by kernel_rfl)(q:LH ops σ o.guard=some true:=by kernel_rfl)(I:(Ox ns).all (tmpsOf o).contains=true:=by kernel_rfl):Dp P ops (o::rest) σ K:=
 .step (aLl h (Zr j) (QD q) I) k
def Dp.e (E:AA Bc)(h:CG P o ns σ.ents x es')(k:Dp P ops rest (σ.put o.dst x E) K)(j:es'=E:=by kernel_rfl)(q:(ns.map λn=>σ.get n.1)=ns.map (·.2):=by kernel_rfl)(I:LH ops σ o.guard=some true:=by kernel_rfl)(J:(Ox ns).all (tmpsOf o).contains=true:=by kernel_rfl):Dp P ops (o::rest) σ K:=
 .step (bar:=true) ⟨.inl ⟨ns,j▸h,Zr q,J,QD I⟩,λh=>GN⟩ k
def Dp.call {f:FuncId}(q:EU P f eY [] j [])(I:IC P f=true)(k:Dp P ops rest (σ.vY o.dst (j.up [] σ.ents.length)) K)(J:Wi σ o=some (f,eY):=by kernel_rfl)(hd:eY.all Am.Dn=true:=by kernel_rfl)(L:LH ops σ o.guard=some true:=by kernel_rfl):Dp P ops (o::rest) σ K:=by
 obtain⟨ns,h1,h2,h3⟩:=aHk q I J hd;exact .step (aLl h1 h2 (QD L) h3) k
def Dp.c [T:Kn P]{e c:Ac}(h:some e=some c)(k:Dp P ops rest (σ.vY o.dst (.d (.lit (.bool c)))) K)(hs:(Zh T ops σ o).map (λr=>(r.x,r.E,r.bar))=some (.d (.lit (.bool e)),σ.ents,false):=by kernel_rfl):Dp P ops (o::rest) σ K:=by
 rw[dM]at hs;obtain⟨r,q,j⟩:=hs;have h1:=iQ T q;simp only[VF]at j;rw[j.1,j.2.1,j.2.2,E9 h]at h1;exact .step h1 k
def BP.wipe (j:AA Nat)(σ:BP):BP:=⟨j.foldl (λl d=>l.set d .junk) σ.slots,σ.ents,σ.base⟩
def Holds.wipe {C:FI}{ok:Nat->Prop}{H:AA CB}{a:Act}{w:BU}:∀(j:AA Nat) {σ:BP},Holds C ok H σ a w->Holds C ok H (σ.wipe j) a w
 | [],σ,h=>h
 |d::j,σ,h=>by
  refine Holds.wipe j (σ:=⟨σ.slots.set d .junk,σ.ents,σ.base⟩) ⟨h.mem,by simpa using h.size,h.defers,h.base,λt q=>?_⟩;simp only[YH]at q;by_cases e:d=t
  ·subst e;have I:(σ.slots.set d .junk).getD d .junk=.junk:=by simp[List.getD,q]
   rw[I];exact .junk _
  have I:(σ.slots.set d .junk).getD t .junk=σ.slots.getD t .junk:=aKN
  rw[I];exact h.slot t q
def an6 (n:Nat)(l j:AA Oper):l++j=l.take n++(l.drop n++j):=by
 rw[←JI,YC]
def Dp.join (n:Nat)(M:BP->Prop)(h2:∀s,M s->Dp P ops (l.drop n) s K)(h1:Dp P ops (l.take n) σ (Jd M K)):Dp P ops l σ K:=⟨λro q Q C ok H a w J I=>by
 rw[an6 n l q]
 exact h1.run ro _ Q C ok H a w J ⟨λσ' ok' H' a' w' L j=>(h2 σ' L).run ro q Q C ok' H' a' w' j I,I.2⟩⟩
def Dp.merge (n:Nat)(j:AA Nat)(d:Nat)(x:Am)(h1:Dp P ops (l.take n) σ (Jd (λs=>s.wipe j=(σ.wipe j).vY (some d) x) K))(h2:Dp P ops (l.drop n) ((σ.wipe j).vY (some d) x) K):Dp P ops l σ K:=
 .join n _ (λs hs=>⟨λro I Q C ok H a w J L=>by
  have e:s.wipe j=(σ.wipe j).vY (some d) x:=hs;have q:=J.wipe j;rw[e]at q
  exact h2.run ro I Q C ok H a w q L⟩) h1
def CQ {id:Nat}(h:Dp P ops ops.toList σ Q):Bl P (.region id ops false) σ Q:=⟨λro _ C ok H a w I=>by
 refine wpIn_region_list ?_;have :=h.run ro [] (λe a' w'=>∃ok' H' σ',Holds C ok' H' σ' a' w'/\Q e σ') C ok H a w I ⟨λσ' ok' H' a' w' q j=>⟨ok',H',σ',j,q⟩,λv σ' ok' H' a' w' q j=>⟨ok',H',σ',j,q⟩⟩
 rwa [MH]at this⟩
def BL {id:Nat}(h:Dp P ops ops.toList σ (Jd (λs=>Bl P y s Q) Q)):Bl P (.seq (.region id ops false) y) σ Q:=
 Bl.seq (λs=>Bl P y s Q) (CQ h) (λ_ h=>h)
def AP [T:Kn P]{id:Nat}(n:Nat)(k:Dp P ops (ops.toList.drop n) (OA (Gq T ops n ops.toList σ)) (Jd (λs=>Bl P y s Q) Q))(h:(Gq T ops n ops.toList σ).isSome=true:=by kernel_rfl):Bl P (.seq (.region id ops false) y) σ Q:=BL (Dp.a n k h)
def Az (n:Nat)(l:AA (Nat×Am)):AA Am:=(List.range n).map λi=>(PY i l).getD .junk
def mk (n w:Nat):AA Ac:=(List.range n).map λi=>Nat.testBit w i
def afI {S:BP}(m:AA Ac)(π:AA (Nat×Ac))(h1:VZ σ.base σ.ents π=true:=by kernel_rfl)(h2:S=⟨NI π m σ.slots,U0 σ.ents π,σ.base⟩:=by kernel_rfl):Gt σ S:=aAn.sub ⟨m,π,h1,h2⟩
inductive MB (P:Program) where
 |call (i:Nat) (f:FuncId) (eY:List Am) (res:Am) (run:EU P f eY [] res []) (ent:IC P f=true) (dat:eY.all Am.Dn=true)
 |dat (i:Nat) (op:Op) (ns:List (Operand×Am)) (x:Am) (h:∀(o:Oper) (es:List Bc),o.op=op->CG P o ns es x es)
 |at_ (i:Nat) (op:Op) (ns:List (Operand×Am)) (k:Nat) (e:Bc) (x:Am) (h:∀(o:Oper) (es:List Bc),es[k]? =some e->o.op=op->CG P o ns es x es)
 |fix (i:Nat) (op:Op) (ns:List (Operand×Am)) (es:List Bc) (x:Am) (E:List Bc) (h:∀(o:Oper),o.op=op->CG P o ns es x E)
def MB.ix:MB P->Nat
 | .call i .. =>i
 | .dat i .. =>i
 | .at_ i .. =>i
 | .fix i .. =>i
inductive Yv where
 |call (c:Option (FuncId×List Am))
 |dat (op:Op) (vs:List Am)
 |at_ (op:Op) (vs:List Am) (e:Option Bc)
 |fix (op:Op) (vs:List Am) (es:List Bc)
def aDW {P:Ch}(i:Nat):AA (MB P)->AB (MB P)
 | []=>none
 |c::l=>match Nat.beq i c.ix with |true=>some c|false=>aDW i l
section
variable {P:Ch}
def vJ (σ:BP)(o:Oper):MB P->BP×AB Yv
 | .call _ _ _ j _ _ _=>(σ.vY o.dst (j.up [] σ.ents.length),some (.call (Wi σ o)))
 | .dat _ _ ns x _=>(σ.vY o.dst x,some (.dat o.op (ns.map λn=>σ.get n.1)))
 | .at_ _ _ ns k _ x _=>(σ.vY o.dst x,some (.at_ o.op (ns.map λn=>σ.get n.1) σ.ents[k]?))
 | .fix _ _ ns _ x E _=>(σ.put o.dst x E,some (.fix o.op (ns.map λn=>σ.get n.1) σ.ents))
def a0v :MB P->Yv
 | .call _ f eY _ _ _ _=>.call (some (f,eY))
 | .dat _ op ns _ _=>.dat op (ns.map (·.2))
 | .at_ _ op ns _ e _ _=>.at_ op (ns.map (·.2)) (some e)
 | .fix _ op ns es _ _ _=>.fix op (ns.map (·.2)) es
def VH (T:Kn P)(L:AA (MB P))(ops:Bh Oper)(σ:BP)(i:Nat):AB (BP×AB Yv):=
 match ops[i]? with
 |none=>none
 |some o=>match aDW i L with
  |some c=>match LH ops σ o.guard with
   |some true=>some (vJ σ o c)
   |_=>none
  |none=>match Zh T ops σ o with
   |some r=>some (σ.put o.dst r.x r.E,none)
   |none=>none
def KQ (T:Kn P)(L:AA (MB P))(ops:Bh Oper)(σ:BP):AA Nat->BP
 | []=>σ
 |i::l=>match VH T L ops (KQ T L ops σ l) i with
  |some (σ',_)=>σ'
  |none=>σ
def kQ (ops:Bh Oper)(m:AA Nat)(i:Nat):Ac:=match ops[i]? with
 |some o=>o.after.toList.all λe=> !Region.binds .any e||(m.contains e.on&&(e.on<ops.size))
 |none=>false
def aDC (ops:Bh Oper)(N:AA (AA Nat))(F:AA Nat)(k:Nat)(m:AA Nat)(T:AA (Nat×Nat×Nat)):Ac:=
 ((List.range ops.size).all λi=>m.contains i|| !kQ ops m i||
   T.any λt=>t.2.1==i&&(t.2.2<N.length)&&(λq=>(List.range ops.size).all λj=>q.contains j==(m.contains j||j==i)) (N.getD t.2.2 []))&&
 (F.contains k||(List.range ops.size).any λi=> !m.contains i&&kQ ops m i)
def a8P (ops:Bh Oper)(N:AA (AA Nat))(F:AA Nat):Nat->AA (AA Nat)->AA (Nat×Nat×Nat)->Ac
 |_,[],_=>true
 |k,m::M,Tr=>aDC ops N F k m (Tr.takeWhile λt=>t.1==k)&&a8P ops N F (k+1) M (Tr.dropWhile λt=>t.1==k)
def kU (ops:Bh Oper)(N:AA (AA Nat))(Tr:AA (Nat×Nat×Nat))(F:AA Nat):Ac:=a8P ops N F 0 N Tr
def aWp {α:Type}{p:α->Ac}:∀{l:AA α} {x:α},x∈l.takeWhile p->p x=true
 | [],_,h=>Il
 |y::l,x,h=>by
  rw[List.takeWhile_cons]at h;cases j:p y with
  |true=>
   rw[j]at h;rcases G7.1 h with rfl|h
   ·exact j
   exact aWp h
  |false=>
   grind
def aXo {ops:Bh Oper}{N:AA (AA Nat)}{F:AA Nat}:∀(M:AA (AA Nat)) (k:Nat) (Tr:AA (Nat×Nat×Nat)),a8P ops N F k M Tr=true->∀j,j<M.length->
 ∃T,aDC ops N F (k+j) (M.getD j []) T=true/\∀t∈T,t∈Tr/\t.1=k+j
 | [],_,_,_,j,I=>jT
 |m::M,k,Tr,h,j,I=>by
  unfold a8P at h;rw[Dx]at h;cases j with
  |zero=>exact⟨_,h.1,λt q=>⟨(List.takeWhile_sublist _).subset q,by have :=aWp q;simpa using this⟩⟩
  |succ j=>
   obtain⟨T,h1,h2⟩:=aXo M (k+1) _ h.2 j Q9;refine⟨T,?_,λt q=>⟨(aFM _).subset (h2 t q).1,?_⟩⟩
   ·rw[show k+(j+1)=k+1+j by omega];simpa using h1
   rw[(h2 t q).2];omega
def Vk (L:AA (MB P))(i:Nat):AB Yv:=(aDW i L).map a0v
def adx (T:Kn P){L:AA (MB P)}{i:Nat}(I:ops[i]? =some o)(h:VH T L ops σ i=some (σ',Vk L i)):
 ∃x E,((∃ns,CG P o ns σ.ents x E/\needs σ ns/\Xv ops σ o.guard)\/(x=.d (.lit undef)/\E=σ.ents/\ZB ops σ o.guard))/\σ'=σ.put o.dst x E:=by
 unfold VH Vk at h;rw[I]at h;simp only at h;split at h
 ·rename_i c J;split at h
  ·rename_i q;simp only[J,Jp,Nw]at h;cases c with
   |call i f eY M run ent dat=>
    simp only[vJ,a0v,VF,Nw,Yv.call.injEq]at h;obtain⟨ns,h1,h2,h3⟩:=aHk run ent h.2 dat;exact⟨_,_,.inl ⟨ns,h1,h2,QD q⟩,h.1.symm⟩
   |dat i op ns x j=>
    simp only[vJ,a0v,VF,Nw,Yv.dat.injEq]at h;exact⟨_,_,.inl ⟨ns,j o _ h.2.1,Zr h.2.2,QD q⟩,h.1.symm⟩
   |at_ i op ns k e x j=>
    simp only[vJ,a0v,VF,Nw,Yv.at_.injEq]at h;exact⟨_,_,.inl ⟨ns,j o _ h.2.2.2 h.2.1,Zr h.2.2.1,QD q⟩,h.1.symm⟩
   |fix i op ns es x E j=>
    simp only[vJ,a0v,VF,Nw,Yv.fix.injEq]at h;exact⟨_,_,.inl ⟨ns,h.2.2.2▸j o h.2.1,Zr h.2.2.1,QD q⟩,h.1.symm⟩
  cases h
 split at h
 ·rename_i r O;simp only[Nw,VF]at h;obtain⟨h1,h2⟩:=iQ T O
  grind
 cases h
def xw (s t:BP):Prop:=∀C ok H a w,Holds C ok H s a w->∃ok' H',Holds C ok' H' t a w
def aNB (s:BP):xw s s:=λ_ ok H _ _ h=>⟨ok,H,h⟩
def oO {s t:BP}(h:Gt s t):xw s t:=h
def Bl.nodes (T:Kn P){id:Nat}(L:AA (MB P))(N:AA (AA Nat))(Tr:AA (Nat×Nat×Nat))(F:AA Nat)(fin:BP)(hm:P.follows .mixedOrders=true)(hN:kU ops N Tr F=true)(h0:N.getD 0 [0]=[])(hT:(Tr.map λt=>VH T L ops (KQ T L ops σ (N.getD t.1 [])) t.2.1)=Tr.map λt=>some (KQ T L ops σ (N.getD t.2.2 []),Vk L t.2.1))(hF:Qh (λk=>xw (KQ T L ops σ (N.getD k [])) fin) F)(hQ:Q .normal fin):Bl P (.region id ops true) σ Q:=by
 refine⟨λro _ C ok H a w q=>?_⟩;refine wpIn_region_any hm ?_
 let S:Nat->BP:=λk=>KQ T L ops σ (N.getD k [])
 let I:Bh Ac->Act->BU->Prop:=λl a w=>l.size=ops.size/\∃k ok H,k<N.length/\(∀i,i<ops.size->l.getD i false=(N.getD k []).contains i)/\Holds C ok H (S k) a w
 have hNN:∀k,k<N.length->(((List.range ops.size).all λi=>(N.getD k []).contains i|| !kQ ops (N.getD k []) i||
  Tr.any λt=>t.1==k&&t.2.1==i&&(t.2.2<N.length)&&(List.range ops.size).all λj=>(N.getD t.2.2 []).contains j==((N.getD k []).contains j||j==i))&&
  (F.contains k||(List.range ops.size).any λi=> !(N.getD k []).contains i&&kQ ops (N.getD k []) i))=true:=λk hk=>by
  obtain⟨T,h1,h2⟩:=aXo N 0 Tr hN k hk;unfold aDC at h1;rw[KW,Dx,GK]at h1;rw[Dx,GK];refine⟨λi hi=>?_,h1.2⟩;have h3:=h1.1 i hi;rw[pY]at h3 ⊢;rcases h3 with h3|h3
  ·exact .inl h3
  obtain⟨t,ht,h4⟩:=KE.1 h3;obtain⟨Y,O⟩:=h2 t ht;rw[KW]at O;refine .inr (KE.2 ⟨t,Y,?_⟩);rw[show(t.1==k)=true by simpa using O,Gf];exact h4
 refine aYJ I (λl a w h=>h.1) ?_ ?_ ops.size _ _ _ ?_ ?_
 ·rintro l a w ⟨h1,k,ok,H,hk,hl,q⟩ i hi;unfold Region.ready at hi;rw[He]at hi;obtain⟨hi1,hi2⟩:=hi;have hi':i<ops.size:=by simpa using hi1
  have ho:ops[i]? =some ops[i]:=by simp[hi']
  simp only[Dx]at hi2;have J:=hi2.2;rw[ho]at J;simp only[Jp,OI]at J;have U:=λe he=>(Y5.1 J) e he
  have hself:l.getD i false=false:=by
   have h8:=hi2.1;have hil:i<l.size:=AL
   simp[Array.getD,hil]at h8 ⊢;exact h8
  have hnc:(N.getD k []).contains i=false:=by rw[←hl i hi'];exact hself
  have hrd:kQ ops (N.getD k []) i=true:=by
   unfold kQ;rw[ho];simp only[GK];intro e he;have h9:=U e (by simpa using he);cases hb:Region.binds .any e with
   |false=>simp
   |true=>
    simp only[hb,FK,Ny]at h9 ⊢;by_cases hon:e.on<ops.size
    ·rw[←hl e.on hon,h9];simp[hon]
    have :l.getD e.on false=false:=by simp[Array.getD,show ¬e.on<l.size by omega]
    rw[this]at h9;cases h9
  have h2:=hNN k hk;simp only[Dx,GK]at h2;have h3:=h2.1 i (by simpa using hi');rw[hnc,hrd]at h3;simp only[FK,Bool.or_self,Ny,KE]at h3;obtain⟨⟨k',M,t⟩,htm,h4⟩:=h3;simp only[Dx,OC,Ik,GK]at h4;obtain⟨⟨⟨rfl,rfl⟩,ht⟩,Y⟩:=h4;have O:VH T L ops (S k') M=some (S t,Vk L M):=List.map_inj_left.1 hT (k',M,t) htm;obtain⟨x,E,hs,he⟩:=adx T ho O
  have Z:∀(a':Act) (w':BU) (ok':Nat->Prop) (H':AA CB),Holds C ok' H' ((S k').put ops[M].dst x E) a' w'->I (l.setIfInBounds M true) a' w':=by
   intro a' w' ok' H' hp;refine⟨lD,t,ok',H',ht,λj hj=>?_,he▸hp⟩;have h7:=Y j aBN;rw[h7,←hl j hj];by_cases hij:M=j
   ·subst hij;simp[Array.getD,h1,hj]
   have :(j==M)=false:=Eh
   rw[this,Nc];simp only[Jm,WO hij]
  unfold wpOpIn;rw[ho];show if Region.wanted ops[M] (yielded ops a.tmps)=true then _ else _
  rcases hs with⟨ns,hop,aEa,hg⟩|⟨rfl,rfl,hg⟩
  ·rw[Dw (WZ q hg)];refine jH ?_ (hop.inR ro C ok H a w _ q.mem (λn hn'=>Yp aEa n hn'▸q.get n.1));rintro a' w' ⟨v,ok',H',rfl,hgr,hnn,hm',hx⟩;exact Z _ _ _ _ (q.put ops[M].dst hgr hnn hm' hx)
  rw[EC (by rw[aKq q hg];simp)];exact⟨λ_ _=>trivial,Z _ _ _ _ (q.put ops[M].dst (.refl _ _) (.refl _) q.mem (.d _ _ (.lit _)))⟩
 ·rintro l a w ⟨h1,k,ok,H,hk,hl,q⟩ hr;have h2:=hNN k hk;simp only[Dx,pY]at h2
  have hFk:k∈F:=by
   rcases h2.2 with h|h
   ·simpa using h
   rw[KE]at h;obtain⟨i,hi,h3⟩:=h;simp only[xP]at hi;simp only[Dx,RU]at h3;obtain⟨h4,Y⟩:=h3;have ho:ops[i]? =some ops[i]:=XA
   have hmem:i∈Region.ready .any ops l:=by
    unfold Region.ready;rw[He];refine⟨IQ,?_⟩;have hf:l.getD i false=false:=by rw[hl i hi];exact h4
    have hil:i<l.size:=AL
    have hf':l.getD i true=false:=aPq
    rw[hf',ho];simp only[JV,Gf,Jp,OI];rw[Y5];intro e he;unfold kQ at Y;rw[ho]at Y;simp only[GK]at Y;have O:=Y e (by simpa using he);cases hb:Region.binds .any e with
    |false=>simp
    |true=>
     simp only[hb,FK,Ny]at O ⊢;rw[Dx,Ik]at O;rw[hl e.on O.2];exact O.1
   rw[hr]at hmem;simp at hmem
  obtain⟨ok',H',h3⟩:=hF.mem k hFk C ok H a w q;exact⟨ok',H',fin,h3,hQ⟩
 ·unfold toCome;simp
 refine⟨Bf,0,ok,H,?_,λi hi=>?_,?_⟩
 ·cases N with
  |nil=>cases h0
  |cons x l=>simp
 ·have e:N.getD 0 []=[]:=by
   cases N with
   |nil=>rfl
   |cons x l=>simpa using h0
  rw[e];simp[Array.getD]
 have e:S 0=σ:=by
  show KQ T L ops σ (N.getD 0 [])=σ;cases N with
  |nil=>rfl
  |cons x l=>have :x=[]:=by simpa using h0
             subst this;rfl
 rw[e];refine⟨⟨⟨q.mem.fr.os,q.mem.fr.tape,q.mem.fr.output,q.mem.fr.size,q.mem.fr.block⟩,q.mem.AX,q.mem.AY,q.mem.kX,q.mem.names,q.mem.hlen,λk e h h1 h2=>(q.mem.ent k e h h1 h2).drew,q.mem.blk,q.mem.G8⟩,q.size,q.defers.mono (λb hb=>⟨hb,rfl⟩),q.base,λt ht=>R.mono (w:=w) (ok:=ok) (w':={ w with drawn:=w.drawn+1 }) (λb hb=>⟨hb,rfl⟩) (.refl _) (q.slot t ht)⟩
def ZI {f:FuncId}(i:Nat)(run:EU P f eY [] j [])(ent:IC P f=true)(dat:eY.all Am.Dn=true:=by kernel_rfl):MB P:=.call i f eY j run ent dat
def Qg (i:Nat)(op:Op)(h:∀(o:Oper) (es:AA Bc),o.op=op->CG P o ns es x es):MB P:=.dat i op ns x h
def a1V (i:Nat)(op:Op)(k:Nat)(e:Bc)(h:∀(o:Oper) (es:AA Bc),es[k]? =some e->o.op=op->CG P o ns es x es):MB P:=.at_ i op ns k e x h
def Wx (i:Nat)(op:Op)(es E:AA Bc)(h:∀(o:Oper),o.op=op->CG P o ns es x E):MB P:=.fix i op ns es x E h
section
variable [T:Kn P] {id:Nat} {ops:Bh Oper} {σ:BP} {Q:Exit->BP->Prop} {y:Code}
def Bl.node1 (L:AA (MB P))(N:AA (AA Nat))(Tr:AA (Nat×Nat×Nat))(j:Nat)(q:Q .normal (KQ T L ops σ (N.getD j [])))(hm:P.follows .mixedOrders=true:=by kernel_rfl)(I:kU ops N Tr [j]=true:=by kernel_rfl)(J:N.getD 0 [0]=[]:=by kernel_rfl)(M:(Tr.map λt=>VH T L ops (KQ T L ops σ (N.getD t.1 [])) t.2.1)=Tr.map λt=>some (KQ T L ops σ (N.getD t.2.2 []),Vk L t.2.1):=by kernel_rfl):Bl P (.region id ops true) σ Q:=
 Bl.nodes T L N Tr [j] _ hm I J M ⟨aNB _,trivial⟩ q
def Bl.aN1 (L:AA (MB P))(N:AA (AA Nat))(Tr:AA (Nat×Nat×Nat))(j:Nat)(q:Bl P y (KQ T L ops σ (N.getD j [])) Q)(hm:P.follows .mixedOrders=true:=by kernel_rfl)(I:kU ops N Tr [j]=true:=by kernel_rfl)(J:N.getD 0 [0]=[]:=by kernel_rfl)(M:(Tr.map λt=>VH T L ops (KQ T L ops σ (N.getD t.1 [])) t.2.1)=Tr.map λt=>some (KQ T L ops σ (N.getD t.2.2 []),Vk L t.2.1):=by kernel_rfl):Bl P (.seq (.region id ops true) y) σ Q:=
 Bl.seq1 _ (Bl.nodes T L N Tr [j] _ hm I J M ⟨aNB _,trivial⟩ rfl) q
def Bl.aN2 (L:AA (MB P))(N:AA (AA Nat))(Tr:AA (Nat×Nat×Nat))(F:AA Nat)(j:BP)(q:Qh (λk=>xw (KQ T L ops σ (N.getD k [])) j) F)(I:Bl P y j Q)(hm:P.follows .mixedOrders=true:=by kernel_rfl)(J:kU ops N Tr F=true:=by kernel_rfl)(M:N.getD 0 [0]=[]:=by kernel_rfl)(O:(Tr.map λt=>VH T L ops (KQ T L ops σ (N.getD t.1 [])) t.2.1)=Tr.map λt=>some (KQ T L ops σ (N.getD t.2.2 []),Vk L t.2.1):=by kernel_rfl):Bl P (.seq (.region id ops true) y) σ Q:=
 Bl.seq1 j (Bl.nodes T L N Tr F j hm J M O q rfl) I
end
end
variable {xs:AA D}
def cD (n:Nat)(sl:AA Nat):AA (Nat×Nat):=sl.flatMap λi=>((List.range (n+1)).filter λm=>i<=m).map λm=>(i,m)
def a07 (ops:Bh Oper)(σ:BP)(rs:AA Am)(ess:AA (AA Bc))(i:Nat):BP:=Gw ops σ (λi=>rs.getD i .junk) (λi=>ess.getD i []) i
def aBL (T:Kn P)(ops:Bh Oper)(σ:BP)(rs:AA Am)(ess:AA (AA Bc))(p:Nat×Nat):AB (Am×AA Bc×Ac):=
 match ops[p.1]? with
 |some o=>(Zh T ops ⟨(a07 ops σ rs ess p.1).slots,(a07 ops σ rs ess p.2).ents,σ.base⟩ o).map λr=>(r.x,r.E,r.bar)
 |none=>none
def aTf (T:Kn P){sl:AA Nat}(q:(sl.all λi=> !(bs.getD i false))=true)(I:(cD ops.size sl).map (aBL T ops σ rs ess)=(cD ops.size sl).map λp=>some (rs.getD p.1 .junk,(a07 ops σ rs ess p.2).ents,false)):
 ∀i,i∈sl->bs.getD i false=false/\∀m,i<=m->m<=ops.size->∀o,ops[i]? =some o->TA P ops ⟨(Gw ops σ (λi=>rs.getD i .junk) (λi=>ess.getD i []) i).slots,(Gw ops σ (λi=>rs.getD i .junk) (λi=>ess.getD i []) m).ents,σ.base⟩ (rs.getD i .junk) (Gw ops σ (λi=>rs.getD i .junk) (λi=>ess.getD i []) m).ents false o:=by
 intro i hi;refine⟨by have :=GK.1 q i hi;simpa using this,λm h1 h2 o L=>?_⟩
 have hp:(i,m)∈cD ops.size sl:=by
  unfold cD;rw[XQ]
  grind
 have h3:=List.map_inj_left.1 I (i,m) hp;unfold aBL at h3;rw[L]at h3;simp only[dM]at h3;obtain⟨r,M,j⟩:=h3;have J:=iQ T M;simp only[VF]at j;rw[j.1,j.2.1,j.2.2]at J;exact J
def Bl.aEr [T:Kn P]{id:Nat}(sl:AA Nat)(h:Fr P ops ops.toList σ rs ess bs σ')(L:Q .normal σ')(hm:P.follows .mixedOrders=true:=by kernel_rfl)(j:(Ua ops&&XH ops&&ZW ops σ.slots.length&&Xa ops)=true:=by kernel_rfl)(q:UK ops bs sl=true:=by kernel_rfl)(I:(sl.all λi=> !(bs.getD i false))=true:=by kernel_rfl)(J:(cD ops.size sl).map (aBL T ops σ rs ess)=(cD ops.size sl).map λp=>some (rs.getD p.1 .junk,(a07 ops σ rs ess p.2).ents,false):=by kernel_rfl):Bl P (.region id ops true) σ Q:=
 Bl.aEb hm j sl q h (aTf T I J) L
def a8Q [T:Kn P]{id:Nat}(sl:AA Nat)(h:Fr P ops ops.toList σ rs ess bs σ')(L:Bl P y σ' Q)(hm:P.follows .mixedOrders=true:=by kernel_rfl)(j:(Ua ops&&XH ops&&ZW ops σ.slots.length&&Xa ops)=true:=by kernel_rfl)(q:UK ops bs sl=true:=by kernel_rfl)(I:(sl.all λi=> !(bs.getD i false))=true:=by kernel_rfl)(J:(cD ops.size sl).map (aBL T ops σ rs ess)=(cD ops.size sl).map λp=>some (rs.getD p.1 .junk,(a07 ops σ rs ess p.2).ents,false):=by kernel_rfl):Bl P (.seq (.region id ops true) y) σ Q:=
 Bl.seq1 σ' (Bl.aEb hm j sl q h (aTf T I J) rfl) L
def BP.ao8 (σ:BP)(k j:Nat)(xs:AA D)(cs:AA Am):BP:=⟨σ.slots.map (Am.thaw k xs),(σ.ents.set k .dead).set j (.box (cs.map (Am.thaw k xs))),σ.base⟩
def aNA (k j:Nat){e:Nat}{cs:AA Am}(hk:σ.ents[k]? =some (.arr e s xs))(hj:σ.ents[j]? =some (.box cs))(hl:(cs.map (Am.thaw k xs)).all Am.leaf=true):∀C ok H a w,Holds C ok H σ a w->∃ok',Holds C ok' H (σ.ao8 k j xs cs) a w:=by
 intro C ok H a w I;have hkj:k≠j:=λe=>by subst e;rw[hk]at hj;cases hj
 obtain⟨hd,hhd,hok⟩:=Gy I.mem.ent I.mem.hlen hk;have hkl:k<σ.ents.length:=(H6.1 hk).1;have hjl:j<(σ.ents.set k .dead).length:=by rw[YH];exact(H6.1 hj).1
 let ok':Nat->Prop:=λb=>ok b\/ED hd.v=some b
 have Y:=λb q=>I.mem.blk k _ hd b hk rfl hhd q;have hg:FH ok w ok' w:=λb q=>⟨.inl q,rfl⟩
 have J:∀{x:Am} {v:BJ},R ok w H x v->R ok' w H (x.thaw k xs) v:=by
  intro x v hR0;have hR:=hR0.mono hg (dU H);cases x with
  |aQ i=>
   simp only[Am.thaw];split
   ·rename_i hi;subst hi;obtain rfl:=P5 hR hhd;exact .d _ _ (kV hok (λb q=>.inl q) (λb q=>.inr q))
   exact hR
  |lH i i2 off=>
   simp only[Am.thaw];split
   ·exact .junk _
   exact hR
  |_=>exact hR
 have Z:∀(i:Nat) (e':Bc),((σ.ents.set k .dead).set j (.box (cs.map (Am.thaw k xs))))[i]? =some e'->(i=j/\e'=.box (cs.map (Am.thaw k xs)))\/(i≠j/\((i=k/\e'=.dead)\/(i≠k/\σ.ents[i]? =some e'))):=by
  intro i e' he;rcases NU hjl he with⟨rfl,rfl⟩|⟨h1,h2⟩
  ·exact .inl ⟨rfl,rfl⟩
  refine .inr ⟨h1,?_⟩;rcases NU hkl h2 with⟨rfl,rfl⟩|⟨h3,h4⟩
  ·exact .inl ⟨rfl,rfl⟩
  exact .inr ⟨h3,h4⟩
 have L:∀(i:Nat) (e':Bc),((σ.ents.set k .dead).set j (.box (cs.map (Am.thaw k xs))))[i]? =some e'->e'.live=true->i≠k/\∃e0,σ.ents[i]? =some e0/\e0.live=true:=by
  intro i e' he U;rcases Z i e' he with⟨rfl,rfl⟩|⟨h1,⟨rfl,rfl⟩|⟨h2,h3⟩⟩
  ·exact⟨Ne.symm hkj,_,hj,rfl⟩
  ·cases U
  exact⟨h2,_,h3,U⟩
 refine⟨ok',⟨I.mem.fr,λb q=>.inl (I.mem.AX b q),?_,?_,I.mem.names,by simp[BP.ao8,I.mem.hlen],?_,?_,?_⟩,by simp[BP.ao8,I.size],I.defers.mono hg,I.base,?_⟩
 ·rintro b (q|q)
  ·exact I.mem.AY b q
  exact .inr (Y b q).2.2
 ·rintro b (q|q)
  ·exact I.mem.kX b q
  exact(Y b q).2.1
 ·intro i e' h' he M;rcases Z i e' he with⟨rfl,rfl⟩|⟨_,⟨rfl,rfl⟩|⟨_,he'⟩⟩
  ·obtain⟨b,vs,T,h1,h2,h3,h4⟩:=I.mem.ent i _ h' hj M;refine⟨b,vs,T,h1,h2,Wy,λn hn=>?_⟩;rw[DK]at hn;rw[TT _ _ _ hn];refine⟨?_,J (h4 n hn).2⟩;rw[GK]at hl;exact hl _ (GH.2 ⟨_,by simp[List.getD,hn],rfl⟩)
  ·trivial
  exact(I.mem.ent i e' h' he' M).mono hg (.refl _) (λ_ _ _=>rfl)
 ·intro i e' h' b he U M q;obtain⟨hik,e0,he0,hl0⟩:=L i e' he U;have h3:=I.mem.blk i e0 h' b he0 hl0 M q;refine⟨λO=>?_,h3.2⟩;rcases O with O|O
  ·exact h3.1 O
  exact hik (I.mem.G8 i k e0 _ h' hd b he0 hk hl0 rfl M hhd q O)
 ·intro i i' e1 e2 h1 h2 b he1 he2 hl1 hl2 hh1 hh2 hb1 hb2;obtain⟨_,e1',aq9,aPb⟩:=L i e1 he1 hl1;obtain⟨_,e2',ara,aPc⟩:=L i' e2 he2 hl2;exact I.mem.G8 i i' e1' e2' h1 h2 b aq9 ara aPb aPc hh1 hh2 hb1 hb2
 intro t ht;simp only[BP.ao8,DK]at ht
 have e1:(σ.ao8 k j xs cs).slots.getD t .junk=(σ.slots.getD t .junk).thaw k xs:=by
  simp only[BP.ao8];exact TT _ _ _ ht
 rw[e1];exact J (I.slot t ht)
def Bl.conv {c:Code}{q:BP}(h:∀C ok H a w,Holds C ok H σ a w->∃ok',Holds C ok' H q a w)(k:Bl P c q Q):Bl P c σ Q:=⟨λro I C ok H a w J=>by
 obtain⟨ok',j⟩:=h C ok H a w J
 exact k.run ro I C ok' H a w j⟩
def aAa (es:AA Bc)(H:AA CB):AA Nat:=(es.zip H).filterMap λp=>if p.1.live then ED p.2.v else none
variable {H:AA CB}{b:Nat}
def aOk:b∈aAa es H↔∃(k:Nat) (e:Bc) (h:CB),es[k]? =some e/\e.live=true/\H[k]? =some h/\ED h.v=some b:=by
 unfold aAa;rw[iT];constructor
 ·rintro⟨⟨e,h⟩,hm,I⟩;obtain⟨k,j⟩:=List.mem_iff_getElem?.1 hm;rw[aPp]at j
  grind
 rintro⟨k,e,h,h1,h2,h3,q⟩;exact⟨(e,h),List.mem_iff_getElem?.2 ⟨k,aPp.2 ⟨h1,h3⟩⟩,by simp[h2,q]⟩
def FI.now (w:BU)(ok:Nat->Prop)(es:AA Bc)(H:AA CB):FI:=⟨w,ok,aAa es H,H⟩
variable {C:FI}{H':AA CB}{h:CB}{ok ok':Nat->Prop}{w':BU}
def E8.inner (hm:E8 C ok H es w):E8 (FI.now w ok es H) ok H es w:=
 ⟨.refl _ _,λ_ h=>h,λ_ h=>.inl h,hm.kX,.refl _,hm.hlen,hm.ent,
  λk e h b j hl q I=>⟨(hm.blk k e h b j hl q I).1,(hm.blk k e h b j hl q I).2.1,.inr (aOk.2 ⟨k,e,h,j,hl,q,I⟩)⟩,hm.G8⟩
def E8.outer (hm:E8 C ok H es w)(h:E8 (FI.now w ok es H) ok' H' es' w'):FH ok w ok' w'/\Names H H'/\E8 C ok' H' es' w':=by
 have q:∀b,b∈aAa es H->¬ok b/\b<w.heap.size/\(C.w0.heap.size<=b\/b∈C.X):=λb j=>by
  obtain⟨k,e,hd,h1,h2,h3,O⟩:=aOk.1 j;exact hm.blk k e hd b h1 h2 h3 O
 refine⟨λb j=>⟨h.AX b j,h.fr.block b (hm.kX b j) λI=>(q b I).1 j⟩,h.names,⟨h.fr.os.trans hm.fr.os,h.fr.tape.trans hm.fr.tape,h.fr.output.trans hm.fr.output,FQ hm.fr.size h.fr.size,λk M I=>?_⟩,λb j=>h.AX b (hm.AX b j),λb j=>?_,h.kX,hm.names.trans h.names,h.hlen,h.ent,λk e hd b U hl Y j=>?_,h.G8⟩
 ·have J:k<w.heap.size:=WR M hm.fr.size;refine(h.fr.block k J λL=>?_).trans (hm.fr.block k M I);rcases(q k L).2.2 with h1|h1
  ·omega
  exact I h1
 ·rcases h.AY b j with h1|h1|h1
  ·exact hm.AY b h1
  ·exact .inr (.inl (FQ hm.fr.size h1))
  exact .inr ((q b h1).2.2)
 obtain⟨h1,h2,h3⟩:=h.blk k e hd b U hl Y j;refine⟨h1,h2,?_⟩;rcases h3 with h3|h3
 ·exact .inl (FQ hm.fr.size h3)
 exact(q b h3).2.2
def E8.ao9 (hm:E8 C ok H es w){e e':Bc}{o:Obj}(M:es[n]? =some e)(hl:e.live=true)(O:H[n]? =some h)(U:ED h.v=some b)(he:FH ok w ok (w.putObj b o)->Fh ok (w.putObj b o) H h e'):
 E8 C ok H (es.set n e') (w.putObj b o)/\FH ok w ok (w.putObj b o):=by
 obtain⟨h1,h2,h3⟩:=hm.blk n e h b M hl O U;have hg:FH ok w ok (w.putObj b o):=λc j=>⟨j,bC λe=>h1 (e▸j)⟩
 have J:=(H6.1 M).1;refine hm.change (λc=>c=b) rfl rfl rfl Bf (λc _ j=>bC j) (λc j _=>by subst j;exact⟨h1,h3⟩) (λ_ h=>h) (λ_ h=>.inl h) (.refl _) (by simpa using hm.hlen) λk e2 h4 hk q=>?_;rcases NU J hk with⟨rfl,rfl⟩|⟨I,L⟩
 ·right;rw[O]at q;obtain rfl:=E9 q;refine⟨he hg,λ_ c j=>?_⟩;rw[U]at j;obtain rfl:=E9 j;refine⟨h1,LC,h3,λk' e3 h5 I Y Z hh3 hb3=>?_⟩;rcases NU J Y with⟨rfl,_⟩|⟨_,hk4⟩
  ·exact I rfl
  exact I (hm.G8 k' _ e3 e h5 h _ hk4 M Z hl hh3 O hb3 U)
 left;exact⟨L,q,λhl2 c j hcb=>I (hm.G8 k n e2 e h4 h c L M hl2 hl q O j (by rw[hcb];exact U))⟩
def eB :AA Tmp->AA Am->AA Am->AA Am
 |p::j,x::xs,sl=>eB j xs (sl.set p x)
 |_,_,sl=>sl
def aWS :∀(j:AA Tmp) (xs:AA Am) (vs:AA BJ) (sl:AA Am) (tm:Bh BJ),xs.length=j.length->vs.length=j.length->(∀i,i<xs.length->R ok w H (xs.getD i .junk) (vs.getD i undef))->
 tm.size=sl.length->(∀t,t<sl.length->R ok w H (sl.getD t .junk) (tm.getD t undef))->
 ((j.zip vs).foldl (λt p=>t.setIfInBounds p.1 p.2) tm).size=(eB j xs sl).length/\∀t,t<(eB j xs sl).length->R ok w H ((eB j xs sl).getD t .junk) (((j.zip vs).foldl (λt p=>t.setIfInBounds p.1 p.2) tm).getD t undef)
 | [],xs,vs,sl,tm,_,_,_,hs,I=>by
   have e:eB [] xs sl=sl:=by cases xs<;>rfl
   rw[e];exact⟨hs,I⟩
 |p::j,[],vs,sl,tm,h,_,_,_,_=>Il
 |p::j,x::xs,[],sl,tm,_,h,_,_,_=>Il
 |p::j,x::xs,v::vs,sl,tm,h1,h2,J,hs,I=>by
  refine aWS j xs vs (sl.set p x) (tm.setIfInBounds p v) Y4 LC (λi hi=>by simpa using J (i+1) IQ) xB (λt q=>?_);rw[YH]at q;by_cases e:p=t
  ·subst e;have L:(sl.set p x).getD p .junk=x:=by simp[List.getD,q]
   have M:(tm.setIfInBounds p v).getD p undef=v:=by simp[Array.getD,hs,q]
   rw[L,M];simpa using J 0 Bf
  have L:(sl.set p x).getD t .junk=sl.getD t .junk:=aKN
  have M:(tm.setIfInBounds p v).getD t undef=tm.getD t undef:=by simp[Jm,WO e]
  grind
def ZF :Exit->AB (LoopState×AB Code)
 | .normal=>some (.ready,none)
 | .ret=>some (.done,some .ret)
 | .exit i=>some (.done,some (.exit i))
 |_=>none
variable {assign body:Code}{fn:Func}{g:Bz}
def a3C {l:Nat}(e:h.v=.func (.yield l) #[] #[]):ED h.v=some l:=pI
def Dp.yield {f:Bz}{xs:Bh Bz}{ts:Bh Bq}{tm:Bh BJ}{slots:AA Am}{rc:Bh Tmp×Code×Code}(k:Nat)(eY:AA Am)(ho:o.op=.call { callee:=.value f,args:=xs,argTypes:=ts })(hf:σ.get f=.mp k)(hk:σ.ents[k]? =some (.loop tm slots rc .ready none))(hx:xs.toList.map σ.get=eY)(L:rc.1.size=xs.size)(hg:LH ops σ o.guard=some true)(M:(Qp rc.2.1&&Qp rc.2.2)=true)(h:Bl P rc.2.1 ⟨eB rc.1.toList eY slots,σ.ents,σ.ents.length⟩ λe s=>e=.normal/\∃sl,s.ents[k]? =some (.loop tm sl rc .ready none)/\
  Bl P rc.2.2 ⟨s.slots,s.ents.set k (.loop tm sl rc .busy none),s.base⟩ λe s2=>∃J j,s2.ents[k]? =some (.loop tm J rc .busy none)/\ZF e=some j/\
   Dp P ops rest (BP.vY ⟨σ.slots,s2.ents.set k (.loop tm J rc j.1 j.2),σ.base⟩ o.dst (.d (.lit (.bool j.2.isNone)))) K):Dp P ops (o::rest) σ K:=by
 rw[Dx]at M;refine⟨λro l2 Q C ok H a w I O=>?_⟩;show wpListIn (Js ro) 0 P ops Q (o::(rest++l2)) a w;unfold wpListIn;rw[Dw (WZ I (QD hg))];have hv:=hf▸I.get f;obtain⟨hd,U,hent⟩:=Gy I.mem.ent I.mem.hlen hk;obtain⟨l,fn,D,e1,e2,e3,e4⟩:=hent
 have hval:a.eval f=.func (.yield l) #[] #[]:=by
  cases hv with
  |mp _ v s hl hH=>
   rw[U]at hH;obtain rfl:=E9 hH;exact e1
 have hrun:(execOp a.eval o).run P w=.ok (.round l fn ((rc.1.zip (xs.map a.eval)).foldl (λtmps (t,a)=>tmps.setIfInBounds t a) tm) rc.2.1 rc.2.2) w:=by
  have :=run_yield (P:=P) e2 (args:=xs.map a.eval) (by simp[L]);simp[execOp,ho,resolve,hval,Deferred.ofValue,invoke,this]
 unfold Oper.wpIn;rw[lW _ _ _ (by rw[ho];intro c h;cases h),hrun,Oper.uponIn_round];refine⟨λ_ _=>trivial,λh=>GN,roundIn_of_wpIn trivial ?_⟩
 have hT:(rc.1.zip (xs.map a.eval)).foldl (λtmps (t,a)=>tmps.setIfInBounds t a) tm=(rc.1.toList.zip (xs.toList.map a.eval)).foldl (λt p=>t.setIfInBounds p.1 p.2) tm:=by
  rw[←Array.foldl_toList,Array.toList_zip,Array.toList_map]
 rw[hT];have hpl:eY.length=rc.1.toList.length:=by rw[←hx];simp[L]
 obtain⟨p1,p2⟩:=aWS (ok:=ok) (w:=w) (H:=H) rc.1.toList eY (xs.toList.map a.eval) slots tm hpl (by simp[L]) (λi hi=>by
  have hi':i<xs.toList.length:=by rw[←hx]at hi;simpa using hi
  have hi2:i<xs.size:=by simpa using hi'
  have q1:eY.getD i .junk=σ.get xs.toList[i]:=by rw[←hx];simp[List.getD,hi2]
  have q2:(xs.toList.map a.eval).getD i undef=a.eval xs.toList[i]:=by simp[List.getD,hi2]
  rw[q1,q2];exact I.get _) e3 e4
 have hin:Holds (FI.now w ok σ.ents H) ok H ⟨eB rc.1.toList eY slots,σ.ents,σ.ents.length⟩ { tmps:=(rc.1.toList.zip (xs.toList.map a.eval)).foldl (λt p=>t.setIfInBounds p.1 p.2) tm,defers:=[] } w:=
  ⟨I.mem.inner,p1,.nil _ _ _,I.mem.hlen,p2⟩
 show Code.wpIn (Js (some l)) 0 P _ _ _ _;refine X4 (h.run (some l) (.inr M.1) _ _ _ _ _ hin) ?_;rintro e a1 w1 ⟨ok1,H1,s1,q,rfl,sl,hs1,h2⟩;obtain⟨g1,n1,m1⟩:=I.mem.outer q.mem;have hk1:=n1 k hd U;obtain⟨l',fn',D',q1,q2,q3,q4⟩:=q.mem.ent k _ hd hs1 hk1;have Y:l'=l:=by rw[e1]at q1;cases q1;rfl
 subst Y
 obtain⟨m2,g2⟩:=q.mem.ao9 (o:=.loop { state:=.busy,pending:=none,fn:=fn',tmps:=tm,params:=rc.1,assign:=rc.2.1,body:=rc.2.2,defers:=D' }) (e':=.loop tm sl rc .busy none) hs1 rfl hk1 (a3C q1)
  (λg=>⟨l',fn',D',q1,Xr (Ic.1 q2).1,q3,λt Z=>(q4 t Z).mono g (.refl _)⟩)
 refine⟨_,run_beginRound q2 rfl,?_⟩;refine X4 (h2.run (some l') (.inr M.2) _ _ _ _ _ ⟨m2,q.size,q.defers.mono g2,q.base,λt Z=>(q.slot t Z).mono g2 (.refl _)⟩) ?_;rintro e a2 w3 ⟨ok2,H2,s2,hh2,J,j,hs2,hj,hL⟩;obtain⟨g3,n3,m3⟩:=I.mem.outer hh2.mem;have hk2:=n3 k hd U;obtain⟨l3,fn3,D3,r1,r2,r3,r4⟩:=hh2.mem.ent k _ hd hs2 hk2;have Y:l3=l':=by rw[e1]at r1;cases r1;rfl
 subst Y
 have key:j.1=(if j.2.isNone then LoopState.ready else .done)->∃v w',(Instr.endRound l3 j.2).run P w3=.ok v w'/\wpListIn (Js ro) 0 P ops Q (rest++l2) (a.put o.dst v) w':=by
  intro hst
  obtain⟨m4,g4⟩:=m3.ao9 (o:=.loop { state:=(if j.2.isNone then LoopState.ready else .done),pending:=j.2,fn:=fn3,tmps:=tm,params:=rc.1,assign:=rc.2.1,body:=rc.2.2,defers:=D3 }) (e':=.loop tm J rc j.1 j.2) hs2 rfl hk2 (a3C r1)
   (λg=>⟨l3,fn3,D3,r1,by rw[hst];exact Xr (Ic.1 r2).1,r3,λt Z=>(r4 t Z).mono g (.refl _)⟩)
  refine⟨_,_,run_endRound j.2 r2,hL.run ro l2 Q C _ _ _ _ (Holds.put (σ:=⟨σ.slots,s2.ents.set k (.loop tm J rc j.1 j.2),σ.base⟩) ⟨m4,I.size,I.defers.mono (g3.trans g4),I.base,λt Z=>(I.slot t Z).mono (g3.trans g4) n3⟩ o.dst (.refl _ _) (.refl _) m4 (.d _ _ (.lit _))) O⟩
 cases e with
 |normal=>obtain rfl:=E9 hj;exact key rfl
 |ret=>obtain rfl:=E9 hj;exact key rfl
 |exit i=>obtain rfl:=E9 hj;exact key rfl
 |_=>cases hj
def Bl.aGy {ps:Bh Tmp}{c:Code}{gf:FuncId}(q:AA Am)(hg:∀(C:FI) (ok:Nat->Prop) (H:AA CB) (a:Act) (w:BU),Holds C ok H σ a w->R ok w H (.fn (.func gf) [] q) (a.eval g))(hf:P.funcs[gf]? =some fn)(he:IC P gf=true)(M:fn.body=some c)(hres:fn.results= #[])(h:∀tm,Bl P c ⟨(.mp σ.ents.length::q)++List.replicate (fn.ntmps-(q.length+1)) .junk,σ.ents++[.loop tm σ.slots (ps,assign,body) .ready none],σ.ents.length+1⟩ λe s=>(e=.normal\/e=.ret)/\
  ∃sl j x,s.ents[σ.ents.length]? =some (.loop tm sl (ps,assign,body) j.1 j.2)/\ZF x=some j/\Q x ⟨σ.slots,s.ents.set σ.ents.length .dead,σ.base⟩):Bl P (.rangeFunc g ps assign body) σ Q:=by
 refine⟨λro hr C ok H a w I=>?_⟩;obtain rfl:ro=none:=hr.resolve_right (by simp[Qp]);have hv:=hg C ok H a w I;generalize hav:a.eval g=v at hv;cases hv with
 |fn _ _ _ vs us hl1 hl2 h1 h2=>
  obtain rfl:vs= #[]:=Z7 (by simpa using hl1);refine wpIn_rangeFunc ?_;intro fnm _;obtain⟨U,hrec⟩:∃U:Loop,U={ state:=.ready,pending:=none,fn:=fnm,tmps:=a.tmps,params:=ps,assign,body,defers:=w.heap.size }:=⟨_,rfl⟩
  obtain⟨L,O⟩:∃L,(w.alloc (.deferred (some []))).alloc (.loop U)=L:=⟨_,rfl⟩
  have hsz:L.heap.size=w.heap.size+2:=by rw[←O];simp
  have hL:L.heap[w.heap.size+1]? =some (.loop U):=by
   rw[←O];have :=mY (w.alloc (.deferred (some []))) (.loop U);rwa [aJd]at this
  have hD:L.heap[w.heap.size]? =some (.deferred (some [])):=by
   rw[←O];exact(LX _ _ _ Bf).trans (mY w _)
  have hold:∀b,b<w.heap.size->L.heap[b]? =w.heap[b]? :=λb M=>by
   rw[←O];exact(LX _ _ _ Eh).trans (LX _ _ _ M)
  have hos:L.os=w.os/\L.tape=w.tape/\L.output=w.output:=by rw[←O];exact⟨rfl,rfl,rfl⟩
  obtain⟨hd,hhd⟩:∃hd:CB,hd=⟨.func (.yield (w.heap.size+1)) #[] #[],0⟩:=⟨_,rfl⟩
  have hdv:hd.v=.func (.yield (w.heap.size+1)) #[] #[]:=by rw[hhd]
  have hgr:FH ok w (λb=>ok b\/b=w.heap.size) L:=λb M=>⟨.inl M,hold b (I.mem.kX b M)⟩
  have hHn:(H++[hd])[σ.ents.length]? =some hd:=by rw[←I.mem.hlen];simp
  obtain⟨m2,g2⟩:=I.mem.change (ok':=λb=>ok b\/b=w.heap.size) (H':=H++[hd]) (es':=σ.ents++[.loop a.tmps σ.slots (ps,assign,body) .ready none]) (w':=L) (λ_=>False) hos.1 hos.2.1 hos.2.2 AL (λb M _=>hold b M) (λ_ h=>h.elim)
   (λ_ h=>.inl h) (λb M=>M.imp id λh=>AL) (.push _ _) (by simp[I.mem.hlen]) (λk e hk he hkk=>by
    rcases Xc he with he'|⟨rfl,rfl⟩
    ·left;have hkl:k<H.length:=by rw[I.mem.hlen];exact(H6.1 he').1
     rw[KZ hkl]at hkk;exact⟨he',hkk,λ_ _ _ h=>h⟩
    right;rw[hHn]at hkk;obtain rfl:=E9 hkk;refine⟨⟨w.heap.size+1,fnm,w.heap.size,hdv,by rw[hL,hrec],I.size,λt ht=>(I.slot t ht).mono hgr (.push _ _)⟩,λ_ b M=>?_⟩;rw[a3C hdv]at M;obtain rfl:=E9 M;refine⟨λhx=>?_,AL,.inl (by have :=I.mem.fr.size;omega),λk' e' h' hne he' hl' Y hb'=>?_⟩
    ·rcases hx with hx|hx
     ·have :=I.mem.kX _ hx;omega
     omega
    rcases Xc he' with he2|⟨rfl,_⟩
    ·have hkl:k'<H.length:=by rw[I.mem.hlen];exact(H6.1 he2).1
     rw[KZ hkl]at Y;have :=(I.mem.blk k' e' h' _ he2 hl' Y hb').2.1;omega
    exact hne rfl)
  have hargs:∀t,t<((.mp σ.ents.length::q)++List.replicate (fn.ntmps-(q.length+1)) .junk:AA Am).length->
   R (λb=>ok b\/b=w.heap.size) L (H++[hd]) (((.mp σ.ents.length::q)++List.replicate (fn.ntmps-(q.length+1)) .junk:AA Am).getD t .junk)
     (((#[.func (.yield (w.heap.size+1)) #[] #[]]++us)++Array.replicate (fn.ntmps-(#[.func (.yield (w.heap.size+1)) #[] #[]]++us:Bh BJ).size) undef:Bh BJ).getD t undef):=by
   intro t ht;by_cases h0:t<q.length+1
   ·have q1:((.mp σ.ents.length::q)++List.replicate (fn.ntmps-(q.length+1)) .junk:AA Am).getD t .junk=(.mp σ.ents.length::q:AA Am).getD t .junk:=by
     grind
    have q2:((#[.func (.yield (w.heap.size+1)) #[] #[]]++us)++Array.replicate (fn.ntmps-(#[.func (.yield (w.heap.size+1)) #[] #[]]++us:Bh BJ).size) undef:Bh BJ).getD t undef=(#[.func (.yield (w.heap.size+1)) #[] #[]]++us:Bh BJ).getD t undef:=by
     simp only[Jm];rw[cu Eh]
    rw[q1,q2];cases t with
    |zero=>
     have q3:(#[.func (.yield (w.heap.size+1)) #[] #[]]++us:Bh BJ).getD 0 undef=.func (.yield (w.heap.size+1)) #[] #[]:=by
      simp only[Jm];rw[cu Bf];rfl
     rw[q3];exact .mp _ _ 0 rfl (by rw[hHn,hhd])
    |succ t=>
     have q3:(#[.func (.yield (w.heap.size+1)) #[] #[]]++us:Bh BJ).getD (t+1) undef=us.getD t undef:=by
      simp only[Jm];rw[aVz Bf];rfl
     rw[q3];simpa using(h2 t AL).mono hgr (.push _ _)
   have q1:((.mp σ.ents.length::q)++List.replicate (fn.ntmps-(q.length+1)) .junk:AA Am).getD t .junk=.junk:=by
    grind
   rw[q1];exact .junk _
  have hin:Holds (FI.now L (λb=>ok b\/b=w.heap.size) (σ.ents++[.loop a.tmps σ.slots (ps,assign,body) .ready none]) (H++[hd])) (λb=>ok b\/b=w.heap.size) (H++[hd])
   ⟨(.mp σ.ents.length::q)++List.replicate (fn.ntmps-(q.length+1)) .junk,σ.ents++[.loop a.tmps σ.slots (ps,assign,body) .ready none],σ.ents.length+1⟩
   { tmps:=(#[.func (.yield (w.heap.size+1)) #[] #[]]++us)++Array.replicate (fn.ntmps-(#[.func (.yield (w.heap.size+1)) #[] #[]]++us:Bh BJ).size) undef,defers:=[] } L:=
   ⟨m2.inner,by simp[hl2];omega,.nil _ _ _,by simp[FI.now,I.mem.hlen],hargs⟩
  refine⟨w.heap.size+1,[{ target:=.collected w.heap.size,args:= #[] }],L,{ target:=.fn (.func gf) us,args:= #[.func (.yield (w.heap.size+1)) #[] #[]] },L,gf, #[.func (.yield (w.heap.size+1)) #[] #[]]++us,L,?_,?_,λ_ _=>trivial,?_,λh=>GN,?_⟩
  ·rw[←O,hrec];exact run_enterLoop_outer _ _ _ _ _
  ·have e9:a.eval (.const (.func (.yield (w.heap.size+1)) #[] #[]))=.func (.yield (w.heap.size+1)) #[] #[]:=rfl;simp[resolve,hav,Deferred.ofValue,e9]
  ·have :=Uu he (#[.func (.yield (w.heap.size+1)) #[] #[]]++us) L;simpa[invoke]using this
  refine aFb hf M trivial (X4 ((h a.tmps).run none (.inl rfl) _ _ _ _ _ hin) ?_) rfl;rintro e a' w' ⟨ok',H',s,Y,hee,sl,j,x,hs,hj,hQ⟩;obtain⟨Ds,hDs,hnd,hds⟩:=Y.defers
  have key:LeavesInM (Js none) 0 P fn a'.tmps (rangePost (Js none) 0 P (w.heap.size+1) (λe a' w'=>∃ok' H' σ',Holds C ok' H' σ' a' w'/\Q e σ') { a with defers:=[{ target:=.collected w.heap.size,args:= #[] }]++a.defers }) a'.defers .returning w':=by
   rw[hDs];refine aEx (P:=P) (C:=FI.now L (λb=>ok b\/b=w.heap.size) (σ.ents++[.loop a.tmps σ.slots (ps,assign,body) .ready none]) (H++[hd])) m2.kX (λok3 a3 w3 h3=>?_) Ds Y hds hnd;refine⟨.tuple #[],by simp[results,hres],?_⟩;obtain⟨g3,n3,m3⟩:=m2.outer h3.mem;have hk3:=n3 _ hd hHn;obtain⟨l3,fn3,D3,r1,r2,r3,r4⟩:=h3.mem.ent _ _ hd hs hk3;have hll:l3=w.heap.size+1:=by rw[hdv]at r1;cases r1;rfl
   subst hll
   have hnb:j.1≠ .busy:=by
    cases x<;>simp[ZF]at hj<;>rw[←hj]<;>simp
   obtain⟨m4,g4⟩:=m3.ao9 (o:=.loop { state:=.exhausted,pending:=j.2,fn:=fn3,tmps:=a.tmps,params:=ps,assign:=assign,body:=body,defers:=D3 }) (e':=.dead) hs rfl hk3 (a3C hdv) (λ_=>trivial);have Z:=(g2.trans g3).trans g4
   have J:Holds C ok3 H' ⟨σ.slots,s.ents.set σ.ents.length .dead,σ.base⟩ { a with defers:=[{ target:=.collected w.heap.size,args:= #[] }]++a.defers }
    (w3.putObj (w.heap.size+1) (.loop { state:=.exhausted,pending:=j.2,fn:=fn3,tmps:=a.tmps,params:=ps,assign:=assign,body:=body,defers:=D3 })):=by
    refine⟨m4,I.size,?_,I.base,λt ht=>(I.slot t ht).mono Z ((IE _ _).trans n3)⟩;obtain⟨Es,q1,q2,q3⟩:=I.defers.mono Z;obtain⟨Fs,p1,p2,p3⟩:=I.defers
    have hEF:Es=Fs:=by
     have :=q1.symm.trans p1;exact(List.map_inj_right (λa b h=>LZ)).1 this
    subst hEF;refine⟨w.heap.size::Es,by simp[q1],RX.2 ⟨λhm=>?_,q2⟩,λD hDm=>?_⟩
    ·have :=I.mem.kX _ (p3 _ hm).1;omega
    rcases G7.1 hDm with rfl|hDm
    ·have hok2:(λb=>ok b\/b=w.heap.size) w.heap.size:=.inr rfl;have q4:=(g3.trans g4) _ hok2;exact⟨q4.1,I.mem.fr.size,q4.2.trans hD⟩
    exact q3 D hDm
   refine⟨j.2,_,run_endLoop r2 hnb,?_⟩;cases x with
   |normal=>
    simp[ZF]at hj;rw[←hj]at J ⊢;exact⟨_,_,_,J,hQ⟩
   |ret=>
    simp[ZF]at hj;rw[←hj]at J ⊢;exact wpIn_ret ⟨_,_,_,J,hQ⟩
   |exit i=>
    simp[ZF]at hj;rw[←hj]at J ⊢;exact wpIn_exit ⟨_,_,_,J,hQ⟩
   |_=>
     cases hj
  rcases hee with rfl|rfl
  ·exact key
  exact key
def Bl.rangeFunc {J:Bh Tmp}{c:Code}{L:FuncId}(q:AA Am)(M:σ.get g=.fn (.func L) [] q)(O:P.funcs[L]? =some fn)(U:IC P L=true)(Y:fn.body=some c)(I:fn.results= #[])(h:∀tm,Bl P c ⟨(.mp σ.ents.length::q)++List.replicate (fn.ntmps-(q.length+1)) .junk,σ.ents++[.loop tm σ.slots (J,assign,body) .ready none],σ.ents.length+1⟩ λe s=>(e=.normal\/e=.ret)/\
  ∃sl j x,s.ents[σ.ents.length]? =some (.loop tm sl (J,assign,body) j.1 j.2)/\ZF x=some j/\Q x ⟨σ.slots,s.ents.set σ.ents.length .dead,σ.base⟩):Bl P (.rangeFunc g J assign body) σ Q:=
 Bl.aGy q (λ_ _ _ _ _ Z=>M▸Z.get g) O U Y I h
def Bl.ajN {I:Bh Tmp}{c:Code}{J:FuncId}(cs:AA D)(L:σ.get g=.d (.fn (.func J) [] cs))(M:P.funcs[J]? =some fn)(O:IC P J=true)(U:fn.body=some c)(q:fn.results= #[])(h:∀tm,Bl P c ⟨(.mp σ.ents.length::cs.map .d)++List.replicate (fn.ntmps-((cs.map Am.d).length+1)) .junk,σ.ents++[.loop tm σ.slots (I,assign,body) .ready none],σ.ents.length+1⟩ λe s=>(e=.normal\/e=.ret)/\
  ∃sl j x,s.ents[σ.ents.length]? =some (.loop tm sl (I,assign,body) j.1 j.2)/\ZF x=some j/\Q x ⟨σ.slots,s.ents.set σ.ents.length .dead,σ.base⟩):Bl P (.rangeFunc g I assign body) σ Q:=
 Bl.aGy (cs.map .d) (λ_ _ _ _ _ Y=>R.dfn (L▸Y.get g)) M O U q h
def amy :Code->Nat->Code
 | .seq a b,i=>if i=0 then a else b
 | .cond _ a b,i=>if i=0 then a else b
 | .block _ a,_=>a
 | .loop a,_=>a
 | .scope a,_=>a
 | .rangeFunc _ _ a b,i=>if i=0 then a else b
 |c,_=>c
def yQ (c:AB Code)(p:AA Nat):Bh Tmp×Code×Code:=
 match p.foldl amy (c.getD .skip)with
 | .rangeFunc _ j a b=>(j,a,b)
 |_=>(#[],.skip,.skip)
section
variable {K V:Type} [BEq K]
def DT :AA (K×V)->K->AB V
 | [],_=>none
 |p::l,k=>bif k==p.1 then some p.2 else DT l k
def FU :AA (K×V)->K->V->AA (K×V)
 | [],k,v=>[(k,v)]
 |p::l,k,v=>bif k==p.1 then(k,v)::l else p::FU l k v
def CY (ek:K->BJ)(ev:V->D)(p:K×V):BJ×D:=(ek p.1,ev p.2)
structure KeyTy (P:Program) (t:TypeId) (ek:K->Value):Prop where
 same:∃kd,P.underlying t=some kd/\∀a b,Instr.sameNow kd (ek a) (ek b)=some (a==b)
 check:∀e a w,(Instr.checkKey e 10000 t (ek a)).run P w=.ok () w
 eq:∀a b:K,(a==b)=true->a=b
 bits:∀a,Instr.sameBits 10000 (ek a) (ek a)=true
def apE {k:IntKind}(h:P.underlying t=some (.int k)):KeyTy P t (λn:Int=>Value.int k n):=by
 refine⟨⟨_,h,λa b=>by simp[Instr.sameNow]⟩,λe a w=>?_,λa b h=>LZ,λa=>?_⟩
 ·have :∀n,(Instr.checkKey e (n+1) t (.int k a)).run P w=.ok () w:=λn=>by simp[Instr.checkKey,underlying,h]
  exact this 9999
 unfold Instr.sameBits;simp
def a9D {ek:K->BJ}{kd:TypeDesc}(hs:∀a b,Instr.sameNow kd (ek a) (ek b)=some (a==b))(k:K)(v:V):∀(m:AA (K×V)) (l:AA MapEntry) (i:Nat),l.map (·.key)=m.map (λp=>ek p.1)->
 (Instr.findNow kd (ek k) l i=some none/\DT m k=none/\FU m k v=m++[(k,v)])\/
 ∃j e p,Instr.findNow kd (ek k) l i=some (some (i+j,e.val))/\l[j]? =some e/\m[j]? =some p/\DT m k=some p.2/\(k==p.1)=true/\FU m k v=m.set j (k,v)
 | [],[],_,_=>.inl ⟨rfl,rfl,rfl⟩
 | [],_::_,_,h=>Il
 |_::_,[],_,h=>Il
 |p::m,e::l,i,h=>by
  simp only[JE,a6H]at h;cases q:(k==p.1)with
  |true=>
   refine .inr ⟨0,e,p,?_,rfl,rfl,?_,q,?_⟩
   ·simp[Instr.findNow,h.1,hs,q]
   ·simp[DT,q]
   simp[FU,q]
  |false=>
   rcases a9D hs k v m l (i+1) h.2 with⟨h1,h2,h3⟩|⟨j,e',I,h1,h2,h3,J,L,M⟩
   ·refine .inl ⟨?_,?_,?_⟩
    ·simp[Instr.findNow,h.1,hs,q,h1]
    ·simp[DT,q,h2]
    simp[FU,q,h3]
   refine .inr ⟨j+1,e',I,?_,LC,Wy,?_,L,?_⟩
   ·simp[Instr.findNow,h.1,hs,q,h1];omega
   ·simp[DT,q,J]
   simp[FU,q,M]
end
variable {clock:Nat}{ms:Bh MapEntry}
section
variable {es:AA (BJ×D)}
def KR.push (h:KR ok w es ms clock){k v:BJ}{x:D}(L:ET ok w x v):KR ok w (es++[(k,x)]) (ms.push { key:=k,val:=v,born:=clock }) (clock+1):=by
 have q:∀(i:Nat) (m:MapEntry),(ms.push { key:=k,val:=v,born:=clock })[i]? =some m->ms[i]? =some m\/(i=ms.size/\m={ key:=k,val:=v,born:=clock }):=λi m hm=>by
  rw[pW]at hm;split at hm
  ·rename_i e;exact .inr ⟨e,(E9 hm).symm⟩
  exact .inl hm
 refine⟨by simp[h.len],λi e m I hm=>?_,λi j m n J hm M=>?_⟩
 ·rcases q i m hm with h1|⟨rfl,rfl⟩
  ·have hi:i<es.length:=aIm
   rw[KZ hi]at I;obtain⟨O,U,Y⟩:=h.ent i e m I h1;exact⟨O,U,Nat.lt_succ_of_lt Y⟩
  rw[h.len]at I;simp at I;subst I;exact⟨rfl,L,Xe _⟩
 rcases q i m hm with h1|⟨rfl,rfl⟩<;>rcases q j n M with h2|⟨rfl,rfl⟩
 ·exact h.inc i j m n J h1 h2
 ·have hi:i<es.length:=aIm
  exact(h.ent i es[i] m XA h1).2.2
 ·have :=(Ic.1 h2).1;omega
 omega
def KR.modify (h:KR ok w es ms clock){k v:BJ}{x:D}(Z:ET ok w x v)(j:Nat):KR ok w (es.set j (k,x)) (ms.modify j λe=>{ e with key:=k,val:=v }) clock:=by
 have I:∀(i:Nat) (m:MapEntry),(ms.modify j λe=>{ e with key:=k,val:=v })[i]? =some m->∃J,ms[i]? =some J/\m.born=J.born/\(i≠j->m=J)/\(i=j->m.key=k/\m.val=v):=λi m hm=>by
  grind
 refine⟨by simp[h.len],λi e m L hm=>?_,λi O m n M hm hn=>?_⟩
 ·obtain⟨J,h1,h2,h3,U⟩:=I i m hm;have hi:i<es.length:=aIm
  obtain⟨q1,q2,q3⟩:=h.ent i es[i] J XA h1;by_cases Y:i=j
  ·subst Y;simp[hi]at L;subst L;exact⟨(U rfl).1,by rw[(U rfl).2];exact Z,by rw[h2];exact q3⟩
  rw[er (λq=>Y q.symm)]at L
  grind
 obtain⟨J,h1,h2,_⟩:=I i m hm;obtain⟨n0,g1,g2,_⟩:=I O n hn;rw[h2,g2];exact h.inc i O J n0 M h1 g1
def KR.mono {ok':Nat->Prop}{w':BU}(h:KR ok w es ms clock)(q:FH ok w ok' w'):KR ok' w' es ms clock:=⟨h.len,λi e m j hm=>⟨(h.ent i e m j hm).1,(h.ent i e m j hm).2.1.mono q,(h.ent i e m j hm).2.2⟩,h.inc⟩
def KR.keys (h:KR ok w es ms clock):ms.toList.map (·.key)=es.map (·.1):=by
 apply jB
 ·simp[h.len]
 intro i h1 h2;simp at h1 h2;have :=(h.ent i es[i] ms[i] (by simp[h2]) lD).1;simpa using this
end
def Zo :BJ->D
 | .agg vs=>.agg (vs.toList.map Q7)
 |v=>Q7 v
def aVr (h:z.cells.all (·.oneCell')=true):ET ok w (Zo z) z:=by
 unfold Zo;split
 ·rename_i vs;refine .agg _ vs Bf (λi hi=>?_) (λi hi=>?_)
  ·simp at hi;have e:(vs.toList.map Q7).getD i EN=Q7 vs[i]:=OQ
   rw[e];exact yM ((Y5.1 h) _ (by simp[Value.cells]))
  simp at hi;have e:(vs.toList.map Q7).getD i EN=Q7 vs[i]:=OQ
  have j:vs.getD i undef=vs[i]:=by simp[Array.getD,hi]
  rw[e,j];exact lM _
 exact lM _
variable {L M:Bq}{es0:AA (BJ×D)}{j:Nat}{kd:IntKind}{v:BJ}{x y:Bz}
section
variable {P:Ch} {o:Oper} {es:AA Bc} {K V:Type} [BEq K]
def TI (q:R ok w H (.mp k) v)(I:H[k]? =some h):v=h.v:=by
 cases q with
 |mp _ _ s hl j=>
  rw[I]at j;cases j;rfl
def ah7 (I:o.op=.makeMap t none:=by exact rfl):CG P o [] es (.mp es.length) (es++[.map []]):=
 .eff λC ok H a w hm M=>by
  have q:Fh ok (w.alloc (.map #[] 0)) (H++[⟨.map (some w.heap.size),0⟩]) ⟨.map (some w.heap.size),0⟩ (.map []):=
   ⟨w.heap.size, #[],0,rfl,(aGs w _).1,⟨rfl,λi e m J=>by simp at J,λi j m n _ hm=>by simp at hm⟩⟩
  obtain⟨h2,h3⟩:=hm.push (.map #[] 0) ⟨.map (some w.heap.size),0⟩ _ (λb q=>aJU) q;refine⟨.map (some w.heap.size),_,ok,_,.inl ?_,h3,IE _ _,h2,.mp _ _ 0 rfl Q8⟩;have L:(newObj (.map #[] 0)).run P w=.ok w.heap.size (w.alloc (.map #[] 0)):=rfl;simp[execOp,I,Instr.makeMap,L]
def aRy {k e:Bq}{n:Int}(J:P.underlying t=some (.map k e))(L:o.op=.makeMap t (some x):=by exact rfl):CG P o [(x,.d (.lit (.int kd n)))] es (.mp es.length) (es++[.map []]):=
 .eff λC ok H a w hm M=>by
  have q:Fh ok (w.alloc (.map #[] 0)) (H++[⟨.map (some w.heap.size),0⟩]) ⟨.map (some w.heap.size),0⟩ (.map []):=
   ⟨w.heap.size, #[],0,rfl,(aGs w _).1,⟨rfl,λi e m O=>yH,λi j m n _ hm=>by simp at hm⟩⟩
  obtain⟨h2,h3⟩:=hm.push (.map #[] 0) ⟨.map (some w.heap.size),0⟩ _ (λb q=>aJU) q;have I:=(MG M).lit;simp only at I;refine⟨.map (some w.heap.size),_,ok,_,.inl ?_,h3,IE _ _,h2,.mp _ _ 0 rfl Q8⟩;have U:(newObj (.map #[] 0)).run P w=.ok w.heap.size (w.alloc (.map #[] 0)):=rfl;simp[execOp,L,Instr.makeMap,U,I,asInt,asIntOf,underlying,J]
def a8j {U Y:Bq}{ek:K->BJ}(ev:V->D){J:V}{m:AA (K×V)}{key:K}(Z:P.underlying t=some (.map U Y))(hk:KeyTy P U ek)(hz:(P.info? Y).bind (·.zero)=some z)(hzv:Zo z=ev J)(L:z.cells.all (·.oneCell')=true)(hb:w.heap[b]? =some (.map ms clock))(hM:KR ok w (m.map (CY ek ev)) ms clock)(c:Ac):
 ∃v,(Instr.lookup t (.map (some b)) (ek key) c).run P w=.ok (if c then .tuple #[v,.bool (DT m key).isSome]else v) w/\ET ok w (ev ((DT m key).getD J)) v:=by
 obtain⟨kd,q,hs⟩:=hk.same;have M:ms.toList.map (·.key)=m.map (λp=>ek p.1):=by rw[hM.keys];simp[CY,aEM]
 have I:=hk.check;obtain⟨i,hi,O⟩:=nT.1 hz;rcases a9D (i:=0) hs key J m ms.toList M with⟨h1,h2,_⟩|⟨j,e,p,h1,h2,h3,h4,_⟩
 ·refine⟨z,?_,?_⟩
  ·rw[h2];simp[Instr.lookup,underlying,Z,Qv hb,I,Instr.findKey,q,h1,zeroValue,typeInfo,hi,O]
  rw[h2];have :=aVr (ok:=ok) (w:=w) L
  grind
 refine⟨e.val,?_,?_⟩
 ·rw[h4];simp[Instr.lookup,underlying,Z,Qv hb,I,Instr.findKey,q,h1]
 rw[h4];have h5:(m.map (CY ek ev))[j]? =some (CY ek ev p):=by rw[KJ,h3];rfl
 exact(hM.ent j _ e h5 LC).2.1
def eL {ek:K->BJ}(ev:V->D)(O:V){m:AA (K×V)}{key:K}(ht:P.underlying t=some (.map L M))(hk:KeyTy P L ek)(hz:(P.info? M).bind (·.zero)=some z)(q:Zo z=ev O)(I:z.cells.all (·.oneCell')=true)(he:es[k]? =some (.map (m.map (CY ek ev))))(ho:o.op=.lookup t x y false:=by exact rfl):CG P o [(x,.mp k),(y,.d (.lit (ek key)))] es (.d (ev ((DT m key).getD O))) es:=
 .pure λok H a w j hl U=>by
  obtain⟨hd,hh,J⟩:=Gy j hl he;obtain⟨b,ms,clock,h1,h2,h3⟩:=J;have Y:=TI (F9 U).1 hh;have Z:=(F9 U).2.lit;simp only at Y Z;obtain⟨v,hr,hv⟩:=a8j (key:=key) ev ht hk hz q I h2 h3 false;refine⟨v,?_,.d _ _ hv⟩;simp[execOp,ho,Y,Z,h1,hr]
def aBO {ek:K->BJ}(ev:V->D)(O:V){m:AA (K×V)}{key:K}(ht:P.underlying t=some (.map L M))(hk:KeyTy P L ek)(hz:(P.info? M).bind (·.zero)=some z)(q:Zo z=ev O)(I:z.cells.all (·.oneCell')=true)(he:es[k]? =some (.map (m.map (CY ek ev))))(ho:o.op=.lookup t x y true:=by exact rfl):CG P o [(x,.mp k),(y,.d (.lit (ek key)))] es (.eu [.d (ev ((DT m key).getD O)),.d (EH (DT m key).isSome)]) es:=
 .pure λok H a w j hl U=>by
  obtain⟨hd,hh,J⟩:=Gy j hl he;obtain⟨b,ms,clock,h1,h2,h3⟩:=J;have Y:=TI (F9 U).1 hh;have Z:=(F9 U).2.lit;simp only at Y Z;obtain⟨v,hr,hv⟩:=a8j (key:=key) ev ht hk hz q I h2 h3 true;refine⟨.tuple #[v,.bool (DT m key).isSome],?_,.eu _ _ rfl λi hi=>?_⟩
  ·simp[execOp,ho,Y,Z,h1,hr]
  match i,hi with
  |0,_=>exact .d _ _ hv
  |1,_=>exact .d _ _ (.lit _)
def a0W (hm:E8 C ok H es w){I:AA (BJ×D)}{q:Bh MapEntry}{hd:CB}(M:es[k]? =some (.map es0))(O:H[k]? =some hd)(J:hd.v=.map (some b))(L:w.heap[b]? =some (.map ms clock))(U:KR ok w I q j):(setObj b (.map q j)).run P w=.ok () (w.putObj b (.map q j))/\E8 C ok H (es.set k (.map I)) (w.putObj b (.map q j))/\FH ok w ok (w.putObj b (.map q j)):=by
 refine⟨by simp[setObj,Sem.run,L,World.putObj],hm.ao9 M rfl O a0x λY=>⟨b,q,j,J,Xr (Ic.1 L).1,U.mono Y⟩⟩
def lT {kt vt:Bq}{u:Bz}{ek:K->BJ}(ev:V->D){m:AA (K×V)}{key:K}{val:V}(ht:P.underlying t=some (.map kt vt))(L:KeyTy P kt ek)(M:es[k]? =some (.map (m.map (CY ek ev))))(ho:o.op=.mapUpdate t x y u:=by exact rfl):
 CG P o [(x,.mp k),(y,.d (.lit (ek key))),(u,.d (ev val))] es .junk (es.set k (.map ((FU m key val).map (CY ek ev)))):=
 .eff λC ok H a w hm O=>by
  obtain⟨hd,U,Y⟩:=Gy hm.ent hm.hlen M;obtain⟨b,ms,clock,h1,h2,h3⟩:=Y;have Z:=TI (O (x,.mp k) Bf) U;have hy:=(O (y,.d (.lit (ek key))) Bf).lit;have hu:ET ok w (ev val) (a.eval u):=by have :=O (u,.d (ev val)) Bf;cases this with |d _ _ h=>exact h
  simp only at Z hy;obtain⟨kd,q,hs⟩:=L.same;have hks:ms.toList.map (·.key)=m.map (λp=>ek p.1):=a8a
  have I:=L.check;rcases a9D (i:=0) hs key val m ms.toList hks with⟨q1,_,q3⟩|⟨j,e,p,q1,q2,q3,_,q5,q6⟩
  ·have hM:=h3.push (k:=ek key) hu;obtain⟨r1,r2,r3⟩:=a0W (P:=P) hm M U h1 h2 hM;refine⟨undef,_,ok,H,.inr ⟨rfl,?_⟩,r3,.refl _,?_,.junk _⟩
   ·simp[execOp,ho,Z,hy,h1,Instr.mapUpdate,underlying,ht,Qv h2,I,Instr.findKey,q,q1,r1]
   rw[q3,Jh];exact r2
  have hM:=h3.modify (k:=ek key) hu j;obtain⟨r1,r2,r3⟩:=a0W (P:=P) hm M U h1 h2 hM
  have J:e.key=ek key:=by
   have h5:(m.map (CY ek ev))[j]? =some (CY ek ev p):=by rw[KJ,q3];rfl
   rw[(h3.ent j _ e h5 nM).1,L.eq _ _ q5];rfl
  have hst:∀w,(Instr.keyThatStays (ek key) (ek key)).run P w=.ok (ek key) w:=λw=>by simp[Instr.keyThatStays,L.bits]
  have hms:ms[j]? =some e:=nM
  refine⟨undef,_,ok,H,.inr ⟨rfl,?_⟩,r3,.refl _,?_,.junk _⟩
  ·simp[execOp,ho,Z,hy,h1,Instr.mapUpdate,underlying,ht,Qv h2,I,Instr.findKey,q,q1,hms,J,hst,r1]
  rw[q6,aA9];exact r2
def abU {O:Bq}(U:P.underlying t=some (.map M O))(q:es[k]? =some (.map es0))(Y:o.op=.call { callee:=.builtin .clear,args:= #[x],argTypes:= #[t] }:=by exact rfl):
 CG P o [(x,.mp k)] es .junk (es.set k (.map [])):=
 .eff λC ok H a w hm Z=>by
  obtain⟨hd,J,I⟩:=Gy hm.ent hm.hlen q;obtain⟨b,ms,clock,h1,h2,h3⟩:=I;have L:=TI (Z (x,.mp k) Bf) J;simp only at L;have hM:KR ok w [] #[] clock:=⟨rfl,λi e m q=>by simp at q,λi j m n _ hm=>by simp at hm⟩
  obtain⟨r1,r2,r3⟩:=a0W (P:=P) hm q J h1 h2 hM;refine⟨.tuple #[],_,ok,H,.inl ?_,r3,.refl _,r2,.junk _⟩;simp[execOp,Y,resolve,invoke,builtin,Builtin.clear_,L,h1,underlying,U,Qv h2,r1]
def aW9 {J:Bq}(hl:es0.length=n)(M:P.underlying t=some (.map J L))(O:es[k]? =some (.map es0))(U:o.op=.call { callee:=.builtin .len,args:= #[x],argTypes:= #[t] }:=by exact rfl):
 CG P o [(x,.mp k)] es (.d (Ah n)) es:=
 .pure λok H a w j hlen Y=>by
  obtain⟨hd,Z,q⟩:=Gy j hlen O;obtain⟨b,ms,clock,h1,h2,h3⟩:=q;have I:=TI (Y (x,.mp k) Bf) Z;simp only at I;refine⟨goInt es0.length,?_,by rw[hl];exact .d _ _ (.lit _)⟩;simp[execOp,U,resolve,invoke,builtin,Builtin.len_,I,h1,underlying,M,Qv h2,h3.len]
end
variable {vs:AA BJ}
def uJ {xs ys:AA Am}{us:AA BJ}(h:Fq ok w H xs vs)(k:Fq ok w H ys us):Fq ok w H (xs++ys) (vs++us):=by
 refine⟨by rw[Em,Em,h.1,k.1],λi hi=>?_⟩;by_cases j:i<xs.length
 ·have q:(xs++ys).getD i .junk=xs.getD i .junk:=by simp[List.getD,KZ j]
  have I:(vs++us).getD i undef=vs.getD i undef:=by simp[List.getD,KZ (by rw[h.1];exact j:i<vs.length)]
  rw[q,I];exact h.2 i j
 have J:i-xs.length<ys.length:=aII
 have q:(xs++ys).getD i .junk=ys.getD (i-xs.length) .junk:=by simp[List.getD,PL (Yo j)]
 have I:(vs++us).getD i undef=us.getD (i-xs.length) undef:=by simp[List.getD,PL (by rw[h.1];omega:vs.length<=i),h.1]
 rw[q,I];exact k.2 _ J
variable {size:Nat}{v':BJ}
def E8.aJ3 (hm:E8 C ok H es w){e:Bc}(q:w.grownBy w' none)(I:∀g,ED v'=some g->w.heap.size<=g/\g<w'.heap.size)(he:FH ok w ok w'->Fh ok w' (H++[⟨v',size⟩]) ⟨v',size⟩ e):E8 C ok (H++[⟨v',size⟩]) (es++[e]) w'/\FH ok w ok w':=by
 have g0:FH ok w ok w':=λb I=>⟨I,q.block b (hm.kX b I) Bf⟩
 refine hm.change (λ_=>False) q.os q.tape q.output q.size (λb I _=>q.block b I Bf) (λ_ h=>h.elim) (λ_ h=>h) (λ_ h=>.inl h) (IE _ _) fC ?_;intro k e' h' M J;rcases Xc M with h1|⟨h1,h2⟩
 ·left;refine⟨h1,?_,λ_ _ _ h=>h⟩;have hk:k<H.length:=aGG
  grind
 subst h2;have hk:k=H.length:=aFL
 subst hk;simp at J;subst J;refine .inr ⟨he g0,λ_ b O=>?_⟩;obtain⟨q1,q2⟩:=I b O;refine⟨λh3=>absurd (hm.kX _ h3) AL,q2,.inl (FQ hm.fr.size q1),λk' U Y hne Z hl j L=>?_⟩;rcases Xc Z with h3|⟨h3,_⟩
 ·have hk2:k'<H.length:=by rw[hm.hlen];exact(H6.1 h3).1
  rw[KZ hk2]at j;exact absurd (hm.blk k' U Y _ h3 hl j L).2.1 AL
 grind
variable {I:AA BJ}{ad:AB Addr}{agg:Ac}{base:Nat}{h:Int}{l m r:AA α}{ty:Bq}{ys:AA D}{z:Bz}
def CG.thaw {ns:AA (Bz×Am)}{k e s:Nat}{xs:AA D}(h:CG P o ns es (.aQ k) es')(L:es'[k]? =some (.arr e s xs)):CG P o ns es (.d (.sl xs)) (es'.set k .dead):=by
 intro C ok H a w Q hm M;refine Oper.wp_mono ?_ (h C ok H a w Q hm M);rintro a' w' ⟨v,ok',H',rfl,O,q,j,U⟩
 have I:Holds (FI.now w' ok' es' H') ok' H' ⟨[.aQ k],es',H'.length⟩ { tmps:= #[v],defers:=[] } w':=⟨j.inner,rfl,.nil _ _ _,rfl,λt Y=>by
  match t,Y with
  |0,_=>exact U⟩
 obtain⟨J,h2⟩:=IW k L _ _ _ _ _ I;obtain⟨Z,_,m1⟩:=j.outer h2.mem;refine⟨v,J,H',rfl,O.trans Z,q,m1,?_⟩;have :=h2.slot 0 (by simp[BP.thaw]);simpa[BP.thaw,Am.thaw]using this
def ET.aN4 (h:ET ok w (.sl xs) (.slice ad n cap))(L:xs.length<=j):ET ok w (.sl xs) (.slice ad n j):=by
 cases h with
 |sl0 _ _=>exact .sl0 _ _
 |sl _ b off _ size J I hs M O q=>exact .sl xs b off j size L I hs M O q
def aQC {e:Bq}{m:Nat}(j:P.underlying t=some (.slice e))(q:Ep P e agg size)(h1:m<=cap):
 (Instr.slice t (.slice ad n cap) none (some (.int .i64 m)) (some (.int .i64 m))).run P w=.ok (.slice (if m=0 then ad else ad.map (·.add 0)) m m) w:=by
 have I:(underlying t).run P w=.ok (.slice e) w:=aIZ
 have J:((m:Int)<=(cap:Int)):=Int.ofNat_le.2 h1;simp[Instr.slice,I,Instr.sliceBounds,Instr.sliceBound,asIntOf,J,h1,q.size]
def aG0 {e:Bq}(enc:α->D){xs:AA α}(hr:Gx xs 0 h=some r)(ht:P.underlying t=some (.slice e))(hT:Ep P e agg size)(hc:∀a,(enc a).cells.length=size)(ho:o.op=.slice t x none (some y) (some z):=by exact rfl):CG P o [(x,.d (BR enc xs)),(y,.d (Ah h)),(z,.d (Ah h))] es (.clip (r.map enc)) es:=
 .pure λok H a w _ _ U=>by
  obtain⟨⟨_,h1,h2⟩,rfl⟩:=aUO hr;have Y:=U (x,.d (BR enc xs)) Bf;have O:=(U (y,.d (Ah h)) Bf).lit;have hz:=(U (z,.d (Ah h)) Bf).lit;simp only at Y O hz;generalize hv:a.eval x=v at Y;have J:ET ok w (.sl (xs.map enc)) v:=by cases Y with |d _ _ h=>exact h
  have L:∃ad cap,v=.slice ad (xs.map enc).length cap/\(xs.map enc).length<=cap:=by
   generalize hys:xs.map enc=ys at J;cases J with
   |sl0 ad cap=>
    grind
   |sl _ b off cap size q=>
    grind
  obtain⟨ad,cap,rfl,q⟩:=L
  have hlen:(List.map enc ((xs.drop 0).take (h.toNat-0))).length=h.toNat:=by
   grind
  have I:=aQC (P:=P) (n:=xs.length) (ad:=ad) (w:=w) ht hT (m:=h.toNat) (cap:=cap) (by rw[DK]at q;omega);have Z:((h.toNat:Nat):Int)=h:=AL
  rw[Z]at I;refine⟨.slice (if h.toNat=0 then ad else ad.map (·.add 0)) h.toNat h.toNat,?_,?_⟩
  ·rw[DK]at hv;simp only[execOp,ho,Option.map_none,Jp,hv,O,hz,Instr.sliceAt];have hu:(underlying t).run P w=.ok (.slice e) w:=a0c
   simp only[GL,OnA,Hg,hu,I,GY]
  have hD:ET ok w (.sl (List.map enc ((xs.drop 0).take (h.toNat-0)))) (.slice (if h.toNat=0 then ad else ad.map (·.add 0)) (List.map enc ((xs.drop 0).take (h.toNat-0))).length (List.map enc ((xs.drop 0).take (h.toNat-0))).length):=by
   by_cases M:h.toNat=0
   ·have e0:List.map enc ((xs.drop 0).take (h.toNat-0))=[]:=I4 (by rw[hlen,M]);rw[e0];exact .sl0 _ _
   have j:=aRg (l:=0) (h:=h.toNat) J (size:=size) (λy O=>by obtain⟨b,_,rfl⟩:=GH.1 O;exact hc b) (F6 _) Eh;have hc0:cap≠0:=by rw[DK]at q;omega
   rw[EC hc0]at j;rw[EC M,hlen];rw[←jM,←bZ]at j;simp only[aBW,Nat.sub_zero]at j ⊢;exact j.aN4 (by rw[DK,HY,pU];omega)
  have :=R.clip (H:=H) _ _ hD
  grind
def aLm {e e':Bq}(hh:h=(xs.length:Int))(hk:es[k]? =some (.arr e' s xs))(U:P.underlying t=some (.slice e))(hT:Ep P e agg size)(ho:o.op=.slice t x none (some y) (some z):=by exact rfl):CG P o [(x,.aQ k),(y,.d (Ah h)),(z,.d (Ah h))] es (.yh k) es:=
 .pure λok H a w I hl L=>by
  obtain⟨hd,J,M⟩:=Gy I hl hk;have O:=P5 (L (x,.aQ k) Bf) J;have Y:=(L (y,.d (Ah h)) Bf).lit;have Z:=(L (z,.d (Ah h)) Bf).lit;simp only at O Y Z;obtain⟨_,_,Dl,⟨_,j⟩,_⟩:=M;obtain⟨v,CS⟩:=hd;simp only at j O;subst hh
  have key:∃ad cap,v=.slice ad xs.length cap/\xs.length<=cap/\ad.map (·.add 0)=ad:=by
   rcases j with⟨rfl,h1⟩|⟨g,cap,_,rfl,_,_,h1,_⟩
   ·grind
   exact⟨_,cap,rfl,h1,by simp[Addr.add]⟩
  obtain⟨ad,cap,rfl,h1,h2⟩:=key;have q:=aQC (P:=P) (n:=xs.length) (ad:=ad) (w:=w) U hT (m:=xs.length) (cap:=cap) h1;have hi:(if xs.length=0 then ad else ad.map (·.add 0))=ad:=by split<;>simp[h2]
  rw[hi]at q;refine⟨.slice ad xs.length xs.length,?_,.yh k ad _ cap CS J⟩;simp only[execOp,ho,Option.map_none,Jp,O,Y,Z,Instr.sliceAt];have hu:(underlying t).run P w=.ok (.slice e) w:=by simp[underlying,U]
  simp only[GL,OnA,Hg,hu,q,GY]
def acR (hm:E8 C ok H es w){e:Bq}(hE:GX P t e size q)(hk:es[k]? =some (.arr e size xs)){x:BJ}(hv:R ok w H (.yh k) v)(O:Wj w x ys.length size I)(L:Fq ok w H (flat ys) I)(hys:∀y∈ys,y.cells.length=size)(hb:(xs.length+ys.length)*q<=140737488355328)(hn:xs.length+ys.length<=maxLen):
 ∃v' w' H',(Builtin.append_ #[t,t] ty #[v,x]).run P w=.ok v' w'/\FH ok w ok w'/\Names H H'/\E8 C ok H' (es.set k .dead++[.arr e size (xs++ys)]) w'/\R ok w' H' (.aQ es.length) v':=by
 obtain⟨h,hh,hok⟩:=Gy hm.ent hm.hlen hk;obtain⟨h1,h2,Dl,j,hrs⟩:=hok
 have key:lF w e size v xs.length Dl/\ED v=ED h.v:=by
  cases hv with
  |yh _ ad n cap s U=>
   rw[hh]at U;obtain rfl:=E9 U;rcases j.2 with⟨Y,q2⟩|⟨g,cap',cur,Y,q2,q3,q4,q5,q6,q7⟩
   ·simp only[oz]at Y;obtain⟨rfl,rfl,rfl⟩:=Y;exact⟨⟨j.1,.inl ⟨rfl,q2⟩⟩,rfl⟩
   simp only[oz]at Y;obtain⟨rfl,rfl,rfl⟩:=Y;exact⟨⟨j.1,.inr ⟨g,xs.length,cur,rfl,q2,q3,Eo _,FQ q4 q5,FQ (Ko _ q4) q6,q7⟩⟩,rfl⟩
 obtain⟨J,Z⟩:=key;obtain⟨v',w',hr,M,hg,hblk⟩:=aDQ (P:=P) (ty:=ty) hE J O hb hn
 obtain⟨h3,h4⟩:=hm.turn (h':=⟨v',size⟩) (e:=.arr e size (xs++ys)) hk rfl hh hg.os hg.tape hg.output hg.size (λc hc hne=>hg.block c hc (by rw[aRa J,Z];exact λe=>hne e.symm)) (λg hg'=>⟨a08 M hg',(hblk g hg').imp (λh=>Z▸h) id⟩) (λhgr=>by
  refine⟨rfl,λy hy=>?_,Dl++I,oI,?_⟩
  ·rcases KG.1 hy with h|h
   ·exact h2 y h
   exact hys y h
  have a1:=hrs.mono hgr (IE H [⟨v',size⟩]);have a2:=L.mono hgr (IE H [⟨v',size⟩]);rw[qM]
  exact uJ a1 a2)
 refine⟨v',w',_,hr,h4,IE _ _,h3,?_⟩;have U:(H++[(⟨v',size⟩:CB)])[es.length]? =some ⟨v',size⟩:=Q8
 rcases M.2 with⟨rfl,_⟩|⟨g',c',_,rfl,_⟩
 ·exact .aQ _ _ _ _ size U
 exact .aQ _ _ _ _ size U
def aQ1 {s:Bz}{e:Bq}(enc:α->D)(h:CZ j l m=some r)(hE:GX P t e size j)(Y:es[k]? =some (.arr e size (l.map enc)))(Z:∀a,(enc a).cells.length=size)(hb:0<j)(ho:o.op=.call { callee:=.builtin .append,args:= #[s,x],argTypes:= #[t,t] }:=by exact rfl):
 CG P o [(s,.yh k),(x,.d (BR enc m))] es (.aQ es.length) (es.set k .dead++[.arr e size (r.map enc)]):=by
 obtain⟨rfl,h2⟩:=l7 h;refine .eff λC ok H a w hm q=>?_;have h1:=(F9 q).1;have h3:=(F9 q).2;simp only at h1 h3;have L:ET ok w (.sl (m.map enc)) (a.eval x):=by cases h3 with |d _ _ h=>exact h
 have I:∀y∈m.map enc,y.cells.length=size:=λy hy=>by obtain⟨a,_,rfl⟩:=GH.1 hy;exact Z a
 obtain⟨O,J,M⟩:=jK H L I;obtain⟨v',w',H',hr,r1,r2,U,r4⟩:=acR (ty:=o.type) hm hE Y h1 J M I LC (by simpa using a0f hb h2);rw[←Jh]at U;refine⟨v',w',ok,H',.inl ?_,r1,r2,U,r4⟩;simp[execOp,ho,resolve,invoke,builtin,hr]
def aRC {e:Bq}(hE:GX P t e size q){x:BJ}(hv:R ok w H (.clip xs) v)(Z:∀y∈xs,y.cells.length=size)(J:Wj w x ys.length size I)(hpos:0<ys.length)(hb:(xs.length+ys.length)*q<=140737488355328)(hn:xs.length+ys.length<=maxLen):
 ∃j v' w',Fq ok w H (flat xs) j/\(Builtin.append_ #[t,t] ty #[v,x]).run P w=.ok v' w'/\w'.ownsRow w.heap.size e size v' (xs.length+ys.length) (j++I)/\w.grownBy w' none:=by
 obtain⟨i,z,hi,hz,hs,M,O⟩:=hE.info;cases hv with
 |clip _ ad hD=>
  obtain⟨j,ho,U⟩:=jK H hD Z;rcases J.at_ with⟨Y,c,rfl,L⟩|⟨c,rfl,h0⟩
  ·rcases ho.at_ with⟨ad2,c2,h1,h2⟩|⟨c2,h1,h2⟩
   ·simp only[oz]at h1;obtain⟨rfl,_,rfl⟩:=h1;obtain⟨v',w',r1,r2,r3⟩:=run_append_arg_grows (P:=P) w t ty e i z size q hE.und hi hz hs M O hE.pos ad2 xs.length xs.length j ho.len h2 Y ys.length c I J.len L AL hn hb;exact⟨j,v',w',U,r1,r2,r3⟩
   simp only[oz]at h1;obtain⟨rfl,_,_⟩:=h1;have hx:j=[]:=I4 (by rw[ho.len,h2];simp);subst hx;rw[h2]at hn hb ⊢;obtain⟨v',w',r1,r2,r3,_⟩:=run_append_own (P:=P) w w.heap.size t ty e i z size q hE.und hi hz hs M O hE.pos _ 0 [] (a9L w w.heap.size e size) Y ys.length c I J.len L J.one hn hb (Eo _);exact⟨[],v',w',U,r1,r2,r3⟩
  omega
def aPo {e:Nat}{j q:AA BJ}(h:w'.ownsRow base e size v' (xs.length+ys.length) (j++q))(h1:Fq ok w' H (flat xs) j)(h2:Fq ok w' H (flat ys) q)(I:∀y∈xs,y.cells.length=size)(J:∀y∈ys,y.cells.length=size):
 Fh ok w' H ⟨v',size⟩ (.arr e size (xs++ys)):=by
 refine⟨rfl,λy L=>?_,j++q,?_,?_⟩
 ·grind
 ·have :=lF.of h;simpa using this
 rw[qM];exact uJ h1 h2
def aQX {e:Nat}{Dl:AA BJ}(h:w'.ownsRow base e size v' n Dl):∀g,ED v'=some g->base<=g/\g<w'.heap.size:=by
 intro g j;rcases h.2 with⟨rfl,_⟩|⟨q,_,_,rfl,h1,h2,_⟩
 ·simp[ED]at j
 simp[ED]at j;subst j;exact⟨h1,(Ic.1 h2).1⟩
def aPX {s:Bz}{e:Bq}(enc:α->D)(h:CZ j l m=some r)(hE:GX P t e size j)(hc:∀a,(enc a).cells.length=size)(J:0<j)(L:o.op=.call { callee:=.builtin .append,args:= #[s,x],argTypes:= #[t,t] }:=by exact rfl):
 CG P o [(s,.clip (l.map enc)),(x,.d (BR enc m))] es (.d (BR enc r)) es:=by
 obtain⟨rfl,h2⟩:=l7 h;refine .eff λC ok H a w hm M=>?_;have h1:=(F9 M).1;have h3:=(F9 M).2;simp only at h1 h3;have h3':ET ok w (.sl (m.map enc)) (a.eval x):=by cases h3 with |d _ _ h=>exact h
 have O:∀y∈l.map enc,y.cells.length=size:=λy hy=>aXY
 have U:∀y∈m.map enc,y.cells.length=size:=λy hy=>aXY
 obtain⟨Y,q,hrs⟩:=jK H h3' U;by_cases Z:m=[]
 ·subst Z;obtain⟨i,z,hi,hz,hs,hby,hzs⟩:=hE.info;have I:Y=[]:=I4 (by rw[q.len];simp);subst I;generalize hv:a.eval s=v at h1;generalize hu:a.eval x=u at q;cases h1 with
  |clip _ ad hD=>
   refine⟨_,w,ok,H,.inl ?_,.refl _ _,.refl _,hm,.d _ _ (by rw[MH];exact hD)⟩;have hL:∀w:BU,((underlying t).run P w=.ok (.slice e) w):=λw=>aEQ
   rcases q.at_ with⟨ad',c,rfl,_⟩|⟨c,rfl,_⟩
   ·cases ad with
    |none=>simp[execOp,L,resolve,invoke,builtin,hv,hu,Builtin.append_,hL,sizeOf,typeInfo,hi,Builtin.lenOf,Builtin.firstCells,loadCells,loadCellsFrom]
    |some ad=>simp[execOp,L,resolve,invoke,builtin,hv,hu,Builtin.append_,hL,sizeOf,typeInfo,hi,Builtin.lenOf,Builtin.firstCells,loadCells,loadCellsFrom,storeCells]
   cases ad with
   |none=>simp[execOp,L,resolve,invoke,builtin,hv,hu,Builtin.append_,hL,sizeOf,typeInfo,hi,Builtin.lenOf,Builtin.firstCells]
   |some ad=>simp[execOp,L,resolve,invoke,builtin,hv,hu,Builtin.append_,hL,sizeOf,typeInfo,hi,Builtin.lenOf,Builtin.firstCells,storeCells]
 obtain⟨olds,v',w',r0,r1,r2,r3⟩:=aRC (P:=P) (ty:=o.type) hE h1 O q (by simpa using qW.2 Z) LC (by simpa using a0f J h2);have hblk:=aQX r2;obtain⟨m1,g1⟩:=hm.change (ok':=λb=>ok b\/ED v'=some b) (H':=H) (es':=es) (w':=w') (λ_=>False) r3.os r3.tape r3.output r3.size (λb J _=>r3.block b J Bf) (λ_ h=>h.elim) (λ_ h=>.inl h) (λb h=>h.imp id λh=>hblk b h) (.refl _) hm.hlen (λk e h he hh=>.inl ⟨he,hh,λ_ _ _ h=>h⟩);have g0:FH ok w ok w':=λb J=>⟨J,(g1 b J).2⟩
 have hE':=aPo r2 (r0.mono g0 (.refl _)) (hrs.mono g0 (.refl _)) O U;refine⟨v',w',_,H,.inl (by simp[execOp,L,resolve,invoke,builtin,r1]),g1,.refl _,m1,.d _ _ ?_⟩;have :=kV hE' (ok':=λb=>ok b\/ED v'=some b) (λ_ h=>.inl h) (λ_ h=>.inr h)
 rwa [←Jh]at this
def aeB {s:Bz}{e:Bq}(enc:α->D)(h:CZ j l m=some r)(M:m≠[])(hE:GX P t e size j)(hc:∀a,(enc a).cells.length=size)(hb:0<j)(ho:o.op=.call { callee:=.builtin .append,args:= #[s,x],argTypes:= #[t,t] }:=by exact rfl):
 CG P o [(s,.clip (l.map enc)),(x,.d (BR enc m))] es (.aQ es.length) (es++[.arr e size (r.map enc)]):=by
 obtain⟨rfl,h2⟩:=l7 h;refine .eff λC ok H a w hm q=>?_;have h1:=(F9 q).1;have h3:=(F9 q).2;simp only at h1 h3;have O:ET ok w (.sl (m.map enc)) (a.eval x):=by cases h3 with |d _ _ h=>exact h
 have I:∀y∈l.map enc,y.cells.length=size:=λy U=>by obtain⟨a,_,rfl⟩:=GH.1 U;exact hc a
 have J:∀y∈m.map enc,y.cells.length=size:=λy U=>by obtain⟨a,_,rfl⟩:=GH.1 U;exact hc a
 obtain⟨news,L,Y⟩:=jK H O J;obtain⟨olds,v',w',r0,r1,Z,r3⟩:=aRC (P:=P) (ty:=o.type) hE h1 I L (by simpa using qW.2 M) LC (by simpa using a0f hb h2)
 obtain⟨m1,g1⟩:=hm.aJ3 (v':=v') (size:=size) (e:=.arr e size ((l++m).map enc)) r3 (aQX Z) (λg0=>by
  have :=aPo Z (r0.mono g0 (IE H [⟨v',size⟩])) (Y.mono g0 (IE H [⟨v',size⟩])) I J
  rwa [←Jh]at this)
 refine⟨v',w',ok,_,.inl (by simp[execOp,ho,resolve,invoke,builtin,r1]),g1,IE _ _,m1,?_⟩;have hH:(H++[(⟨v',size⟩:CB)])[es.length]? =some ⟨v',size⟩:=Q8
 rcases Z.2 with⟨rfl,_⟩|⟨g',c',_,rfl,_⟩
 ·exact .aQ _ _ _ _ size hH
 exact .aQ _ _ _ _ size hH
def D.plain:D->Ac
 | .lit _=>true
 | .agg cs=>cs.all λc=>match c with | .lit _=>true|_=>false
 |_=>false
def aiq (hp:∀x∈xs,x.plain=true)(h:Fq ok w H (flat xs) vs):Fq ok' w' H' (flat xs) vs:=by
 refine⟨h.1,λi hi=>⟨(h.2 i hi).1,?_⟩⟩;have J:=(h.2 i hi).2;have hm:(flat xs).getD i .junk∈flat xs:=OQ
 generalize(flat xs).getD i .junk=y at J hm;unfold flat at hm;simp only[XQ,GH]at hm;obtain⟨x,L,c,I,rfl⟩:=hm;have j:=hp x L
 have q:∃u,c=.lit u:=by
  cases x with
  |lit u=>simp[D.cells]at I;exact⟨u,I⟩
  |agg cs=>
   simp only[D.cells]at I;simp only[D.plain,GK]at j;have :=j c I;cases c with
   |lit u=>exact⟨u,rfl⟩
   |_=>simp at this
  |_=>cases j
 obtain⟨u,rfl⟩:=q;rw[J.lit];exact .d _ _ (.lit u)
variable {fF:AA Am}{ops:Bh Bz}
def aPw {o:Oper}{f:FuncId}{e:Nat}(hr:EU P f fF [] (.aQ 0) [.arr e s xs])(hp:∀x∈xs,x.plain=true)(ha:jy es eY fF)(hl:ops.toList.length=eY.length){a:Act}(hm:E8 C ok H es w)(hn:∀n∈GR ops.toList eY,R ok w H n.2 (a.eval n.1)):
 Calls P f (ops.toList.map a.eval).toArray w λe' w'=>∃v,e'=.returned v/\w.grownBy w' none/\(∀g,ED v=some g->w.heap.size<=g/\g<w'.heap.size)/\Value.isSlice v=true/\∀O H2,Fh O w' H2 ⟨v,s⟩ (.arr e s xs):=by
 let J:Nat->Prop:=λb=>b<w.heap.size
 have hmc:E8 ⟨w,J,[],[]⟩ J [] [] w:=
  ⟨.refl _ _,λ_ h=>h,λ_ h=>.inl h,λ_ h=>h,.refl _,rfl,λk e h U _=>by simp at U,λk e h b U=>by simp at U,λk k' e e' h h' b U=>by simp at U⟩
 refine(hr J [] [] w _ hmc (by simp[hl,aIV ha]) (λi hi=>?_)).mono ?_
 ·obtain⟨op,x,ho',Y,q⟩:=aME hl ha i hi;have M:=hn _ Y
  have e1:(ops.toList.map a.eval).toArray.getD i undef=a.eval op:=by
   obtain⟨h1,h2⟩:=H6.1 ho';have h3:i<ops.size:=Y4
   have h4:ops[i]=op:=LC
   simp[Array.getD,h3,h4]
  rw[e1];simp only at M;generalize fF.getD i .junk=y at q;generalize a.eval op=u at M;cases x with
  |d x=>
   obtain rfl:=q;cases M with |d _ _ h=>exact .d _ _ (h.mono (λb I=>⟨hm.kX b I,rfl⟩))
  |aQ k=>
   obtain⟨e',s,xs,hk,rfl⟩:=q;obtain⟨h,hh,L⟩:=Gy hm.ent hm.hlen hk;obtain rfl:=P5 M hh;exact .d _ _ (kV L (λb I=>hm.kX b I) (λb I=>(hm.blk k _ h b hk rfl hh I).2.1))
  |_=>exact q.elim
 rintro e' w' ⟨v,ok',H',rfl,j,M⟩;have hg:w.grownBy w' none:=⟨j.fr.os,j.fr.tape,j.fr.output,j.fr.size,λb I _=>j.fr.block b I Bf⟩
 have hl':H'.length=1:=j.hlen
 match H',hl' with
 | [hd],_=>
   obtain rfl:=P5 M (h:=hd) rfl;have L:=j.ent 0 _ hd rfl rfl;have I:=λb I=>j.blk 0 _ hd b rfl rfl rfl I;obtain⟨q1,q2,Dl,q3,q4⟩:=L;obtain⟨v,CS⟩:=hd;simp only at q1 I q3;subst q1;refine⟨v,rfl,hg,λg hg'=>?_,?_,λO H2=>⟨rfl,q2,Dl,q3,aiq hp q4⟩⟩
   ·obtain⟨_,r2,Z⟩:=I g hg';rcases Z with Z|Z
    ·exact⟨Z,r2⟩
    simp at Z
   rcases q3.2 with⟨rfl,_⟩|⟨g',c',_,rfl,_⟩<;>rfl
variable {ats:Bh Bq}
def JY {f:FuncId}{e:Nat}(j:EU P f fF [] (.aQ 0) [.arr e s xs])(hp:∀x∈xs,x.plain=true)(q:IC P f=true)(ha:jy es eY fF)(hl:ops.toList.length=eY.length)(I:o.op=.call { callee:=.value (.func f),args:=ops,argTypes:=ats }:=by exact rfl):CG P o (GR ops.toList eY) es (.aQ es.length) (es++[.arr e s xs]):=by
 intro C ok H a w Q hm J;unfold Oper.wp;rw[Res I,Uu q,iF];have L:ops.map a.eval=(ops.toList.map a.eval).toArray:=a2p
 rw[L];refine(aPw (o:=o) j hp ha hl hm J).mono ?_;rintro e' w' ⟨v,rfl,M,O,hsl,hE⟩;obtain⟨U,Y⟩:=hm.aJ3 (v':=v) (size:=s) (e:=.arr e s xs) M O (λ_=>hE _ _);refine⟨v,ok,_,rfl,Y,IE _ _,U,?_⟩;have Z:(H++[(⟨v,s⟩:CB)])[es.length]? =some ⟨v,s⟩:=Q8
 cases v with
 |slice ad n c=>exact .aQ _ _ _ _ s Z
 |_=>cases hsl
def a81 {f:FuncId}{e:Nat}(I:EU P f fF [] (.aQ 0) [.arr e s xs])(hp:∀x∈xs,x.plain=true)(J:IC P f=true)(ha:jy es eY fF)(hl:ops.toList.length=eY.length)(L:o.op=.call { callee:=.value (.func f),args:=ops,argTypes:=ats }:=by exact rfl):CG P o (GR ops.toList eY) es (.d (.sl xs)) es:=by
 intro C ok H a w Q hm M;unfold Oper.wp;rw[Res L,Uu J,iF];have O:ops.map a.eval=(ops.toList.map a.eval).toArray:=a2p
 rw[O];refine(aPw (o:=o) I hp ha hl hm M).mono ?_;rintro e' w' ⟨v,rfl,j,U,hsl,hE⟩;obtain⟨Y,Z⟩:=hm.change (ok':=λb=>ok b\/ED v=some b) (H':=H) (es':=es) (w':=w') (λ_=>False) j.os j.tape j.output j.size (λb q _=>j.block b q Bf) (λ_ h=>h.elim) (λ_ h=>.inl h) (λb h=>h.imp id λh=>U b h) (.refl _) hm.hlen (λk e h he hh=>.inl ⟨he,hh,λ_ _ _ h=>h⟩);exact⟨v,_,H,rfl,Z,.refl _,Y,.d _ _ (kV (hE ok H) (λ_ h=>.inl h) (λ_ h=>.inr h))⟩
variable {F:Fence}
def aEu {Q:Exit->Act->BU->Prop}{a:Act}{c:Code}(h:c.wpIn F n P (Exit.noGoto Q) a w):(Code.scope c).wpIn F n P Q a w:=by
 intro b k cs M O U;have j:(lone (b.atR a (.code (.scope c)::k)) cs w).fenced P F:=fenced_calm O U rfl;have q:step P (lone (b.atR a (.code (.scope c)::k)) cs w)=.next (lone (b.atR a (.code c::.inScope c::k)) cs w):=step_lone_go aXO;obtain⟨e,J,L,I,harr⟩:=h b (.inScope c::k) cs M O U;cases e with
 |normal=>exact⟨.normal,J,L,I,.head j q (StepsIn.trans harr (.one (fenced_calm O U rfl) (step_lone_go aXO)))⟩
 |exit id=>
  have hx:exitTo id (.inScope c::k)=exitTo id k:=by simp[exitTo]
  exact⟨.exit id,J,L,I,λk' Y=>.head j q (harr.1 k' (by rw[hx];exact Y)),λZ Y=>let⟨k₁,h1,h2⟩:=harr.2 Z (by rw[hx];exact Y);⟨k₁,h1,.head j q h2⟩⟩
 |goto l=>exact I.elim
 |ret=>exact⟨_,J,L,I,.of_steps (.one j q) harr⟩
 |panic ch=>exact⟨_,J,L,I,.of_steps (.one j q) harr⟩
 |outgrown=>exact⟨_,J,L,I,.of_steps (.one j q) harr⟩
def aco (Q:Exit->BP->Prop):Exit->BP->Prop
 | .goto _,_=>False
 |e,σ=>Q e σ
def Bl.scope {c:Code}(h:Bl P c σ (aco Q)):Bl P (.scope c) σ Q:=⟨λro j C ok H a w q=>
 aEu (X4 (h.run ro (j.imp id λh=>h) C ok H a w q) (by
  rintro e a' w' ⟨ok',H',σ',h1,h2⟩;cases e with
  |goto l=>exact h2.elim
  |_=>exact⟨ok',H',σ',h1,h2⟩))⟩
def aOb (P:Ch)(f:FuncId)(args:AA Am)(u:BJ):Prop:=
 ∀(ok:Nat->Prop) (X:AA Nat) (H:AA CB) (w:BU) (j:Bh BJ),E8 ⟨w,ok,X,H⟩ ok H [] w->j.size=args.length->(∀i,i<args.length->R ok w H (args.getD i .junk) (j.getD i undef))->
  Calls P f j w λe w'=>∃ok' H',e=.panicked [{ v:=u,recovered:=false }]/\E8 ⟨w,ok,X,H⟩ ok' H' [] w'
variable {Rr:Type}
def Qm (P:Ch)(f:FuncId)(args:AA Am)(r:Except BJ Rr)(j:Rr->Am):Prop:=(∀x,r=.ok x->EU P f args [] (j x) [])/\∀u,r=.error u->aOb P f args u
def aaU (P:Ch)(fn:Func)(r:Except BJ Rr)(j:Rr->Am)(e:Exit)(σ:BP):Prop:=
 (∃x,r=.ok x/\gY P fn (j x) [] e σ)\/∃u,r=.error u/\e=uq u/\σ.base=0
def aRG {P:Ch}{fn:Func}{Rr:Ending->BU->Prop}{C:FI}{ch:AA PanicEntry}(I:∀b,C.ok0 b->b<C.w0.heap.size){H:AA CB}{σ:BP}(J:∀ok a w,Holds C ok H σ a w->Rr (.panicked ch) w){tmps:Bh BJ}:∀(Ds:AA Nat) {ok:Nat->Prop} {a:Act} {w:BU},Holds C ok H σ a w->(∀d∈Ds,ok d/\C.w0.heap.size<=d/\w.heap[d]? =some (.deferred (some [])))->Ds.Nodup->
  LeavesInM (Js none) 0 P fn tmps Rr (Ds.map λD=>{ target:=.collected D,args:= #[] }) (.panicking ch) w
 | [],ok,a,w,h,_,_=>J ok a w h
 |D::Ds,ok,a,w,h,hd,L=>by
  obtain⟨ok',h',j⟩:=h.take I (λd q=>hd d (JX _ q)) (hd D (Iu ..)) L;have h2:=aRG (P:=P) (fn:=fn) (tmps:=tmps) I J Ds h' j (RX.1 L).2;exact⟨Bf,.inl ⟨D,_,rfl,run_takeDeferred (hd D (Iu ..)).2.2,h2⟩⟩
def E8.none (hm:E8 C ok H es w)(q:C.H0=[]):E8 C ok [] [] w:=
 ⟨hm.fr,hm.AX,hm.AY,hm.kX,by rw[q];exact .refl _,rfl,λk e h j=>a2J,λk e h b j=>a2J,λk k' e e' h h' b j=>a2J⟩
def Qm.dK {f:FuncId}{c:Code}{args:AA Am}{r:Except BJ Rr}{q:Rr->Am}(U:P.funcs[f]? =some fn)(Y:fn.body=some c)(h:Bl P c (.enter args fn.ntmps []) (aaU P fn r q)):Qm P f args r q:=by
 refine⟨λx Z=>Dy U Y (h.mono λe σ hq=>?_),λu hu=>?_⟩
 ·rcases hq with⟨x',h1,h2⟩|⟨u,h1,_⟩
  ·rw[Z]at h1;cases h1;exact h2
  rw[Z]at h1;cases h1
 intro ok X H w j hm hs ha;have hH:H=[]:=I4 hm.hlen;refine(aAx (ro:=none) (n:=0)).1 (aFb U Y trivial (X4 (h.run none (.inl rfl) ⟨w,ok,X,H⟩ ok H _ w ?_) ?_) rfl)
 ·refine⟨hm,by simp[BP.enter,hs],.nil _ _ _,hm.hlen,λt ht=>?_⟩;simp only[BP.enter];by_cases e:t<args.length
  ·have I:(args++List.replicate (fn.ntmps-args.length) Am.junk).getD t .junk=args.getD t .junk:=aFX
   have e2:(j++Array.replicate (fn.ntmps-j.size) undef).getD t undef=j.getD t undef:=by
    simp[Jm,cu (show t<j.size by omega)]
   rw[I,e2];exact ha t e
  have I:(args++List.replicate (fn.ntmps-args.length) Am.junk).getD t .junk=.junk:=by
   simp only[List.getD,PL (Yo e),List.getElem?_replicate];split<;>rfl
  rw[I];exact .junk _
 rintro e a' w' ⟨ok',H',σ',h1,h2⟩;rcases h2 with⟨x,h3,_⟩|⟨u',h3,rfl,_⟩
 ·rw[hu]at h3;cases h3
 rw[hu]at h3;cases h3;obtain⟨Ds,J,L,M⟩:=h1.defers;show LeavesInM (Js none) 0 P fn a'.tmps _ a'.defers (.panicking _) w';rw[J];exact aRG (P:=P) (C:=⟨w,ok,X,H⟩) hm.kX (λO a2 w2 h4=>⟨O,[],rfl,h4.mem.none hH⟩) Ds h1 M L
section
variable {ops:Bh Oper}{l:AA Oper}
def Dp.panic {x:Bz}{t:Bq}{u:BJ}(q:o.op=.panic x)(I:σ.get x=.d (.lit (.iface t u)))(J:LH ops σ o.guard=some true)(h:K (uq (.iface t u)) σ):Dp P ops (o::rest) σ K:=by
 refine⟨λro L Q C ok H a w j M=>?_⟩;show wpListIn (Js ro) 0 P ops Q (o::(rest++L)) a w;unfold wpListIn;rw[Dw (WZ j (QD J))];have O:=(I▸j.get x).lit;unfold Oper.wpIn;rw[lW _ _ _ (by rw[q];intro c h;cases h)];have U:(execOp a.eval o).run P w=.halt (.panic (.iface t u)) w:=by simp[execOp,q,O,Instr.panic,goPanic]
 rw[U];exact⟨λ_ _=>trivial,M.2 _ _ _ _ _ _ h j⟩
end
section
variable {ops:Bh Oper}
def aY6:Jj o j=true↔∃e∈o.after,e.on=j/\Region.binds .any e=true:=by
 simp only[Jj,KE,Array.mem_toList_iff,Dx,Ik]
def ahJ {N:Nat}{Q:Exit->Act->BU->Prop}(hN:N+1=ops.size)(hg:∀(i:Nat) (o:Oper),ops[i]? =some o->∀j b,o.guard=some (j,b)->j<N)(I:Ua ops=true)(hb:Xn ops (List.replicate N false++[true])=true):∀(Aw:Nat) (l:Bh Ac) (a:Act) (w:BU),l.size=N->(∀(j:Nat) (o:Oper),ops[j]? =some o->l.getD j false=true->∀i,Jj o i=true->l.getD i false=true)->
 wpAnyIn F n P .any ⟨ops.toList.take N⟩ (λe a w=>match e with | .normal=>wpOpIn F n P ops Q N (Q .normal) a w|e=>Q e a w) Aw l a w->wpAnyIn F n P .any ops Q (Aw+1) (l.push false) a w:=by
 have J:∀i,i<N->(⟨ops.toList.take N⟩:Bh Oper)[i]? =ops[i]? :=λi hi=>XA
 have L:∀(l:Bh Ac),l.size=N->∀i,i<N->∀d,(l.push false).getD i d=l.getD i d:=λl hl i hi d=>by
  simp only[Jm,pW,show i≠l.size by omega,Ky]
 have hgN:∀(l:Bh Ac),l.size=N->∀d,(l.push false).getD N d=false:=λl hl d=>by
  simp only[Jm,pW,hl,Jy,OI]
 have hrd:∀(l:Bh Ac),l.size=N->∀i,i<N->(i∈Region.ready .any ops (l.push false)↔i∈Region.ready .any ⟨ops.toList.take N⟩ l):=λl hl i hi=>by
  rw[Vg,Vg,J i hi,L l hl i hi];refine and_congr_right λ_=>exists_congr λo=>and_congr_right λq=>forall_congr' λe=>forall_congr' λhm=>forall_congr' λM=>?_;rw[L l hl _ (Nat.lt_trans (a1v I i o q e rV M) hi)]
 have hrN:∀(l:Bh Ac),l.size=N->(∀(j:Nat) (o:Oper),ops[j]? =some o->l.getD j false=true->∀i,Jj o i=true->l.getD i false=true)->N∈Region.ready .any ops (l.push false)->∀j,j<N->l.getD j false=true:=λl hl Y Z j hj=>by
  obtain⟨_,o,q,h⟩:=Vg.1 Z;refine apt hb (show N<ops.size by omega) (by simp[List.getD]) (D:=λj=>l.getD j false=true) Y (λo' O m hm=>?_) j hj;rw[q]at O;obtain rfl:=E9 O;obtain⟨e,e1,rfl,e3⟩:=aY6.1 hm;have :=h e e1 e3
  rwa [L l hl _ (a1v I N o q e (by simpa using e1) e3)]at this
 have hwp:∀(i:Nat),i<N->∀(K:Act->BU->Prop) (a:Act) (w:BU),wpOpIn F n P ⟨ops.toList.take N⟩ (λe a w=>match e with | .normal=>wpOpIn F n P ops Q N (Q .normal) a w|e=>Q e a w) i K a w->wpOpIn F n P ops Q i K a w:=λi hi K a w h=>by
  unfold wpOpIn at h ⊢;rw[J i hi]at h;split
  ·rename_i q;rw[q]at h;exact h
  rename_i o q;rw[q]at h
  have hw:Region.wanted o (yielded ⟨ops.toList.take N⟩ a.tmps)=Region.wanted o (yielded ops a.tmps):=by
   unfold Region.wanted;cases hgo:o.guard with
   |none=>rfl
   |some g=>simp only[yielded,J g.1 (hg i o q g.1 g.2 hgo)]
  simp only[hw]at h;split
  rotate_left
  ·rename_i hn;simp only[hn]at h;exact h
  rename_i hy;simp only[hy,Jy]at h;unfold Oper.wpIn at h ⊢;refine⟨h.1,?_⟩;have h:=h.2;generalize(o.semAt F.round a.eval).run P w=r at h ⊢;cases r with
  |ok x w'=>
   cases x<;>simp only[Oper.uponIn]at h ⊢ <;>
    first
     |exact h
     |exact⟨h.1,CallsIn.mono h.2 (λe w'' I=>by cases e<;>exact I)⟩
     |exact⟨h.1,RoundIn.mono h.2 (λe w'' I=>by cases e<;>exact I)⟩
  |halt x w'=>cases x<;>simp only[Oper.uponIn]at h ⊢ <;>exact h
 have hall:∀(l:Bh Ac),l.size=N->(∀j,j<N->l.getD j false=true)->Region.ready .any ⟨ops.toList.take N⟩ l=[]:=λl hl h=>by
  rw[aJo];intro i hi;obtain⟨h1,o,q,_⟩:=Vg.1 hi
  have hi':i<N:=by
   have :=(Ic.1 q).1;simp at this;omega
  have :=h i hi';have hil:i<l.size:=AL
  simp[Array.getD,hil]at h1 this;rw[h1]at this;cases this
 have hlt:∀(l:Bh Ac) i,i∈Region.ready .any ops (l.push false)->i<N\/i=N:=λl i hi=>by
  obtain⟨_,o,q,_⟩:=Vg.1 hi;have :=(Ic.1 q).1;omega
 have hend:∀(l:Bh Ac),l.size=N->(∀j,j<N->l.getD j false=true)->∀Aw a w,wpOpIn F n P ops Q N (Q .normal) a w->wpOpIn F n P ops Q N (wpAnyIn F n P .any ops Q Aw ((l.push false).setIfInBounds N true)) a w:=λl hl h Aw a w hw=>by
  refine wpOpIn_mono (λa' w' hq=>wpAnyIn_done ?_ hq Aw) hw;rw[aJo];intro i hi;obtain⟨h1,o,q,_⟩:=Vg.1 hi;have hi':=(Ic.1 q).1;rw[Jm,aIP]at h1;by_cases e:N=i
  ·simp[e,hl]at h1
  rw[EC e,←Jm,L l hl i AL]at h1;have :=h i AL;have hil:i<l.size:=AL
  simp[Array.getD,hil]at h1 this;rw[h1]at this;cases this
 have U:∀(l:Bh Ac),l.size=N->(∀(j:Nat) (o:Oper),ops[j]? =some o->l.getD j false=true->∀i,Jj o i=true->l.getD i false=true)->∀Aw a w,(Region.ready .any ⟨ops.toList.take N⟩ l=[]->wpOpIn F n P ops Q N (Q .normal) a w)->Region.ready .any ⟨ops.toList.take N⟩ l=[]->(Region.ready .any ops (l.push false)=[]->Q .normal a w)/\∀i∈Region.ready .any ops (l.push false),wpOpIn F n P ops Q i (wpAnyIn F n P .any ops Q Aw ((l.push false).setIfInBounds i true)) a w:=λl hl Y Aw a w h Z=>by
  refine⟨λh0=>?_,λi hi=>?_⟩
  ·exfalso
   have key:∀j,j<N->l.getD j false=true:=λj=>by
    induction j using Nat.strongRecOn with
    |ind j ih=>
     intro hj;refine aAG λhn=>?_;have hjl:j<l.size:=AL
     have :j∈Region.ready .any ⟨ops.toList.take N⟩ l:=by
      refine Vg.2 ⟨by simpa[Array.getD,hjl]using hn,ops[j],by rw[J j hj];simp[show j<ops.size by omega],λe hm M=>?_⟩;have :=a1v I j ops[j] (by simp[show j<ops.size by omega]) e rV M;exact ih e.on this AL
     rw[Z]at this;cases this
   have :N∈Region.ready .any ops (l.push false):=by
    refine Vg.2 ⟨hgN l hl true,ops[N],by simp[show N<ops.size by omega],λe hm M=>?_⟩;have :=a1v I N ops[N] (by simp[show N<ops.size by omega]) e rV M;rw[L l hl _ this];exact key _ this
   rw[h0]at this;cases this
  rcases hlt l i hi with h1|rfl
  ·rw[hrd l hl i h1,Z]at hi;cases hi
  exact hend l hl (hrN l hl Y hi) Aw a w (h Z)
 intro Aw
 induction Aw with
 |zero=>exact λl a w hl Y h=>U l hl Y 0 a w (λ_=>h.2) h.1
 |succ Aw ih=>
  intro l a w hl Y h;obtain⟨h0,h1⟩:=h;by_cases Z:Region.ready .any ⟨ops.toList.take N⟩ l=[]
  ·exact U l hl Y (Aw+1) a w h0 Z
  refine⟨λh2=>?_,λi hi=>?_⟩
  ·exfalso;obtain⟨i,hi⟩:=List.exists_mem_of_ne_nil _ Z
   have hi':i<N:=by
    obtain⟨_,o,q,_⟩:=Vg.1 hi;have :=(Ic.1 q).1;simp at this;omega
   rw[←hrd l hl i hi',h2]at hi;cases hi
  rcases hlt l i hi with h3|rfl
  ·have hm:=(hrd l hl i h3).1 hi;refine wpOpIn_mono (λa' w' hk=>?_) (hwp i h3 _ a w (h1 i hm))
   have hp:(l.push false).setIfInBounds i true=(l.setIfInBounds i true).push false:=by
    refine Array.ext_getElem? λk=>?_;simp only[aIP,pW,Array.size_push,Array.size_setIfInBounds]
    grind
   rw[hp];refine ih _ a' w' N7 (λj o q hj k I=>?_) hk;have hset:∀m,m≠i->(l.setIfInBounds i true).getD m false=l.getD m false:=λm hm=>by simp[Jm,WO (Ne.symm hm)]
   by_cases hki:k=i
   ·subst hki;simp[Array.getD,show k<l.size by omega]
   rw[hset k hki];by_cases hji:j=i
   ·subst hji;obtain⟨_,o',O,h4⟩:=Vg.1 hm;rw[J j h3,q]at O;obtain rfl:=E9 O;obtain⟨e,e1,rfl,e3⟩:=aY6.1 I;exact h4 e e1 e3
   rw[hset j hji]at hj;exact Y j o q hj k I
  exact absurd (hall l hl (hrN l hl Y hi)) Z
def Bl.aJ5 {id:Nat}(N:Nat)(h:Fr P ⟨ops.toList.take N⟩ (ops.toList.take N) σ rs ess bs σ')(hl:Dp P ops (ops.toList.drop N) σ' Q)(L:N+1=ops.size:=by kernel_rfl)(hm:P.follows .mixedOrders=true:=by kernel_rfl)(q:(Ua ⟨ops.toList.take N⟩&&XH ⟨ops.toList.take N⟩&&ZW ⟨ops.toList.take N⟩ σ.slots.length&&Xa ⟨ops.toList.take N⟩)=true:=by kernel_rfl)(I:Xn ⟨ops.toList.take N⟩ bs=true:=by kernel_rfl)(M:(Ua ops&&ops.toList.all (λo=>(o.guard.map (·.1)).all (decide<| · <N))&&Xn ops (List.replicate N false++[true]))=true:=by kernel_rfl):Bl P (.region id ops true) σ Q:=by
 simp only[Dx,GK]at M;refine⟨λro _ C ok H a w hh=>wpIn_region_any hm ?_⟩;have Y:N<ops.size:=AL
 have h0:=Bl.aC7 q [] (aN8 I) h (λ_ hi=>absurd hi H9) ro C ok H a w hh (λe a w=>match e with | .normal=>wpOpIn (Js ro) 0 P ops (λe a' w'=>∃ok' H' σ',Holds C ok' H' σ' a' w'/\Q e σ') N (λa' w'=>∃ok' H' σ',Holds C ok' H' σ' a' w'/\Q .normal σ') a w|e=>∃ok' H' σ',Holds C ok' H' σ' a w/\Q e σ') λok' H' a' w' h'=>?_
 ·have h1:=ahJ L (λi o ho j b O=>by have :=M.1.2 o (by simpa using Array.mem_of_getElem? ho);rw[O]at this;simpa using this) M.1.1 M.2 _ _ a _ Eh (λj o _ hj=>by simp[Array.getD]at hj) h0;have Z:(⟨ops.toList.take N⟩:Bh Oper).size+1=ops.size:=Eh
  rw[Z]at h1;have e2:(Array.replicate (⟨ops.toList.take N⟩:Bh Oper).size false).push false=Array.replicate ops.size false:=by rw[←Z,Array.replicate_succ]
  rw[e2]at h1;exact h1
 have hd:ops.toList.drop N=[ops[N]]:=by
  rw[Ns aG];simp[←L]
 rw[hd]at hl;have h1:=hl.run ro [] (λe a' w'=>∃ok' H' σ',Holds C ok' H' σ' a' w'/\Q e σ') C ok' H' a' w' h' ⟨λσ' ok' H' a' w' U J=>⟨ok',H',σ',J,U⟩,λv σ' ok' H' a' w' U J=>⟨ok',H',σ',J,U⟩⟩;show wpOpIn _ _ _ _ _ _ _ _ _;unfold wpOpIn;rw[show ops[N]? =some ops[N] by simp[Y]];simp only[XW,Ij,wpListIn]at h1;exact h1
end
def xU (e s:Nat)(I:(P.info? t).bind (·.zero)=some (.slice none 0 0))(J:o.op=.alloc t:=by exact rfl):CG P o [] es (.ptr (es.length+1) 0) (es++[.arr e s [],.box [.aQ es.length]]):=
 .eff λC ok H a w hm Z=>by
  obtain⟨h1,h2⟩:=a2n hm e s;have L:(H++[(⟨.slice none 0 0,s⟩:CB)]).length=(es++[Bc.arr e s []]).length:=h1.hlen;have M:(H++[(⟨.slice none 0 0,s⟩:CB)])[es.length]? =some ⟨.slice none 0 0,s⟩:=Q8
  have O:Fh ok (w.alloc (.cells #[.slice none 0 0] t)) ((H++[⟨.slice none 0 0,s⟩])++[⟨.pointer (some ⟨w.heap.size,0,none⟩),0⟩]) ⟨.pointer (some ⟨w.heap.size,0,none⟩),0⟩ (.box [.aQ es.length]):=by
   refine⟨w.heap.size, #[.slice none 0 0],t,rfl,WH w _,rfl,λi hi=>?_⟩
   match i,hi with
   |0,_=>
    exact⟨rfl,.aQ _ none 0 0 s (by rw[KZ fC];exact M)⟩
  obtain⟨h3,U⟩:=h1.push (.cells #[.slice none 0 0] t) ⟨.pointer (some ⟨w.heap.size,0,none⟩),0⟩ _ (a4H w) O;have j:E8 C ok ((H++[⟨.slice none 0 0,s⟩])++[⟨.pointer (some ⟨w.heap.size,0,none⟩),0⟩]) (es++[.arr e s [],.box [.aQ es.length]]) (w.alloc (.cells #[.slice none 0 0] t)):=by simpa[JI]using h3
  refine⟨.pointer (some ⟨w.heap.size,0,none⟩),_,ok,_,.inl ?_,U,(IE _ _).trans (IE _ _),j,.ptr _ _ w.heap.size 0 ?_⟩
  ·obtain⟨i,hi,q⟩:=nT.1 I;have Y:Value.cells (.slice none 0 0)= #[.slice none 0 0]:=rfl;simp[execOp,J,Instr.alloc,zeroValue,typeInfo,hi,q,newVar,newRow,Y]
  grind
def a8H {e:Bq}(enc:α->D){a:α}(h:Aq l i=some a)(hl:l.length=n)(O:P.underlying t=some (.array n e))(U:Ep P e false 1)(Y:es[k]? =some (.box (BD (OD enc l))))(Z:o.op=.indexAddr t x y:=by exact rfl):
 CG P o [(x,.ptr k 0),(y,.d (.lit (.int kd i)))] es (.ptr k i.toNat) es:=
 .pure λok H ac w j I L=>by
  obtain⟨h0,h1⟩:=GV h;obtain⟨hd,hh,_⟩:=Gy j I Y;have J:=(F9 L).1;have M:=(F9 L).2.lit;simp only at J M;have hlt:=(H6.1 h1).1;have hu:(underlying t).run P w=.ok (.array n e) w:=by simp[underlying,O]
  generalize hv:ac.eval x=v at J;cases J with
  |ptr _ _ b s hH=>
   have hb:0<=i/\i<n:=⟨h0,AL⟩
   refine⟨.pointer (some ⟨b,i.toNat,none⟩),?_,.ptr k _ b s hH⟩;have q:(⟨b,0,none⟩:Addr).add i.toNat=⟨b,i.toNat,none⟩:=by rw[addr_add,KW]
   simp[execOp,Z,hv,M,Instr.indexAt,asIntOf,hu,Instr.sureAddr,hb,U.size w,q]
def aZc {enc:α->D}{a:α}(h:Aq l i=some a):(BD (OD enc l))[i.toNat]? =some (.d (enc a)):=by
 have h1:=(GV h).2;simp[BD,OD,D.cells,h1]
def a2a (enc:α->D){a:α}(h:Aq l i=some a)(j:es[k]? =some (.box (BD (OD enc l))))(q:Ep P t false 1)(I:o.op=.load t x:=by exact rfl):CG P o [(x,.ptr k i.toNat)] es (.d (enc a)) es:=aUq j (aZc h) q I
def aX0 {y:D}(j:match P.underlying t with |some (.interface _)=>false|some _=>true|none=>false)(I:o.op=.makeInterface t x:=by exact rfl):CG P o [(x,.d y)] es (.d (.TW t y)) es:=
 .pure λok H a w _ _ J=>by
  have h1:ET ok w y (a.eval x):=by have :=J (x,.d y) Bf;cases this with |d _ _ h=>exact h
  refine⟨.iface t (a.eval x),?_,.d _ _ (.TW t y _ h1)⟩;cases q:P.underlying t with
  |none=>
   grind
  |some d=>
   rw[q]at j;have L:(underlying t).run P w=.ok d w:=a8C
   cases d<;>first|(cases j;done)|simp[execOp,I,Instr.makeInterface,L]
def aQY (us:AA BJ)(j:match P.underlying t with |some (.interface _)=>false|some _=>true|none=>false)(I:o.op=.makeInterface t x:=by exact rfl):CG P o [(x,.d (.agg (us.map .lit)))] es (.d (.lit (.iface t (.agg us.toArray)))) es:=
 .pure λok H a w _ _ J=>by
  have h1:=(J (x,.d (.agg (us.map .lit))) Bf).amn;simp only at h1;refine⟨.iface t (.agg us.toArray),?_,.d _ _ (.lit _)⟩;cases q:P.underlying t with
  |none=>
   grind
  |some d=>
   rw[q]at j;have L:(underlying t).run P w=.ok d w:=a8C
   cases d<;>first|(cases j;done)|simp[execOp,I,Instr.makeInterface,L,h1]
def a1C (P:Ch)(t:Bq)(j:String)(f:FuncId):Ac:=
 match P.info? t with
 |some i=>(match i.methods.find? (·.name==j)with
  |some m=>m.path.toList.isEmpty&&(match m.func with |some (g,p)=>g=f&& !p|none=>false)
  |none=>false)&&(match P.underlying t with |some (.pointer _)=>false|some _=>true|none=>false)
 |none=>false
def ajd {j:String}{f:FuncId}(h:a1C P t j f=true)(n:Nat)(v:BJ)(w:BU):(method (n+1) t v j).run P w=.ok (f,v) w:=by
 unfold a1C at h;split at h
 ·rename_i i hi;rw[Dx]at h;obtain⟨h1,h2⟩:=h;split at h1
  ·rename_i m hm;rw[Dx]at h1;obtain⟨h3,q⟩:=h1;split at q
   ·rename_i g p J;simp only[Dx,Ik,RU]at q;obtain⟨rfl,rfl⟩:=q;have hp:m.path.toList=[]:=List.isEmpty_iff.1 h3;cases I:P.underlying t with
    |none=>
     grind
    |some d=>
     rw[I]at h2;have L:∀w,(underlying t).run P w=.ok d w:=λw=>by simp[underlying,I]
     cases d<;>first|(cases h2;done)|simp[method,typeInfo,hi,hm,hp,follow,J,receiverAt,L,Place.get]
   cases q
  cases h1
 cases h
def aSF {f:FuncId}{j:Bz}{J:String}(x:D)(q:AA D){I:Am}(hr:EU P f ((x::q).map .d) [] I [])(hf:IC P f=true)(L:a1C P t J f=true)(hl:ops.toList.length=q.length)(O:I.up [] es.length=I)(ho:o.op=.call { callee:=.invoke j J,args:=ops,argTypes:=ats }:=by exact rfl):CG P o ((j,.d (.TW t x))::GR ops.toList (q.map .d)) es I es:=by
 intro C ok H a w Q hm hn;have Z:=hn (j,.d (.TW t x)) Bf;simp only at Z;have M:=a2L (xs:=ops.toList) (vs:=q.map .d) N7 (λn hn'=>hn n (JX _ hn'));generalize hv:a.eval j=v at Z;cases Z with
 |d _ _ h=>
  cases h with
  |TW _ _ u h1=>
   unfold Oper.wp
   have he:(execOp a.eval o).run P w=.ok (.enter f (#[u]++ops.map a.eval)) w:=by
    have h2:=Uu hf (#[u]++ops.map a.eval) w;have h3:=ajd L (P.types.size+99) u w;have h4:(#[Value.iface t u]++ops.map a.eval)[0]? =some (.iface t u):=by rw[cu Bf];rfl
    have h5:(#[Value.iface t u]++ops.map a.eval).extract 1 (#[Value.iface t u]++ops.map a.eval).size=ops.map a.eval:=by
     grind
    simp only[execOp,ho,resolve,hv,GL,Hg,GY,invoke,h4,h5,callMethod];have h6:(program).run P w=.ok P w:=rfl;simp only[h6,GY];have h7:P.types.size+Made.depth=P.types.size+99+1:=rfl;rw[h7,h3];exact h2
   rw[he,iF];have U:(ops.map a.eval).size=q.length:=N7
   refine(aOu hm hr _ (by simp at U;simp[U];omega) (λi hi=>?_) O).mono ?_
   ·cases i with
    |zero=>
     have e0:(#[u]++ops.map a.eval).getD 0 undef=u:=by simp[Jm,cu]
     rw[e0];exact h1
    |succ i=>
     have Y:i<q.length:=IQ
     have h3:=M i aG;have e1:(q.map Am.d).getD i .junk=.d (q.getD i EN):=by simp[List.getD,Y]
     have hi2:i<ops.size:=aOE
     have e2:(#[u]++ops.map a.eval).getD (i+1) undef=(ops.toList.map a.eval).getD i undef:=by
      simp only[Jm,List.getD];rw[aVz Bf];simp[hi2]
     rw[e2];rw[e1]at h3;have e3:(x::q).getD (i+1) EN=q.getD i EN:=Bf
     rw[e3];cases h3 with |d _ _ h=>exact h
   rintro e w' ⟨v,ok',H',rfl,h3,h4,h5,h6⟩;exact⟨v,ok',H',rfl,h3,h4,h5,h6⟩
section
variable {P:Ch} {ops:Bh Oper} {o:Oper} {rest l:AA Oper} {σ:BP} {K:Exit->BP->Prop}
def Dp.EW {f:FuncId}{eY:AA Am}{u:BJ}(Z:aOb P f eY u)(hf:IC P f=true)(h:K (uq u) σ)(L:Wi σ o=some (f,eY):=by kernel_rfl)(hd:eY.all Am.Dn=true:=by kernel_rfl)(hg:LH ops σ o.guard=some true:=by kernel_rfl):Dp P ops (o::rest) σ K:=by
 refine⟨λro l2 Q C ok H a w j hk=>?_⟩;show wpListIn (Js ro) 0 P ops Q (o::(rest++l2)) a w;unfold wpListIn;rw[Dw (WZ j (QD hg))];unfold Wi at L;split at L
 ·rename_i c U;split at L
  ·rename_i f' J;cases L;obtain⟨callee,args,ats⟩:=c;simp only at J;subst J;have I:(execOp a.eval o).run P w=.ok (.enter f (args.map a.eval)) w:=by rw[Res U,Uu hf]
   unfold Oper.wpIn;rw[lW _ _ _ (by rw[U];intro c h;cases h),I]
   have O:E8 ⟨w,ok,[],[]⟩ ok [] [] w:=
    ⟨.refl _ _,λ_ h=>h,λ_ h=>.inl h,j.mem.kX,.refl _,rfl,λk e h I=>jT,λk e h b I=>jT,λk k' e e' h h' b I=>jT⟩
   have key:Calls P f (args.map a.eval) w λe w'=>e=.panicked [{ v:=u,recovered:=false }]/\∃ok',Holds C ok' H σ a w':=by
    refine(Z ok [] [] w _ O Bf (λi hi=>?_)).mono ?_
    ·have M:i<args.size:=IQ
     have e1:(args.toList.map σ.get).getD i .junk=σ.get args[i]:=by simp[List.getD,M]
     have e2:(args.map a.eval).getD i undef=a.eval args[i]:=by simp[Array.getD,M]
     have h3:Am.Dn (σ.get args[i])=true:=by
      rw[GK]at hd;exact hd _ (GH.2 ⟨args[i],Bf,rfl⟩)
     have Y:=j.get args[i];rw[e1,e2];generalize σ.get args[i]=y at h3 Y;cases y with
     |d y=>cases Y with |d _ _ h=>exact .d _ _ h
     |_=>cases h3
    rintro e w' ⟨ok',H',rfl,q⟩;obtain⟨h1,h2⟩:=j.mem.change (ok':=ok) (H':=H) (es':=σ.ents) (w':=w') (λ_=>False) q.fr.os q.fr.tape q.fr.output q.fr.size (λb hb _=>q.fr.block b hb Bf) (λ_ h=>h.elim) (λ_ h=>h) (λ_ h=>.inl h) (.refl _) j.mem.hlen (λk e h I j=>.inl ⟨I,j,λ_ _ _ h=>h⟩);exact⟨rfl,ok,h1,j.size,j.defers.mono h2,j.base,λt ht=>(j.slot t ht).mono h2 (.refl _)⟩
   refine⟨λ_ _=>trivial,λh=>GN,aAx.2 (key.mono ?_)⟩;rintro e w' ⟨rfl,ok',h5⟩;exact hk.2 _ _ _ _ _ _ h h5
  cases L
 cases L
def Pj:=@Dp.EW
end
def NM {β:Type}(r:Except BJ α)(f:α->AB (Except BJ β)):AB (Except BJ β):=
 match r with
 | .ok a=>f a
 | .error u=>some (.error u)
def setCell_eq {x y:BJ}(j:w.heap[b]? =some (.cells #[x] t (0,0))):w.setCell ⟨b,0,none⟩ y=w.putObj b (.cells #[y] t (0,0)):=by
 simp only[World.setCell,World.putObj];congr 1;apply Array.ext_getElem?;intro i;rw[X0,aIP];by_cases e:b=i
 ·subst e;rw[Dw rfl,Dw rfl,j,Dw (Ic.1 j).1];rfl
 rw[EC e,EC e]
def ai8 (p:Addr)(w:BU):
 CallsD Ap 299 #[.pointer (some p)] .returning w λe j w'=>e=.returned (.tuple #[])/\j=.returning/\w'=w:=by
 refine aAF func299 rfl λq cs I=>?_;apply Qd;apply RP;simp[wpOpsS,go_sem,recoverD,I,Tryz.ntmps299,Exit.thenS];apply Qd;apply RP;simp[wpOpsS,go_sem,Exit.thenS];refine sW (t:=false) pV ?_;simp only[Ru,Ky];refine wpS_of_wp (wp_skip ?_);cases q
 simp_all [bodyPostS,results,Tryz.results299]
def aqe (b:Nat)(x:BJ)(n:Int)(w:BU)(O:w.heap[b]? =some (.cells #[x] 42 (0,0))):
 CallsD Ap 299 #[.pointer (some ⟨b,0,none⟩)] (.panicking [{ v:=.iface 287 (.agg #[.int .i64 n]),recovered:=false }]) w λe U w'=>
  e=.returned (.tuple #[])/\U=.panicking [{ v:=.iface 287 (.agg #[.int .i64 n]),recovered:=true }]/\w.grownBy w' (some b)/\w'.heap[b]? =some (.cells #[.int .i64 n] 42 (0,0)):=by
 have q:∀(Y:Bq) (w:BU),(Instr.typeAssert (.iface 287 (.agg #[.int .i64 n])) Y 287 true).run Ap w=.ok (.tuple #[.agg #[.int .i64 n],.bool true]) w:=λ_ _=>A8
 have Z:∀w:BU,(Instr.alloc 287 true (.tuple #[])).run Ap w=.ok (.pointer (some ⟨w.heap.size,0,none⟩)) (w.alloc (.cells #[.int .i64 0] 287)):=λw=>by
  simp[Instr.alloc,go_sem]
 have hst:∀w:BU,(Instr.storeAt 287 (.pointer (some ⟨w.heap.size,0,none⟩)) (.agg #[.int .i64 n])).run Ap (w.alloc (.cells #[.int .i64 0] 287))=.ok () (w.alloc (.cells #[.int .i64 n] 287)):=λw=>by
  simp[Instr.storeAt,go_sem]
 refine aAF func299 rfl λc₀ cs hu=>?_;apply Qd;apply RP;simp[wpOpsS,go_sem,recoverD,hu,Tryz.ntmps299,Exit.thenS];apply Qd;apply RP;simp[wpOpsS,go_sem,Exit.thenS];refine sW (t:=true) pV ?_;simp only[Jy];apply Qd;apply RP;simp[wpOpsS,execOp,q,Z,hst,go_sem,Exit.thenS];apply Qd;apply Qd;apply RP;simp[wpOpsS,go_sem,Exit.thenS];refine sW (t:=false) pV ?_;simp only[Ru,Ky];refine wpS_of_wp (wp_skip ?_);simp only[Exit.thenS];have I:b<w.heap.size:=(Ic.1 O).1;have j:(w.alloc (.cells #[.int .i64 n] 287)).heap[b]? =some (.cells #[x] 42 (0,0)):=(LX _ _ _ I).trans O;have hc:(w.alloc (.cells #[.int .i64 n] 287)).cell? ⟨b,0,none⟩=some x:=a3d
 have J:(w.alloc (.cells #[.int .i64 n] 287)).frozen? ⟨b,0,none⟩=false:=by simp[World.frozen?,j]
 apply RP;simp[wpOpsS,go_sem,Exit.thenS,hc,J,bodyPostS,results,Tryz.results299];rw[setCell_eq j];have L:b<(w.alloc (.cells #[.int .i64 n] 287)).heap.size:=(Ic.1 j).1;refine⟨⟨rfl,rfl,rfl,Bf,λi hi M=>?_⟩,Xr L⟩;rw[bC (λe=>M (by rw[e]))];exact LX _ _ _ hi
variable {T:Type}
def Ue:Except BJ T->AB Int
 | .ok _=>some 0
 | .error (.iface t (.agg cs))=>bif t==287 then(match cs.toList with | [.int .i64 n]=>some n|_=>none)else none
 | .error _=>none
def aM5 (b:Nat)(n:Int)(w:BU)(j:w.heap[b]? =some (.cells #[.int .i64 n] 42 (0,0)))(tmps:Bh BJ)(q:tmps.getD 2 undef=.pointer (some ⟨b,0,none⟩)):(results Tryz.f222 tmps).run Ap w=.ok (.int .i64 n) w:=by
 have I:w.cell? ⟨b,0,none⟩=some (.int .i64 n):=a3d
 have e:results Tryz.f222 tmps=(do let v ←loadVar 42 (←asAddr (tmps.getD 2 undef));pure v):=by simp[results,Tryz.results222]
 rw[e,q];simp[go_sem,I]
def aiK {g:FuncId}{us:Bh BJ}{n:Int}(he:∀(vs:Bh BJ) (w:BU),(callFunc g vs).run Ap w=.ok (.enter g vs) w)(L:Calls Ap g us (w.alloc (.cells #[.int .i64 0] 42 (0,0))) λe I=>(w.alloc (.cells #[.int .i64 0] 42 (0,0))).grownBy I none/\((∃v,e=.returned v/\n=0)\/e=.panicked [{ v:=.iface 287 (.agg #[.int .i64 n]),recovered:=false }])):
 Calls Ap 222 #[.func (.func g) #[] us] w λe w'=>e=.returned (.int .i64 n)/\w.grownBy w' none:=by
 have Y:∀(fn:Fn) (first cap:Bh BJ) (w:BU),(Instr.makeFunc fn first cap).run Ap w=.ok (.func fn first cap) w:=λ_ _ _ _=>rfl;have q:w.grownBy (w.alloc (.cells #[.int .i64 0] 42 (0,0))) none:=⟨rfl,rfl,rfl,Bf,λi hi _=>LX _ _ _ hi⟩
 go_enter_defers func222,Tryz.ntmps222
 apply wp_seq;apply ji;refine .inl ?_;simp[Oper.wp,go_sem,wpList,Exit.then];apply wp_seq;apply ji;refine .inl ?_;simp[Oper.wp,go_sem,Y,wpList,Exit.then];refine .inl ?_;apply wp_seq;apply ji;refine .inl ?_;simp[Oper.wp,go_sem,he,wpList,Exit.then];refine .inl (L.mono ?_);rintro e I ⟨M,h⟩;have O:I.heap[w.heap.size]? =some (.cells #[.int .i64 0] 42 (0,0)):=(M.block w.heap.size Bf Bf).trans (mY _ _);have Z:w.heap.size<I.heap.size:=(Ic.1 O).1;have j:w.grownBy I none:=⟨M.os.trans q.os,M.tape.trans q.tape,M.output.trans q.output,FQ q.size M.size,λi hi U=>(M.block i Eh U).trans (q.block i hi U)⟩
 have J:∀(w3:BU) (m:Int),I.grownBy w3 (some w.heap.size)->w.grownBy w3 none:=λw3 m h3=>⟨h3.os.trans j.os,h3.tape.trans j.tape,h3.output.trans j.output,FQ j.size h3.size,λi hi U=>(h3.block i (by have :=j.size;omega) Eh).trans (j.block i hi U)⟩
 rcases h with⟨v,rfl,rfl⟩|rfl
 ·have hc:I.cell? ⟨w.heap.size,0,none⟩=some (.int .i64 0):=by rw[World.cell?,O];rfl
  have hfz:I.frozen? ⟨w.heap.size,0,none⟩=false:=by simp[World.frozen?,O]
  apply wp_seq;apply ji;refine .inl ?_;simp[Oper.wp,go_sem,hc,hfz,wpList,Exit.then];apply wp_ret;rw[setCell_eq O];refine leaves_cons (f:=299) (args:= #[.pointer (some ⟨w.heap.size,0,none⟩)]) Bf a8O ?_;refine(ai8 ⟨w.heap.size,0,none⟩ _).mono ?_;rintro e u' w'' ⟨rfl,rfl,rfl⟩;refine⟨.int .i64 0,aM5 w.heap.size 0 _ (Xr Z) _ rfl,rfl,J _ 0 ⟨rfl,rfl,rfl,Bf,λi hi hne=>bC (λe=>hne (by rw[e]))⟩⟩
 refine leaves_cons (f:=299) (args:= #[.pointer (some ⟨w.heap.size,0,none⟩)]) Bf a8O ?_;refine(aqe w.heap.size (.int .i64 0) n I O).mono ?_;rintro e u' w'' ⟨rfl,rfl,h3,h4⟩;exact⟨.int .i64 n,aM5 w.heap.size n _ h4 _ rfl,rfl,J _ n h3⟩
noncomputable abbrev BA:=IC Ap
def aUs {res:T->Am}(g:FuncId)(j:AA D)(r:Except BJ T)(hr:Qm Ap g (j.map .d) r res)(O:BA g=true)(n:Int)(I:Ue r=some n):
 Dh 222 [.d (.fn (.func g) [] j)] [] (.d (Ah n)) []:=by
 intro ok X H w L hm hs ha;obtain rfl:H=[]:=I4 hm.hlen;have h0:=ha 0 Bf
 obtain⟨fv,rfl⟩:∃fv,L= #[fv]:=by
  have h1:L.size=1:=hs;exact⟨L[0],by apply eM lD;intro i h1 h2;simp at h2;subst h2;rfl⟩
 have h0:R ok w [] (.d (.fn (.func g) [] j)) fv:=h0;cases h0 with
 |d _ _ h0=>
 cases h0 with
 |fn _ _ _ vs us hl1 hl2 h1 h2=>
 obtain rfl:vs= #[]:=Z7 (by simpa using hl1);obtain⟨J,Z⟩:∃J,J=w.alloc (.cells #[.int .i64 0] 42 (0,0)):=⟨_,rfl⟩
 have hg1:FH ok w ok J:=λb Y=>⟨Y,by rw[Z];exact LX _ _ _ (hm.kX b Y)⟩
 have hmc:E8 ⟨J,ok,[],[]⟩ ok [] [] J:=
  ⟨.refl _ _,λ_ h=>h,λ_ h=>.inl h,λb Y=>by rw[Z];simp;exact Nat.lt_succ_of_lt (hm.kX b Y),.refl _,rfl,λk e h O=>yH,λk e h b O=>yH,λk k' e e' h h' b O=>yH⟩
 have M:∀i,i<(j.map Am.d).length->R ok J [] ((j.map Am.d).getD i .junk) (us.getD i undef):=λi hi=>by
  rw[DK]at hi;have e1:(j.map Am.d).getD i .junk=.d (j.getD i EN):=OQ
  rw[e1];exact .d _ _ ((h2 i hi).mono hg1)
 have hgr:∀{ok2:Nat->Prop} {H2:AA CB} {w2:BU},E8 ⟨J,ok,[],[]⟩ ok2 H2 [] w2->J.grownBy w2 none:=λq=>⟨q.fr.os,q.fr.tape,q.fr.output,q.fr.size,λb Y _=>q.fr.block b Y Bf⟩
 have hcall:Calls Ap g us J λe w2=>J.grownBy w2 none/\((∃v,e=.returned v/\n=0)\/e=.panicked [{ v:=.iface 287 (.agg #[.int .i64 n]),recovered:=false }]):=by
  cases U:r with
  |ok x=>
   rw[U]at I;refine(hr.1 x U ok [] [] J us hmc (by simpa using hl2) M).mono ?_;rintro e w2 ⟨v,ok2,H2,rfl,q,_⟩;exact⟨hgr q,.inl ⟨v,rfl,(E9 I).symm⟩⟩
  |error u=>
   rw[U]at I
   have hu:u=.iface 287 (.agg #[.int .i64 n]):=by
    unfold Ue at I;split at I
    ·rename_i h;cases h
    ·rename_i t cs h;cases h;cases ht:(t==287)with
     |false=>rw[ht]at I;cases I
     |true=>
      rw[ht]at I;simp only[Bd]at I;obtain rfl:t=287:=by simpa using ht
      split at I
      ·rename_i m hcs;obtain rfl:=E9 I;rw[←jW (xs:=cs),hcs]
      cases I
    cases I
   refine(hr.2 u U ok [] [] J us hmc (by simpa using hl2) M).mono ?_;rintro e w2 ⟨ok2,H2,rfl,q⟩;exact⟨hgr q,.inr (by rw[hu])⟩
 subst Z;refine(aiK (λvs w=>Uu O vs w) hcall).mono ?_;rintro e w' ⟨rfl,hg⟩;obtain⟨m1,_⟩:=hm.change (ok':=ok) (H':=[]) (es':=[]) (w':=w') (λ_=>False) hg.os hg.tape hg.output hg.size (λb Y _=>hg.block b Y Bf) (λ_ h=>h.elim) (λ_ h=>h) (λ_ h=>.inl h) (.refl _) rfl (λk e h O=>yH);exact⟨_,ok,[],rfl,m1,.d _ _ (.lit _)⟩
def afw (p q:Addr)(w:BU):
 CallsD Ap 460 #[.pointer (some p),.pointer (some q)] .returning w λe j w'=>e=.returned (.tuple #[])/\j=.returning/\w'=w:=by
 refine aAF func460 rfl λI cs J=>?_;apply Qd;apply RP;simp[wpOpsS,go_sem,recoverD,J,Tryz.ntmps460,Exit.thenS];apply Qd;apply RP;simp[wpOpsS,go_sem,Exit.thenS];refine sW (t:=false) pV ?_;simp only[Ru,Ky];refine wpS_of_wp (wp_skip ?_);cases I
 simp_all [bodyPostS,results,Tryz.results460]
def al3 (b c:Nat)(ad:AB Addr)(n cap:Nat)(x:BJ)(w:BU)(hb:w.heap[b]? =some (.cells #[.slice ad n cap] 26 (0,0)))(hc:w.heap[c]? =some (.cells #[x] 26 (0,0))):
 CallsD Ap 460 #[.pointer (some ⟨b,0,none⟩),.pointer (some ⟨c,0,none⟩)] (.panicking [{ v:=.iface 385 (.agg #[]),recovered:=false }]) w λe u' w'=>
  e=.returned (.tuple #[])/\u'=.panicking [{ v:=.iface 385 (.agg #[]),recovered:=true }]/\w.grownBy w' (some c)/\w'.heap[c]? =some (.cells #[.slice ad n cap] 26 (0,0)):=by
 have q:∀(t0:Bq) (w:BU),(Instr.typeAssert (.iface 385 (.agg #[])) t0 385 true).run Ap w=.ok (.tuple #[.agg #[],.bool true]) w:=λ_ _=>A8
 refine aAF func460 rfl λc₀ cs hu=>?_;apply Qd;apply RP;simp[wpOpsS,go_sem,recoverD,hu,Tryz.ntmps460,Exit.thenS];apply Qd;apply RP;simp[wpOpsS,go_sem,Exit.thenS];refine sW (t:=true) pV ?_;simp only[Jy];apply Qd;apply Qd;apply RP;simp[wpOpsS,execOp,q,go_sem,Exit.thenS];apply Qd;apply RP;simp[wpOpsS,go_sem,Exit.thenS];refine sW (t:=false) pV ?_;simp only[Ru,Ky];refine wpS_of_wp (wp_skip ?_);simp only[Exit.thenS];have I:b<w.heap.size:=(Ic.1 hb).1;have J:c<w.heap.size:=(Ic.1 hc).1;have L:(w.alloc (.cells #[] 385)).heap[b]? =some (.cells #[.slice ad n cap] 26 (0,0)):=(LX _ _ _ I).trans hb;have j:(w.alloc (.cells #[] 385)).heap[c]? =some (.cells #[x] 26 (0,0)):=(LX _ _ _ J).trans hc;have M:(w.alloc (.cells #[] 385)).cell? ⟨b,0,none⟩=some (.slice ad n cap):=by rw[World.cell?,L];rfl
 have O:(w.alloc (.cells #[] 385)).cell? ⟨c,0,none⟩=some x:=a3d
 have U:(w.alloc (.cells #[] 385)).frozen? ⟨c,0,none⟩=false:=by simp[World.frozen?,j]
 apply RP;simp[wpOpsS,go_sem,Exit.thenS,M,O,U,bodyPostS,results,Tryz.results460];rw[setCell_eq j];have Y:c<(w.alloc (.cells #[] 385)).heap.size:=(Ic.1 j).1;refine⟨⟨rfl,rfl,rfl,Bf,λi hi Z=>?_⟩,Xr Y⟩;rw[bC (λe=>Z (by rw[e]))];exact LX _ _ _ hi
def step_fin (b:Nat)(v:BJ)(w:BU)(j:w.heap[b]? =some (.cells #[v] 26 (0,0)))(tmps:Bh BJ)(q:tmps.getD 6 undef=.pointer (some ⟨b,0,none⟩)):(results Tryz.f454 tmps).run Ap w=.ok v w:=by
 have I:w.cell? ⟨b,0,none⟩=some v:=a3d
 have e:results Tryz.f454 tmps=(do let v ←loadVar 26 (←asAddr (tmps.getD 6 undef));pure v):=by simp[results,Tryz.results454]
 rw[e,q];simp[go_sem,I]
def aoe {l id:BJ}{Rv:BJ->BU->Prop}{bad:Prop}(L:Calls Ap 461 #[l,.slice ad n cap,id] ((w.alloc (.cells #[.slice ad n cap] 26 (0,0))).alloc (.cells #[.slice none 0 0] 26 (0,0))) λe j=>((w.alloc (.cells #[.slice ad n cap] 26 (0,0))).alloc (.cells #[.slice none 0 0] 26 (0,0))).grownBy j none/\((∃O n' q,e=.returned (.slice O n' q)/\Rv (.slice O n' q) j)\/(e=.panicked [{ v:=.iface 385 (.agg #[]),recovered:=false }]/\bad))):
 Calls Ap 454 #[l,.slice ad n cap,id] w λe w'=>w.grownBy w' none/\((∃v j,e=.returned v/\Rv v j/\w.grownBy j none/\w.heap.size+1<j.heap.size/\j.grownBy w' (some (w.heap.size+1)))\/(e=.returned (.slice ad n cap)/\bad)):=by
 have hmf:∀(fn:Fn) (first cap:Bh BJ) (w:BU),(Instr.makeFunc fn first cap).run Ap w=.ok (.func fn first cap) w:=λ_ _ _ _=>rfl;obtain⟨Y,I⟩:∃Y,Y=(w.alloc (.cells #[.slice ad n cap] 26 (0,0))).alloc (.cells #[.slice none 0 0] 26 (0,0)):=⟨_,rfl⟩
 have hs1:Y.heap.size=w.heap.size+2:=by rw[I];simp
 have h1b:Y.heap[w.heap.size]? =some (.cells #[.slice ad n cap] 26 (0,0)):=by rw[I];exact(LX _ _ _ Bf).trans (mY w _)
 have h1c:Y.heap[w.heap.size+1]? =some (.cells #[.slice none 0 0] 26 (0,0)):=by
  have :=mY (w.alloc (.cells #[.slice ad n cap] 26 (0,0))) (.cells #[.slice none 0 0] 26 (0,0));rw[aJd]at this;rw[I];exact this
 have M:w.grownBy Y none:=by
  rw[I];exact⟨rfl,rfl,rfl,Eh,λi hi _=>(LX _ _ _ Eh).trans (LX _ _ _ hi)⟩
 have hcb:Y.cell? ⟨w.heap.size,0,none⟩=some (.slice ad n cap):=by rw[World.cell?,h1b];rfl
 rw[←I]at L
 go_enter_defers func454,Tryz.ntmps454
 apply wp_seq;apply ji;refine .inl ?_;simp[Oper.wp,go_sem,wpList,Exit.then];rw[←I];have he:∀(vs:Bh BJ) (w:BU),(callFunc 461 vs).run Ap w=.ok (.enter 461 vs) w:=λvs w=>Uu (P:=Ap) (f:=461) A8 vs w;refine .inl ?_;apply wp_seq;apply ji;refine .inl ?_;simp[Oper.wp,go_sem,hmf,wpList,Exit.then];refine .inl ?_;apply wp_seq;apply ji;refine .inl ?_;simp[Oper.wp,go_sem,wpList,Exit.then,hcb,he];refine .inl (.inl (.inl (L.mono ?_)));rintro e j ⟨Z,h⟩;have hb:j.heap[w.heap.size]? =some (.cells #[.slice ad n cap] 26 (0,0)):=(Z.block _ AL Bf).trans h1b;have hc:j.heap[w.heap.size+1]? =some (.cells #[.slice none 0 0] 26 (0,0)):=(Z.block _ AL Bf).trans h1c;have hcl:w.heap.size+1<j.heap.size:=(Ic.1 hc).1;have J:w.grownBy j none:=⟨Z.os.trans M.os,Z.tape.trans M.tape,Z.output.trans M.output,FQ M.size Z.size,λi hi hn=>(Z.block i AL hn).trans (M.block i hi hn)⟩
 have U:∀(w3:BU),j.grownBy w3 (some (w.heap.size+1))->w.grownBy w3 none:=λw3 h3=>⟨h3.os.trans J.os,h3.tape.trans J.tape,h3.output.trans J.output,FQ J.size h3.size,λi hi hn=>(h3.block i AL Eh).trans (J.block i hi hn)⟩
 rcases h with⟨O,n',q,rfl,hv⟩|⟨rfl,hbad⟩
 ·have hcc:j.cell? ⟨w.heap.size+1,0,none⟩=some (.slice none 0 0):=by rw[World.cell?,hc];rfl
  have hfz:j.frozen? ⟨w.heap.size+1,0,none⟩=false:=by simp[World.frozen?,hc]
  simp[hcc,hfz,go_sem,wpList,Exit.then];refine .inl (wp_ret ?_);rw[setCell_eq hc];refine leaves_cons (f:=460) (args:= #[.pointer (some ⟨w.heap.size,0,none⟩),.pointer (some ⟨w.heap.size+1,0,none⟩)]) Bf a8O ?_;refine(afw ⟨w.heap.size,0,none⟩ ⟨w.heap.size+1,0,none⟩ _).mono ?_;rintro e u' w'' ⟨rfl,rfl,rfl⟩;have h3:j.grownBy (j.putObj (w.heap.size+1) (.cells #[.slice O n' q] 26 (0,0))) (some (w.heap.size+1)):=⟨rfl,rfl,rfl,Bf,λi hi hne=>bC (λe=>hne (by rw[e]))⟩
  exact⟨.slice O n' q,step_fin (w.heap.size+1) _ _ (Xr hcl) _ rfl,U _ h3,.inl ⟨_,rfl,j,hv,J,hcl,h3⟩⟩
 refine leaves_cons (f:=460) (args:= #[.pointer (some ⟨w.heap.size,0,none⟩),.pointer (some ⟨w.heap.size+1,0,none⟩)]) Bf a8O ?_;refine(al3 w.heap.size (w.heap.size+1) ad n cap (.slice none 0 0) j hb hc).mono ?_;rintro e u' w'' ⟨rfl,rfl,h3,h4⟩;exact⟨.slice ad n cap,step_fin (w.heap.size+1) _ _ h4 _ rfl,U _ h3,.inr ⟨rfl,hbad⟩⟩
def a9S (s:T):Except BJ T->AB T
 | .ok x=>some x
 | .error (.iface t (.agg cs))=>bif t==385&&cs.toList.isEmpty then some s else none
 | .error _=>none
def abM (enc:T->AA D)(dl di:D)(s:T)(r:Except BJ T)(hr:Qm Ap 461 [.d dl,.d (.sl (enc s)),.d di] r (λx=>.d (.sl (enc x))))(U:T)(ho:a9S s r=some U):
 Dh 454 [.d dl,.d (.sl (enc s)),.d di] [] (.d (.sl (enc U))) []:=by
 intro ok X H w J hm hs ha;obtain rfl:H=[]:=I4 hm.hlen;have hsz:J.size=3:=hs
 obtain⟨l,sv,id,rfl⟩:∃l sv id,J= #[l,sv,id]:=⟨J[0],J[1],J[2],by
  apply eM (by simp[hsz]);intro i h1 h2
  match i,h2 with
  |0,_=>rfl
  |1,_=>rfl
  |2,_=>rfl⟩
 have a0:R ok w [] (.d dl) l:=ha 0 Bf;have a1:R ok w [] (.d (.sl (enc s))) sv:=ha 1 Bf;have a2:R ok w [] (.d di) id:=ha 2 Bf
 have slv:∀{ok:Nat->Prop} {w:BU} {H:AA CB} {xs:AA D} {v:BJ},R ok w H (.d (.sl xs)) v->∃ad n cap,v=.slice ad n cap:=λh=>by
  cases h with
  |d _ _ h=>cases h with
   |sl0 ad cap=>exact⟨_,_,_,rfl⟩
   |sl=>exact⟨_,_,_,rfl⟩
 obtain⟨ad,n,cap,rfl⟩:=slv a1;obtain⟨L,hw1⟩:∃L,L=(w.alloc (.cells #[.slice ad n cap] 26 (0,0))).alloc (.cells #[.slice none 0 0] 26 (0,0)):=⟨_,rfl⟩
 have hs1:L.heap.size=w.heap.size+2:=by rw[hw1];simp
 have hg1:FH ok w ok L:=λb I=>⟨I,by rw[hw1];exact(LX _ _ _ (by have h:=hm.kX b I;rw[aJd];omega)).trans (LX _ _ _ (hm.kX b I))⟩
 have hmc:E8 ⟨L,ok,[],[]⟩ ok [] [] L:=
  ⟨.refl _ _,λ_ h=>h,λ_ h=>.inl h,λb I=>by have h:=hm.kX b I;rw[hs1];omega,.refl _,rfl,λk e h he=>by simp at he,λk e h b he=>by simp at he,λk k' e e' h h' b he=>by simp at he⟩
 have Y:∀i,i<3->R ok L [] ([Am.d dl,.d (.sl (enc s)),.d di].getD i .junk) ((#[l,.slice ad n cap,id]:Bh BJ).getD i undef):=λi hi=>by
  match i,hi with
  |0,_=>exact a0.mono hg1 (.refl _)
  |1,_=>exact a1.mono hg1 (.refl _)
  |2,_=>exact a2.mono hg1 (.refl _)
 have hgr:∀{j:Nat->Prop} {H2:AA CB} {O:BU},E8 ⟨L,ok,[],[]⟩ j H2 [] O->L.grownBy O none:=λq=>⟨q.fr.os,q.fr.tape,q.fr.output,q.fr.size,λb I _=>q.fr.block b I Bf⟩
 have Z:Calls Ap 461 #[l,.slice ad n cap,id] L λe O=>L.grownBy O none/\((∃ad' n' M,e=.returned (.slice ad' n' M)/\∃x j,r=.ok x/\E8 ⟨L,ok,[],[]⟩ j [] [] O/\ET j O (.sl (enc x)) (.slice ad' n' M))\/(e=.panicked [{ v:=.iface 385 (.agg #[]),recovered:=false }]/\U=s)):=by
  cases hrr:r with
  |ok x=>
   refine(hr.1 x hrr ok [] [] L _ hmc rfl Y).mono ?_;rintro e O ⟨v,j,H2,rfl,q,hR⟩;obtain⟨ad',n',M,rfl⟩:=slv hR;obtain rfl:H2=[]:=I4 q.hlen;exact⟨hgr q,.inl ⟨ad',n',M,rfl,x,j,rfl,q,by cases hR with |d _ _ h=>exact h⟩⟩
  |error u=>
   rw[hrr]at ho
   have hu:u=.iface 385 (.agg #[])/\U=s:=by
    unfold a9S at ho;split at ho
    ·rename_i h;cases h
    ·rename_i t cs h;cases h;cases ht:(t==385&&cs.toList.isEmpty)with
     |false=>rw[ht]at ho;cases ho
     |true=>
      rw[ht]at ho;simp only[Dx]at ht;obtain rfl:t=385:=by simpa using ht.1
      have :cs= #[]:=by rw[←jW (xs:=cs),List.isEmpty_iff.1 ht.2]
      subst this;exact⟨rfl,(E9 ho).symm⟩
    cases ho
   refine(hr.2 u hrr ok [] [] L _ hmc rfl Y).mono ?_;rintro e O ⟨j,H2,rfl,q⟩;exact⟨hgr q,.inr ⟨by rw[hu.1],hu.2⟩⟩
 rw[hw1]at Z;refine(aoe Z (Rv:=λv O=>∃x j,r=.ok x/\E8 ⟨_,ok,[],[]⟩ j [] [] O/\ET j O (.sl (enc x)) v) (bad:=U=s)).mono ?_;rw[←hw1];rintro e w' ⟨hg,h⟩
 have mk:∀(j:Nat->Prop),(∀b,ok b->j b)->(∀b,j b->ok b\/(w.heap.size<=b/\b<w'.heap.size))->E8 ⟨w,ok,X,[]⟩ j [] [] w':=λj h1 h2=>
  (hm.change (ok':=j) (H':=[]) (es':=[]) (w':=w') (λ_=>False) hg.os hg.tape hg.output hg.size (λb I _=>hg.block b I Bf) (λ_ h=>h.elim) h1 h2 (.refl _) rfl (λk e h he=>by simp at he)).1
 rcases h with⟨v,O,rfl,⟨x,j,hx,q,hD⟩,hg2,hlt,h3⟩|⟨rfl,rfl⟩
 ·rw[hx]at ho;obtain rfl:=E9 ho
  have hgg:FH j O j w':=λb I=>⟨I,h3.block b (q.kX b I) (λe=>by
   obtain rfl:=E9 e;rcases q.AY _ I with h|h|h
   ·have :=hm.kX _ h;omega
   ·simp only at h;omega
   simp at h)⟩
  refine⟨v,j,[],rfl,mk j q.AX (λb I=>?_),.d _ _ (hD.mono hgg)⟩;rcases q.AY b I with h|h|h
  ·exact .inl h
  ·simp only at h;exact .inr ⟨AL,WR (q.kX b I) h3.size⟩
  simp at h
 have hgg:FH ok w ok w':=λb I=>⟨I,hg.block b (hm.kX b I) Bf⟩
 exact⟨_,ok,[],rfl,mk ok (λ_ h=>h) (λ_ h=>.inl h),a1.mono hgg (.refl _)⟩
end Go.Proofs.YteiakhlfaaifnaaGreat
namespace Go.Proofs
open Go.Proofs.YteiakhlfaaifnaaGreat
open Go.Shelf
def Tryz.acM:Go.Shelf.Ren:=⟨λ|6=>489|15=>88|14=>493|28=>145|29=>146|20=>494|21=>495|22=>496|23=>497|24=>498|25=>499|26=>500|27=>501|46=>502|47=>201|48=>202|49=>503|50=>504|57=>505|n=>n,λ|22=>412|24=>414|25=>416|3=>3|39=>122|0=>0|53=>183|55=>185|4=>4|46=>176|45=>175|50=>126|5=>5|9=>9|66=>219|70=>223|76=>269|77=>270|n=>n,λ|n=>n⟩
def Tryz.azk:SlLaysF0.n6 Ap Tryz.acM:={
 mixed:=A8
 f6:=⟨Tryz.f489.name,Ba,Tryz.func489.trans (BM some A8)⟩
 f14:=⟨Tryz.f493.name,Ba,Tryz.func493.trans (BM some A8)⟩
 f15:=Tryz.func88.trans (BM some A8)
 f20:=⟨Tryz.f494.name,Ba,Tryz.func494.trans (BM some A8)⟩
 f21:=⟨Tryz.f495.name,Ba,Tryz.func495.trans (BM some A8)⟩
 f22:=⟨Tryz.f496.name,Ba,Tryz.func496.trans (BM some A8)⟩
 f23:=⟨Tryz.f497.name,Ba,Tryz.func497.trans (BM some A8)⟩
 f24:=⟨Tryz.f498.name,Ba,Tryz.func498.trans (BM some A8)⟩
 f25:=⟨Tryz.f499.name,Ba,Tryz.func499.trans (BM some A8)⟩
 f26:=⟨Tryz.f500.name,Ba,Tryz.func500.trans (BM some A8)⟩
 f27:=⟨Tryz.f501.name,Ba,Tryz.func501.trans (BM some A8)⟩
 f28:=Tryz.func145.trans (BM some A8)
 f29:=Tryz.func146.trans (BM some A8)
 f46:=⟨Tryz.f502.name,Ba,Tryz.func502.trans (BM some A8)⟩
 f47:=Tryz.func201.trans (BM some A8)
 f48:=Tryz.func202.trans (BM some A8)
 f49:=⟨Tryz.f503.name,Ba,Tryz.func503.trans (BM some A8)⟩
 f50:=⟨Tryz.f504.name,Ba,Tryz.func504.trans (BM some A8)⟩
 f57:=⟨Tryz.f505.name,Ba,Tryz.func505.trans (BM some A8)⟩
 t0:=aBB
 a0:=Tryz.isAgg0
 z0:=Tryz.sizeOf0
 v0:=a9v
 t3:=IL
 a3:=lq
 z3:=qU
 v3:=qI
 t4:=SG
 a4:=Sub
 z4:=RdC
 v4:=zf
 t5:=uP
 a5:=Agr
 z5:=wI
 v5:=a00
 t9:=NW
 a9:=a0P
 z9:=uw
 v9:=a0g
 t22:=Tryz.underlying412
 a22:=Tryz.isAgg412
 z22:=Tryz.sizeOf412
 v22:=Tryz.zeroValue412
 t25:=Tryz.underlying416
 a25:=Tryz.isAgg416
 z25:=Tryz.sizeOf416
 v25:=Tryz.zeroValue416
 t39:=aAU
 a39:=Tryz.isAgg122
 z39:=a6L
 v39:=aBK
 t45:=Tryz.underlying175
 a45:=Tryz.isAgg175
 z45:=Tryz.sizeOf175
 v45:=Tryz.zeroValue175
 t46:=Tryz.underlying176
 a46:=Tryz.isAgg176
 z46:=Tryz.sizeOf176
 v46:=Tryz.zeroValue176
 t50:=Tryz.underlying126
 a50:=Tryz.isAgg126
 z50:=Tryz.sizeOf126
 v50:=Tryz.zeroValue126
 t53:=a5t
 a53:=Tryz.isAgg183
 z53:=aAH
 v53:=a3n
 t55:=Tryz.underlying185
 a55:=Tryz.isAgg185
 z55:=Tryz.sizeOf185
 v55:=Tryz.zeroValue185
 t66:=Tryz.underlying219
 a66:=Tryz.isAgg219
 z66:=Tryz.sizeOf219
 v66:=Tryz.zeroValue219
 t70:=Tryz.underlying223
 a70:=Tryz.isAgg223
 z70:=Tryz.sizeOf223
 v70:=Tryz.zeroValue223
 t76:=Tryz.underlying269
 a76:=Tryz.isAgg269
 z76:=Tryz.sizeOf269
 v76:=Tryz.zeroValue269
 t77:=Tryz.underlying270
 a77:=Tryz.isAgg270
 z77:=Tryz.sizeOf270
 v77:=Tryz.zeroValue270 }
end Go.Proofs
namespace Go.Proofs.YteiakhlfaaifnaaGreat
open Go.Proofs.Tryz
variable {H:AA CB}{P:Ch}{T:Bq}{k:Nat}{ok:Nat->Prop}{w:BU}
section
open Go.RowKit Go.Sort
section
variable {α:Type}
def jD (le:α->α->Ac)(x:α):AA α->AA α
 | []=>[x]
 |y::l=>bif le x y then x::y::l else y::jD le x l
def Oz (le:α->α->Ac)(l:AA α):AA α:=l.foldr (jD le) []
def aFQ (le:α->α->Ac)(x:α):∀l,(jD le x l).Perm (x::l)
 | []=>.refl _
 |y::l=>by
  unfold jD;cases h:le x y with
  |true=>exact .refl _
  |false=>exact((aFQ le x l).cons y).trans (.swap x y l)
def Xi (le:α->α->Ac):∀l,(Oz le l).Perm l
 | []=>.refl _
 |x::l=>(aFQ le x (Oz le l)).trans ((Xi le l).cons x)
def aSn {le:α->α->Ac}(I:∀x y z,le x y=true->le y z=true->le x z=true)(J:∀x y,le x y=false->le y x=true)(x:α):∀l,l.Pairwise (λa b=>le a b=true)->(jD le x l).Pairwise (λa b=>le a b=true)
 | [],_=>by simp[jD]
 |y::l,h=>by
  have h':=OE.1 h;unfold jD;cases q:le x y with
  |true=>
   refine OE.2 ⟨λz j=>?_,h⟩;rcases G7.1 j with rfl|j
   ·exact q
   exact I x y z q (h'.1 z j)
  |false=>
   refine OE.2 ⟨λz j=>?_,aSn I J x l h'.2⟩;rcases G7.1 ((aFQ le x l).mem_iff.1 j)with rfl|j
   ·exact J _ _ q
   exact h'.1 z j
def aDk {le:α->α->Ac}(j:∀x y z,le x y=true->le y z=true->le x z=true)(q:∀x y,le x y=false->le y x=true):∀l:AA α,(Oz le l).Pairwise (λa b=>le a b=true)
 | []=>.nil
 |x::l=>aSn j q x _ (aDk j q l)
def aOf {le:α->α->Ac}(j:∀x y z,le x y=true->le y z=true->le x z=true)(q:∀x y,le x y=false->le y x=true)(ha:∀x y,le x y=true->le y x=true->x=y){l m:AA α}(hp:m.Perm l)(hs:m.Pairwise (λa b=>le a b=true)):m=Oz le l:=
 (hp.trans (Xi le l).symm).eq_of_pairwise (λa b _ _ h1 h2=>ha a b h1 h2) hs (aDk j q l)
def aJG {e:α->D}{enc:α->AA BJ}(j:∀x,(e x).cells=(enc x).map .lit):∀l:AA α,flat (l.map e)=(l.flatMap enc).map λv=>.d (.lit v)
 | []=>rfl
 |x::l=>by rw[JE,UN,aJG j l,j,MJ,Jh,Y1];rfl
def wo {enc:α->AA BJ}{k:Nat}(j:∀x,(enc x).length=k):∀l:AA α,(l.flatMap enc).length=l.length*k
 | []=>Bf
 |x::l=>by rw[MJ,Em,j,wo j l,H8,jm,a8N,Vy]
def aUy {e:α->D}{enc:α->AA BJ}(q:∀x,(e x).cells=(enc x).map .lit)(M:∀x,(enc x).length=k)(h1:∀x,∀v∈enc x,v.oneCell'=true){h:CB}{l:AA α}:
 Fh ok w H h (.arr T k (l.map e))↔h.size=k/\lF w T k h.v l.length (l.flatMap enc):=by
 have hl:=wo M l;constructor
 ·rintro⟨I,_,xs,h3,J,O⟩;refine⟨I,?_⟩;rw[DK]at h3
  have :xs=l.flatMap enc:=by
   rw[aJG q]at J O;rw[DK]at J;refine jB J λi hi U=>?_;have Y:=(O i (by simpa using U)).2;simp only[List.getD,KJ,EJ U,Jp,OI,EJ hi]at Y;cases Y with |d _ _ h=>rw[ET.Ze h]
  rw[←this];exact h3
 rintro⟨I,h3⟩;refine⟨I,λx L=>?_,l.flatMap enc,by rw[DK];exact h3,?_⟩
 ·obtain⟨n,_,rfl⟩:=GH.1 L;rw[q,DK,M]
 rw[aJG q];refine⟨Bf,λi hi=>?_⟩;have j:i<(l.flatMap enc).length:=IQ
 simp only[List.getD,KJ,EJ j,Jp,OI];refine⟨?_,.d _ _ (.lit _)⟩;obtain⟨x,_,L⟩:=XQ.1 (Eu j);exact h1 x _ L
def aCl {j:Bh BJ}(hs:j.size=2):j= #[j.getD 0 undef,j.getD 1 undef]:=by
 refine eM (by simp[hs]) λi h1 h2=>?_;simp at h2;have :i=0\/i=1:=AL
 rcases this with rfl|rfl<;>simp[Array.getD,hs]
def EU.aIn {f g:FuncId}{e:α->D}{enc:α->AA BJ}(O:∀x,(e x).cells=(enc x).map .lit)(hk:∀x,(enc x).length=k)(h1:∀x,∀v∈enc x,v.oneCell'=true){l r:AA α}(h:∀(v:BJ) (w:BU),lF w T k v l.length (l.flatMap enc)->Calls P f #[v,.func (.func g) #[] #[]] w λx w'=>x=.returned (.tuple #[])/\lF w' T k v r.length (r.flatMap enc)/\Turns v w w'):
 EU P f [.aQ 0,.d (.fn (.func g) [] [])] [.arr T k (l.map e)] (.eu []) [.arr T k (r.map e)]:=by
 intro ok X H w J hm hs ha;have h0:=ha 0 Bf;have U:=ha 1 Bf;rw[aCl hs];obtain⟨hd,hh,hok⟩:=Gy hm.ent hm.hlen (k:=0) rfl;obtain hv:=P5 h0 hh
 have hf:J.getD 1 undef=.func (.func g) #[] #[]:=by
  simp only[List.getD,rP,qx,OI]at U;generalize J.getD 1 undef=u at U;cases U with
  |d _ _ U=>
   cases U with
   |fn _ _ _ vs us hl hm'=>
    have e1:vs= #[]:=Z7 N7;have e2:us= #[]:=Z7 (by simpa using hm');rw[e1,e2]
 rw[hv,hf];obtain⟨hz,how⟩:=(aUy O hk h1).1 hok;refine(h hd.v w how).mono ?_;rintro x w' ⟨rfl,Y,M⟩;have I:=λb Z=>hm.blk 0 _ hd b rfl rfl hh Z
 have hg:=hm.change (ok':=ok) (H':=H) (w':=w') (es':=[.arr T k (r.map e)]) (λc=>ED hd.v=some c) M.os M.tape M.output M.size M.block (λc O _=>⟨(I c O).1,(I c O).2.2⟩) (λ_ h=>h) (λ_ h=>.inl h) (.refl _) hm.hlen (by
  intro j e' h' q hh'
  match j,q with
  |0,q=>
   simp at q;subst q;rw[hh]at hh';obtain rfl:=E9 hh';refine .inr ⟨(aUy O hk h1).2 ⟨hz,Y⟩,λ_ b Z=>⟨(I b Z).1,WR (I b Z).2.1 M.size,(I b Z).2.2,λk' e'' h'' hne L=>?_⟩⟩
   match k',L with
   |0,_=>exact absurd rfl hne
   |k'+1,L=>simp at L
  |k+1,q=>simp at q)
 exact⟨_,ok,H,rfl,hg.1,.eu [] #[] rfl (λi hi=>Sj)⟩
end
section
variable {α:Type} [Inhabited α]
def a6t {enc:α->AA BJ}(q:∀x,(enc x).length=k)(l:AA α):(flatK enc k l.toArray).toList=l.flatMap enc:=by
 have key:∀(l:AA α) (t:Nat),t<l.length*k->(enc (l[t/k]?.getD default))[t % k]? =(l.flatMap enc)[t]? :=by
  intro l
  induction l with
  |nil=>intro t j;simp at j
  |cons x l J=>
   intro t j;rw[H8,jm,a8N]at j;rw[MJ];by_cases h:t<k
   ·rw[Nat.div_eq_of_lt h,Nat.mod_eq_of_lt h,KZ (by rw[q];exact h)];rfl
   have h':k<=t:=Yo h;rcases bH k with I|I
   ·subst I;simp at j
   have L:t/k=(t-k)/k+1:=Nat.div_eq_sub_div I h';rw[L,Nat.mod_eq_sub_mod h',PL (by rw[q];exact h'),q,←J (t-k) AL,rP]
 refine jB (by simp[wo q]) λt h1 h2=>?_;have j:t<l.length*k:=Y4
 have :=key l t j;rw[EJ h2]at this;have h3:=get_flatK enc k l.toArray t WW;rw[kH _ _ WW]at h3;rw[Array.getElem_toList,h3];have M:(l.toArray)[t/k]! =l[t/k]?.getD default:=Bf
 rw[M];simp[List.getElem!_eq_getElem?_getD,this]
end
def Kr (a b:Int):Int:=if a<b then -1 else if a>b then 1 else 0
def aF (p q:Int×Int×Int):Int:=if p.2.1=q.2.1 then(if p.2.2=q.2.2 then Kr p.1 q.1 else Kr p.2.2 q.2.2)else Kr q.2.1 p.2.1
def yT (a b:Int):Kr a b<0↔a<b:=by
 unfold Kr;split
 ·omega
 split<;>omega
def ahw (p q:Int×Int×Int):aF p q<0↔q.2.1<p.2.1\/p.2.1=q.2.1/\(p.2.2<q.2.2\/p.2.2=q.2.2/\p.1<q.1):=by
 unfold aF;split
 ·split
  ·rw[yT];omega
  rw[yT];omega
 rw[yT];omega
def ahP (a b:Int)(W:BU):Calls Ap 491 #[.int .i64 a,.int .i64 b] W λe w'=>e=.returned (.int .i64 (Kr a b))/\w'=W:=by
 unfold Kr
 go_enter func491,Tryz.ntmps491
 go_wp2
 all_goals (go_ret;exact⟨rfl,rfl⟩)
set_option maxHeartbeats 1000000 in
def apZ (r p1 p2 p3 q1 q2 q3:Int)(hr:r=if p2=q2 then(if p3=q3 then Kr p1 q1 else Kr p3 q3)else Kr q2 p2)(W:BU):Calls Ap 490 #[.agg #[.int .i64 p1,.int .i64 p2,.int .i64 p3],.agg #[.int .i64 q1,.int .i64 q2,.int .i64 q3]] W λe w'=>e=.returned (.int .i64 r)/\∃q I,w'=grow (W.drewN q) I:=by
 have j:=ahP;generalize Kr=c at j hr;have J:p2≠q2->c q2 p2=r:=λh=>by rw[hr,EC h]
 have L:p2=q2->p3≠q3->c p3 q3=r:=λh k=>by rw[hr,Dw h,EC k]
 have M:p2=q2->p3=q3->c p1 q1=r:=λh k=>by rw[hr,Dw h,Dw k]
 clear hr
 go_enter func490,Tryz.ntmps490
 go_wp2_with (go_at_call 491;refine(j _ _ _).mono ?_;rintro e w' ⟨rfl,rfl⟩)
 all_goals go_ret
 ·rename_i h;rw[J LZ];exact⟨rfl,0,_,aGP⟩
 ·rename_i h k;rw[L LZ (by simpa using k)];exact⟨rfl,0,_,aGP⟩
 rename_i h k;rw[M LZ (by simpa using k)];exact⟨rfl,0,_,aGP⟩
def Ls (p q:Int×Int×Int):Ac:= !decide (aF q p<0)
def uG (p q:Int×Int×Int):Ls p q=true↔¬(p.2.1<q.2.1\/q.2.1=p.2.1/\(q.2.2<p.2.2\/q.2.2=p.2.2/\q.1<p.1)):=by
 unfold Ls;rw[RU,qR,ahw]
def aDL (x y z:Int×Int×Int)(h:Ls x y=true)(k:Ls y z=true):Ls x z=true:=by
 rw[uG]at *;omega
def aU9 (x y:Int×Int×Int)(h:Ls x y=false):Ls y x=true:=by
 have h:¬Ls x y=true:=by rw[h];decide
 rw[uG]at *;omega
def aUL (x y:Int×Int×Int)(h:Ls x y=true)(k:Ls y x=true):x=y:=by
 rw[uG]at *;obtain⟨j,q,I⟩:=x;obtain⟨J,L,M⟩:=y;simp only[VF]at *;omega
def aSf (p q:Int×Int×Int):Ls p q=false↔(p.2.1<q.2.1\/q.2.1=p.2.1/\(q.2.2<p.2.2\/q.2.2=p.2.2/\q.1<p.1)):=by
 rw[←Xq,uG,Decidable.not_not]
def adZ (x y z:Int×Int×Int)(h:Ls y x=false)(k:Ls z y=false):Ls z x=false:=by
 rw[aSf]at *;omega
section
variable {α:Type}
def a9Q (f:α->Int×Int×Int)(l:AA α):AB (AA α):=if l.length<=1099511627776 then some (Oz (λx y=>Ls (f x) (f y)) l)else none
def QW (f:α->Int×Int×Int)(x:α):AA BJ:=[.int .i64 (f x).1,.int .i64 (f x).2.1,.int .i64 (f x).2.2]
def afz (f:α->Int×Int×Int)(x:α):(QW f x).length=3:=rfl
def aSk (f:α->Int×Int×Int)(x:α):∀v∈QW f x,v.oneCell'=true:=λv j=>by
 simp[QW]at j;rcases j with rfl|rfl|rfl<;>rfl
def aB1 (f:α->Int×Int×Int)(x y:α):ltOf (λx y=>aF (f x) (f y)) x y= !Ls (f y) (f x):=by simp[ltOf,Ls]
def aZN (f:α->Int×Int×Int):SWO (ltOf λx y:α=>aF (f x) (f y)):=by
 refine⟨λx=>?_,λx y z h k=>?_,λx y z h k=>?_⟩
 ·rw[aB1,(uG (f x) (f x)).2 AL];rfl
 ·rw[aB1,RU]at *;exact adZ _ _ _ h k
 rw[aB1,Bool.not_eq_false']at *;exact aDL _ _ _ k h
variable [Inhabited α]
def acX (f:α->Int×Int×Int)(blk off size:Nat)(w:BU):CmpLays Ap 490 #[] (QW f) 3 (λx y=>aF (f x) (f y)) blk off size w:=
 λm os j _ x y=>apZ (aF (f x) (f y)) (f x).1 (f x).2.1 (f x).2.2 (f y).1 (f y).2.1 (f y).2.2 rfl (sortWorldK (QW f) 3 w blk off m j os)
set_option maxHeartbeats 2000000 in
def azp (f:α->Int×Int×Int)(hf:∀x y,f x=f y->x=y)(e:α->D)(he:∀x,e x=.agg [Ah (f x).1,Ah (f x).2.1,Ah (f x).2.2])(l r:AA α)(h:a9Q f l=some r):
 Dh 489 [.aQ 0,.d (.fn (.func 490) [] [])] [.arr 414 3 (l.map e)] (.eu []) [.arr 414 3 (r.map e)]:=by
 unfold a9Q at h;split at h
 ·rename_i hn;obtain rfl:=E9 h;have Z:=afz f;refine EU.aIn (enc:=QW f) (λx=>by rw[he];rfl) Z (aSk f) λv w how=>?_;generalize hr:Oz (λx y=>Ls (f x) (f y)) l=r;have J:r.length=l.length:=by rw[←hr];exact(Xi _ l).length_eq
  rcases how.2 with⟨rfl,h0⟩|⟨g,cap,L,rfl,hbase,hg,hnc,hcm,hcs,M⟩
  ·have hl:l=[]:=I4 h0;have hl':r=[]:=I4 (by rw[J,h0]);subst hl;subst hl';refine(AnyF.slices_SortFunc_none (P:=Ap) (ρ:=Tryz.acM) { Tryz.azk with } none 0 _ w).mono ?_;rintro e w' ⟨rfl,h⟩;subst h;exact⟨rfl,lF.nil _ _ _,Turns.refl _ _⟩
  have hgs:g<w.heap.size:=(Ic.1 hg).1;have q:=a6t (enc:=QW f) Z l
  have hH:HoldsK (QW f) 3 w g 0 l.toArray:=by
   unfold HoldsK;have O:(flatK (QW f) 3 l.toArray).size=l.length*3:=Bf
   generalize flatK (QW f) 3 l.toArray=F at q O;intro j U;refine⟨?_,by simp[World.frozen?,hg]⟩;have e0:(L.toList.take (l.length*3))[j]? =(l.flatMap (QW f))[j]? :=by rw[M]
   rw[Qr AL,←q]at e0;simp only[World.cell?,hg,KW];simp only[Option.isSome_none,Ru,Ky];rw[←YK,e0,YK,kH F j U,dX U];rfl
  have eg:∀args w,(callFunc 490 args).run Ap w=.ok (.enter 490 args) w:=enters_of func490 A8 rfl;have :=AnyQ.slices_SortFunc (P:=Ap) (ρ:=Tryz.acM) Tryz.azk 3 Tryz.isAgg414 Tryz.sizeOf414 (QW f) Z (aSk f) (λx y=>aF (f x) (f y)) (aZN f) 490 #[] g 0 cap l.toArray w eg (acX f _ _ _ _) hH hgs Eh;refine this.mono ?_;rintro e' w' ⟨rfl,Y,n,os,hp,hs,rfl⟩;obtain⟨hsz,_,I⟩:=hp;have hsz':Y.size=l.length:=by simpa using hsz
  have e1:Y.extract 0 l.toArray.size=Y:=by rw[←hsz];exact aBg
  rw[e1,aBg]at I
  have hm:Y.toList=r:=by
   rw[←hr];refine aOf (le:=λx y=>Ls (f x) (f y)) (λx y z=>aDL (f x) (f y) (f z)) (λx y=>aU9 (f x) (f y)) (λx y h k=>hf _ _ (aUL (f x) (f y) h k)) I ?_;refine Jq.2 λi j hi U hij=>?_;have :=hs i j (F6 _) hij (by simpa[hsz']using U);rw[aB1,kH Y i IQ,kH Y j (by simpa using U)]at this;simpa using this
  obtain rfl:Y=r.toArray:=by rw[←hm]
  have hF:=a6t (enc:=QW f) Z r;have O:(flatK (QW f) 3 r.toArray).size=l.length*3:=by simp[J]
  generalize hFF:flatK (QW f) 3 r.toArray=F at hF O;refine⟨rfl,⟨by rw[wo Z],.inr ⟨g,cap,putCells id 0 F L,by rw[J],F6 _,?_,AL,hcm,by simpa[putCells]using hcs,?_⟩⟩,⟨rfl,rfl,rfl,by simp[sortWorldK,putRowK],λc hc hne=>?_⟩⟩
  ·unfold sortWorldK putRowK;rw[hFF,heap_grow_old _ _ (by simpa using hgs)];simp[putRow,mapBlock,Sort.ahead,X0,hg,onCells]
  ·rw[←hF,J];apply dG;intro j;by_cases U:j<l.length*3
   ·have hjc:j<L.size:=by have :=Ko 3 hnc;omega
    rw[Qr U,YK,YK];have hjF:j<F.size:=AL
    simp[putCells,hjF,hjc]
   rw[aLY AL,Lu Eh]
  unfold sortWorldK putRowK;rw[heap_grow_old _ _ a2Z];have :g≠c:=λe=>hne pI;simp[putRow,mapBlock,Sort.ahead,X0,this]
 cases h
end
end
variable {C:FI}{es:AA Bc}{hd:CB}
def E8.freeze (hm:E8 C ok H es w){e:Bc}(hk:es[k]? =some e)(hl:e.live=true)(U:H[k]? =some hd):E8 C (λb=>ok b\/ED hd.v=some b) H (es.set k .dead) w:=by
 have J:k<es.length:=(H6.1 hk).1;have hblk:=λb q=>hm.blk k _ hd b hk hl U q;have hg:FH ok w (λb=>ok b\/ED hd.v=some b) w:=λb q=>⟨.inl q,rfl⟩
 refine⟨hm.fr,λb q=>.inl (hm.AX b q),?_,?_,hm.names,fC,?_,?_,?_⟩
 ·rintro b (q|q)
  ·exact hm.AY b q
  grind
 ·rintro b (q|q)
  ·exact hm.kX b q
  grind
 ·intro j e' h' he L;rcases NU J he with⟨rfl,rfl⟩|⟨_,M⟩
  ·trivial
  exact(hm.ent j e' h' M L).mono hg (.refl _) (λ_ _ _=>rfl)
 ·intro j e' h' b he O L q;rcases NU J he with⟨rfl,rfl⟩|⟨hne,M⟩
  ·cases O
  have h3:=hm.blk j e' h' b M O L q;refine⟨λI=>?_,h3.2⟩;rcases I with I|I
  ·exact h3.1 I
  exact hne (hm.G8 j k e' _ h' hd b M hk O hl L U q I)
 intro i j e1 e2 h1 h2 b he1 he2 Y Z hh1 hh2 hb1 hb2;rcases NU J he1 with⟨rfl,rfl⟩|⟨_,aq9⟩
 ·cases Y
 rcases NU J he2 with⟨rfl,rfl⟩|⟨_,ara⟩
 ·cases Z
 exact hm.G8 i j e1 e2 h1 h2 b aq9 ara Y Z hh1 hh2 hb1 hb2
variable {K V:Type}{M t:Bq}{clock i n:Nat}{ms:Bh MapEntry}{o:Oper}{x:Bz}
def aNJ {O:Bq}{m:AA (BJ×D)}(ht:P.underlying t=some (.map M O))(U:es[k]? =some (.map m))(ho:o.op=.range t x:=by exact rfl):CG P o [(x,.mp k)] es (.ptr es.length 0) (es.set k .dead++[.iter m []]):=
 .eff λC ok H a w hm hn=>by
  obtain⟨hd,Y,I⟩:=Gy hm.ent hm.hlen U;obtain⟨b,ms,clock,h1,h2,h3⟩:=I;have Z:=TI (hn (x,.mp k) Bf) Y;simp only at Z;have hb:b<w.heap.size:=(Ic.1 h2).1;have m0:=hm.freeze U rfl Y;have g0:FH ok w (λc=>ok c\/ED hd.v=some c) w:=λc q=>⟨.inl q,rfl⟩
  have J:ED hd.v=some b:=a7i
  have g1:FH (λc=>ok c\/ED hd.v=some c) w (λc=>ok c\/ED hd.v=some c) (w.alloc (.mapIter (some b) clock #[] clock)):=λc q=>⟨q,LX _ _ _ (m0.kX c q)⟩
  have L:Fh (λc=>ok c\/ED hd.v=some c) (w.alloc (.mapIter (some b) clock #[] clock)) (H++[⟨.pointer (some ⟨w.heap.size,0,none⟩),0⟩]) ⟨.pointer (some ⟨w.heap.size,0,none⟩),0⟩ (.iter m []):=
   ⟨w.heap.size,b,ms,clock, #[],rfl,mY _ _,.inr J,(LX _ _ _ hb).trans h2,(h3.mono g0).mono g1,rfl,λj i hj=>by simp at hj⟩
  obtain⟨m1,g2⟩:=m0.push (.mapIter (some b) clock #[] clock) ⟨.pointer (some ⟨w.heap.size,0,none⟩),0⟩ _ (a4H w) L;refine⟨.pointer (some ⟨w.heap.size,0,none⟩),_,_,_,.inl ?_,g0.trans g2,IE _ _,m1,.ptr _ _ w.heap.size 0 Q8⟩;have hr:=run_range_map (P:=P) w t M O b ms clock ht h2;simp[execOp,ho,Z,h1,hr]
def born_inj {es:AA (BJ×D)}(h:KR ok w es ms clock){j:Nat}{m n:MapEntry}(hi:ms[i]? =some m)(q:ms[j]? =some n)(I:m.born=n.born):i=j:=by
 rcases SPr i j with h1|h1|h1
 ·have :=h.inc i j m n h1 hi q;omega
 ·exact h1
 have :=h.inc j i n m h1 q hi;omega
def aqB {es:AA (BJ×D)}(h:KR ok w es ms clock):(ms.toList.map (·.born)).Nodup:=by
 unfold List.Nodup;rw[Jq];intro i j hi q I;simp only[DK,Vf]at hi q;have J:ms[i]? =some ms[i]:=XA
 have L:ms[j]? =some ms[j]:=ku
 simp only[Pn,Array.getElem_toList];intro e;have :=born_inj h J L e;omega
def aNx {ek:K->BJ}{ev:V->D}{m:AA (K×V)}{vis:AA Nat}{p:K×V}(hp:m[i]? =some p)(he:es[n]? =some (.iter (m.map (CY ek ev)) (vis++[i])))(ho:o.op=.entry x:=by exact rfl):
 CG P o [(x,.ptr n 0)] es (.eu [.d (.lit (ek p.1)),.d (ev p.2)]) es:=
 .pure λok H a w I hl hn=>by
  obtain⟨hd,hh,L⟩:=Gy I hl he;obtain⟨bi,U,ms,clock,seen,h1,h2,h3,h4,Y,h6,h7⟩:=L;have M:=hn (x,.ptr n 0) Bf;simp only at M;generalize hv:a.eval x=v at M;cases M with
  |ptr _ _ b' s Z=>
   rw[hh]at Z;obtain rfl:=E9 Z;simp only[Value.pointer.injEq,Nw,Addr.mk.injEq]at h1;obtain⟨rfl,_⟩:=h1;obtain⟨e,q1,q2⟩:=h7 vis.length i Bf;have O:(m.map (CY ek ev))[i]? =some (CY ek ev p):=by rw[KJ,hp];rfl
   obtain⟨r1,r2,_⟩:=Y.ent i _ e O q1;refine⟨.tuple #[e.key,e.val],?_,.eu _ _ rfl λj hj=>?_⟩
   ·have q:seen.back?=some e.born:=by
     grind
    have J:e∈ms.toList:=by
     grind
    have hf:ms.find? (·.born==e.born)=some e:=by rw[←Array.find?_toList];exact find_born e ms.toList (aqB Y) J
    have g1:(getObj b').run P w=.ok (.mapIter (some U) clock seen clock) w:=by simp[getObj,Sem.run,h2]
    have g2:(getObj U).run P w=.ok (.map ms clock) w:=Qv h4;simp[execOp,ho,hv,Instr.entry,g1,g2,q,hf]
   match j,hj with
   |0,_=>
    rw[show([Am.d (.lit (ek p.1)),.d (ev p.2)]:AA Am).getD 0 .junk=.d (.lit (ek p.1))from rfl,show(#[e.key,e.val]:Bh BJ).getD 0 undef=e.key from rfl,r1];exact .d _ _ (.lit _)
   |1,_=>
    exact .d _ _ r2
variable {seen:Bh Nat}
def aiT {ty:Bq}{bi bm:Nat}{es:AA (BJ×D)}(hi:w.heap[bi]? =some (.mapIter (some bm) clock seen clock))(hb:w.heap[bm]? =some (.map ms clock))(hM:KR ok w es ms clock):
 ((leftOf ms seen).size=0/\(Instr.next (.pointer (some ⟨bi,0,none⟩)) false ty).run P w=.ok (.tuple #[.bool false]) w)\/
 ∃e∈(leftOf ms seen).toList,∃q:BU,(q=w\/q=w.drew)/\(Instr.next (.pointer (some ⟨bi,0,none⟩)) false ty).run P w=.ok (.tuple #[.bool true,e.key,e.val]) (q.putObj bi (.mapIter (some bm) clock (seen.push e.born) clock)):=by
 have I:∀x∈ms.toList,x.born<clock:=λx M=>by
  obtain⟨i,hi,rfl⟩:=I8 M;have O:i<ms.size:=IQ
  have hie:i<es.length:=by rw[←hM.len];exact O
  have :=(hM.ent i es[i] ms[i] (by simp[hie]) (by simp[O])).2.2;simpa using this
 simp only[Instr.next,getObj,GL,Sem.run,hi,hb,Result.andThen,next_test_false seen ms clock clock I (Eo _),Ru,Ky];unfold leftOf;have J:∀x∈(Array.filter (λe=> !seen.contains e.born) ms).toList,x.born<clock:=λx M=>I x (by simp at M ⊢;exact M.1);generalize Array.filter (λe=> !seen.contains e.born) ms=L at J ⊢;have e1:L.filter (λx=>x.born<clock)=L:=Array.filter_eq_self.2 (λx M=>by simpa using J x oI)
 have e2:L.filter (λx=>x.born>=clock)= #[]:=by
  rw[Array.filter_eq_empty_iff]
  grind
 simp only[e1,e2,Array.append_empty];by_cases h0:L.size=0
 ·left;have :L= #[]:=Z7 h0;subst this;refine⟨rfl,?_⟩;simp[choose,Sem.run,Question.forced]
 right;have hne:L.isEmpty=false:=by simp[Array.isEmpty,h0]
 simp only[hne,Ru,Ky,Array.empty_append,Array.size_map]
 have hch:∃(j:Nat) (q:BU),j<L.size/\(q=w\/q=w.drew)/\(choose (Question.mapNext L.size)).run P w=.ok j q:=by
  by_cases hf:L.size<=1
  ·exact⟨0,w,AL,.inl rfl,by simp[choose,Sem.run,Question.forced,hf]⟩
  exact⟨_,w.drew,rC _ AL,.inr rfl,by
   simp only[choose,Sem.run,Question.forced,Ik,hf,Ky,Question.cut]
   rfl⟩
 obtain⟨j,q,hj,U,Y⟩:=hch;refine⟨L[j],Bf,q,U,?_⟩;have hi1:q.heap[bi]? =some (.mapIter (some bm) clock seen clock):=by rcases U with rfl|rfl<;>exact hi
 have Z:∀(o':Obj),(setObj bi o').run P q=.ok () (q.putObj bi o'):=λo'=>by simp[setObj,Sem.run,hi1,World.putObj]
 simp only[Y,Array.getElem?_map,dX hj,Jp,GL,Z,Result.andThen];rfl
variable {A Rr:Type}{Q:Exit->BP->Prop}{l rest:AA Oper}{ops:Bh Oper}{σ:BP}
def apz {e:MapEntry}(h:e∈(leftOf ms seen).toList):e∈ms.toList/\e.born∉seen:=by
 unfold leftOf at h;simp at h
 grind
def Dp.next {ek:K->BJ}{ev:V->D}{ty:Ac}(n:Nat)(m:AA (K×V))(vis:AA Nat)(hn:σ.ents[n]? =some (.iter (m.map (CY ek ev)) vis))(ho:o.op=.next x false)(hx:σ.get x=.ptr n 0)(hg:LH ops σ o.guard=some true)(h0:(∀i,i<m.length->i∈vis)->Dp P ops rest (σ.vY o.dst (.eu [.d (EH false)])) Q)(h1:∀i p,m[i]? =some p->i∉vis->Dp P ops rest (σ.put o.dst (.eu [.d (EH true),.d (.lit (ek p.1)),.d (ev p.2)]) (σ.ents.set n (.iter (m.map (CY ek ev)) (vis++[i])))) Q):Dp P ops (o::rest) σ Q:=by
 refine⟨λro l2 Q' C ok H a w J hk=>?_⟩;show wpListIn (Js ro) 0 P ops Q' (o::(rest++l2)) a w;unfold wpListIn;rw[Dw (WZ J (QD hg))];have hv:=hx▸J.get x;obtain⟨hd,hhd,hent⟩:=Gy J.mem.ent J.mem.hlen hn;obtain⟨bi,O,ms,clock,seen,q1,q2,q3,q4,q5,q6,q7⟩:=hent
 have M:a.eval x=.pointer (some ⟨bi,0,none⟩):=by
  generalize a.eval x=v at hv;cases hv with
  |ptr _ _ b' s hH=>
   rw[hhd]at hH;obtain rfl:=E9 hH;simp only[Value.pointer.injEq,Nw,Addr.mk.injEq]at q1;obtain⟨rfl,_⟩:=q1;rfl
 have hlen:ms.size=m.length:=by rw[q5.len,DK]
 unfold Oper.wpIn;rw[lW _ _ _ (by rw[ho];intro c h;cases h)];rcases aiT (P:=P) (ty:=o.type) q2 q4 q5 with⟨hs,hr⟩|⟨e,U,w1,hw1,hr⟩
 ·have he:(execOp a.eval o).run P w=.ok (.value (.tuple #[.bool false])) w:=by simp[execOp,ho,M,hr]
  rw[he];refine⟨λ_ _=>trivial,?_⟩
  refine(h0 λi hi=>?_).run ro l2 Q' C ok H _ w (J.put o.dst (.refl _ _) (.refl _) J.mem (.eu _ _ rfl λj q=>by
   match j,q with
   |0,_=>exact .d _ _ (.lit _))) hk
  have Y:i<ms.size:=AL
  have hnot:ms[i]∉(leftOf ms seen).toList:=by
   grind
  have hin:ms[i].born∈seen:=by
   apply aAG;intro hc;refine hnot ?_;unfold leftOf;simp[hc]
  obtain⟨j,q,hje⟩:=Array.getElem_of_mem hin;have hjv:j<vis.length:=AL
  obtain⟨e,r1,r2⟩:=q7 j vis[j] (by simp[hjv])
  have hb:e.born=ms[i].born:=by
   grind
  have :=born_inj q5 r1 (show ms[i]? =some ms[i] by simp[Y]) hb;rw[←this];simp
 have he:(execOp a.eval o).run P w=.ok (.value (.tuple #[.bool true,e.key,e.val])) (w1.putObj bi (.mapIter (some O) clock (seen.push e.born) clock)):=by simp[execOp,ho,M,hr]
 rw[he];refine⟨λ_ _=>trivial,?_⟩;obtain⟨aPf,hes⟩:=apz U;obtain⟨i,hi,hie⟩:=I8 aPf;have Y:i<ms.size:=IQ
 have Z:ms[i]? =some e:=by rw[←hie];simp[Y]
 have him:i<m.length:=AL
 have hpe:(m.map (CY ek ev))[i]? =some (CY ek ev m[i]):=by simp[him]
 obtain⟨r1,r2,_⟩:=q5.ent i _ e hpe Z
 have aPg:i∉vis:=λhc=>by
  obtain⟨j,q,hje⟩:=I8 hc;obtain⟨e2,s1,s2⟩:=q7 j i (by simp[←hje,q]);rw[Z]at s1;obtain rfl:=E9 s1
  grind
 have L:E8 C ok H σ.ents w1/\FH ok w ok w1:=by
  rcases hw1 with rfl|rfl
  ·exact⟨J.mem,.refl _ _⟩
  exact J.mem.drew
 have hi1:w1.heap[bi]? =some (.mapIter (some O) clock seen clock):=by rcases hw1 with rfl|rfl<;>exact q2
 have I:w1.heap[O]? =some (.map ms clock):=(L.2 O q3).2.trans q4;have hne:O≠bi:=λe=>by rw[e,hi1]at I;cases I
 obtain⟨m2,g2⟩:=L.1.ao9 (o:=.mapIter (some O) clock (seen.push e.born) clock) (e':=.iter (m.map (CY ek ev)) (vis++[i])) hn rfl hhd (by rw[q1];rfl)
  (λg=>⟨bi,O,ms,clock,seen.push e.born,q1,Xr (Ic.1 hi1).1,q3,(bC hne).trans I,(q5.mono L.2).mono g,by simp[q6],λj i' q=>by
   by_cases hjl:j<vis.length
   ·rw[KZ hjl]at q;obtain⟨e2,s1,s2⟩:=q7 j i' q;exact⟨e2,s1,by rw[Array.getElem?_push_lt AL];simpa[dX (show j<seen.size by omega)]using s2⟩
   have hj2:j=vis.length:=by
    have :=(H6.1 q).1;simp at this;omega
   subst hj2;simp at q;subst q
   exact⟨e,Z,by rw[←q6];simp⟩⟩)
 have g3:=L.2.trans g2
 have hp:=(h1 i m[i] (by simp[him]) aPg).run ro l2 Q' C ok H (a.put o.dst (.tuple #[.bool true,e.key,e.val])) _ (J.put o.dst (x:=.eu [.d (EH true),.d (.lit (ek m[i].1)),.d (ev m[i].2)]) g3 (.refl _) m2 (.eu _ _ rfl λj q=>by
  match j,q with
  |0,_=>exact .d _ _ (.lit _)
  |1,_=>
   show R ok _ H (.d (.lit (ek m[i].1))) e.key;rw[r1];exact .d _ _ (.lit _)
  |2,_=>exact .d _ _ (r2.mono g3))) hk
 exact hp
def Bl.aDm {cd:Code}(S:AA Nat->A->BP)(m:AA (K×V))(step:A->K×V->AB A)(Kf:A->AB Rr)(r:Rr)(a0:A)(hs:Gt σ (S [] a0))(O:∀vis:AA Nat,vis.Nodup->(∀i,i∈vis↔i<m.length)->((vis.filterMap λ(i:Nat)=>m[i]?).foldlM step a0).bind Kf=some r)(round:∀(J:BP->Prop) (vis:AA Nat) (a:A),((∀i,i<m.length->i∈vis)->Kf a=some r)->(∀i p,m[i]? =some p->i∉vis->∃a',step a p=some a'/\∀s,Gt s (S (vis++[i]) a')->J s)->Bl P cd (S vis a) (Jd J Q)):Bl P (.loop cd) σ Q:=by
 have Z:∀vis:AA Nat,vis.Nodup->(∀i∈vis,i<m.length)->∃rest,(vis++rest).Nodup/\(∀i,i∈vis++rest↔i<m.length):=λvis q I=>by
  refine⟨(List.range m.length).filter λi=> !vis.contains i,?_,λi=>?_⟩
  ·refine aAu.2 ⟨q,List.Pairwise.filter _ List.nodup_range,λa ha b hb e=>?_⟩;subst e;rw[He]at hb;simp[ha]at hb
  rw[KG,He];constructor
  ·rintro(h|h)
   ·exact I i h
   simpa using h.1
  intro h;by_cases hc:i∈vis
  ·exact .inl hc
  exact .inr ⟨LZ,by simp[hc]⟩
 refine Bl.loop (λn s=>∃vis a,n=m.length-vis.length/\vis.Nodup/\(∀i∈vis,i<m.length)/\(vis.filterMap λ(i:Nat)=>m[i]?).foldlM step a0=some a/\Gt s (S vis a)) (m.length) ⟨[],a0,Bf,iZ,λi h=>Il,rfl,hs⟩ ?_;rintro n s ⟨vis,a,rfl,q,I,hf,U⟩;refine Nu U (round _ vis a (λhc=>?_) (λi p hp hi=>?_))
 ·have :=O vis q (λi=>⟨I i,hc i⟩);rw[hf]at this;exact this
 have him:i<m.length:=(H6.1 hp).1;have L:(vis++[i]).Nodup:=aAu.2 ⟨q,Bf,λa ha b hb e=>by simp at hb;subst hb;subst e;exact hi ha⟩
 have M:∀j∈vis++[i],j<m.length:=λj hj=>by
  rcases KG.1 hj with h|h
  ·exact I j h
  simp at h;subst h;exact him
 obtain⟨rest,h1,h2⟩:=Z (vis++[i]) L M;have h3:=O _ h1 h2;rw[ou,ou]at h3;simp only[Vm,List.filterMap_nil,hp,List.foldlM_append,W9,List.foldlM_nil,hf,bind,pure,Af]at h3;cases hst:step a p with
 |none=>rw[hst]at h3;simp at h3
 |some a'=>
  refine⟨a',rfl,λs hs=>⟨m.length-(vis++[i]).length,?_,vis++[i],a',rfl,L,M,?_,hs⟩⟩
  ·have :vis.length<m.length:=by
    have U:vis.length<=(List.range m.length).length:=by
     refine aWq q ?_;intro j hj;simpa using I j hj
    have Y:(vis++[i]).length<=(List.range m.length).length:=by
     refine aWq L ?_;intro j hj;simpa using M j hj
    simp at Y;omega
   simp;omega
  rw[ou,List.foldlM_append,hf];simp[hp,hst]
variable {α:Type}
def aQi:∀(m:AA α) (vis:AA Nat),vis.Nodup->(∀i,i∈vis↔i<m.length)->(vis.filterMap λ(i:Nat)=>m[i]?).Perm m:=λm vis j q=>by
 have h1:vis.Perm (List.range m.length):=by
  grind
 have h2:((List.range m.length).filterMap λ(i:Nat)=>m[i]?)=m:=by
  apply dG;intro i
  have :∀(n:Nat),n<=m.length->((List.range n).filterMap λ(i:Nat)=>m[i]?)=m.take n:=by
   intro n
   induction n with
   |zero=>
    intro _;simp
   |succ n I=>
    intro J;rw[List.range_succ,ou,I AL];have hl:n<m.length:=AL
    simp[hl]
  rw[this m.length (Eo _),Ho]
 have h3:=h1.filterMap (λ(i:Nat)=>m[i]?)
 rwa [h2]at h3
def aJF {α β:Type}{c:α->Ac}{f:α->β}{b:Nat}:∀(l:AA α) (v:AA β),
 l.foldlM (λv p=>bif c p then(CZ b v [f p]).bind λx=>some x else some v) v=if(v.length+(l.filter c).length)*b<=140737488355328\/l.filter c=[]then some (v++(l.filter c).map f)else none
 | [],v=>Bf
 |p::l,v=>by
  rw[W9];cases I:c p with
  |false=>
   have q:=aJF (c:=c) (f:=f) (b:=b) l v;simp only[BO,bind,Af,q,V5,I,Ru,Ky]
  |true=>
   simp only[Bd,V5,I,Jy];have L:CZ b v [f p]=if(v.length+[f p].length)*b<=140737488355328 then some (v++[f p])else none:=rfl
   rw[L];by_cases j:(v.length+[f p].length)*b<=140737488355328
   ·rw[Dw j];have q:=aJF (c:=c) (f:=f) (b:=b) l (v++[f p]);simp only[Af,bind,q];have J:(v++[f p]).length+(l.filter c).length=v.length+(p::l.filter c).length:=Eh
    rw[J];by_cases hl:l.filter c=[]
    ·rw[hl]at J ⊢;simp only[H8,La]at j ⊢;simp[j]
    simp[hl]
   rw[EC j];simp only[aAR,bind];rw[EC];rintro(h|h)
   ·refine j (FQ (Ko _ ?_) h);simp
   cases h
variable {β:Type}{b:Nat}
def aXq {c:α->Ac}{f:α->β}{I q:AA α}{v:AA β}{Kf:AA β->AB Rr}{r:Rr}(hp:I.Perm q)(L:∀x y,x.Perm y->Kf x=Kf y)(h:(q.foldlM (λv p=>bif c p then(CZ b v [f p]).bind λx=>some x else some v) v).bind Kf=some r):
 (I.foldlM (λv p=>bif c p then(CZ b v [f p]).bind λx=>some x else some v) v).bind Kf=some r:=by
 rw[aJF]at h ⊢;have j:=hp.filter c
 have e:((v.length+(I.filter c).length)*b<=140737488355328\/I.filter c=[])↔((v.length+(q.filter c).length)*b<=140737488355328\/q.filter c=[]):=by
  rw[j.length_eq];constructor
  ·grind
  rintro(h|h)
  ·exact .inl h
  exact .inr (by rw[h]at j;exact j.eq_nil)
 by_cases J:((v.length+(q.filter c).length)*b<=140737488355328\/q.filter c=[])
 ·rw[Dw J]at h;rw[Dw (e.2 J)];simp only[Af]at h ⊢;rw[←h];exact L _ _ ((j.map f).append_left v)
 rw[EC J]at h;cases h
section
variable {K V:Type} [BEq K]
def Gp :AA (K×V)->K->Nat
 | [],_=>0
 |p::m,k=>bif k==p.1 then 0 else Gp m k+1
def aWF {ek:K->BJ}{kd:TypeDesc}(hs:∀a b,Instr.sameNow kd (ek a) (ek b)=some (a==b))(k:K)(v:V):∀(m:AA (K×V)) (l:AA MapEntry) (i:Nat),l.map (·.key)=m.map (λp=>ek p.1)->
 (Instr.findNow kd (ek k) l i=some none/\DT m k=none/\FU m k v=m++[(k,v)]/\Gp m k=m.length)\/
 ∃e p,Instr.findNow kd (ek k) l i=some (some (i+Gp m k,e.val))/\l[Gp m k]? =some e/\m[Gp m k]? =some p/\DT m k=some p.2/\(k==p.1)=true/\FU m k v=m.set (Gp m k) (k,v)
 | [],[],_,_=>.inl ⟨rfl,rfl,rfl,rfl⟩
 | [],_::_,_,h=>Il
 |_::_,[],_,h=>Il
 |p::m,e::l,i,h=>by
  simp only[JE,a6H]at h;cases j:(k==p.1)with
  |true=>
   refine .inr ⟨e,p,?_,?_,?_,?_,j,?_⟩
   ·simp[Instr.findNow,h.1,hs,j,Gp]
   ·simp[Gp,j]
   ·simp[Gp,j]
   ·simp[DT,j]
   simp[FU,Gp,j]
  |false=>
   rcases aWF hs k v m l (i+1) h.2 with⟨h1,h2,h3,q⟩|⟨e',I,h1,h2,h3,q,J,L⟩
   ·refine .inl ⟨?_,?_,?_,?_⟩
    ·simp[Instr.findNow,h.1,hs,j,h1]
    ·simp[DT,j,h2]
    ·simp[FU,j,h3]
    simp[Gp,j,q]
   refine .inr ⟨e',I,?_,by simpa[Gp,j]using h2,by simpa[Gp,j]using h3,?_,J,?_⟩
   ·simp[Instr.findNow,h.1,hs,j,h1,Gp];omega
   ·simp[DT,j,q]
   simp[FU,j,L,Gp]
def aX8 (k:K)(v:V):∀m:AA (K×V),(FU m k v)[Gp m k]? =some (k,v)
 | []=>rfl
 |p::m=>by
  cases j:(k==p.1)with
  |true=>simp[FU,Gp,j]
  |false=>simp[FU,Gp,j,aX8 k v m]
def aXI (k:K)(v u:V):∀m:AA (K×V),(FU m k v).set (Gp m k) (k,u)=FU m k u
 | []=>rfl
 |p::m=>by
  cases j:(k==p.1)with
  |true=>simp[FU,Gp,j]
  |false=>simp[FU,Gp,j,aXI k v u m]
end
section
variable {es:AA (BJ×D)}
def U3.nil:U3 #[] 0:=⟨rfl,λi e h=>Il⟩
def U3.push (h:U3 ms clock){k v:BJ}:U3 (ms.push { key:=k,val:=v,born:=clock }) (clock+1):=by
 refine⟨by simp[h.1],λi e j=>?_⟩;rw[pW]at j;split at j
 ·rename_i q;obtain rfl:=E9 j;rw[q];exact h.1
 exact h.2 i e j
def U3.modify (h:U3 ms clock)(j:Nat)(f:MapEntry->MapEntry)(I:∀e,(f e).born=e.born):U3 (ms.modify j f) clock:=by
 refine⟨by simp[h.1],λi e q=>?_⟩;rw[X0]at q;split at q
 ·rw[dM]at q;obtain⟨J,h1,rfl⟩:=q;rw[I];exact h.2 i J h1
 exact h.2 i e q
def U3.find (h:U3 ms clock)(q:n<ms.size):ms.findIdx? (λe=>(e.born:Int)==(n:Int))=some n:=by
 rw[Array.findIdx?_eq_some_iff_getElem];refine⟨q,?_,λj I=>?_⟩
 ·have :=h.2 n ms[n] ku;simp[this]
 have :=h.2 j ms[j] (by simp[Nat.lt_trans I q]);simp[this];omega
def aia (ms:Bh MapEntry)(j:Nat)(k v:BJ)(q:∀e,ms[j]? =some e->e.key=k):(ms.modify j λe=>{ e with val:=v })=ms.modify j λe=>{ e with key:=k,val:=v }:=by
 grind
def aio (ms:Bh MapEntry)(j:Nat)(k v:BJ)(q:∀e,ms[j]? =some e->e.val=v):(ms.modify j λe=>{ e with key:=k })=ms.modify j λe=>{ e with key:=k,val:=v }:=by
 grind
end
variable {L kt vt:Bq}{j:Bh (Nat×Bz)}{u y:Bz}{z:BJ}
section
variable {P:Ch} {o:Oper} {es:AA Bc} {K V:Type} [BEq K]
def aip {q:AA (Nat×Nat)}{cs:AA Am}(I:JZ P t q z)(vs:AA Am)(J:LY (λ(i:Nat)=>q[i]?) (Gg z) j.toList vs=cs)(hp:OV (λ(i:Nat)=>q[i]?) (Gg z).length j.toList vs=true)(L:o.op=.build t j:=by exact rfl):
 CG P o (Ot j.toList vs) es (.ag cs) es:=J▸aYq I vs hp L
def EL (x y:Int):Int:=bif y>x then y else x
def bW {ats:Bh Bq}{kd:IntKind}{a b:Int}(q:o.op=.call { callee:=.builtin .max,args:= #[x,y],argTypes:=ats }:=by exact rfl):
 CG P o [(x,.d (.lit (.int kd a))),(y,.d (.lit (.int kd b)))] es (.d (.lit (.int kd (EL a b)))) es:=
 .pure λok H c w _ _ j=>by
  have h1:=(F9 j).1.lit;have h2:=(F9 j).2.lit;simp only at h1 h2;have e:EL a b=if b>a then b else a:=by unfold EL;by_cases h:b>a<;>simp[h]
  refine⟨.int kd (EL a b),?_,.d _ _ (.lit _)⟩;rw[e];simp[execOp,q,resolve,invoke,builtin,h1,h2,Go.run_max_int2]
def aG3 (I:o.op=.makeMap t none:=by exact rfl):CG P o [] es (.mp es.length) (es++[.fK []]):=
 .eff λC ok H a w hm M=>by
  have q:Fh ok (w.alloc (.map #[] 0)) (H++[⟨.map (some w.heap.size),0⟩]) ⟨.map (some w.heap.size),0⟩ (.fK []):=
   ⟨w.heap.size, #[],0,rfl,(aGs w _).1,⟨rfl,λi e m J=>by simp at J,λi j m n _ hm=>by simp at hm⟩,.nil⟩
  obtain⟨h2,h3⟩:=hm.push (.map #[] 0) ⟨.map (some w.heap.size),0⟩ _ (λb q=>aJU) q;refine⟨.map (some w.heap.size),_,ok,_,.inl ?_,h3,IE _ _,h2,.mp _ _ 0 rfl Q8⟩;have L:(newObj (.map #[] 0)).run P w=.ok w.heap.size (w.alloc (.map #[] 0)):=rfl;simp[execOp,I,Instr.makeMap,L]
def eF {ek:K->BJ}(ev:V->D)(O:V){m:AA (K×V)}{key:K}(ht:P.underlying t=some (.map L M))(hk:KeyTy P L ek)(hz:(P.info? M).bind (·.zero)=some z)(q:Zo z=ev O)(I:z.cells.all (·.oneCell')=true)(he:es[k]? =some (.fK (m.map (CY ek ev))))(ho:o.op=.lookup t x y false:=by exact rfl):CG P o [(x,.mp k),(y,.d (.lit (ek key)))] es (.d (ev ((DT m key).getD O))) es:=
 .pure λok H a w j hl U=>by
  obtain⟨hd,hh,J⟩:=Gy j hl he;obtain⟨b,ms,clock,h1,h2,h3,_⟩:=J;have Y:=TI (F9 U).1 hh;have Z:=(F9 U).2.lit;simp only at Y Z;obtain⟨v,hr,hv⟩:=a8j (key:=key) ev ht hk hz q I h2 h3 false;refine⟨v,?_,.d _ _ hv⟩;simp[execOp,ho,Y,Z,h1,hr]
def aaC {ek:K->BJ}(ev:V->D)(O:V){m:AA (K×V)}{key:K}(ht:P.underlying t=some (.map L M))(hk:KeyTy P L ek)(hz:(P.info? M).bind (·.zero)=some z)(q:Zo z=ev O)(I:z.cells.all (·.oneCell')=true)(he:es[k]? =some (.fK (m.map (CY ek ev))))(ho:o.op=.lookup t x y true:=by exact rfl):CG P o [(x,.mp k),(y,.d (.lit (ek key)))] es (.eu [.d (ev ((DT m key).getD O)),.d (EH (DT m key).isSome)]) es:=
 .pure λok H a w j hl U=>by
  obtain⟨hd,hh,J⟩:=Gy j hl he;obtain⟨b,ms,clock,h1,h2,h3,_⟩:=J;have Y:=TI (F9 U).1 hh;have Z:=(F9 U).2.lit;simp only at Y Z;obtain⟨v,hr,hv⟩:=a8j (key:=key) ev ht hk hz q I h2 h3 true;refine⟨.tuple #[v,.bool (DT m key).isSome],?_,.eu _ _ rfl λi hi=>?_⟩
  ·simp[execOp,ho,Y,Z,h1,hr]
  match i,hi with
  |0,_=>exact .d _ _ hv
  |1,_=>exact .d _ _ (.lit _)
def Src (hm:E8 C ok H es w){es0 I:AA (BJ×D)}{j:Nat}{q:Bh MapEntry}(M:es[k]? =some (.fK es0))(O:H[k]? =some hd)(J:hd.v=.map (some b))(L:w.heap[b]? =some (.map ms clock))(U:KR ok w I q j)(Y:U3 q j):(setObj b (.map q j)).run P w=.ok () (w.putObj b (.map q j))/\E8 C ok H (es.set k (.fK I)) (w.putObj b (.map q j))/\FH ok w ok (w.putObj b (.map q j)):=by
 refine⟨by simp[setObj,Sem.run,L,World.putObj],hm.ao9 M rfl O a0x λZ=>⟨b,q,j,J,Xr (Ic.1 L).1,U.mono Z,Y⟩⟩
def afj {ek:K->BJ}(ev:V->D){m:AA (K×V)}{key:K}{val:V}(ht:P.underlying t=some (.map kt vt))(L:KeyTy P kt ek)(M:es[k]? =some (.fK (m.map (CY ek ev))))(ho:o.op=.mapUpdate t x y u:=by exact rfl):
 CG P o [(x,.mp k),(y,.d (.lit (ek key))),(u,.d (ev val))] es .junk (es.set k (.fK ((FU m key val).map (CY ek ev)))):=
 .eff λC ok H a w hm O=>by
  obtain⟨hd,U,Y⟩:=Gy hm.ent hm.hlen M;obtain⟨b,ms,clock,h1,h2,h3,h4⟩:=Y;have Z:=TI (O (x,.mp k) Bf) U;have hy:=(O (y,.d (.lit (ek key))) Bf).lit;have hu:ET ok w (ev val) (a.eval u):=by have :=O (u,.d (ev val)) Bf;cases this with |d _ _ h=>exact h
  simp only at Z hy;obtain⟨kd,q,hs⟩:=L.same;have hks:ms.toList.map (·.key)=m.map (λp=>ek p.1):=a8a
  have I:=L.check;rcases a9D (i:=0) hs key val m ms.toList hks with⟨q1,_,q3⟩|⟨j,e,p,q1,q2,q3,_,q5,q6⟩
  ·have hM:=h3.push (k:=ek key) hu;obtain⟨r1,r2,r3⟩:=Src (P:=P) hm M U h1 h2 hM h4.push;refine⟨undef,_,ok,H,.inr ⟨rfl,?_⟩,r3,.refl _,?_,.junk _⟩
   ·simp[execOp,ho,Z,hy,h1,Instr.mapUpdate,underlying,ht,Qv h2,I,Instr.findKey,q,q1,r1]
   rw[q3,Jh];exact r2
  have hM:=h3.modify (k:=ek key) hu j;obtain⟨r1,r2,r3⟩:=Src (P:=P) hm M U h1 h2 hM (h4.modify j _ λ_=>rfl)
  have J:e.key=ek key:=by
   have h5:(m.map (CY ek ev))[j]? =some (CY ek ev p):=by rw[KJ,q3];rfl
   rw[(h3.ent j _ e h5 nM).1,L.eq _ _ q5];rfl
  have hst:∀w,(Instr.keyThatStays (ek key) (ek key)).run P w=.ok (ek key) w:=λw=>by simp[Instr.keyThatStays,L.bits]
  have hms:ms[j]? =some e:=nM
  refine⟨undef,_,ok,H,.inr ⟨rfl,?_⟩,r3,.refl _,?_,.junk _⟩
  ·simp[execOp,ho,Z,hy,h1,Instr.mapUpdate,underlying,ht,Qv h2,I,Instr.findKey,q,q1,hms,J,hst,r1]
  rw[q6,aA9];exact r2
def aCW {ek:K->BJ}(ev:V->D)(L:V){m:AA (K×V)}{key:K}(ht:P.underlying t=some (.map kt vt))(hk:KeyTy P kt ek)(hz:(P.info? vt).bind (·.zero)=some z)(hzv:Zo z=ev L)(hzl:z.cells.all (·.oneCell')=true)(he:es[k]? =some (.fK (m.map (CY ek ev))))(ho:o.op=.mapEntry t x y:=by exact rfl):
 CG P o [(x,.mp k),(y,.d (.lit (ek key)))] es (.eu [.d (ev ((DT m key).getD L)),.d (Ah (Gp m key:Nat))]) (es.set k (.fK ((FU m key ((DT m key).getD L)).map (CY ek ev)))):=
 .eff λC ok H a w hm hn=>by
  obtain⟨hd,hh,hok⟩:=Gy hm.ent hm.hlen he;obtain⟨b,ms,clock,h1,h2,h3,h4⟩:=hok;have hx:=TI (F9 hn).1 hh;have hy:=(F9 hn).2.lit;simp only at hx hy;obtain⟨kd,M,hs⟩:=hk.same;have hks:ms.toList.map (·.key)=m.map (λp=>ek p.1):=a8a
  have O:=hk.check;have hml:ms.size=m.length:=by have :=h3.len;simpa using this
  obtain⟨i0,hi0,hz'⟩:=nT.1 hz;rcases aWF (i:=0) hs key ((DT m key).getD L) m ms.toList hks with⟨q1,q2,q3,q4⟩|⟨e,p,q1,q2,q3,q4,q5,q6⟩
  ·have U:ET ok w (ev ((DT m key).getD L)) z:=by
    rw[q2];have :=aVr (ok:=ok) (w:=w) hzl
    grind
   have hM:=h3.push (k:=ek key) U;obtain⟨r1,r2,Y⟩:=Src (P:=P) hm he hh h1 h2 hM h4.push;refine⟨.tuple #[z,goInt clock],_,ok,H,.inl ?_,Y,.refl _,?_,.eu _ _ rfl λi hi=>?_⟩
   ·simp[execOp,ho,hx,hy,h1,Instr.mapEntry,underlying,ht,Qv h2,O,Instr.findKey,M,q1,r1,zeroValue,typeInfo,hi0,hz']
   ·rw[q3,Jh];exact r2
   match i,hi with
   |0,_=>
    have I:=U.mono Y;exact .d _ _ I
   |1,_=>
    have :goInt (clock:Nat)=.int .i64 (Gp m key:Nat):=by rw[q4,←hml,←h4.1];rfl
    show R ok _ H (.d (Ah (Gp m key:Nat))) (goInt clock);rw[this];exact .d _ _ (.lit _)
  have h5:(m.map (CY ek ev))[Gp m key]? =some (CY ek ev p):=by rw[KJ,q3];rfl
  have j:ms[Gp m key]? =some e:=nM
  have q:=h3.ent _ _ e h5 j;have U:ET ok w (ev ((DT m key).getD L)) e.val:=by rw[q4];exact q.2.1
  have hM:=h3.modify (k:=ek key) U (Gp m key);have hmk:=aio ms (Gp m key) (ek key) e.val (λe' Z=>by rw[j]at Z;rw[←E9 Z]);rw[←hmk]at hM;have hkey:e.key=ek key:=by rw[q.1,hk.eq _ _ q5];rfl
  obtain⟨r1,r2,Y⟩:=Src (P:=P) hm he hh h1 h2 hM (h4.modify _ _ λ_=>rfl);have hst:∀w,(Instr.keyThatStays (ek key) (ek key)).run P w=.ok (ek key) w:=λw=>by simp[Instr.keyThatStays,hk.bits]
  have J:e.born=Gp m key:=h4.2 _ e j;refine⟨.tuple #[e.val,goInt (Gp m key:Nat)],_,ok,H,.inl ?_,Y,.refl _,?_,.eu _ _ rfl λi hi=>?_⟩
  ·simp[execOp,ho,hx,hy,h1,Instr.mapEntry,underlying,ht,Qv h2,O,Instr.findKey,M,q1,j,hkey,hst,r1,J]
  ·rw[q6,aA9];exact r2
  match i,hi with
  |0,_=>
   have I:=U.mono Y;exact .d _ _ I
  |1,_=>
   exact .d _ _ (.lit _)
def aGE {s:Bz}{ek:K->BJ}(ev:V->D){m:AA (K×V)}{key:K}{z0 val:V}(hk:KeyTy P kt ek)(Y:es[k]? =some (.fK ((FU m key z0).map (CY ek ev))))(ho:o.op=.entryStore t x s u:=by exact rfl):
 CG P o [(x,.mp k),(s,.d (Ah (Gp m key:Nat))),(u,.d (ev val))] es .junk (es.set k (.fK ((FU m key val).map (CY ek ev)))):=
 .eff λC ok H a w hm M=>by
  obtain⟨hd,Z,O⟩:=Gy hm.ent hm.hlen Y;obtain⟨b,ms,clock,h1,h2,h3,h4⟩:=O;have hx:=TI (M (x,.mp k) Bf) Z;have hy:a.eval s=.int .i64 (Gp m key:Nat):=(M (s,.d (Ah (Gp m key:Nat))) Bf).lit;have hu:ET ok w (ev val) (a.eval u):=by have :=M (u,.d (ev val)) Bf;cases this with |d _ _ h=>exact h
  simp only at hx;have j:=aX8 key z0 m;have h5:((FU m key z0).map (CY ek ev))[Gp m key]? =some (CY ek ev (key,z0)):=by rw[KJ,j];rfl
  have q:Gp m key<ms.size:=by
   have h6:=(H6.1 j).1;have :=h3.len
   grind
  have I:ms[Gp m key]? =some ms[Gp m key]:=ku
  have J:=h3.ent _ _ _ h5 I;have hM:=h3.modify (k:=ek key) hu (Gp m key);have U:=aia ms (Gp m key) (ek key) (a.eval u) (λe' L=>by rw[I]at L;rw[←E9 L];exact J.1);rw[←U]at hM;obtain⟨r1,r2,r3⟩:=Src (P:=P) hm Y Z h1 h2 hM (h4.modify _ _ λ_=>rfl);refine⟨undef,_,ok,H,.inr ⟨rfl,?_⟩,r3,.refl _,?_,.junk _⟩
  ·simp[execOp,ho,hx,hy,h1,Instr.entryStore,Qv h2,asInt,asIntOf,h4.find q,r1]
  have e1:((FU m key z0).map (CY ek ev)).set (Gp m key) (ek key,ev val)=(FU m key val).map (CY ek ev):=by
   rw[←aXI key z0 val m,aA9];rfl
  rw[←e1];exact r2
end
variable {b:Ac}{u v z:A}
section
variable {c:Bz}{x y:Code}
def Di (h:(cond b u v)=z)(j:u=z->Bl P x σ Q)(q:v=z->Bl P y σ Q)(I:σ.get c=.d (.lit (.bool b)):=by kernel_rfl):Bl P (.cond c x y) σ Q:=
 Bl.cond b I (λe=>j (Qu e h)) (λe=>q (RD e h))
def Bg (h:(cond b u v)=z)(j:u=z->Q .normal σ)(q:v=z->Bl P y σ Q)(I:σ.get c=.d (.lit (.bool b)):=by kernel_rfl):Bl P (.cond c .skip y) σ Q:=Di h (λe=>FM (j e)) q I
def BF (h:(cond b u v)=z)(j:u=z->Bl P x σ Q)(q:v=z->Q .normal σ)(I:σ.get c=.d (.lit (.bool b)):=by kernel_rfl):Bl P (.cond c x .skip) σ Q:=Di h j (λe=>FM (q e)) I
end
variable {K:Exit->BP->Prop}
section
variable {σ':BP}{ns:AA (Bz×Am)}{x:Am}{es':AA Bc}
def Dp.f (h:CG P o ns σ.ents x es')(k:Dp P ops rest (σ.put o.dst x es') K)(j:(ns.map λn=>σ.get n.1)=ns.map (·.2):=by kernel_rfl)(q:LH ops σ o.guard=some true:=by kernel_rfl)(I:(Ox ns).all (tmpsOf o).contains=true:=by kernel_rfl):Dp P ops (o::rest) σ K:=Dp.e es' h k rfl j q I
def Fr.f {rs:AA Am}{ess:AA (AA Bc)}{bs:AA Ac}(h:CG P o ns σ.ents x es')(k:Fr P ops rest (σ.put o.dst x es') rs ess bs σ')(j:(ns.map λn=>σ.get n.1)=ns.map (·.2):=by kernel_rfl)(q:LH ops σ o.guard=some true:=by kernel_rfl)(I:(Ox ns).all (tmpsOf o).contains=true:=by kernel_rfl):Fr P ops (o::rest) σ (x::rs) (es'::ess) (true::bs) σ':=Fr.e es' h k rfl j q I
end
def Yf (h:(cond b u v)=z):(b=true/\u=z)\/(b=false/\v=z):=by
 grind
def CM {a b:A}(h:some a=some b):a=b:=E9 h
variable {γ:Type}{x:AB α}{y:α->AB β}{z:γ}
def jo {f:α->β->AB γ}(h:(x.bind λa=>(y a).bind (f a))=some z):∃a,x=some a/\∃b,y a=some b/\f a b=some z:=by
 obtain⟨a,h1,h⟩:=Du h;obtain⟨b,h2,h⟩:=Du h
 grind
variable {δ:Type}{w:α->β->AB δ}
def a5g {f:α->β->δ->AB γ}(h:(x.bind λa=>(y a).bind λb=>(w a b).bind (f a b))=some z):∃a,x=some a/\∃b,y a=some b/\∃d,w a b=some d/\f a b d=some z:=by
 obtain⟨a,h1,b,h2,h⟩:=jo h;obtain⟨d,h3,h⟩:=Du h
 grind
variable {G:Prop}
def AO {f:α->AB β}{z:β}(h:x.bind f=some z)(k:∀a,x=some a->f a=some z->G):G:=by
 obtain⟨a,h1,h⟩:=Du h;exact k a h1 h
def Bj {f:α->β->AB γ}(h:(x.bind λa=>(y a).bind (f a))=some z)(k:∀a,x=some a->∀b,y a=some b->f a b=some z->G):G:=by
 obtain⟨a,h1,b,h2,h⟩:=jo h;exact k a h1 b h2 h
def Hr {f:α->β->δ->AB γ}(h:(x.bind λa=>(y a).bind λb=>(w a b).bind (f a b))=some z)(k:∀a,x=some a->∀b,y a=some b->∀d,w a b=some d->f a b d=some z->G):G:=by
 obtain⟨a,h1,b,h2,d,h3,h⟩:=a5g h
 grind
variable {len q size:Nat}{x y:Bz}{z:BJ}
def aYR {P:Ch}(T:Kn P)(t n:Nat):Ac:=match PY t T.sl with
 |some e=>match PY e T.ty with
  |some (_,m)=>Nat.beq m n
  |none=>false
 |none=>false
def BG [T:Kn P]{i:Int}(enc:α->D){l:AA α}{a:α}(h:Aq l i=some a)(j:o.op=.indexAddr t x y:=by exact rfl)(hs:aYR T t (enc a).cells.length=true:=by kernel_rfl):
 CG P o [(x,.d (BR enc l)),(y,.d (.lit (.int .i64 i)))] es (.d (.ref (enc a).cells 0)) es:=by
 unfold aYR at hs;split at hs
 ·rename_i e h1;split at hs
  ·rename_i agg m h2;exact Uw enc h (T.hsl.mem _ (Na h1)) (T.hty.mem _ (Na h2)) (aBq hs).symm j
  cases hs
 cases hs
def BK [T:Kn P](enc:α->D)(l:AA α)(j:o.op=.call { callee:=.builtin .len,args:= #[x],argTypes:= #[t] }:=by exact rfl)(q:(PY t T.sl).isSome=true:=by kernel_rfl):
 CG P o [(x,.d (BR enc l))] es (.d (Ah l.length)) es:=by
 obtain⟨e,h1⟩:=Ro.1 q;exact amv enc l (T.hsl.mem _ (Na h1)) j
def Dj {e:Bq}(hE:GX P t e size q)(L:(P.info? e).bind (·.zero)=some z)(ys:AA D)(M:o.op=.buildSlice t len j:=by exact rfl)(h1:z.cells.all (·.oneCell')=true:=by kernel_rfl)(I:z.cells.size=size:=by kernel_rfl)(hlen:Nat.ble (len*size) 16777216=true:=by kernel_rfl)(hp:OV (λi=>some (i*size,size)) (len*size) j.toList (ys.map .d)=true:=by kernel_rfl)(O:LY (λi=>some (i*size,size)) (TB z (len*size)) j.toList (ys.map .d)=flat ys:=by kernel_rfl)(hl:ys.length=len:=by kernel_rfl)(J:ys.all (λy=>y.cells.length=size)=true:=by kernel_rfl):
 CG P o (Ot j.toList (ys.map .d)) es (.d (.sl ys)) es:=aBa hE L h1 I (DZ hlen) (ys.map .d) ys hp O hl J M
def Gn {e:Bq}(hE:GX P t e size q)(L:(P.info? e).bind (·.zero)=some z)(ys:AA D)(M:o.op=.buildSlice t len j:=by exact rfl)(h1:z.cells.all (·.oneCell')=true:=by kernel_rfl)(I:z.cells.size=size:=by kernel_rfl)(hlen:Nat.ble (len*size) 16777216=true:=by kernel_rfl)(hp:OV (λi=>some (i*size,size)) (len*size) j.toList (ys.map .d)=true:=by kernel_rfl)(O:LY (λi=>some (i*size,size)) (TB z (len*size)) j.toList (ys.map .d)=flat ys:=by kernel_rfl)(hl:ys.length=len:=by kernel_rfl)(J:ys.all (λy=>y.cells.length=size)=true:=by kernel_rfl):
 CG P o (Ot j.toList (ys.map .d)) es (.aQ es.length) (es++[.arr e size ys]):=a6x hE L h1 I (DZ hlen) (ys.map .d) ys hp O hl J M
def Dp.aM [T:Kn P]{M:BP->Prop}(n:Nat)(k:M (OA (Gq T ops n l σ)))(hl:l.length=n:=by kernel_rfl)(h:(Gq T ops n l σ).isSome=true:=by kernel_rfl):Dp P ops l σ (Jd M K):=
 .a n (by rw[a1F (iW hl)];exact .aT k) h
def Ed {z:A}(h:(cond b u v)=z)(j:b=true->u=z->G)(k2:b=false->v=z->G):G:=by
 grind
section
variable {S:BP}
def Dp.aN [T:Kn P](k:K .normal (OA (Gq T ops l.length l σ)))(h:(Gq T ops l.length l σ).isSome=true:=by kernel_rfl):Dp P ops l σ K:=.a l.length (by rw[PU];exact .nil k) h
def Cc [T:Kn P]{id:Nat}(k:K .normal (OA (Gq T ops ops.toList.length ops.toList σ)))(h:(Gq T ops ops.toList.length ops.toList σ).isSome=true:=by kernel_rfl):Bl P (.region id ops false) σ K:=CQ (Dp.aN k h)
def aQj :Am->Ac
 | .junk=>false
 |_=>true
def Ag (π:AA (Nat×Ac))(h1:VZ σ.base σ.ents π=true:=by kernel_rfl)(h2:S=⟨NI π (S.slots.map aQj) σ.slots,U0 σ.ents π,σ.base⟩:=by kernel_rfl):Gt σ S:=afI (S.slots.map aQj) π h1 h2
end
section
variable {f:FuncId}{fn:Func}{c:Code}{ε:Type}
def EU.h1 (j:P.funcs[f]? =some fn) (q:fn.body=some c) (F:α->AB ε) (a:α->Am) (R:ε->Am) (k:∀x r,F x=some r->Bl P c (.enter [a x] fn.ntmps []) (gY P fn (R r) [])) ⦃x:α⦄ ⦃r:ε⦄ (h:F x=some r):EU P f [a x] [] (R r) []:=.dK j q (k x r h)
def Dk:=@EU.h1
def EU.h2 (j:P.funcs[f]? =some fn) (q:fn.body=some c) (F:α->β->AB ε) (a:α->Am) (b:β->Am) (R:ε->Am) (k:∀x y r,F x y=some r->Bl P c (.enter [a x,b y] fn.ntmps []) (gY P fn (R r) [])) ⦃x:α⦄ ⦃y:β⦄ ⦃r:ε⦄ (h:F x y=some r):EU P f [a x,b y] [] (R r) []:=.dK j q (k x y r h)
def Dc:=@EU.h2
def EU.h3 (j:P.funcs[f]? =some fn) (q:fn.body=some c) (F:α->β->γ->AB ε) (a:α->Am) (b:β->Am) (d:γ->Am) (R:ε->Am) (k:∀x y z r,F x y z=some r->Bl P c (.enter [a x,b y,d z] fn.ntmps []) (gY P fn (R r) [])) ⦃x:α⦄ ⦃y:β⦄ ⦃z:γ⦄ ⦃r:ε⦄ (h:F x y z=some r):EU P f [a x,b y,d z] [] (R r) []:=.dK j q (k x y z r h)
def JF:=@EU.h3
def EU.o1 (j:P.funcs[f]? =some fn) (q:fn.body=some c) (F:α->AB ε) (a:α->Am) (R:ε->Bc) (k:∀x r,F x=some r->Bl P c (.enter [a x] fn.ntmps []) (gY P fn (.aQ 0) [R r])) ⦃x:α⦄ ⦃r:ε⦄ (h:F x=some r):EU P f [a x] [] (.aQ 0) [R r]:=.dK j q (k x r h)
def JM:=@EU.o1
def EU.o2 (j:P.funcs[f]? =some fn) (q:fn.body=some c) (F:α->β->AB ε) (a:α->Am) (b:β->Am) (R:ε->Bc) (k:∀x y r,F x y=some r->Bl P c (.enter [a x,b y] fn.ntmps []) (gY P fn (.aQ 0) [R r])) ⦃x:α⦄ ⦃y:β⦄ ⦃r:ε⦄ (h:F x y=some r):EU P f [a x,b y] [] (.aQ 0) [R r]:=.dK j q (k x y r h)
def FZ:=@EU.o2
end
def aaJ (o:AB A)(f:A->Am):Am:=match o with
 |none=>.d (.lit (.pointer none))
 |some a=>f a
def agD (o:AB A)(f:A->AA Bc):AA Bc:=match o with
 |none=>[]
 |some a=>f a
variable {B:Type}
def Xl (o:AB A)(x:AB B)(f:A->AB B):AB B:=match o with
 |none=>x
 |some a=>f a
variable {z:AB B}
def a1U {x:AB B}{f:A->AB B}(h:Xl none x f=z):x=z:=h
def wP {x:AB B}{a:A}{f:A->AB B}(h:Xl (some a) x f=z):f a=z:=h
variable {t':Bq}
def a7A {off:Nat}(q:P.underlying t=some (.pointer (P.pointee t)))(I:o.op=.binOp .eql t x y t':=by exact rfl):CG P o [(x,.ptr k off),(y,.d (.lit (.pointer none)))] es (.d (EH false)) es:=
 .pure λ_ _ a w _ _ j=>⟨.bool false,by
  have h1:=(F9 j).1;have h2:=(F9 j).2.lit;simp only at h1 h2;generalize J:a.eval x=u at h1;cases h1 with
  |ptr _ _ b s M=>
   have L:(eqGuard .eql t x y (Value.pointer (some ⟨b,off,none⟩)) (.pointer none)).run P w=.ok () w:=by
    unfold eqGuard;simp[pure,Sem.run_pure']
   simp only[execOp,I,J,h2,GL,L,GY,run_eql_pointer_nil w t _ q,Hg]
   rfl,.d _ _ (.lit _)⟩
def a2T (q:P.underlying t=some (.pointer (P.pointee t)))(I:o.op=.binOp .eql t x y t':=by exact rfl):CG P o [(x,.d (.lit (.pointer none))),(y,.d (.lit (.pointer none)))] es (.d (EH true)) es:=
 .pure λ_ _ a w _ _ j=>⟨.bool true,by
  have h1:=(F9 j).1.lit;have h2:=(F9 j).2.lit;simp only at h1 h2
  have J:(eqGuard .eql t x y (Value.pointer none) (.pointer none)).run P w=.ok () w:=by
   unfold eqGuard;simp[pure,Sem.run_pure']
  simp only[execOp,I,h1,h2,GL,J,GY,run_eql_pointer_nil w t _ q,Hg]
  rfl,.d _ _ (.lit _)⟩
def aJJ :AA ResultVar->Ac
 | []=>true
 | .tmp _::rs=>aJJ rs
 |_::_=>false
def a9f (σ:BP):AA ResultVar->AA Am
 | []=>[]
 | .tmp t::rs=>σ.slots.getD t .junk::a9f σ rs
 |_::rs=>.junk::a9f σ rs
def aXh {P:Ch}{σ:BP}:∀{rs:AA ResultVar},aJJ rs=true->dI P σ rs (a9f σ rs)
 | [],_=>trivial
 | .tmp _::_,h=>⟨rfl,aXh h⟩
def Ew {rs:AA ResultVar}{j:Am}{E':AA Bc}(π:AA (Nat×Ac))(ha:aJJ rs=true:=by kernel_rfl)(q:VZ σ.base σ.ents π=true:=by kernel_rfl)(I:j=(qA (a9f σ rs)).back π:=by kernel_rfl)(J:E'=U0 σ.ents π:=by kernel_rfl):
 ∃xs π,dI P σ rs xs/\VZ σ.base σ.ents π=true/\j=(qA xs).back π/\E'=U0 σ.ents π:=⟨_,π,aXh ha,q,I,J⟩
def acZ (o:Oper):Nat:=o.after.toList.foldl (λm e=>bif Region.binds .any e then Nat.lor m (2^e.on)else m) 0
def aaM (o:Oper):Ac:=match o.op with
 | .alloc _=>true
 | .box .. =>true
 |_=>false
def aQ2 :AA Oper->Nat->AA (Nat×Nat×Ac)
 | [],_=>[]
 |o::l,i=>(2^i,acZ o,aaM o)::aQ2 l (i+1)
def aXi (m a:Nat):AA (Nat×Nat)->Nat->AB Nat
 | [],_=>none
 |s::S,j=>bif Nat.beq s.1 m&&Nat.beq s.2 a then some j else aXi m a S (j+1)
def a3g (m a k:Nat):AA (Nat×Nat×Ac)->Nat->AA (Nat×Nat)->AA (Nat×Nat×Nat)->AA (Nat×Nat)×AA (Nat×Nat×Nat)
 | [],_,S,T=>(S,T)
 |(b,e,w)::l,i,S,T=>bif Nat.beq (Nat.land m b) 0&&Nat.beq (Nat.land m e) e then
    (match aXi (m+b) (cond w (64*a+i+1) a) S 0 with
    |some j=>a3g m a k l (i+1) S ((k,i,j)::T)
    |none=>a3g m a k l (i+1) (S++[(m+b,bif w then 64*a+i+1 else a)]) ((k,i,S.length)::T))
  else a3g m a k l (i+1) S T
def aWl (E:AA (Nat×Nat×Ac)):Nat->Nat->AA (Nat×Nat)->AA (Nat×Nat×Nat)->AA (Nat×Nat×Nat)
 |0,_,_,T=>T.reverse
 |n+1,k,S,T=>match S[k]? with
  |some (m,a)=>match a3g m a k E 0 S T with
   |(S,T)=>aWl E n (k+1) S T
  |none=>T.reverse
def WQ (ops:Bh Oper):AA (Nat×Nat×Nat):=aWl (aQ2 ops.toList 0) 2000 0 [(0,0)] []
def aDU :AA (Nat×Nat×Nat)->AA (AA Nat)->Nat->AA (AA Nat)
 | [],N,_=>N
 |t::Tr,N,n=>bif Nat.beq t.2.2 n then aDU Tr (N++[t.2.1::N.getD t.1 []]) (n+1)else aDU Tr N n
def QB (ops:Bh Oper):AA (AA Nat):=aDU (WQ ops) [[]] 1
section
variable {P:Ch} [T:Kn P] {id:Nat} {ops:Bh Oper} {σ:BP} {Q:Exit->BP->Prop} {y:Code}
def Bl.aMu (L:AA (MB P))(j:Nat)(q:Q .normal (KQ T L ops σ ((QB ops).getD j [])))(hm:P.follows .mixedOrders=true:=by kernel_rfl)(I:kU ops (QB ops) (WQ ops) [j]=true:=by kernel_rfl)(J:((WQ ops).map λt=>VH T L ops (KQ T L ops σ ((QB ops).getD t.1 [])) t.2.1)=(WQ ops).map λt=>some (KQ T L ops σ ((QB ops).getD t.2.2 []),Vk L t.2.1):=by kernel_rfl)(M:(QB ops).getD 0 [0]=[]:=by kernel_rfl):Bl P (.region id ops true) σ Q:=
 Bl.node1 L _ _ j q hm I M J
def Uz (L:AA (MB P))(j:Nat)(q:Bl P y (KQ T L ops σ ((QB ops).getD j [])) Q)(hm:P.follows .mixedOrders=true:=by kernel_rfl)(I:kU ops (QB ops) (WQ ops) [j]=true:=by kernel_rfl)(J:((WQ ops).map λt=>VH T L ops (KQ T L ops σ ((QB ops).getD t.1 [])) t.2.1)=(WQ ops).map λt=>some (KQ T L ops σ ((QB ops).getD t.2.2 []),Vk L t.2.1):=by kernel_rfl)(M:(QB ops).getD 0 [0]=[]:=by kernel_rfl):Bl P (.seq (.region id ops true) y) σ Q:=
 Bl.aN1 L _ _ j q hm I M J
def Bl.azx (L:AA (MB P))(F:AA Nat)(j:BP)(q:Qh (λk=>xw (KQ T L ops σ ((QB ops).getD k [])) j) F)(I:Bl P y j Q)(hm:P.follows .mixedOrders=true:=by kernel_rfl)(J:kU ops (QB ops) (WQ ops) F=true:=by kernel_rfl)(M:((WQ ops).map λt=>VH T L ops (KQ T L ops σ ((QB ops).getD t.1 [])) t.2.1)=(WQ ops).map λt=>some (KQ T L ops σ ((QB ops).getD t.2.2 []),Vk L t.2.1):=by kernel_rfl)(O:(QB ops).getD 0 [0]=[]:=by kernel_rfl):Bl P (.seq (.region id ops true) y) σ Q:=
 Bl.aN2 L _ _ F j q I hm J O M
end
end Go.Proofs.YteiakhlfaaifnaaGreat
namespace Go
open Go.Proofs.YteiakhlfaaifnaaGreat
variable {P:Ch}
def aAP (w:BU)(Z sT ty q:Bq)(b o I L:Nat)(a:Addr)(J M k n:Nat)(cs:AA BJ)(hu:P.underlying Z=some (.slice q))(hs:(P.info? q).map (·.size)=some k)(hn:n=Nat.min J I)(hl:cs.length=n*k)(O:∀j v,cs[j]? =some v->w.cell? (a.add j)=some v)(hc:∀j,j<cs.length->(w.cell? ⟨b,o+j,none⟩).isSome=true)(hf:∀j,j<cs.length->w.frozen? ⟨b,o+j,none⟩=false)(h1:∀v∈cs,v.oneCell'=true):
 (Builtin.copy_ #[Z,sT] ty #[.slice (some ⟨b,o,none⟩) I L,.slice (some a) J M]).run P w=.ok (goInt n) (w.setCells b o cs):=by
 have U:=a0F (P:=P) w a cs O;have hst:=run_storeCells_cells (P:=P) b o cs 0 w a2Z (by simpa using hf) h1;rw[hl]at U;cases Y:P.info? q with
 |none=>simp[Y]at hs
 |some i=>
  have hi:i.size=k:=by simpa[Y]using hs
  simp[Builtin.copy_,a3A hu,Builtin.lenOf,Builtin.firstCells,sizeOf,typeInfo,Y,hi,←hn,U,hst]
end Go
namespace Go.Proofs.YteiakhlfaaifnaaGreat
open Go.Proofs.Tryz
open Go.Shelf Go.RowKit Go.Lib
variable {P:Ch}{es:AA Bc}{k:Nat}{o:Oper}{ok:Nat->Prop}{w:BU}{x y:Bz}
section
variable {K V:Type} [BEq K]
def aQu {α β:Type}(f:α->β):∀(l:AA α) (j:Nat),(l.map f).eraseIdx j=(l.eraseIdx j).map f
 | [],_=>rfl
 |_::_,0=>rfl
 |x::l,j+1=>BM (f x:: ·) (aQu f l j)
def Yy :AA (K×V)->K->AA (K×V)
 | [],_=>[]
 |p::l,k=>bif k==p.1 then l else p::Yy l k
def aSj {ek:K->BJ}{kd:TypeDesc}(hs:∀a b,Instr.sameNow kd (ek a) (ek b)=some (a==b))(k:K):∀(m:AA (K×V)) (l:AA MapEntry) (i:Nat),l.map (·.key)=m.map (λp=>ek p.1)->
 (Instr.findNow kd (ek k) l i=some none/\Yy m k=m)\/∃(j:Nat) (e:MapEntry),Instr.findNow kd (ek k) l i=some (some (i+j,e.val))/\j<l.length/\Yy m k=m.eraseIdx j
 | [],[],_,_=>.inl ⟨rfl,rfl⟩
 | [],_::_,_,h=>Il
 |_::_,[],_,h=>Il
 |p::m,e::l,i,h=>by
  simp only[JE,a6H]at h;cases q:(k==p.1)with
  |true=>
   refine .inr ⟨0,e,?_,Bf,?_⟩
   ·simp[Instr.findNow,h.1,hs,q]
   simp[Yy,q]
  |false=>
   rcases aSj hs k m l (i+1) h.2 with⟨h1,h2⟩|⟨j,e',h1,h2,h3⟩
   ·refine .inl ⟨?_,?_⟩
    ·simp[Instr.findNow,h.1,hs,q,h1]
    simp[Yy,q,h2]
   refine .inr ⟨j+1,e',?_,LC,?_⟩
   ·simp[Instr.findNow,h.1,hs,q,h1];omega
   simp[Yy,q,h3]
def KR.erase {es:AA (BJ×D)}{ms:Bh MapEntry}{clock:Nat}(h:KR ok w es ms clock){j:Nat}(J:j<ms.size):KR ok w (es.eraseIdx j) (ms.eraseIdxIfInBounds j) clock:=by
 have hE:ms.eraseIdxIfInBounds j=ms.eraseIdx j J:=by simp[Array.eraseIdxIfInBounds,J]
 have hl:=h.len
 have key:∀(i:Nat) (m:MapEntry),(ms.eraseIdx j J)[i]? =some m->∃q,(∀e,(es.eraseIdx j)[i]? =some e->es[q]? =some e)/\ms[q]? =some m/\q=(if i<j then i else i+1):=λi m hm=>by
  rw[Array.getElem?_eraseIdx]at hm;refine⟨if i<j then i else i+1,λe I=>?_,?_,rfl⟩
  ·rw[List.getElem?_eraseIdx]at I;split at I<;>rename_i c
   ·rw[Dw c];exact I
   rw[EC c];exact I
  split at hm<;>rename_i c
  ·rw[Dw c];exact hm
  rw[EC c];exact hm
 rw[hE];refine⟨by rw[Array.size_eraseIdx,List.length_eraseIdx];split<;>omega,λi e m I hm=>?_,λi k m n L hm M=>?_⟩
 ·obtain⟨q,h1,h2,_⟩:=key i m hm;exact h.ent q e m (h1 e I) h2
 obtain⟨q,_,h2,O⟩:=key i m hm;obtain⟨k',_,U,Y⟩:=key k n M;exact h.inc q k' m n (by rw[O,Y];split<;>split<;>omega) h2 U
def agZ {t kt vt u:Bq}{ek:K->BJ}(ev:V->D){m:AA (K×V)}{key:K}(ht:P.underlying t=some (.map kt vt))(hk:KeyTy P kt ek)(J:es[k]? =some (.map (m.map (CY ek ev))))(ho:o.op=.call { callee:=.builtin .delete,args:= #[x,y],argTypes:= #[t,u] }:=by exact rfl):
 CG P o [(x,.mp k),(y,.d (.lit (ek key)))] es .junk (es.set k (.map ((Yy m key).map (CY ek ev)))):=
 .eff λC ok H a w hm hn=>by
  obtain⟨hd,L,M⟩:=Gy hm.ent hm.hlen J;obtain⟨b,ms,clock,h1,h2,h3⟩:=M;have O:=TI (hn (x,.mp k) Bf) L;have U:=(hn (y,.d (.lit (ek key))) Bf).lit;simp only at O U;obtain⟨kd,q,hs⟩:=hk.same;have Y:ms.toList.map (·.key)=m.map (λp=>ek p.1):=a8a
  have I:=hk.check;rcases aSj (i:=0) hs key m ms.toList Y with⟨Z,q3⟩|⟨j,e,Z,q2,q3⟩
  ·obtain⟨r1,r2,r3⟩:=a0W (P:=P) hm J L h1 h2 h3;refine⟨.tuple #[],_,ok,H,.inl ?_,r3,.refl _,?_,.junk _⟩
   ·simp[execOp,ho,resolve,invoke,builtin,Builtin.delete_,O,U,h1,underlying,ht,Qv h2,I,Instr.findKey,q,Z,r1]
   rw[q3];exact r2
  have hM:=h3.erase (j:=j) nM;obtain⟨r1,r2,r3⟩:=a0W (P:=P) hm J L h1 h2 hM;refine⟨.tuple #[],_,ok,H,.inl ?_,r3,.refl _,?_,.junk _⟩
  ·simp[execOp,ho,resolve,invoke,builtin,Builtin.delete_,O,U,h1,underlying,ht,Qv h2,I,Instr.findKey,q,Z,r1]
  rw[q3,←aQu];exact r2
end
def Hl (x y:Int):Int:=bif y<x then y else x
def oV {ats:Bh Bq}{kd:IntKind}{a b:Int}(q:o.op=.call { callee:=.builtin .min,args:= #[x,y],argTypes:=ats }:=by exact rfl):
 CG P o [(x,.d (.lit (.int kd a))),(y,.d (.lit (.int kd b)))] es (.d (.lit (.int kd (Hl a b)))) es:=
 .pure λok H c w _ _ j=>by
  have h1:=(F9 j).1.lit;have h2:=(F9 j).2.lit;simp only at h1 h2;have e:Hl a b=if b<a then b else a:=by unfold Hl;by_cases h:b<a<;>simp[h]
  refine⟨.int kd (Hl a b),?_,.d _ _ (.lit _)⟩;rw[e];simp[execOp,q,resolve,invoke,builtin,h1,h2,Go.run_min_int2]
set_option linter.unusedVariables false
set_option linter.unusedSimpArgs false
set_option maxHeartbeats 4000000 in
set_option maxRecDepth 100000 in
def alk (b n c i vb vc:Nat)(cs vs:AA BJ)(w:BU)(hi:i<n)(hroom:n+1<=c)(hc63:c<=9223372036854775807)(hvb:vb≠b)(hcl:cs.length=n*29)(hvl:vs.length=29)(hcs:∀j v,cs[j]? =some v->w.cell? ⟨b,j,none⟩=some v)(hsp:∀j,j<(n+1)*29->(w.cell? ⟨b,j,none⟩).isSome=true)(hfz:∀j,j<(n+1)*29->w.frozen? ⟨b,j,none⟩=false)(hvs:∀j v,vs[j]? =some v->w.cell? ⟨vb,j,none⟩=some v)(h1c:∀v∈cs,v.oneCell'=true)(h1v:∀v∈vs,v.oneCell'=true)(tA tB:Bq)(kA kB:Nat)(hsa:w.shape? vb=some (tA,kA))(hsb:w.shape? b=some (tB,kB))(hkB:kB≠0)(hfa:w.frozen? ⟨vb,0,none⟩=false)(hfe:w.frozen? ⟨vb,kA,none⟩=false):
 Calls Ap 167 #[.slice (some ⟨b,0,none⟩) n c,.int .i64 i,.slice (some ⟨vb,0,none⟩) 1 vc] w λe w'=>
  e=.returned (.slice (some ⟨b,0,none⟩) (n+1) c)/\w'=(w.drew.setCells b ((i+1)*29) (cs.drop (i*29))).setCells b (i*29) vs:=by
 have hz2:¬((i:Int)=(n:Int)):=AL
 have hw1:Ar ((i:Int)+1)=(i:Int)+1:=NG
 have hw2:Ar ((n:Int)+1)=(n:Int)+1:=NG
 have hb1:(0:Int)<=(i:Int)+1:=AL
 have hin:i<=n:=AL
 have htn:((i:Int)+1).toNat=i+1:=AL
 have aV4:((n:Int)+1).toNat=n+1:=AL
 have hb2:¬(c=i+1):=AL
 have hb3:(i:Int)<=(n:Int)+1:=AL
 have hb4:¬(c=i):=AL
 have hb5:¬((c:Int)<(n:Int)+1):=AL
 have J:(Ap.info? 56).map (·.size)=some 29:=A8
 have Z:∀w,(Go.sizeOf 56).run Ap w=.ok 29 w:=λw=>by
  cases hq:Ap.info? 56 with
  |none=>simp[hq]at J
  |some i=>
   have h0:i.size=29:=by simpa[hq]using J
   simp[sizeOf,typeInfo,hq,h0]
 have hov:∀lb cb,(callFunc 236 #[.slice (some ⟨vb,0,none⟩) 1 vc,.slice (some ⟨b,(i+1)*29,none⟩) lb cb]).run Ap w=.ok (.value (.bool false)) w:=λlb cb=>by
  rw[run_callFunc_extern func236 A8 A8 A8 (e:=Extern.SlicesOverlaps.overlaps #[22,22] #[4]) A8,
   Lib.run_overlaps_apart w 22 4 56 rE 29 Z ⟨vb,0,none⟩ ⟨b,(i+1)*29,none⟩ 1 vc lb cb hvb tA tB kA kB hsa hsb hkB hfa hfe]
  rfl
 have L:(cs.drop (i*29)).length=(n-i)*29:=by rw[NV,hcl,Nat.sub_mul]
 have M:∀ty BD sc,(Builtin.copy_ #[22,22] ty #[.slice (some ⟨b,(i+1)*29,none⟩) (n-i) BD,.slice (some ⟨b,i*29,none⟩) (n+1-i) sc]).run Ap w.drew=.ok (goInt (n-i:Nat)) (w.drew.setCells b ((i+1)*29) (cs.drop (i*29))):=λty BD sc=>
  aAP w.drew _ _ ty 56 b ((i+1)*29) (n-i) BD ⟨b,i*29,none⟩ (n+1-i) sc 29 (n-i) (cs.drop (i*29)) rE J a7W L
   (λj v q=>by rw[qB];exact hcs (i*29+j) v (by rwa [Va]at q))
   (λj q=>hsp _ aDi) (λj q=>hfz _ aDi) (λv hv=>h1c v (aBm hv))
 obtain⟨W1,I⟩:∃W1,W1=w.drew.setCells b ((i+1)*29) (cs.drop (i*29)):=⟨_,rfl⟩
 have O:∀k,k<(n+1)*29->(W1.cell? ⟨b,k,none⟩).isSome=true:=λk hk=>by
  rw[I];exact isSome_setCells b (cs.drop (i*29)) ((i+1)*29) w.drew (λj q=>hsp _ aDi) _ (hsp k hk)
 have U:∀(W:BU),(∀x,W.cell? x=W1.cell? x)->(∀x,W.frozen? x=W1.frozen? x)->∀ty BD,(Builtin.copy_ #[22,22] ty #[.slice (some ⟨b,i*29,none⟩) (n+1-i) BD,.slice (some ⟨vb,0,none⟩) 1 vc]).run Ap W=.ok (goInt (1:Nat)) (W.setCells b (i*29) vs):=λW Y hWf ty BD=>
  aAP W _ _ ty 56 b (i*29) (n+1-i) BD ⟨vb,0,none⟩ 1 vc 29 1 vs rE J a7W (by rw[hvl])
   (λj v q=>by
    rw[qB,Y,I,World.cell?_setCells_out b _ _ _ _ (λh _=>absurd h hvb),KW]
    exact hvs j v q)
   (λj q=>by rw[Y];exact O _ AL) (λj q=>by rw[hWf,I,World.frozen?_setCells];exact hfz _ AL) h1v
 rw[←I]at M;have mixed:Ap.follows .mixedOrders=true:=A8
 go_enter func167,Tryz.ntmps167
 go_wp2_with (simp only[hov])
 go_region_law_o (refine step_copy_runI rfl _ _ 22 22 rfl _ _ a8U a8U (M _ _ _) ?_)
 go_wp2_with (at_builtin;refine wpList_copy_runI _ rfl _ _ 22 22 rfl _ _ rfl rfl (U _ (λ_=>rfl) (λ_=>rfl) _ _) ?_)
 go_ret
 first|exact⟨rfl,rfl⟩|exact⟨rfl,by rw[I]⟩
set_option maxHeartbeats 4000000 in
set_option maxRecDepth 100000 in
def abQ (b n c i vb vc:Nat)(cs vs:AA BJ)(w:BU)(hi:i<n)(hnc:n<=c)(hroom:c<n+1)(hbig:(n+1)*376<=140737488355328)(hcl:cs.length=n*29)(hvl:vs.length=29)(hcs:∀j v,cs[j]? =some v->w.cell? ⟨b,j,none⟩=some v)(hvs:∀j v,vs[j]? =some v->w.cell? ⟨vb,j,none⟩=some v)(h1c:∀v∈cs,v.oneCell'=true)(h1v:∀v∈vs,v.oneCell'=true):
 Calls Ap 167 #[.slice (some ⟨b,0,none⟩) n c,.int .i64 i,.slice (some ⟨vb,0,none⟩) 1 vc] w λe w'=>∃G ROW,e=.returned (.slice (some ⟨w.heap.size,0,none⟩) (n+1) G)/\n+1<=G/\G<=maxLen/\G*29<=ROW.size/\ROW.toList.take (i*29)=cs.take (i*29)/\
  w'=(((w.alloc (.cells ROW 56)).drew.setCells w.heap.size (i*29) vs).drew).setCells w.heap.size ((i+1)*29) (cs.drop (i*29)):=by
 have hE:GX Ap 22 56 29 376:=KT A8;obtain⟨i0,z0,hi0,hz0,hzs,hzb,hzc⟩:=hE.info;have hsz:(Ap.info? 56).map (·.size)=some 29:=by rw[hi0];simp[hzs]
 have mixed:Ap.follows .mixedOrders=true:=A8
 have hz2:¬((i:Int)=(n:Int)):=AL
 have hz3:(c:Int)<(n:Int)+1:=AL
 have hil:i*29<cs.length:=AL
 have hbw:b<w.heap.size:=block_lt_of_cell (hcs 0 _ (EJ AL));have hvw:vb<w.heap.size:=block_lt_of_cell (hvs 0 _ (EJ AL));have hkk:(n:Int)+1-(i:Int)=((n+1-i:Nat):Int):=AL
 have Y:i+(n+1-i)=n+1:=AL
 have Z:(cs.take (i*29)).length=i*29:=wF
 have O:(Builtin.firstCells i0.size i (.slice (some ⟨b,0,none⟩) i c)).run Ap w.drew=.ok (cs.take (i*29)).toArray w.drew:=by
  rw[hzs]
  exact run_firstCells_some w.drew 29 i ⟨b,0,none⟩ i c (cs.take (i*29)) (by rw[Z]) (λj v q=>by
   rw[qB,KW];rw[a7E]at q;split at q
   ·exact hcs j v q
   cases q)
 have M:∀ty,(Builtin.append_ #[22,3] ty #[.slice (some ⟨b,0,none⟩) i c,.int .i64 ((n:Int)+1-(i:Int))]).run Ap w=
  .ok (.slice (some ⟨w.heap.size,0,none⟩) (n+1) (grownCap w (n+1) c 56)) (w.drew.alloc (.cells ((cs.take (i*29)).toArray++Builtin.zeroCells z0.cells (n+1-i)++Builtin.zeroCells z0.cells (grownCap w (n+1) c 56-(n+1))) 56)):=λty=>by
  have h:=Lib.run_append_grow_zeros w 22 3 ty 56 i0 z0 .i64 .i64 hE.und A8 hi0 hz0 (some ⟨b,0,none⟩) i c (cs.take (i*29)) O (n+1-i) AL AL AL AL (by rw[hzb];omega) (by rw[hzb,Y];exact growslice_fits AL AL);rw[Y]at h;rw[hkk];exact h
 have hGn:n+1<=grownCap w (n+1) c 56:=grownCap_ge w _ _ _;have hGm:=aCc w (n+1) c 56 wJ;obtain⟨G,hG⟩:∃G,G=grownCap w (n+1) c 56:=⟨_,rfl⟩
 obtain⟨ROW,I⟩:∃ROW:Bh BJ,ROW=(cs.take (i*29)).toArray++Builtin.zeroCells z0.cells (n+1-i)++Builtin.zeroCells z0.cells (G-(n+1)):=⟨_,rfl⟩
 rw[←hG]at M hGn hGm;rw[←I]at M
 have hRl:ROW.size=G*29:=by
  rw[I];simp[Builtin.zeroCells,hzc];omega
 have hRt:ROW.toList.take (i*29)=cs.take (i*29):=by
  rw[I];simp[JI];rw[tq Z]
 obtain⟨W1,J⟩:∃W1,W1=w.drew.alloc (.cells ROW 56):=⟨_,rfl⟩
 rw[←J]at M
 have hN:∀j,j<(n+1)*29->(W1.cell? ⟨w.heap.size,j,none⟩).isSome=true:=λj q=>by
  rw[J,World.cell?_alloc_at (w:=w.drew) ROW _ w.heap.size j rfl,dX AL];rfl
 have hNf:∀j,W1.frozen? ⟨w.heap.size,j,none⟩=false:=λj=>by rw[J];exact World.frozen?_alloc_at (w:=w.drew) ROW _ w.heap.size j rfl
 have hOb:∀j v,w.cell? ⟨b,j,none⟩=some v->W1.cell? ⟨b,j,none⟩=some v:=λj v h=>by rw[J,aJB (w:=w.drew) _ b j hbw];exact h
 have hOv:∀j v,w.cell? ⟨vb,j,none⟩=some v->W1.cell? ⟨vb,j,none⟩=some v:=λj v h=>by rw[J,aJB (w:=w.drew) _ vb j hvw];exact h
 have hcpA:∀(W:BU),(∀x,W.cell? x=W1.cell? x)->(∀x,W.frozen? x=W1.frozen? x)->∀ty BD,(Builtin.copy_ #[22,22] ty #[.slice (some ⟨w.heap.size,i*29,none⟩) (n+1-i) BD,.slice (some ⟨vb,0,none⟩) 1 vc]).run Ap W=.ok (goInt (1:Nat)) (W.setCells w.heap.size (i*29) vs):=λW L hWf ty BD=>
  aAP W _ _ ty 56 w.heap.size (i*29) (n+1-i) BD ⟨vb,0,none⟩ 1 vc 29 1 vs hE.und hsz a7W (by rw[hvl])
   (λj v q=>by rw[qB,L,KW];exact hOv _ v (hvs j v q))
   (λj q=>by rw[L];exact hN _ AL) (λj q=>by rw[hWf];exact hNf _) h1v
 have hG63:G<=9223372036854775807:=by unfold maxLen at hGm;omega
 have hGi:¬(G=i):=AL
 have hGim:¬(G=i+1):=AL
 have hci:¬(c=i):=AL
 have hbN:b≠w.heap.size:=AL
 have hdl:(cs.drop (i*29)).length=(n-i)*29:=by rw[NV,hcl,Nat.sub_mul]
 have U:∀(W:BU),(∀x,W.cell? x=(W1.setCells w.heap.size (i*29) vs).cell? x)->(∀x,W.frozen? x=(W1.setCells w.heap.size (i*29) vs).frozen? x)->∀ty BD sc,(Builtin.copy_ #[22,22] ty #[.slice (some ⟨w.heap.size,(i+1)*29,none⟩) (n-i) BD,.slice (some ⟨b,i*29,none⟩) (n-i) sc]).run Ap W=.ok (goInt (n-i:Nat)) (W.setCells w.heap.size ((i+1)*29) (cs.drop (i*29))):=λW L hWf ty BD sc=>
  aAP W _ _ ty 56 w.heap.size ((i+1)*29) (n-i) BD ⟨b,i*29,none⟩ (n-i) sc 29 (n-i) (cs.drop (i*29)) hE.und hsz a7W hdl
   (λj v q=>by
    rw[qB,L,World.cell?_setCells_out _ _ _ _ _ (λh _=>absurd h hbN)]
    exact hOb _ v (hcs (i*29+j) v (by rwa [Va]at q)))
   (λj q=>by rw[L];exact isSome_setCells _ vs (i*29) W1 (λt ht=>hN _ AL) _ (hN _ (by rw[hdl]at q;omega)))
   (λj q=>by rw[hWf,World.frozen?_setCells];exact hNf _) (λv hv=>h1c v (aBm hv))
 subst J;have hE1:∀x,((w.alloc (.cells ROW 56)).drew).cell? x=(w.drew.alloc (.cells ROW 56)).cell? x:=λx=>rfl;have hE2:∀x,((w.alloc (.cells ROW 56)).drew).frozen? x=(w.drew.alloc (.cells ROW 56)).frozen? x:=λx=>rfl;have hF1:∀x,(((w.alloc (.cells ROW 56)).drew.setCells w.heap.size (i*29) vs).drew).cell? x=((w.drew.alloc (.cells ROW 56)).setCells w.heap.size (i*29) vs).cell? x:=λx=>rfl;have hF2:∀x,(((w.alloc (.cells ROW 56)).drew.setCells w.heap.size (i*29) vs).drew).frozen? x=((w.drew.alloc (.cells ROW 56)).setCells w.heap.size (i*29) vs).frozen? x:=λx=>rfl;have hw1:Ar ((i:Int)+1)=(i:Int)+1:=NG
 have hw2:Ar ((n:Int)+1)=(n:Int)+1:=NG
 have hw3:Ar ((n:Int)+1-(i:Int))=(n:Int)+1-(i:Int):=NG
 have hb1:(0:Int)<=(i:Int)+1:=AL
 have hin:i<=n:=AL
 have htn:((i:Int)+1).toNat=i+1:=AL
 have hb3:(i:Int)<=(n:Int):=AL
 clear hkk Y O I hG hil Z
 go_enter func167,Tryz.ntmps167
 go_wp2_with (first
  |(at_builtin;refine a5S _ rfl _ _ _ _ rfl _ _ rfl rfl _ _ (M _) ?_)
  |(at_builtin;refine wpList_copy_runI _ rfl _ _ 22 22 rfl _ _ rfl rfl (hcpA _ hE1 hE2 _ _) ?_)
  |(at_builtin;refine wpList_copy_runI _ rfl _ _ 22 22 rfl _ _ rfl rfl (U _ (λ_=>rfl) (λ_=>rfl) _ _ _) ?_))
 go_region_law_o (refine step_copy_runI rfl _ _ 22 22 rfl (.slice (some ⟨w.heap.size,(i+1)*29,none⟩) (n-i) (G-(i+1))) (.slice (some ⟨b,i*29,none⟩) (n-i) (c-i)) a8U a8U (U _ hF1 hF2 3 (G-(i+1)) (c-i)) ?_)
 go_wp2
 go_ret
 exact⟨G,ROW,rfl,hGn,hGm,iW hRl.symm,hRt,rfl⟩
def putAt (j:Bh BJ):Nat->AA BJ->Bh BJ
 |_,[]=>j
 |o,v::r=>putAt (j.setIfInBounds o v) (o+1) r
def fZ :∀(vs:AA BJ) (o:Nat) (j:Bh BJ),(putAt j o vs).size=j.size
 | [],_,_=>rfl
 |v::r,o,j=>by rw[putAt,fZ r];simp
def yA :∀(vs:AA BJ) (o:Nat) (q:Bh BJ),o+vs.length<=q.size->(putAt q o vs).toList=q.toList.take o++vs++q.toList.drop (o+vs.length)
 | [],o,q,_=>by simp[putAt]
 |v::r,o,q,h=>by
  simp only[H8]at h;rw[putAt,yA r (o+1) _ Eh,aCD];refine dG λj=>?_;simp only[JI,List.getElem?_append,HY,YH,Vf,a7E,a4f,Va,H8,XW,aRb]
  grind
def zC (b:Nat):∀(vs:AA BJ) (o:Nat) (w:BU) (j:Bh BJ) (e:Bq) (fr:Nat×Nat),w.heap[b]? =some (.cells j e fr)->(w.setCells b o vs).heap[b]? =some (.cells (putAt j o vs) e fr)
 | [],_,_,_,_,_,h=>h
 |v::r,o,w,j,e,fr,h=>by
  rw[World.setCells,putAt];refine zC b r (o+1) _ _ e fr ?_;simp[World.setCell,X0,h]
variable {n vb vc:Nat}{v:BJ}{xs:AA BJ}
set_option maxHeartbeats 4000000 in
set_option maxRecDepth 100000 in
def aje {news:AA BJ}(hown:lF w 56 29 v n xs)(hsrc:Wj w (.slice (some ⟨vb,0,none⟩) 1 vc) 1 29 news)(hb:(n+1)*376<=140737488355328):
 Calls Ap 167 #[v,.int .i64 n,.slice (some ⟨vb,0,none⟩) 1 vc] w λe w'=>∃v',e=.returned v'/\lF w' 56 29 v' (n+1) (xs++news)/\w.grownBy w' v.ownBlock/\∀g,ED v'=some g->ED v=some g\/w.heap.size<=g:=by
 have hE:GX Ap 22 56 29 376:=KT A8;obtain⟨v',w',I,h2,h3,J⟩:=aDQ (ty:=22) hE hown hsrc hb wJ;have mixed:Ap.follows .mixedOrders=true:=A8
 rcases hown.2 with⟨rfl,M⟩|⟨g,cap,O,rfl,_,Z,U,j,Y,q⟩
 ·subst M
  go_enter func167,Tryz.ntmps167
  go_wp2_with (at_builtin;refine a5S _ rfl _ _ _ _ rfl _ _ rfl rfl _ _ I ?_)
  go_ret
  exact⟨v',rfl,h2,h3,J⟩
 have L:cap<=9223372036854775807:=by unfold maxLen at j;omega
 go_enter func167,Tryz.ntmps167
 go_wp2_with (at_builtin;refine a5S _ rfl _ _ _ _ rfl _ _ rfl rfl _ _ I ?_)
 all_goals (go_ret;exact⟨v',rfl,h2,h3,J⟩)
def a0C (b:Nat):∀(vs:AA BJ) (o:Nat) (w:BU),(w.setCells b o vs).os=w.os/\(w.setCells b o vs).tape=w.tape/\(w.setCells b o vs).output=w.output/\(w.setCells b o vs).heap.size=w.heap.size/\∀i,i≠b->(w.setCells b o vs).heap[i]? =w.heap[i]?
 | [],_,_=>⟨rfl,rfl,rfl,rfl,λ_ _=>rfl⟩
 |v::r,o,w=>by
  obtain⟨h1,h2,h3,j,q⟩:=a0C b r (o+1) (w.setCell ⟨b,o,none⟩ v);rw[World.setCells];refine⟨h1,h2,h3,by rw[j];simp[World.setCell],λi hi=>?_⟩;rw[q i hi];simp[World.setCell,X0,Ne.symm hi]
variable {N:Nat}{j:Bh BJ}{vs:AA BJ}
def agE {a:Nat}(I:j.toList.take N=xs)(hl:xs.length=N)(q:vs.length=k)(ha:a<=N)(hs:N+k<=j.size):
 (putAt (putAt j (a+k) (xs.drop a)) a vs).toList.take (N+k)=xs.take a++vs++xs.drop a:=by
 have hd:(xs.drop a).length=N-a:=by rw[NV,hl]
 rw[yA vs a _ (by rw[fZ];omega),yA (xs.drop a) (a+k) j AL,q,hd]
 have J:(j.toList.take (a+k)++xs.drop a++j.toList.drop (a+k+(N-a))).take a=xs.take a:=by
  rw[JI,List.take_append_of_le_length Eh,aI9,←I,aI9,yU AL,yU ha]
 have L:(j.toList.take (a+k)++xs.drop a++j.toList.drop (a+k+(N-a))).drop (a+k)=xs.drop a++j.toList.drop (a+k+(N-a)):=by
  rw[JI,List.drop_left' Eh]
 rw[J,L,←JI,tq (by simp[hd,q,hl];omega)]
def amI {a:Nat}(I:j.toList.take a=xs.take a)(hl:xs.length=N)(q:vs.length=k)(ha:a<=N)(hs:N+k<=j.size):
 (putAt (putAt j a vs) (a+k) (xs.drop a)).toList.take (N+k)=xs.take a++vs++xs.drop a:=by
 have hd:(xs.drop a).length=N-a:=by rw[NV,hl]
 rw[yA (xs.drop a) (a+k) _ (by rw[fZ];omega),yA vs a j AL,q,hd,I];have J:(xs.take a++vs++j.toList.drop (a+k)).take (a+k)=xs.take a++vs:=tq (by simp[q,hl];omega);rw[J,tq (by simp[hd,q,hl];omega)]
variable {T:Bq}{fr:Nat×Nat}{g:Nat}{q:Bh BJ}
def xX (I:w.heap[g]? =some (.cells q T fr))(J:q.toList.take n=xs)(j:Nat)(v:BJ)(h:xs[j]? =some v):w.cell? ⟨g,j,none⟩=some v:=by
 unfold World.cell?;simp only[I];rw[←J,a7E]at h;split at h
 ·simpa using h
 cases h
def aZe (I:w.heap[g]? =some (.cells q T fr))(j:Nat)(h:j<q.size):(w.cell? ⟨g,j,none⟩).isSome=true:=by
 unfold World.cell?;simp[I,h]
def aKJ (I:w.heap[g]? =some (.cells q T (0,0)))(j:Nat):w.frozen? ⟨g,j,none⟩=false:=by
 unfold World.frozen?;simp[I]
def apc {i:Nat}{q:AA BJ}(hi:i<=n)(L:lF w 56 29 v n xs)(h1:∀u∈xs,u.oneCell'=true)(hx:lF w 56 29 (.slice (some ⟨vb,0,none⟩) 1 vc) 1 q)(h1v:∀u∈q,u.oneCell'=true)(hne:ED v≠some vb)(hb:(n+1)*376<=140737488355328):
 Calls Ap 167 #[v,.int .i64 i,.slice (some ⟨vb,0,none⟩) 1 vc] w λe w'=>∃v',e=.returned v'/\lF w' 56 29 v' (n+1) (xs.take (i*29)++q++xs.drop (i*29))/\Turns v w w'/\∀g,ED v'=some g->ED v=some g\/w.heap.size<=g:=by
 have M:=L.1;have O:q.length=29:=by have :=hx.1;omega
 rcases hx.2 with⟨e0,_⟩|⟨vb',aV5,aPj,e0,_,U,hvn,_,hvs,hvt⟩
 ·cases e0
 injection e0 with e1 _ e3
 injection e1 with e1
 injection e1 with e1
 subst e1 e3;rcases wu i n with hin|hin
 ·rcases L.2 with⟨_,h0⟩|⟨g,cap,Z,rfl,_,hg,hnc,hcm,hcs,J⟩
  ·omega
  have hgv:vb≠g:=λe=>hne pI;have hil:i*29<=n*29:=Ko _ hi;rcases wu n cap with I|I
  ·have hfit:(n+1)*29<=Z.size:=FQ (Ko _ I) hcs;refine(alk g n cap i vb vc xs q w hin I (by unfold maxLen at hcm;omega) hgv M O (xX hg J) (λj hj=>aZe hg j AL) (λj _=>aKJ hg j) (xX U hvt) h1 h1v 56 56 aPj.size Z.size (by simp[World.shape?,U]) (by simp[World.shape?,hg]) AL (aKJ U 0) (aKJ U _)).mono ?_;rintro e w' ⟨rfl,rfl⟩;have hh:=zC g q (i*29) _ _ _ _ (zC g (xs.drop (i*29)) ((i+1)*29) w.drew Z 56 (0,0) hg);obtain⟨a1,a2,a3,a4,a5⟩:=a0C g (xs.drop (i*29)) ((i+1)*29) w.drew;obtain⟨b1,b2,b3,b4,b5⟩:=a0C g q (i*29) (w.drew.setCells g ((i+1)*29) (xs.drop (i*29)));refine⟨_,rfl,⟨?_,.inr ⟨g,cap,_,rfl,F6 _,hh,I,hcm,by rw[fZ,fZ];exact hcs,?_⟩⟩,⟨b1.trans a1,b2.trans a2,b3.trans a3,by rw[b4,a4];exact Eo _,λc hc hcb=>?_⟩,λg' hg'=>.inl hg'⟩
   ·simp[O,M];omega
   ·have :=agE (a:=i*29) (k:=29) J M O hil AL;rw[show(i+1)*29=i*29+29 by omega,show(n+1)*29=n*29+29 by omega];exact this
   have Y:c≠g:=λe=>hcb pI;rw[b5 c Y,a5 c Y];rfl
  refine(abQ g n cap i vb vc xs q w hin hnc AL hb M O (xX hg J) (xX U hvt) h1 h1v).mono ?_;rintro e w' ⟨G,ROW,rfl,hGn,hGm,hGs,hRt,rfl⟩
  have hal:((w.alloc (.cells ROW 56)).drew).heap[w.heap.size]? =some (.cells ROW 56 (0,0)):=by
   show(w.heap.push (.cells ROW 56 (0,0)))[w.heap.size]? =_;simp
  have hh:=zC w.heap.size (xs.drop (i*29)) ((i+1)*29) _ _ _ _ (show(((w.alloc (.cells ROW 56)).drew.setCells w.heap.size (i*29) q).drew).heap[w.heap.size]? =_ from zC w.heap.size q (i*29) _ ROW 56 (0,0) hal);obtain⟨a1,a2,a3,a4,a5⟩:=a0C w.heap.size q (i*29) (w.alloc (.cells ROW 56)).drew;obtain⟨b1,b2,b3,b4,b5⟩:=a0C w.heap.size (xs.drop (i*29)) ((i+1)*29) ((w.alloc (.cells ROW 56)).drew.setCells w.heap.size (i*29) q).drew;refine⟨_,rfl,⟨?_,.inr ⟨w.heap.size,G,_,rfl,F6 _,hh,hGn,hGm,by rw[fZ,fZ];exact hGs,?_⟩⟩,⟨b1.trans a1,b2.trans a2,b3.trans a3,?_,λc hc hcb=>?_⟩,λg' hg'=>.inr (by simp[ED]at hg';omega)⟩
  ·simp[O,M];omega
  ·have :=amI (a:=i*29) (k:=29) hRt M O hil (by have :=Ko 29 hGn;omega);rw[show(i+1)*29=i*29+29 by omega,show(n+1)*29=n*29+29 by omega];exact this
  ·rw[b4];show w.heap.size<=((w.alloc (.cells ROW 56)).drew.setCells w.heap.size (i*29) q).heap.size;rw[a4];show w.heap.size<=(w.heap.push (.cells ROW 56 (0,0))).size;simp
  have Y:c≠w.heap.size:=AL
  rw[b5 c Y];show((w.alloc (.cells ROW 56)).drew.setCells w.heap.size (i*29) q).heap[c]? =_;rw[a5 c Y];show(w.heap.push (.cells ROW 56 (0,0)))[c]? =_;simp[pW,Y]
 have hni:i=n:=AL
 subst hni;refine(aje L ⟨AL,h1v,.inl ⟨_,_,rfl,λj u hj=>by rw[qB,KW];exact xX U hvt j u hj⟩⟩ hb).mono ?_;rintro e w' ⟨v',rfl,h2,h3,h4⟩;refine⟨v',rfl,?_,⟨h3.os,h3.tape,h3.output,h3.size,λk hk hne'=>h3.block k hk ?_⟩,h4⟩
 ·rw[Un AL,a1F AL,MH];exact h2
 rcases L.2 with⟨rfl,_⟩|⟨g,cap,Z,rfl,_⟩
 ·simp[Value.ownBlock]
 intro e;exact hne' e.symm
def aqL (hs:j.size=3):j= #[j.getD 0 undef,j.getD 1 undef,j.getD 2 undef]:=by
 refine eM (by simp[hs]) λi h1 h2=>?_;simp at h2;have :i=0\/i=1\/i=2:=AL
 rcases this with rfl|rfl|rfl<;>simp[Array.getD,hs]
variable {H:AA CB}{xs:AA Am}
def aTG (h:Fq ok w H xs vs)(n:Nat):Fq ok w H (xs.take n) (vs.take n):=by
 refine⟨by rw[HY,HY,h.1],λi hi=>?_⟩;rw[HY]at hi;have :=h.2 i AL;rw[qj,qj]at this ⊢;rw[Qr AL,Qr AL];exact this
def aOR (h:Fq ok w H xs vs)(n:Nat):Fq ok w H (xs.drop n) (vs.drop n):=by
 refine⟨by rw[NV,NV,h.1],λi hi=>?_⟩;rw[NV]at hi;have :=h.2 (n+i) AL;rw[qj,qj]at this ⊢;rw[Va,Va];exact this
def aK7 (h:Fq ok w H xs vs):∀u∈vs,u.oneCell'=true:=λu j=>by
 obtain⟨i,hi,rfl⟩:=I8 j;have h2:=h.2 i (by rw[←h.1];exact hi);have :=h2.2.leaf h2.1
 rwa [qj,EJ hi]at this
def aSO {size:Nat}:∀{es:AA D} (i:Nat),(∀x∈es,x.cells.length=size)->flat (es.take i)=(flat es).take (i*size)
 | [],i,_=>Ud
 |x::l,0,_=>Ud
 |x::l,i+1,h=>by
  have j:(x.cells.map Am.d).length=size:=by rw[DK];exact h x (Iu ..)
  rw[aHm,UN,UN,aSO i λy q=>h y (JX _ q),jm,a8N,Vy,←j,List.take_length_add_append]
def aPs {size:Nat}:∀{es:AA D} (i:Nat),(∀x∈es,x.cells.length=size)->flat (es.drop i)=(flat es).drop (i*size)
 | [],i,_=>Ud
 |x::l,0,_=>Ud
 |x::l,i+1,h=>by
  have j:(x.cells.map Am.d).length=size:=by rw[DK];exact h x (Iu ..)
  rw[List.drop_succ_cons,UN,aPs i λy q=>h y (JX _ q),jm,a8N,Vy,←j,List.drop_length_add_append]
def E8.kill {C:FI}(hm:E8 C ok H es w)(k:Nat):E8 C ok H (es.set k .dead) w:=
 (hm.change (ok':=ok) (H':=H) (w':=w) (es':=es.set k .dead) (λ_=>False) rfl rfl rfl (Eo _) (λ_ _ _=>rfl) (λ_ h=>h.elim) (λ_ h=>h) (λ_ h=>.inl h) (.refl _) (by simpa using hm.hlen) (by
  intro j e' h' q I;by_cases J:k=j
  ·subst J;rw[a4f]at q;simp only[Jy]at q;split at q
   ·cases q;exact .inr ⟨trivial,λh=>GN⟩
   cases q
  rw[er J]at q
  exact .inl ⟨q,I,λ_ _ _ h=>h⟩)).1
variable {α:Type}
def aLI (l:AA α)(i:Int)(m:AA α):AB (AA α):=match m with
 | [x]=>if(0<=i/\i<=(l.length:Int))/\l.length<=34359738368 then some (l.take i.toNat++x::l.drop i.toNat)else none
 |_=>none
def aBI {e:α->D}(hk:∀x,(e x).cells.length=29)(l:AA α)(q:Int)(m r:AA α)(h:aLI l q m=some r):
 Dh 167 [.aQ 0,.d (Ah q),.aQ 1] [.arr 56 29 (l.map e),.arr 56 29 (m.map e)] (.aQ 2) [.dead,.dead,.arr 56 29 (r.map e)]:=by
 unfold aLI at h;split at h
 case h_2=>cases h
 rename_i x;split at h
 case isFalse=>cases h
 rename_i hc;obtain⟨⟨hq0,hql⟩,hb⟩:=hc;obtain rfl:=E9 h;obtain⟨i,rfl⟩:∃i:Nat,q=i:=⟨q.toNat,AL⟩
 have hi:i<=l.length:=AL
 rw[bU];intro ok X H w M hm hs ha;have h0:=ha 0 Bf;have hq:=ha 1 Bf;have h2:=ha 2 Bf;rw[aqL hs];obtain⟨hd,hh,hok⟩:=Gy hm.ent hm.hlen (k:=0) rfl;obtain⟨O,U,Y⟩:=Gy hm.ent hm.hlen (k:=1) rfl;obtain hv:=P5 h0 hh;obtain hv1:=P5 h2 U
 have hq':M.getD 1 undef=.int .i64 i:=by
  simp only[List.getD,rP,qx,OI]at hq;cases hq with |d _ _ hq=>exact ET.Ze hq
 rw[hv,hv1,hq'];obtain⟨hz,Z,xs,how,L⟩:=hok;obtain⟨hz1,aV6,news,I,J⟩:=Y;rw[DK]at how
 obtain⟨g1,c1,hg1⟩:∃g1 c1,O.v=.slice (some ⟨g1,0,none⟩) 1 c1:=by
  rcases I.2 with⟨_,h⟩|⟨g,cap,cur,h,_⟩
  ·cases h
  exact⟨g,cap,h⟩
 have hne:ED hd.v≠some g1:=λhb=>by
  have :=hm.G8 0 1 _ _ hd O g1 rfl rfl rfl rfl hh U hb (by rw[hg1];rfl);cases this
 rw[hg1]at I ⊢;refine(apc hi how (aK7 L) I (aK7 J) hne AL).mono ?_;rintro y w' ⟨v',rfl,j,ht,hblk⟩;have hlen:l.length+1=((l.take i++x::l.drop i).map e).length:=Eh
 rw[hlen]at j
 have hfl:flat ((l.take i++x::l.drop i).map e)=(flat (l.map e)).take (i*29)++flat ([x].map e)++(flat (l.map e)).drop (i*29):=by
  rw[←aSO i Z,←aPs i Z,←qM,←qM,Jh,JE,bZ,jM,JI];rfl
 have hg:=hm.turn (e:=.arr 56 29 ((l.take i++x::l.drop i).map e)) (h':=⟨v',29⟩) (w':=w') (k:=0) rfl rfl hh ht.os ht.tape ht.output ht.size ht.block (λg hg=>⟨a08 j hg,hblk g hg⟩) (λhgr=>⟨rfl,λy hy=>by
  obtain⟨z,_,rfl⟩:=GH.1 hy
  exact hk z,_,j,by rw[hfl];exact(uJ (uJ (aTG L _) J) (aOR L _)).mono hgr (.push _ _)⟩)
 refine⟨v',ok,H++[⟨v',29⟩],rfl,hg.1.kill 1,?_⟩;have hl:H.length=2:=hm.hlen;have hr:(H++[(⟨v',29⟩:CB)])[2]? =some ⟨v',29⟩:=by rw[←hl];simp
 rcases j.2 with⟨rfl,_⟩|⟨g,cap,cur,rfl,_⟩
 ·exact .aQ 2 _ _ _ 29 hr
 exact .aQ 2 _ _ _ 29 hr
end Go.Proofs.YteiakhlfaaifnaaGreat
namespace Go.Proofs.YteiakhlfaaifnaaGreat
open Go.Proofs.Tryz
variable {P:Ch}{k:Nat}
section
open Go.RowKit Go.Sort
section
variable {β:Type} {e:β->D} {k:Nat} {ok:Nat->Prop} {w:BU} {H:AA CB}
def aOi (j:∀x,(e x).cells.length=k):∀(l:AA β) (xs:AA BJ),Fq ok w H (flat (l.map e)) xs->∃z:AA (β×AA BJ),z.map (·.1)=l/\z.flatMap (·.2)=xs/\∀p∈z,Fq ok w H ((e p.1).cells.map .d) p.2
 | [],xs,h=>by
   have h1:xs.length=0:=h.1;exact⟨[],rfl,(I4 h1).symm,λp hp=>absurd hp H9⟩
 |x::l,xs,h=>by
  rw[JE,UN]at h;have hl:((e x).cells.map Am.d).length=k:=by rw[DK,j]
  have h1:=aTG h k;have h2:=aOR h k;rw[←hl,List.take_left]at h1;rw[←hl,List.drop_left]at h2;rw[hl]at h1 h2;obtain⟨z,q,I,J⟩:=aOi j l _ h2;refine⟨(x,xs.take k)::z,by rw[JE,q],by rw[MJ,I,YC],λp hp=>?_⟩;rcases G7.1 hp with rfl|hp
  ·exact h1
  exact J p hp
def aO0 :∀(z:AA (β×AA BJ)),(∀p∈z,Fq ok w H ((e p.1).cells.map .d) p.2)->Fq ok w H (flat ((z.map (·.1)).map e)) (z.flatMap (·.2))
 | [],_=>⟨rfl,λi hi=>absurd hi (a4a i)⟩
 |p::z,h=>by
  rw[JE,JE,UN,MJ];exact uJ (h p (Iu ..)) (aO0 z λq j=>h q (JX _ j))
end
def EU.aIw {β:Type}{f g:FuncId}{T:Bq}{e:β->D}(hk:∀x,(e x).cells.length=k){l r:AA β}(h:∀(ok:Nat->Prop) (H:AA CB) (v:BJ) (w:BU) (z:AA (β×AA BJ)),z.map (·.1)=l->(∀p∈z,Fq ok w H ((e p.1).cells.map .d) p.2)->lF w T k v l.length (z.flatMap (·.2))->
  Calls P f #[v,.func (.func g) #[] #[]] w λx w'=>x=.returned (.tuple #[])/\∃z':AA (β×AA BJ),(∀p∈z',p∈z)/\z'.map (·.1)=r/\lF w' T k v r.length (z'.flatMap (·.2))/\Turns v w w'):
 EU P f [.aQ 0,.d (.fn (.func g) [] [])] [.arr T k (l.map e)] (.eu []) [.arr T k (r.map e)]:=by
 intro ok X H w L hm hs ha;have h0:=ha 0 Bf;have Z:=ha 1 Bf;rw[aCl hs];obtain⟨hd,hh,hok⟩:=Gy hm.ent hm.hlen (k:=0) rfl;obtain hv:=P5 h0 hh
 have hf:L.getD 1 undef=.func (.func g) #[] #[]:=by
  simp only[List.getD,rP,qx,OI]at Z;generalize L.getD 1 undef=u at Z;cases Z with
  |d _ _ Z=>
   cases Z with
   |fn _ _ _ vs us hl hm'=>
    have e1:vs= #[]:=Z7 N7;have e2:us= #[]:=Z7 (by simpa using hm');rw[e1,e2]
 rw[hv,hf];obtain⟨hz,hcl,xs,M,hrs⟩:=hok;rw[DK]at M;obtain⟨z,z1,z2,z3⟩:=aOi hk l xs hrs;rw[←z2]at M;refine(h ok H hd.v w z z1 z3 M).mono ?_;rintro x w' ⟨rfl,z',p1,p2,aPk,J⟩;have I:=λb hb=>hm.blk 0 _ hd b rfl rfl hh hb
 have O:FH ok w ok w':=(hm.change (ok':=ok) (H':=H) (w':=w') (es':=[.dead]) (λc=>ED hd.v=some c) J.os J.tape J.output J.size J.block (λc hc _=>⟨(I c hc).1,(I c hc).2.2⟩) (λ_ h=>h) (λ_ h=>.inl h) (.refl _) hm.hlen (by
  intro j e' h' q U
  match j,q with
  |0,q=>
   simp at q;subst q;exact .inr ⟨trivial,λhl=>by cases hl⟩
  |k+1,q=>simp at q)).2
 have hg:=hm.change (ok':=ok) (H':=H) (w':=w') (es':=[.arr T k (r.map e)]) (λc=>ED hd.v=some c) J.os J.tape J.output J.size J.block (λc hc _=>⟨(I c hc).1,(I c hc).2.2⟩) (λ_ h=>h) (λ_ h=>.inl h) (.refl _) hm.hlen (by
  intro j e' h' q U
  match j,q with
  |0,q=>
   simp at q;subst q;rw[hh]at U;obtain rfl:=E9 U;refine .inr ⟨⟨hz,λx hx=>?_,_,by rw[DK];exact aPk,?_⟩,λ_ b hb=>⟨(I b hb).1,WR (I b hb).2.1 J.size,(I b hb).2.2,λk' e'' h'' hne Y=>?_⟩⟩
   ·obtain⟨y,_,rfl⟩:=GH.1 hx;exact hk y
   ·rw[←p2];exact aO0 z' λp hp=>(z3 p (p1 p hp)).mono O (.refl _)
   match k',Y with
   |0,_=>exact absurd rfl hne
   |k'+1,Y=>simp at Y
  |k+1,q=>simp at q)
 exact⟨_,ok,H,rfl,hg.1,.eu [] #[] rfl (λi hi=>Sj)⟩
end
variable {α:Type}
def aTe (enc:α->D)(l:AA α):D:=.agg (l.flatMap λx=>(enc x).cells)
def aWR {α β:Type}{f:α->AA β}{s:Nat}(q:∀x,(f x).length=s):∀(l:AA α) (i:Nat) (a:α),l[i]? =some a->∀j,j<s->(l.flatMap f)[i*s+j]? =(f a)[j]?
 | [],i,a,h,j,_=>Il
 |x::l,0,a,h,j,I=>by
  obtain rfl:x=a:=LZ
  rw[MJ,aBW,KW,KZ (by rw[q];exact I)]
 |x::l,i+1,a,h,j,I=>by
  have h':l[i]? =some a:=LZ
  rw[MJ,PL (by rw[q,UM];omega),q,show(i+1)*s+j-s=i*s+j by rw[UM];omega];exact aWR q l i a h' j I
def aRe {α β:Type}{f:α->AA β}{s:Nat}(j:∀x,(f x).length=s):∀l:AA α,(l.flatMap f).length=l.length*s
 | []=>Bf
 |x::l=>by rw[MJ,Em,j,aRe j l,H8,UM];omega
variable {es:AA Bc}{o:Oper}{t:Bq}
def adI {x y:Bz}{e:Bq}{n s:Nat}{k:IntKind}{i:Int}(enc:α->D){l:AA α}{a:α}(h:Aq l i=some a)(ht:P.underlying t=some (.array n e))(Z:Ep P e true s)(hl:l.length=n)(hs:∀x,∃cs,enc x=.agg cs/\cs.length=s)(ho:o.op=.index t x y:=by exact rfl):
 CG P o [(x,.d (aTe enc l)),(y,.d (.lit (.int k i)))] es (.d (enc a)) es:=
 .pure λok H ac w _ _ hn=>by
  obtain⟨h0,h1⟩:=GV h;have q:=(F9 hn).1;have hy:=(F9 hn).2.lit;simp only at q hy;have L:=(H6.1 h1).1;have hu:(underlying t).run P w=.ok (.array n e) w:=a0c
  have hf:∀x,(enc x).cells.length=s:=λx=>by obtain⟨cs,e1,e2⟩:=hs x;rw[e1];exact e2
  have M:=aRe (f:=λx=>(enc x).cells) hf l;have I:=aWR (f:=λx=>(enc x).cells) hf l i.toNat a h1;obtain⟨cs,ea,el⟩:=hs a;generalize hv:ac.eval x=v at q;cases q with
  |d _ _ q=>
   cases q with
   |agg _ vs O J hc=>
    rw[M]at O J hc
    have hm:i.toNat*s+s<=l.length*s:=by
     have :=Ko s L;rw[UM]at this;exact this
    refine⟨.agg (vs.extract (i.toNat*s) (i.toNat*s+s)),?_,?_⟩
    ·have hb:0<=i/\i<n:=⟨h0,AL⟩
     simp only[execOp,ho,hv,hy,Instr.index,asIntOf,GL,Hg,hu,GY,hb,and_self,Jy,Z.size w,part,Z.agg w]
    rw[ea];rw[ea]at I;have U:(vs.extract (i.toNat*s) (i.toNat*s+s)).size=s:=by rw[Array.size_extract];omega
    have hg:∀j,j<s->cs.getD j EN=(l.flatMap λx=>(enc x).cells).getD (i.toNat*s+j) EN:=λj Y=>by
     simp only[qj];rw[I j Y];rfl
    refine .d _ _ (.agg _ _ (by rw[U,el]) (λj Y=>?_) (λj Y=>?_))
    ·rw[hg j AL];exact J _ AL
    rw[hg j AL];have :=hc (i.toNat*s+j) AL
    have e3:(vs.extract (i.toNat*s) (i.toNat*s+s)).getD j undef=vs.getD (i.toNat*s+j) undef:=by
     have h5:i.toNat*s+j<vs.size:=AL
     have h6:j<(vs.extract (i.toNat*s) (i.toNat*s+s)).size:=AL
     rw[Array.getD,dif_pos h6,Array.getD,dif_pos h5];show(vs.extract _ _)[j]=vs[i.toNat*s+j];rw[Array.getElem_extract]
    rw[e3];exact this
def a7g (j:o.op=.makeMap t none:=by exact rfl)(q:es.length=k:=by kernel_rfl):CG P o [] es (.mp k) (es++[.map []]):=q▸ah7 j
end Go.Proofs.YteiakhlfaaifnaaGreat
