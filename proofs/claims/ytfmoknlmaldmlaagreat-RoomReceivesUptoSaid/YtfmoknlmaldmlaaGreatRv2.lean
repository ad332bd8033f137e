/- Part 2 of the proofs. -/
import Derived.Test.YtfmoknlmaldmlaaGreatRv1
set_option linter.defProp false
set_option linter.unnecessarySimpa false
set_option linter.unusedSectionVars false
set_option linter.unusedVariables false
set_option linter.unusedSimpArgs false
namespace Go.Proofs
open Go.Proofs.YtfmoknlmaldmlaaGreat
open Go.Shelf
def Tryz.azv:Go.Shelf.Ren:=⟨λ|137=>203|217=>273|266=>341|n=>n,λ|9=>9|5=>5|3=>3|n=>n,λ|n=>n⟩
noncomputable abbrev Aq:=Tryz.prog
def Tryz.lays137:Go.Proofs.Lays.n137 Aq Tryz.azv:={
 mixed:=A8
 f137:=Tryz.func203.trans (BF some A8)
 f217:=Tryz.func273.trans (BF some A8)
 f266:=Tryz.func341.trans (BF some A8)
 t3:=Iw
 a3:=SPr
 z3:=uO
 v3:=wU
 t5:=a8u
 a5:=Tryz.isAgg5
 z5:=Tryz.sizeOf5
 v5:=a3Z
 t9:=Ol
 a9:=Tryz.isAgg9
 z9:=Tryz.sizeOf9
 v9:=a2L }
open Go.RowKit in
def Tryz.strings_IndexByte (s:BL)(c:Int)(w:BQ):
 Calls Aq 203 #[.string s,.int .u8 c] w λe w'=>e=.returned (.int .i64 (Lib.indexByte s.data.toList c.toNat.toUInt8))/\w'=w:=Any.strings_IndexByte Tryz.lays137 s c w
def Tryz.azw:Go.Shelf.Ren:=⟨λ|219=>342|217=>273|225=>412|224=>413|267=>414|266=>341|314=>443|n=>n,λ|9=>9|3=>3|4=>4|5=>5|46=>203|146=>370|51=>306|n=>n,λ|1=>0|n=>n⟩
def Tryz.lays219:Go.Proofs.Lays.n219 Aq Tryz.azw:={
 mixed:=A8
 f217:=Tryz.func273.trans (BF some A8)
 f219:=Tryz.func342.trans (BF some A8)
 f224:=Tryz.func413.trans (BF some A8)
 f225:=Tryz.func412.trans (BF some A8)
 f266:=Tryz.func341.trans (BF some A8)
 f267:=Tryz.func414.trans (BF some A8)
 f314:=Tryz.func443.trans (BF some A8)
 t3:=Iw
 a3:=SPr
 z3:=uO
 v3:=wU
 t4:=Zp
 a4:=Tryz.isAgg4
 z4:=Tryz.sizeOf4
 v4:=a2l
 t5:=a8u
 a5:=Tryz.isAgg5
 z5:=Tryz.sizeOf5
 v5:=a3Z
 t9:=Ol
 a9:=Tryz.isAgg9
 z9:=Tryz.sizeOf9
 v9:=a2L
 t46:=Tryz.underlying203
 a46:=Tryz.isAgg203
 z46:=Tryz.sizeOf203
 v46:=Tryz.zeroValue203
 t51:=Tryz.underlying306
 a51:=Tryz.isAgg306
 z51:=Tryz.sizeOf306
 v51:=Tryz.zeroValue306
 t146:=Tryz.underlying370
 a146:=Tryz.isAgg370
 z146:=Tryz.sizeOf370
 v146:=Tryz.zeroValue370
 g1:=by kernel_rfl }
open Go.RowKit Go.Lib in
def Tryz.stringslite_Index_one (s:BL)(c:UInt8)(w:BQ):
 Calls Aq 342 #[.string s,.string ⟨#[c]⟩] w λe w'=>e=.returned (.int .i64 (Lib.indexByte s.data.toList c))/\w'=w:=Any.stringslite_Index_one Tryz.lays219 s c w
def Tryz.azx:Go.Shelf.Ren:=⟨λ|189=>197|125=>267|257=>266|128=>339|129=>340|294=>331|295=>332|296=>333|297=>334|298=>335|299=>336|216=>199|300=>337|301=>338|328=>407|329=>408|330=>409|331=>410|332=>411|215=>268|343=>442|n=>n,λ|28=>27|3=>3|46=>203|0=>0|51=>306|53=>202|4=>4|183=>300|182=>299|131=>150|5=>5|9=>9|218=>350|222=>354|228=>367|229=>368|n=>n,λ|n=>n⟩
def Tryz.lays189:Go.Proofs.Lays.n189 Aq Tryz.azx:={
 mixed:=A8
 f125:=Tryz.func267.trans (BF some A8)
 f128:=Tryz.func339.trans (BF some A8)
 f129:=Tryz.func340.trans (BF some A8)
 f189:=Tryz.func197.trans (BF some A8)
 f215:=Tryz.func268.trans (BF some A8)
 f216:=Tryz.func199.trans (BF some A8)
 f257:=Tryz.func266.trans (BF some A8)
 f294:=Tryz.func331.trans (BF some A8)
 f295:=Tryz.func332.trans (BF some A8)
 f296:=Tryz.func333.trans (BF some A8)
 f297:=Tryz.func334.trans (BF some A8)
 f298:=Tryz.func335.trans (BF some A8)
 f299:=Tryz.func336.trans (BF some A8)
 f300:=Tryz.func337.trans (BF some A8)
 f301:=Tryz.func338.trans (BF some A8)
 f328:=Tryz.func407.trans (BF some A8)
 f329:=Tryz.func408.trans (BF some A8)
 f330:=Tryz.func409.trans (BF some A8)
 f331:=Tryz.func410.trans (BF some A8)
 f332:=Tryz.func411.trans (BF some A8)
 f343:=Tryz.func442.trans (BF some A8)
 t0:=Tryz.underlying0
 a0:=Tryz.isAgg0
 z0:=Tryz.sizeOf0
 v0:=Tryz.zeroValue0
 t3:=Iw
 a3:=SPr
 z3:=uO
 v3:=wU
 t4:=Zp
 a4:=Tryz.isAgg4
 z4:=Tryz.sizeOf4
 v4:=a2l
 t5:=a8u
 a5:=Tryz.isAgg5
 z5:=Tryz.sizeOf5
 v5:=a3Z
 t9:=Ol
 a9:=Tryz.isAgg9
 z9:=Tryz.sizeOf9
 v9:=a2L
 t28:=a1c
 a28:=Tryz.isAgg27
 z28:=Tryz.sizeOf27
 v28:=Tryz.zeroValue27
 t46:=Tryz.underlying203
 a46:=Tryz.isAgg203
 z46:=Tryz.sizeOf203
 v46:=Tryz.zeroValue203
 t51:=Tryz.underlying306
 a51:=Tryz.isAgg306
 z51:=Tryz.sizeOf306
 v51:=Tryz.zeroValue306
 t53:=Tryz.underlying202
 a53:=Tryz.isAgg202
 z53:=Tryz.sizeOf202
 v53:=Tryz.zeroValue202
 t131:=Tryz.underlying150
 a131:=Tryz.isAgg150
 z131:=Tryz.sizeOf150
 v131:=Tryz.zeroValue150
 t182:=Tryz.underlying299
 a182:=Tryz.isAgg299
 z182:=Tryz.sizeOf299
 v182:=Tryz.zeroValue299
 t183:=Tryz.underlying300
 a183:=Tryz.isAgg300
 z183:=Tryz.sizeOf300
 v183:=Tryz.zeroValue300
 t218:=Tryz.underlying350
 a218:=Tryz.isAgg350
 z218:=Tryz.sizeOf350
 v218:=Tryz.zeroValue350
 t222:=Tryz.underlying354
 a222:=Tryz.isAgg354
 z222:=Tryz.sizeOf354
 v222:=Tryz.zeroValue354
 t228:=Tryz.underlying367
 a228:=Tryz.isAgg367
 z228:=Tryz.sizeOf367
 v228:=Tryz.zeroValue367
 t229:=Tryz.underlying368
 a229:=Tryz.isAgg368
 z229:=Tryz.sizeOf368
 v229:=Tryz.zeroValue368 }
open Go.Sort Go.RowKit in
def Tryz.slices_Sort_int (blk off cap:Nat)(EY:AA Int)(w:BQ)(hH:Holds D7 w blk off EY.toArray)(hblk:blk<w.heap.size)(hsz:EY.length<4611686018427387904):
 Calls Aq 197 #[.slice (some ⟨blk,off,none⟩) EY.length cap] w λe w'=>
  e=.returned (.tuple #[])/\∃n os,w'=grow (putRow D7 (Sort.ahead w n) blk off (EY.mergeSort λx y=>x<=y).toArray) os:=Any.slices_Sort_int Tryz.lays189 blk off cap EY w hH hblk hsz
def Tryz.au0:Go.Shelf.Ren:=⟨λ|20=>198|n=>n,λ|22=>27|3=>3|4=>4|0=>0|n=>n,λ|n=>n⟩
def Tryz.atP:Go.Proofs.Lays2.n20 Aq Tryz.au0:={
 mixed:=A8
 f20:=Tryz.func198.trans (BF some A8)
 t0:=Tryz.underlying0
 a0:=Tryz.isAgg0
 z0:=Tryz.sizeOf0
 v0:=Tryz.zeroValue0
 t3:=Iw
 a3:=SPr
 z3:=uO
 v3:=wU
 t4:=Zp
 a4:=Tryz.isAgg4
 z4:=Tryz.sizeOf4
 v4:=a2l
 t22:=a1c
 a22:=Tryz.isAgg27
 z22:=Tryz.sizeOf27
 v22:=Tryz.zeroValue27
 i3:=by kernel_rfl }
open Go.RowKit Go.Lib Go.Sort in
def Tryz.slices_Compact_int (blk off cap:Nat)(EY:AA Int)(w:BQ)(hH:Holds D7 w blk off EY.toArray)(hsz:EY.length<=9223372036854775807)(hcap:EY.length<=cap):
 Calls Aq 198 #[.slice (some ⟨blk,off,none⟩) EY.length cap] w λe w'=>e=.returned (.slice (some ⟨blk,off,none⟩) (Lib.compact EY).length cap)/\∃q,w'=putRow D7 (Sort.ahead w q) blk off (Lib.compact EY++List.replicate (EY.length-(Lib.compact EY).length) 0).toArray:=Any.slices_Compact_int Tryz.atP blk off cap EY w hH hsz hcap
open Go.RowKit Go.Lib Go.Sort in
def Tryz.slices_Compact_int_empty (a:AL Addr)(cap:Nat)(w:BQ):
 Calls Aq 198 #[.slice a 0 cap] w λe w'=>e=.returned (.slice a 0 cap)/\w'=w:=Any.slices_Compact_int_empty Tryz.atP a cap w
open Go.RowKit Go.Sort in
def Tryz.slices_Sort_int_none (p:AL Addr)(cap:Nat)(w:BQ):
 Calls Aq 197 #[.slice p 0 cap] w λe w'=>e=.returned (.tuple #[])/\w'=w:=Any.slices_Sort_int_none Tryz.lays189 p cap w
end Go.Proofs
namespace Go.Proofs.YtfmoknlmaldmlaaGreat
open Go.RowKit Go.Proofs.Tryz
def kY (x:Int):AA Int->AA Int
 | []=>[x]
 |y::l=>bif x<=y then x::y::l else y::kY x l
def O9 (l:AA Int):AA Int:=l.foldr kY []
def aI7 x:∀l,(kY x l).Perm (x::l)
 | []=>.refl _
 |y::l=>by
  unfold kY;cases h:decide (x<=y)with
  |true=>exact .refl _
  |false=>exact((aI7 x l).cons y).trans (.swap x y l)
def VG :∀l,(O9 l).Perm l
 | []=>.refl _
 |x::l=>(aI7 x (O9 l)).trans ((VG l).cons x)
def aOS x:∀l,l.Pairwise (· <= ·)->(kY x l).Pairwise (· <= ·)
 | [],_=>by simp[kY]
 |y::l,h=>by
  have h':=QZ.1 h;unfold kY;cases u:decide (x<=y)with
  |true=>
   have q:x<=y:=Ov u;refine QZ.2 ⟨λz j=>?_,h⟩;rcases FP.1 j with rfl|j
   ·exact q
   have :=h'.1 z j;omega
  |false=>
   have q:¬x<=y:=Nj u;refine QZ.2 ⟨λz j=>?_,aOS x l h'.2⟩;rcases FP.1 ((aI7 x l).mem_iff.1 j)with rfl|j
   ·omega
   exact h'.1 z j
def a1d :∀l,(O9 l).Pairwise (· <= ·)
 | []=>.nil
 |x::l=>aOS x _ (a1d l)
def aJm l:O9 l=l.mergeSort λx y=>decide (x<=y):=by
 have hs:(l.mergeSort λx y=>x<=y).Pairwise (· <= ·):=by
  have :=List.pairwise_mergeSort (le:=λx y:Int=>x<=y) (by intro a b c;simp;omega) (by intro a b;simp;omega) l;exact this.imp (by intro a b h;simpa using h)
 exact((VG l).trans (List.mergeSort_perm l _).symm).eq_of_pairwise (λa b _ _ h k=>AB) (a1d l) hs
abbrev AV:=AA Int
def PS (l:AA Int):AL AV:=if l.length<=1099511627776 then some (O9 l)else none
def Xa (l:AA Int):AL AV:=if l.length<=1099511627776 then some (Lib.compact l)else none
def nM.nil w e size:nM w e size (.slice none 0 0) 0 []:=.of (aAO w 0 e size)
variable {cap g n:Nat}{w:BQ}
def aai {e}{os}{j}{q u:AA Int}(hl:u.length=q.length)(z:w.heap[g]? =some (.cells j e (0,0)))(h1:q.length<=cap)(h2:cap<=maxLen)(h3:cap*1<=j.size):
 nM (Go.Sort.grow (Go.Sort.putRow D7 (Go.Sort.ahead w n) g 0 u.toArray) os) e 1 (.slice (some ⟨g,0,none⟩) q.length cap) q.length (u.map D7):=
 ⟨jU,.inr ⟨g,cap,_,rfl,FQ _,heap_sortedI _ z,h1,h2,by simpa[Go.Sort.putCells]using h3,by rw[qC,←hl];exact take_putCellsI j u AB⟩⟩
variable {k q:Nat}
def aY7 {e}{EY ys:AA Int}(h:nM w e 1 (.slice (some ⟨g,0,none⟩) n cap) n (EY.map D7))(L:ys.length=n)(M:k<=n):
 nM (Go.Sort.putRow D7 (Go.Sort.ahead w q) g 0 ys.toArray) e 1 (.slice (some ⟨g,0,none⟩) k cap) k ((ys.take k).map D7):=by
 rcases h.2 with⟨u,_⟩|⟨O,z,j,u,I,J,U,hm,hs,Y⟩
 ·cases u
 injection u with e1 _ e3
 injection e1 with e1
 injection e1 with e1
 subst e1;subst e3;refine⟨Ei,.inr ⟨g,cap,Go.Sort.putCells D7 0 ys.toArray j,rfl,I,?_,AB,hm,by simpa[Go.Sort.putCells]using hs,?_⟩⟩
 ·simp[Go.Sort.putRow,Go.Sort.mapBlock,Go.Sort.ahead,ZR,J,Go.Sort.onCells]
 have :=take_putCellsI j ys AB;rw[qC,Yw,←this,aI6,lI AB]
variable {l m:AA Int}
def akU (h:l.Perm m):O9 l=O9 m:=by
 have hs:∀(l:AA Int),(O9 l).Pairwise (· <= ·):=a1d;exact((VG l).trans (h.trans (VG m).symm)).eq_of_pairwise (λa b _ _ h1 h2=>AB) (hs l) (hs m)
def aN5 (h:l.Perm m):PS l=PS m:=by
 unfold PS;rw[h.length_eq,akU h]
abbrev E8:=Ej Aq
def uK l r(h:PS l=some r):E8 197 [.aS 0] [.arr 3 1 (List.map Ad l)] (.eP []) [.arr 3 1 (List.map Ad r)]:=by
 unfold PS at h;split at h
 ·rename_i U;obtain rfl:=E5 h;refine Ej.aIf λv w q=>?_;rcases q.2 with⟨rfl,M⟩|⟨g,cap,O,rfl,u,z,I,J,L,j⟩
  ·have hl:l=[]:=Hu M;subst hl;refine(Tryz.slices_Sort_int_none _ _ _).mono ?_;rintro e w' ⟨rfl,h⟩;subst h;exact⟨rfl,nM.nil _ _ _,Turns.refl _ _⟩
  have hs:(l.mergeSort λx y=>x<=y).length=l.length:=List.length_mergeSort _;refine(Tryz.slices_Sort_int g 0 cap l w (holds_of_blockI z Vj) (Ip.1 z).1 AB).mono ?_;rintro e w' ⟨rfl,n,os,rfl⟩;rw[aJm];refine⟨rfl,?_,Turns.aF1 (grownBy_sortedI _)⟩;rw[hs];exact aai (os:=os) (n:=n) hs z I J L
 cases h
def aCm l r(h:Xa l=some r):E8 198 [.aS 0] [.arr 3 1 (List.map Ad l)] (.aS 1) [.dead,.arr 3 1 (List.map Ad r)]:=by
 unfold Xa at h;split at h
 ·rename_i hn;obtain rfl:=E5 h;refine Ej.turned λv w u=>?_;rcases u.2 with⟨rfl,O⟩|⟨g,cap,U,rfl,I,z,J,Y,Z,j⟩
  ·have hl:l=[]:=Hu O;subst hl;refine(Tryz.slices_Compact_int_empty _ _ _).mono ?_;rintro e w' ⟨rfl,h⟩;subst h;exact⟨_,rfl,nM.nil _ _ _,Turns.refl _ _,λg z=>by simp[EF]at z⟩
  refine(Tryz.slices_Compact_int g 0 cap l w (holds_of_blockI z Vj) AB J).mono ?_;rintro e w' ⟨rfl,q,rfl⟩;have L:=Lib.compact_length_le l;have hy:(Lib.compact l++List.replicate (l.length-(Lib.compact l).length) 0).length=l.length:=Ei
  refine⟨_,rfl,?_,?_,λg z=>.inl z⟩
  ·have :=aY7 (q:=q) u hy L;rw[a1Z rfl]at this;exact this
  exact⟨rfl,rfl,rfl,by simp[Sort.putRow,Sort.mapBlock,Sort.ahead],λk hk M=>by
   have :g≠k:=λe=>M wH
   simp[Sort.putRow,Sort.mapBlock,Sort.ahead,ZR,this]⟩
 cases h
def strings_IndexByte (s:BL)(c:Int):AL Int:=some (Lib.indexByte s.data.toList c.toNat.toUInt8)
def an8 s c r(h:strings_IndexByte s c=some r):E8 203 [.d (DX s),.d (Dl c)] [] (.d (Ad r)) []:=by
 rw[←E5 h];exact Ej.plain (vs:=[.string s,.int .u8 c]) (v:=.int .i64 (Lib.indexByte s.data.toList c.toNat.toUInt8)) (λ_ _ _=>.d _ _ (.lit _)) λw=>(Tryz.strings_IndexByte s c w).mono λe w' ⟨h1,h2⟩=>⟨h1,aTJ⟩
def a6y (s t:BL):AL Int:=match t.data.toList with
 | [c]=>some (Lib.indexByte s.data.toList c)
 |_=>none
def aey s t r(h:a6y s t=some r):E8 342 [.d (DX s),.d (DX t)] [] (.d (Ad r)) []:=by
 unfold a6y at h;split at h
 ·rename_i c j;rw[←E5 h];obtain⟨⟨l⟩⟩:=t;simp only at j;subst j;exact Ej.plain (vs:=[.string s,.string ⟨#[c]⟩]) (v:=.int .i64 (Lib.indexByte s.data.toList c)) (λ_ _ _=>.d _ _ (.lit _)) λw=>(Tryz.stringslite_Index_one s c w).mono λe w' ⟨h1,h2⟩=>⟨h1,aTJ⟩
 cases h
structure gX (P:Program) (t:TypeId) (s:Nat) (z:Value):Prop where
 und:∃n e,P.underlying t=some (.array n e)/\∃i,P.info? e=some i/\i.size=s
 zero:(P.info? t).bind (·.zero)=some z
 one:z.cells.all (·.oneCell')=true
def aWw (P:Ce)(t:Bz)(s:Nat):AY:=
 match P.underlying t with
 |some (.array _ e)=>match P.info? e with
  |some i=>i.size=s
  |none=>false
 |_=>false
variable {P:Ce}{s:Nat}{t:Bz}{z:BG}
def a3u (h:aWw P t s=true)(j:(P.info? t).bind (·.zero)=some z)(h1:z.cells.all (·.oneCell')=true):gX P t s z:=by
 unfold aWw at h;split at h
 ·rename_i n e q;split at h
  ·rename_i i hi;exact⟨⟨n,e,q,i,hi,Ov h⟩,j,h1⟩
  cases h
 cases h
variable {α:Type}{es:AA BX}{i:Int}{o:Oper}{off:Nat}{x:C9}
def aeu {j}(hA:gX P t s z)vs(hp:Ot (λi=>some (i*s,s)) (Gp z).length j.toList vs=true)(hd:(MN (λi=>some (i*s,s)) (Gp z) j.toList vs).all Ai.Dx=true)(Z:o.op=.build t j:=by exact rfl):
 CG P o (Oc j.toList vs) es (.d (.agg (KE (MN (λi=>some (i*s,s)) (Gp z) j.toList vs)))) es:=
 .pure λok H a w _ _ hn=>by
  obtain⟨⟨n,e,hu,i,hi,hs⟩,hz,h1⟩:=hA;have u:=a8C (P:=P) hz w;have I:(underlying t).run P w=.ok (.array n e) w:=a4o
  have J:(sizeOf e).run P w=.ok s w:=aF0
  obtain⟨q,hc,L⟩:=a01 (place:=λi=>some (i*s,s)) j.toList vs (Gp z) z.cells (aJV (ok:=ok) (w:=w) (H:=H) h1) hp hn;refine⟨.agg q,?_,.d _ _ ?_⟩
  ·have e:(j.map λ(i,x)=>(i,a.eval x)).toList=j.toList.map λp=>(p.1,a.eval p.2):=BU
   simp only[execOp,Z,Instr.build,GK,u,I,J,Gi];rw[e,hc];rfl
  rw[aWB hd]at L;generalize KE (MN (λi=>some (i*s,s)) (Gp z) j.toList vs)=xs at L ⊢;obtain⟨h2,h3⟩:=L;simp only[DY]at h2 h3
  have Y:∀i,i<xs.length->(xs.map Ai.d).getD i .junk=.d (xs.getD i EO):=by
   grind
  have M:q.size=xs.length:=LP
  refine .agg xs q M ?_ ?_<;>intro i hi
  ·have :=(h3 i hi).1;rw[Y i hi]at this;exact this
  have O:=(h3 i hi).2;rw[Y i hi]at O;have U:i<q.size:=AB
  have e:q.toList.getD i undef=q.getD i undef:=by simp[List.getD,Array.getD,U]
  rw[e]at O;cases O with |d _ _ h=>exact h
def OT (enc:α->D)(l:AA α):D:=.agg (l.map enc)
def aAI {y}{e}{k}enc{l}{a:α}(h:Ak l i=some a)(O:P.underlying t=some (.array n e))(I:Em P e false 1)(hl:l.length=n)(U:o.op=.index t x y:=by exact rfl):
 CG P o [(x,.d (OT enc l)),(y,.d (.lit (.int k i)))] es (.d (enc a)) es:=
 .pure λok H Y w _ _ J=>by
  obtain⟨Z,h1⟩:=Gl h;have q:=(Fe J).1;have L:=(Fe J).2.lit;simp only at q L;have u:=(I9.1 h1).1;have hu:(underlying t).run P w=.ok (.array n e) w:=by simp[underlying,O]
  generalize hv:Y.eval x=v at q;cases q with
  |d _ _ q=>
   cases q with
   |agg _ vs z hf M=>
    rw[DY]at z hf M;have j:i.toNat<vs.size:=AB
    refine⟨vs[i.toNat],?_,?_⟩
    ·have hb:0<=i/\i<n:=⟨Z,AB⟩
     simp only[execOp,U,hv,L,Instr.index,asIntOf,GK,Hy,hu,Gi,hb,and_self,KT,I.size w,part,I.agg w];simp[j]
    have :=M i.toNat u;simp only[Array.getD,j,dif_pos]at this;have e2:(l.map enc).getD i.toNat EO=enc a:=by simp[List.getD,h1]
    rw[e2]at this;exact .d _ _ this
def aXf (j:o.op=.nilCheck x:=by exact rfl):CG P o [(x,.ptr k off)] es (.ptr k off) es:=
 .pure λok H a w _ _ q=>by
  have h1:=N7 q;simp only at h1;generalize z:a.eval x=u at h1;cases h1 with
  |ptr _ _ b s h=>exact⟨_,by simp[execOp,j,z],.ptr _ _ b s h⟩
def acP {i}(j:o.op=.nilCheck x:=by exact rfl):CG P o [(x,.mF k i off)] es (.mF k i off) es:=
 .pure λok H a w _ _ q=>by
  have h1:=N7 q;simp only at h1;generalize z:a.eval x=u at h1;cases h1 with
  |mF _ _ _ b n cap s h=>exact⟨_,by simp[execOp,j,z],.mF _ _ _ b n cap s h⟩
def amM {cs}(q:o.op=.nilCheck x:=by exact rfl):CG P o [(x,.d (.ref cs off))] es (.d (.ref cs off)) es:=
 .pure λok H a w _ _ z=>by
  have h1:=N7 z;simp only at h1;generalize I:a.eval x=u at h1;cases h1 with
  |d _ _ h=>cases h with
   |ref _ _ b p j J L M=>exact⟨_,by simp[execOp,q,I],.d _ _ (.ref _ _ b p j J L M)⟩
def aUQ (n:Nat):D:=.fn (.func n) [] []
def Qs {α}(p:α->Prop):AA α->Prop
 | []=>True
 |x::l=>p x/\Qs p l
def Qs.mem {α}{p}:∀{l:AA α},Qs p l->∀x∈l,p x
 | [],_,x,h=>JD
 |y::l,hl,x,h=>by
  rcases FP.1 h with rfl|h
  ·exact hl.1
  exact hl.2.mem x h
class Kn (P:Program) where
 und:List (Nat×TypeDesc)
 apd:Qs (λp:Nat×TypeDesc=>P.underlying p.1=some p.2) und
 ty:List (Nat×Bool×Nat)
 hty:Qs (λp:Nat×Bool×Nat=>Em P p.1 p.2.1 p.2.2) ty
 fld:List ((Nat×Nat)×Nat)
 hfld:Qs (λp:(Nat×Nat)×Nat=>ED P p.1.1 p.1.2 p.2) fld
 part:List ((Nat×Nat)×Nat×Bool×Nat)
 hpart:Qs (λp:(Nat×Nat)×Nat×Bool×Nat=>pX P p.1.1 p.1.2 p.2.1 p.2.2.1 p.2.2.2=true) part
 zero:List (Nat×Value)
 hzero:Qs (λp:Nat×Value=>(P.info? p.1).bind (·.zero)=some p.2/\p.2.cells.all (·.oneCell')=true) zero
 st:List (Nat×List (Nat×Nat)×Value)
 hst:Qs (λp:Nat×List (Nat×Nat)×Value=>Jj P p.1 p.2.1 p.2.2) st
 arr:List (Nat×Nat×Value)
 harr:Qs (λp:Nat×Nat×Value=>gX P p.1 p.2.1 p.2.2) arr
 sl:List (Nat×Nat)
 hsl:Qs (λp:Nat×Nat=>P.underlying p.1=some (.slice p.2)) sl
def Pn {β:Type}(t:Nat):AA (Nat×β)->AL β
 | []=>none
 |(u,b)::l=>match Nat.beq t u with |true=>some b|false=>Pn t l
def Nh {β}{t}{b}:∀{l:AA (Nat×β)},Pn t l=some b->(t,b)∈l
 | [],h=>H6
 |(u,c)::l,h=>by
  unfold Pn at h;split at h
  ·rename_i e;cases h;rw[aA9 e];exact Gv
  exact I7 _ (Nh h)
def zy {β:Type}(t f:Nat):AA ((Nat×Nat)×β)->AL β
 | []=>none
 |((u,g),b)::l=>match Nat.beq t u&&Nat.beq f g with |true=>some b|false=>zy t f l
def a1N {β}{t f}{b}:∀{l:AA ((Nat×Nat)×β)},zy t f l=some b->((t,f),b)∈l
 | [],h=>H6
 |((u,g),c)::l,h=>by
  unfold zy at h;split at h
  ·rename_i e;cases h;rw[Di]at e;rw[aA9 e.1,aA9 e.2];exact Gv
  exact I7 _ (a1N h)
structure Qr where
 ns:List (Operand×Ai)
 x:Ai
 E:List BX
 bar:Bool
def aFf (op:BinOp)(k:IntKind)(a b:Int):AL BG:=
 match op with
 | .add=>some (.int k (k.wrap (a+b)))
 | .sub=>some (.int k (k.wrap (a-b)))
 | .mul=>some (.int k (k.wrap (a*b)))
 | .eql=>some (.bool (a==b))
 | .neq=>some (.bool (a != b))
 | .lss=>some (.bool (decide (a<b)))
 | .leq=>some (.bool (decide (a<=b)))
 | .gtr=>some (.bool (decide (a>b)))
 | .geq=>some (.bool (decide (a>=b)))
 |_=>none
variable {op:BinOp}{r:BG}
def aZJ {k}{a b}(h:aFf op k a b=some r)w:(binOp op t (.int k a) (.int k b)).run P w=.ok r w:=by
 unfold aFf at h;cases op<;>first|(cases h;done)|(cases h;simp[binOp,Op.intArith,Op.intCmp];done)|(cases h;cases k<;>rfl)
def aEc (op:BinOp)(a b:BL):AL BG:=
 match op with
 | .eql=>some (.bool (a.toList==b.toList))
 | .neq=>some (.bool (!(a.toList==b.toList)))
 | .lss=>some (.bool (Op.bytesLess a.toList b.toList))
 | .leq=>some (.bool (Op.bytesLess a.toList b.toList||a.toList==b.toList))
 | .gtr=>some (.bool (!(Op.bytesLess a.toList b.toList||a.toList==b.toList)))
 | .geq=>some (.bool (!Op.bytesLess a.toList b.toList))
 |_=>none
def aZk {a b}(h:aEc op a b=some r)w:(binOp op t (.string a) (.string b)).run P w=.ok r w:=by
 unfold aEc at h;cases op<;>first|(cases h;done)|(cases h;rfl)
variable {es':AA BX}{ns:AA (C9×Ai)}{x:Ai}
def CG.aJL {j}(h:CG P o ns es x es')(q:∀n∈ns,n∈j\/n=(.const (.slice none 0 0),.d (.sl []))):CG P o j es x es':=by
 intro C ok H a w Q hm z;refine h C ok H a w Q hm (λn u=>?_);rcases q n u with h1|rfl
 ·exact z n h1
 exact .d _ _ (.sl0 none 0)
def Ai.aSN:Ai->AL BG
 | .d (.lit v)=>some v
 |_=>none
def aCZ (K:Kn P)(σ:BN)(o:Oper):AL Qr:=
 match o.op with
 | .move x=>match x with
   | .const (.slice none 0 0)=>some ⟨[],.d (.sl []),σ.ents,false⟩
   |x=>some ⟨[(x,σ.get x)],σ.get x,σ.ents,false⟩
 | .assign x=>match x with
   | .const (.slice none 0 0)=>some ⟨[],.d (.sl []),σ.ents,false⟩
   |x=>some ⟨[(x,σ.get x)],σ.get x,σ.ents,false⟩
 | .pick c x y=>match σ.get c with
   | .d (.lit (.bool true))=>some ⟨[(c,.d (.lit (.bool true))),(x,σ.get x)],σ.get x,σ.ents,false⟩
   | .d (.lit (.bool false))=>some ⟨[(c,.d (.lit (.bool false))),(y,σ.get y)],σ.get y,σ.ents,false⟩
   |_=>none
 | .binOp op t x y _=>match σ.get x,σ.get y with
   | .d (.lit (.int k a)),.d (.lit (.int k' b))=>if k=k' then(aFf op k a b).map λr=>⟨[(x,.d (.lit (.int k a))),(y,.d (.lit (.int k b)))],.d (.lit r),σ.ents,false⟩else none
   | .d (.lit (.string a)),.d (.lit (.string b))=>(aEc op a b).map λr=>⟨[(x,.d (.lit (.string a))),(y,.d (.lit (.string b)))],.d (.lit r),σ.ents,false⟩
   | .d (.lit (.bool a)),.d (.lit (.bool b))=>match Pn t K.und with
     |some .bool=>match op with
      | .eql=>some ⟨[(x,.d (E9 a)),(y,.d (E9 b))],.d (E9 (a==b)),σ.ents,false⟩
      | .neq=>some ⟨[(x,.d (E9 a)),(y,.d (E9 b))],.d (E9 (!(a==b))),σ.ents,false⟩
      |_=>none
     |_=>none
   |_,_=>none
 | .unOp op _ x=>match σ.get x with
   | .d (.lit (.bool b))=>match op with
     | .not=>some ⟨[(x,.d (.lit (.bool b)))],.d (.lit (.bool !b)),σ.ents,false⟩
     |_=>none
   | .d (.lit (.int k n))=>match op with
     | .neg=>some ⟨[(x,.d (.lit (.int k n)))],.d (.lit (.int k (k.wrap (0-n)))),σ.ents,false⟩
     |_=>none
   |_=>none
 | .convert s t x=>match Pn s K.und,Pn t K.und,σ.get x with
   |some (.int J),some (.int k),.d (.lit (.int L n))=>if J=L then some ⟨[(x,.d (.lit (.int J n)))],.d (.lit (.int k (k.wrap n))),σ.ents,false⟩else none
   |some .string,some .string,.d (.lit (.string u))=>some ⟨[(x,.d (DX u))],.d (DX u),σ.ents,false⟩
   |_,_,_=>none
 | .extract x i=>match σ.get x with
   | .eP xs=>match xs[i]? with
     |some v=>some ⟨[(x,.eP xs)],v,σ.ents,false⟩
     |none=>none
   |_=>none
 | .fieldAddr t x f=>match zy t f K.fld,σ.get x with
   |some off,.ptr k I=>some ⟨[(x,.ptr k I)],.ptr k (I+off),σ.ents,false⟩
   |some off,.mF k i I=>some ⟨[(x,.mF k i I)],.mF k i (I+off),σ.ents,false⟩
   |some off,.d (.ref cs I)=>some ⟨[(x,.d (.ref cs I))],.d (.ref cs (I+off)),σ.ents,false⟩
   |_,_=>none
 | .nilCheck x=>match σ.get x with
   | .ptr k I=>some ⟨[(x,.ptr k I)],.ptr k I,σ.ents,false⟩
   | .mF k i I=>some ⟨[(x,.mF k i I)],.mF k i I,σ.ents,false⟩
   | .d (.ref cs I)=>some ⟨[(x,.d (.ref cs I))],.d (.ref cs I),σ.ents,false⟩
   |_=>none
 | .field t x f=>match zy t f K.part,σ.get x with
   |some (off,agg,n),.d (.agg cs)=>if off+n<=cs.length/\(agg=false->n=1)then some ⟨[(x,.d (.agg cs))],.d (Qz agg cs off n),σ.ents,false⟩else none
   |_,_=>none
 | .load t x=>match Pn t K.ty,σ.get x with
   |some (agg,n),.d (.ref cs off)=>if off+n<=cs.length/\(agg=false->n=1)then some ⟨[(x,.d (.ref cs off))],.d (Qz agg cs off n),σ.ents,false⟩else none
   |some (agg,n),.ptr k off=>match σ.ents[k]? with
    |some (.box cs)=>if(off+n<=cs.length/\(agg=false->n=1))/\cs.all Ai.Dx=true then some ⟨[(x,.ptr k off)],.d (Qz agg (KE cs) off n),σ.ents,false⟩else match agg,n,cs[off]? with
     |false,1,some v=>some ⟨[(x,.ptr k off)],v,σ.ents,false⟩
     |_,_,_=>none
    |_=>none
   |_,_=>none
 | .box _ x=>if(σ.get x).cells.all Ai.leaf=true then some ⟨[(x,σ.get x)],.ptr σ.ents.length 0,σ.ents++[.box (σ.get x).cells],true⟩else none
 | .alloc t=>match Pn t K.zero with
   |some z=>some ⟨[],.ptr σ.ents.length 0,σ.ents++[.box (Gp z)],true⟩
   |none=>none
 | .store t x y=>match Pn t K.ty,σ.get x with
   |some (_,n),.ptr k off=>match σ.ents[k]? with
    |some (.box cs)=>match y with
     | .const (.slice none 0 0)=>if n=1/\off+1<=cs.length then some ⟨[(x,.ptr k off)],.junk,σ.ents.set k (.box (setAt cs off [.d (.sl [])])),true⟩else none
     |y=>if((σ.get y).cells.all Ai.leaf=true/\(σ.get y).cells.length=n)/\off+n<=cs.length then some ⟨[(x,.ptr k off),(y,σ.get y)],.junk,σ.ents.set k (.box (setAt cs off (σ.get y).cells)),true⟩else none
    |_=>none
   |_,_=>none
 | .build t j=>match Pn t K.st with
   |some (q,z)=>
    if Ot (λ(i:Nat)=>q[i]?) (Gp z).length j.toList (j.toList.map λp=>σ.get p.2)=true/\(MN (λ(i:Nat)=>q[i]?) (Gp z) j.toList (j.toList.map λp=>σ.get p.2)).all Ai.Dx=true
    then some ⟨Oc j.toList (j.toList.map λp=>σ.get p.2),.d (.agg (KE (MN (λ(i:Nat)=>q[i]?) (Gp z) j.toList (j.toList.map λp=>σ.get p.2)))),σ.ents,false⟩
    else none
   |none=>match Pn t K.arr with
    |some (s,z)=>
     if Ot (λi=>some (i*s,s)) (Gp z).length j.toList (j.toList.map λp=>σ.get p.2)=true/\(MN (λi=>some (i*s,s)) (Gp z) j.toList (j.toList.map λp=>σ.get p.2)).all Ai.Dx=true
     then some ⟨Oc j.toList (j.toList.map λp=>σ.get p.2),.d (.agg (KE (MN (λi=>some (i*s,s)) (Gp z) j.toList (j.toList.map λp=>σ.get p.2)))),σ.ents,false⟩
     else none
    |none=>none
 | .call c=>match c.callee,c.args.toList,c.argTypes.toList with
   | .builtin .len,[x],[t]=>match Pn t K.und,σ.get x with
     |some .string,.d (.lit (.string s))=>some ⟨[(x,.d (DX s))],.d (Ad s.size),σ.ents,false⟩
     |_,_=>none
   |_,_,_=>none
 |_=>none
def aHA σ:∀(l:AA (Nat×C9)),needs σ (Oc l (l.map λp=>σ.get p.2))
 | []=>trivial
 |(_,x)::l=>⟨rfl,aHA σ l⟩
variable {r:Qr}{σ:BN}
def aag (K:Kn P)(h:aCZ K σ o=some r):CG P o r.ns σ.ents r.x r.E/\needs σ r.ns/\(r.bar=false->r.E=σ.ents):=by
 unfold aCZ at h;split at h
 ·rename_i x j;split at h
  ·cases h;exact⟨aZu j,trivial,λ_=>rfl⟩
  cases h;exact⟨aGN j,⟨rfl,trivial⟩,λ_=>rfl⟩
 ·rename_i x j;split at h
  ·cases h;exact⟨aXF j,trivial,λ_=>rfl⟩
  cases h;exact⟨ako j,⟨rfl,trivial⟩,λ_=>rfl⟩
 ·rename_i c x y j;split at h
  ·rename_i e;cases h;exact⟨adJ true rfl j,⟨e,rfl,trivial⟩,λ_=>rfl⟩
  ·rename_i e;cases h;exact⟨aYz false rfl j,⟨e,rfl,trivial⟩,λ_=>rfl⟩
  cases h
 ·rename_i op t x y t' j;split at h
  ·rename_i k a k' b O U;split at h
   ·rename_i I;subst I;rw[dR]at h;obtain⟨v,L,rfl⟩:=h;exact⟨Jd j (aZJ L) ⟨rfl,rfl⟩,⟨O,U,trivial⟩,λ_=>rfl⟩
   cases h
  ·rename_i a b O U;rw[dR]at h;obtain⟨v,L,rfl⟩:=h;exact⟨Jd j (aZk L) ⟨rfl,rfl⟩,⟨O,U,trivial⟩,λ_=>rfl⟩
  ·rename_i a b O U;split at h
   ·rename_i Y;have Y:=K.apd.mem _ (Nh Y);split at h
    ·cases h;exact⟨acX Y j,⟨O,U,trivial⟩,λ_=>rfl⟩
    ·cases h;exact⟨aeo Y j,⟨O,U,trivial⟩,λ_=>rfl⟩
    cases h
   cases h
  cases h
 ·rename_i op t x j;split at h
  ·rename_i b e;split at h
   ·cases h;exact⟨aJh j (λ_=>rfl),⟨e,trivial⟩,λ_=>rfl⟩
   cases h
  ·rename_i k n e;split at h
   ·cases h;exact⟨aJh j (λ_=>rfl),⟨e,trivial⟩,λ_=>rfl⟩
   cases h
  cases h
 ·rename_i s t x j;split at h
  ·rename_i k0 k k1 n h1 h2 e;split at h
   ·rename_i I;subst I;cases h;exact⟨amd (K.apd.mem _ (Nh h1)) (K.apd.mem _ (Nh h2)) j,⟨e,trivial⟩,λ_=>rfl⟩
   cases h
  ·rename_i u h1 h2 e;cases h;exact⟨aZN (K.apd.mem _ (Nh h1)) (K.apd.mem _ (Nh h2)) j,⟨e,trivial⟩,λ_=>rfl⟩
  cases h
 ·rename_i x i j;split at h
  ·rename_i xs e;split at h
   ·rename_i v L;cases h;exact⟨aaZ j L,⟨e,trivial⟩,λ_=>rfl⟩
   cases h
  cases h
 ·rename_i t x f j;split at h
  ·rename_i off k o' h1 e;cases h;exact⟨aaI (K.hfld.mem _ (a1N h1)) j,⟨e,trivial⟩,λ_=>rfl⟩
  ·rename_i off k i o' h1 e;cases h;exact⟨ahd (K.hfld.mem _ (a1N h1)) j,⟨e,trivial⟩,λ_=>rfl⟩
  ·rename_i off cs o' h1 e;cases h;exact⟨ame (K.hfld.mem _ (a1N h1)) j,⟨e,trivial⟩,λ_=>rfl⟩
  cases h
 ·rename_i x j;split at h
  ·rename_i e;cases h;exact⟨aXf j,⟨e,trivial⟩,λ_=>rfl⟩
  ·rename_i e;cases h;exact⟨acP j,⟨e,trivial⟩,λ_=>rfl⟩
  ·rename_i e;cases h;exact⟨amM j,⟨e,trivial⟩,λ_=>rfl⟩
  cases h
 ·rename_i t x f j;split at h
  ·rename_i off agg n cs h1 e;split at h
   ·rename_i q;cases h;exact⟨alu rfl (K.hpart.mem _ (a1N h1)) q.1 q.2 j,⟨e,trivial⟩,λ_=>rfl⟩
   cases h
  cases h
 ·rename_i t x j;split at h
  ·rename_i agg n cs off h1 e;split at h
   ·rename_i q;cases h;exact⟨afx rfl (K.hty.mem _ (Nh h1)) q.1 q.2 j,⟨e,trivial⟩,λ_=>rfl⟩
   cases h
  ·rename_i agg n k off h1 e;split at h
   ·rename_i cs I;split at h
    ·rename_i q;cases h;exact⟨amW rfl I q.2 (K.hty.mem _ (Nh h1)) q.1.1 q.1.2 j,⟨e,trivial⟩,λ_=>rfl⟩
    split at h
    ·rename_i v L _;cases h;exact⟨aMe I L (K.hty.mem _ (Nh h1)) j,⟨e,trivial⟩,λ_=>rfl⟩
    cases h
   cases h
  cases h
 ·rename_i t x j;split at h
  ·rename_i q;cases h;exact⟨aas q j,⟨rfl,trivial⟩,λM=>by cases M⟩
  cases h
 ·rename_i t j;split at h
  ·rename_i z hz;cases h;exact⟨acI (K.hzero.mem _ (Nh hz)).1 (K.hzero.mem _ (Nh hz)).2 j,trivial,λM=>by cases M⟩
  cases h
 ·rename_i t x y j;split at h
  ·rename_i agg n k off h1 e;split at h
   ·rename_i cs I;split at h
    ·split at h
     ·rename_i q;cases h;refine⟨CG.aJL (aWs (v:=.d (.sl [])) I rfl (by have h9:=(K.hty.mem _ (Nh h1)).size;rw[q.1]at h9;exact h9) rfl q.2 j) (λn hn=>?_),⟨e,trivial⟩,λM=>by cases M⟩
      grind
     cases h
    split at h
    ·rename_i q;cases h;exact⟨aWs I q.1.1 (K.hty.mem _ (Nh h1)).size q.1.2 q.2 j,⟨e,rfl,trivial⟩,λM=>by cases M⟩
    cases h
   cases h
  cases h
 ·rename_i t parts j;split at h
  ·rename_i Z z hs;split at h
   ·rename_i q;cases h;exact⟨acJ (K.hst.mem _ (Nh hs)) _ j rfl q.1 q.2,aHA σ _,λ_=>rfl⟩
   cases h
  split at h
  ·rename_i s z hs;split at h
   ·rename_i q;cases h;exact⟨aeu (K.harr.mem _ (Nh hs)) _ q.1 q.2 j,aHA σ _,λ_=>rfl⟩
   cases h
  cases h
 ·rename_i c j;split at h
  ·rename_i x t J ha ht
   have j:o.op=.call { callee:=.builtin .len,args:= #[x],argTypes:= #[t] }:=by
    obtain⟨cal,aST,ts⟩:=c;simp only at J ha ht;rw[j,J,show aST= #[x]from by rw[←sW (xs:=aST),ha],show ts= #[t]from by rw[←sW (xs:=ts),ht]]
   split at h
   ·rename_i s h1 e;cases h;exact⟨aiA s (K.apd.mem _ (Nh h1)) j,⟨e,trivial⟩,λ_=>rfl⟩
   cases h
  cases h
 cases h
def LQ (ops:Bh Oper)(σ:BN):AL (Nat×AY)->AL AY
 |none=>some true
 |some (j,q)=>match(ops[j]?).bind (·.dst)with
  |some d=>match σ.slots.getD d .junk with
   | .d (.lit (.bool b))=>some (b==q)
   | .d (.lit (.tuple a))=>match a.toList with
     | []=>some false
     |_=>none
   |_=>none
  |none=>none
variable {g:AL (Nat×AY)}{ops:Bh Oper}
def QU (h:LQ ops σ g=some true):Xf ops σ g:=by
 unfold LQ at h;split at h
 ·exact .inl rfl
 rename_i j q;split at h
 ·rename_i d hd;split at h
  ·rename_i b hs;refine .inr ⟨j,q,d,b,rfl,hd,hs,?_⟩;simpa using h
  ·grind
  cases h
 cases h
def aZQ (h:LQ ops σ g=some false):Zo ops σ g:=by
 unfold LQ at h;split at h
 ·cases h
 rename_i j q;split at h
 ·rename_i d hd;split at h
  ·rename_i b hs;refine aXs j q d b rfl hd hs ?_;have :(b==q)=false:=E5 h;cases b<;>cases q<;>first|rfl|cases this
  ·rename_i a hs;split at h
   ·rename_i ha;have ha:a= #[]:=by rw[←sW (xs:=a),ha]
    subst ha;exact aks j q d rfl hd hs
   cases h
  cases h
 cases h
def Ym (K:Kn P)(ops:Bh Oper)(σ:BN)(o:Oper):AL Qr:=
 match LQ ops σ o.guard with
 |some true=>match aCZ K σ o with
  |some r=>if(Oo r.ns).all (tmpsOf o).contains=true then some r else none
  |none=>none
 |some false=>some ⟨[],.d (.lit undef),σ.ents,false⟩
 |none=>none
def iM (K:Kn P)(h:Ym K ops σ o=some r):Rj P ops σ r.x r.E r.bar o:=by
 unfold Ym at h;split at h
 ·rename_i j;split at h
  ·rename_i z q;split at h
   ·rename_i u;cases h;obtain⟨h1,h2,h3⟩:=aag K q;exact⟨.inl ⟨_,h1,h2,u,QU j⟩,h3⟩
   cases h
  cases h
 ·rename_i j;cases h;exact⟨.inr ⟨rfl,rfl,aZQ j⟩,λ_=>rfl⟩
 cases h
def Gt {P:Ce}(K:Kn P)(ops:Bh Oper):Nat->AA Oper->BN->AL (BN×AA Qr)
 |0,_,σ=>some (σ,[])
 |n+1,l,σ=>match l with
  |o::l=>match Ym K ops σ o with
   |some r=>match Gt K ops n l (σ.put o.dst r.x r.E)with
    |some (σ',rs)=>some (σ',r::rs)
    |none=>none
   |none=>none
  | []=>none
def OI :AL (BN×AA Qr)->BN
 |some (σ,_)=>σ
 |none=>⟨[],[],0⟩
def eG :AL (BN×AA Qr)->AA Qr
 |some (_,rs)=>rs
 |none=>[]
def Chain.auto {P}(K:Kn P){ops}:∀(n:Nat) {l:AA Oper} {σ σ':BN},(Gt K ops n l σ).isSome=true->Chain P ops (l.drop n) (OI (Gt K ops n l σ)) σ'->Chain P ops l σ σ'
 |0,l,σ,σ',_,k=>by simpa[Gt,OI]using k
 |n+1,l,σ,σ',h,k=>by
  unfold Gt at h k;split at h
  ·rename_i o l';split at h
   ·rename_i r j;split at h
    ·rename_i q rs h2;simp only[j,h2]at k;refine .asn o.dst (iM K j) rfl (Chain.auto K n (by rw[h2];rfl) ?_);rw[h2];exact k
    cases h
   cases h
  cases h
def Fz.auto {P}(K:Kn P){ops}:∀(n:Nat) {l:AA Oper} {σ σ':BN} {rs:AA Ai} {ess:AA (AA BX)} {bs:AA AY},(Gt K ops n l σ).isSome=true->Fz P ops (l.drop n) (OI (Gt K ops n l σ)) rs ess bs σ'->
 Fz P ops l σ ((eG (Gt K ops n l σ)).map Qr.x++rs) ((eG (Gt K ops n l σ)).map Qr.E++ess) ((eG (Gt K ops n l σ)).map Qr.bar++bs) σ'
 |0,l,σ,σ',rs,ess,bs,_,k=>by simpa[Gt,OI,eG]using k
 |n+1,l,σ,σ',rs,ess,bs,h,k=>by
  unfold Gt at h k ⊢;split at h
  ·rename_i o l';split at h
   ·rename_i r j;split at h
    ·rename_i u q h2;simp only[j,h2]at k ⊢;refine .asn o.dst (iM K j) rfl ?_;have :=Fz.auto K n (l:=l') (σ:=σ.put o.dst r.x r.E) (σ':=σ') (rs:=rs) (ess:=ess) (bs:=bs) (by rw[h2];rfl) (by rw[h2];exact k);rw[h2]at this;exact this
    cases h
   cases h
  cases h
variable {l:AA Oper}{σ':BN}
def Chain.a [T:Kn P]n(k:Chain P ops (l.drop n) (OI (Gt T ops n l σ)) σ')(h:(Gt T ops n l σ).isSome=true:=by kernel_rfl):Chain P ops l σ σ':=Chain.auto T n h k
variable {bs:AA AY}{ess:AA (AA BX)}{rs:AA Ai}
def Fz.a [T:Kn P]n(k:Fz P ops (l.drop n) (OI (Gt T ops n l σ)) rs ess bs σ')(h:(Gt T ops n l σ).isSome=true:=by kernel_rfl):
 Fz P ops l σ ((eG (Gt T ops n l σ)).map Qr.x++rs) ((eG (Gt T ops n l σ)).map Qr.E++ess) ((eG (Gt T ops n l σ)).map Qr.bar++bs) σ':=Fz.auto T n h k
variable {rest:AA Oper}
def Fz.c [T:Kn P]{e c}(h:some e=some c)(k:Fz P ops rest (σ.uq o.dst (.d (.lit (.bool c)))) rs ess bs σ')(hs:(Ym T ops σ o).map (λr=>(r.x,r.E,r.bar))=some (.d (.lit (.bool e)),σ.ents,false):=by kernel_rfl):
 Fz P ops (o::rest) σ (.d (.lit (.bool c))::rs) (σ.ents::ess) (false::bs) σ':=by
 rw[dR]at hs;obtain⟨r,q,j⟩:=hs;have h1:=iM T q;simp only[WB]at j;rw[j.1,j.2.1,j.2.2,E5 h]at h1;exact .asn o.dst h1 rfl k
def aUL (σ:BN)(ns:AA (C9×Ai)):Prop:=(ns.map λn=>σ.get n.1)=ns.map (·.2)
def ZY {σ}:∀{ns:AA (C9×Ai)},aUL σ ns->needs σ ns
 | [],_=>trivial
 |n::ns,h=>by
  simp only[aUL,Gz,a5l]at h;exact⟨h.1,ZY h.2⟩
def Fz.p (h:CG P o ns σ.ents x σ.ents)(k:Fz P ops rest (σ.uq o.dst x) rs ess bs σ')(j:(ns.map λn=>σ.get n.1)=ns.map (·.2):=by kernel_rfl)(q:LQ ops σ o.guard=some true:=by kernel_rfl)(u:(Oo ns).all (tmpsOf o).contains=true:=by kernel_rfl):Fz P ops (o::rest) σ (x::rs) (σ.ents::ess) (false::bs) σ':=
 .op o.dst h (ZY j) (QU q) rfl u k
def Fz.e E(h:CG P o ns σ.ents x es')(k:Fz P ops rest (σ.put o.dst x E) rs ess bs σ')(j:es'=E:=by kernel_rfl)(q:(ns.map λn=>σ.get n.1)=ns.map (·.2):=by kernel_rfl)(u:LQ ops σ o.guard=some true:=by kernel_rfl)(z:(Oo ns).all (tmpsOf o).contains=true:=by kernel_rfl):Fz P ops (o::rest) σ (x::rs) (E::ess) (true::bs) σ':=
 .oe o.dst E h j (ZY q) (QU u) rfl z k
def X3 (σ:BN)(o:Oper):AL (FuncId×AA Ai):=
 match o.op with
 | .call c=>match c.callee with
   | .value (.func f)=>some (f,c.args.toList.map σ.get)
   |_=>none
 |_=>none
def aSk {srcs}:∀{l:AA Ai},l.all Ai.Dx=true->Ob srcs l l
 | [],_=>trivial
 |x::l,h=>by
  simp only[List.all_cons,Di]at h;refine⟨?_,aSk h.2⟩;cases x with
  |d x=>exact .inl rfl
  |_=>cases h.1
def aVL σ:∀(l:AA C9),needs σ (GL l (l.map σ.get))
 | []=>trivial
 |_::l=>⟨rfl,aVL σ l⟩
variable {eH:AA Ai}
def aF6 {f}{u}(M:Ej P f eH [] u [])(O:II P f=true)(q:X3 σ o=some (f,eH))(hd:eH.all Ai.Dx=true):∃ns,CG P o ns σ.ents (u.up [] σ.ents.length) σ.ents/\needs σ ns/\(Oo ns).all (tmpsOf o).contains=true:=by
 unfold X3 at q;split at q
 ·rename_i c L;split at q
  ·rename_i Z j;cases q;obtain⟨callee,args,ats⟩:=c;simp only at j;subst j;refine⟨_,aV4 M O (aSk hd) BU rfl L,aVL σ _,?_⟩;rw[FW];intro t I;unfold Oo at I;rw[eX]at I;obtain⟨n,U,J⟩:=I
   have z:n.1∈args.toList:=by
    have :∀(l:AA C9) (vs:AA Ai),n∈GL l vs->n.1∈l:=by
     intro l
     induction l with
     |nil=>intro vs h;cases vs<;>simp[GL]at h
     |cons x l Y=>
      intro vs h;cases vs with
      |nil=>simp[GL]at h
      |cons v vs=>
       simp only[GL,FP]at h;rcases h with rfl|h
       ·exact Gv
       exact I7 _ (Y vs h)
    exact this _ _ U
   unfold tmpsOf;simp only[List.contains_iff_mem,eX];refine⟨n.1,?_,J⟩;rw[L];show n.1∈(#[Operand.func f]++args).toList;simp[z]
  cases q
 cases q
variable {j:Ai}
def Fz.call {f}(q:Ej P f eH [] j [])(u:II P f=true)(k:Fz P ops rest (σ.uq o.dst (j.up [] σ.ents.length)) rs ess bs σ')(z:X3 σ o=some (f,eH):=by kernel_rfl)(hd:eH.all Ai.Dx=true:=by kernel_rfl)(I:LQ ops σ o.guard=some true:=by kernel_rfl):Fz P ops (o::rest) σ (j.up [] σ.ents.length::rs) (σ.ents::ess) (false::bs) σ':=by
 obtain⟨ns,h1,h2,h3⟩:=aF6 q u z hd;exact .op o.dst h1 h2 (QU I) rfl h3 k
def a0Q (v:BG):Exit:=.panic [{ v,recovered:=false }]
structure Dn (P:Program) (ops:Array Oper) (l:List Oper) (σ:BN) (K:Exit->BN->Prop):Prop where
 run:∀(ro:Option Nat) (l2:List Oper) (Q:Exit->Act->World->Prop) (C:FK) (ok:Nat->Prop) (H:List CP) (a:Act) (w:World),Holds C ok H σ a w->
  ((∀σ' ok' H' a' w',K .normal σ'->Holds C ok' H' σ' a' w'->wpListIn (KA ro) 0 P ops Q l2 a' w')/\(∀v σ' ok' H' a' w',K (a0Q v) σ'->Holds C ok' H' σ' a' w'->Q (a0Q v) a' w'))->wpListIn (KA ro) 0 P ops Q (l++l2) a w
variable {K Q:Exit->BN->Prop}{y:Code}
def Dn.nil (h:K .normal σ):Dn P ops [] σ K:=⟨λ_ _ _ _ _ _ _ _ j q=>q.1 _ _ _ _ _ h j⟩
def Dn.aY {M}(h:M σ):Dn P ops [] σ (KD M K):=.nil h
def Dn.step {E}{bar}(hs:Rj P ops σ x E bar o)(k:Dn P ops rest (σ.put o.dst x E) K):Dn P ops (o::rest) σ K:=by
 refine⟨λro q Q C ok H a w j L=>?_⟩;show wpListIn (KA ro) 0 P ops Q (o::(rest++q)) a w;unfold wpListIn;rcases hs.1 with⟨ns,M,O,_,u⟩|⟨rfl,rfl,u⟩
 ·rw[ET (Wp j u)];refine kG ?_ (M.inR ro C ok H a w Q j.mem (λn z=>Yo O n z▸j.get n.1));rintro a' w' ⟨v,ok',H',rfl,I,J,hm,U⟩;exact k.run ro q Q C _ _ _ _ (j.put o.dst I J hm U) L
 rw[Ee (by rw[aHS j u];simp)];exact⟨λ_ _=>trivial,k.run ro q Q C _ _ _ _ (j.put o.dst (.refl _ _) (.refl _) j.mem (.d _ _ (.lit _))) L⟩
def Dn.conv q(h:∀C ok H a w,Holds C ok H σ a w->∃ok',Holds C ok' H q a w)(k:Dn P ops l q K):Dn P ops l σ K:=⟨λro u Q C ok H a w z I=>by
 obtain⟨ok',j⟩:=h C ok H a w z
 exact k.run ro u Q C _ _ _ _ j I⟩
def Dn.auto (T:Kn P):∀(n:Nat) {l:AA Oper} {σ:BN},(Gt T ops n l σ).isSome=true->Dn P ops (l.drop n) (OI (Gt T ops n l σ)) K->Dn P ops l σ K
 |0,l,σ,_,k=>by simpa[Gt,OI]using k
 |n+1,l,σ,h,k=>by
  unfold Gt at h k;split at h
  ·rename_i o l';split at h
   ·rename_i r j;split at h
    ·rename_i q rs h2;simp only[j,h2]at k;refine .step (iM T j) (Dn.auto T n (by rw[h2];rfl) ?_);rw[h2];exact k
    cases h
   cases h
  cases h
def Dn.a [T:Kn P]n(k:Dn P ops (l.drop n) (OI (Gt T ops n l σ)) K)(h:(Gt T ops n l σ).isSome=true:=by kernel_rfl):Dn P ops l σ K:=Dn.auto T n h k
def Dn.p (h:CG P o ns σ.ents x σ.ents)(k:Dn P ops rest (σ.uq o.dst x) K)(j:(ns.map λn=>σ.get n.1)=ns.map (·.2):=by kernel_rfl)(q:LQ ops σ o.guard=some true:=by kernel_rfl)(u:(Oo ns).all (tmpsOf o).contains=true:=by kernel_rfl):Dn P ops (o::rest) σ K:=
 .step (aRa h (ZY j) (QU q) u) k
def Dn.e E(h:CG P o ns σ.ents x es')(k:Dn P ops rest (σ.put o.dst x E) K)(j:es'=E:=by kernel_rfl)(q:(ns.map λn=>σ.get n.1)=ns.map (·.2):=by kernel_rfl)(u:LQ ops σ o.guard=some true:=by kernel_rfl)(z:(Oo ns).all (tmpsOf o).contains=true:=by kernel_rfl):Dn P ops (o::rest) σ K:=
 .step (bar:=true) ⟨.inl ⟨ns,j▸h,ZY q,z,QU u⟩,λh=>H6⟩ k
def Dn.call {f}(q:Ej P f eH [] j [])(u:II P f=true)(k:Dn P ops rest (σ.uq o.dst (j.up [] σ.ents.length)) K)(z:X3 σ o=some (f,eH):=by kernel_rfl)(hd:eH.all Ai.Dx=true:=by kernel_rfl)(I:LQ ops σ o.guard=some true:=by kernel_rfl):Dn P ops (o::rest) σ K:=by
 obtain⟨ns,h1,h2,h3⟩:=aF6 q u z hd;exact .step (aRa h1 h2 (QU I) h3) k
def Dn.c [T:Kn P]{e c}(h:some e=some c)(k:Dn P ops rest (σ.uq o.dst (.d (.lit (.bool c)))) K)(hs:(Ym T ops σ o).map (λr=>(r.x,r.E,r.bar))=some (.d (.lit (.bool e)),σ.ents,false):=by kernel_rfl):Dn P ops (o::rest) σ K:=by
 rw[dR]at hs;obtain⟨r,q,j⟩:=hs;have h1:=iM T q;simp only[WB]at j;rw[j.1,j.2.1,j.2.2,E5 h]at h1;exact .step h1 k
def BN.wipe (j:AA Nat)(σ:BN):BN:=⟨j.foldl (λl d=>l.set d .junk) σ.slots,σ.ents,σ.base⟩
def Holds.wipe {C}{ok}{H}{a}{w}:∀(j:AA Nat) {σ:BN},Holds C ok H σ a w->Holds C ok H (σ.wipe j) a w
 | [],σ,h=>h
 |d::j,σ,h=>by
  refine Holds.wipe j (σ:=⟨σ.slots.set d .junk,σ.ents,σ.base⟩) ⟨h.mem,by simpa using h.size,h.defers,h.base,λt q=>?_⟩;simp only[jT]at q;by_cases e:d=t
  ·subst e;have u:(σ.slots.set d .junk).getD d .junk=.junk:=by simp[List.getD,q]
   rw[u];exact .junk _
  have u:(σ.slots.set d .junk).getD t .junk=σ.slots.getD t .junk:=aJO
  rw[u];exact h.slot t q
def aaM n(l j:AA Oper):l++j=l.take n++(l.drop n++j):=by
 rw[←JK,Vf]
def Dn.join n M(h2:∀s,M s->Dn P ops (l.drop n) s K)(h1:Dn P ops (l.take n) σ (KD M K)):Dn P ops l σ K:=⟨λro q Q C ok H a w z u=>by
 rw[aaM n l q]
 exact h1.run ro _ Q C ok H a w z ⟨λσ' ok' H' a' w' I j=>(h2 σ' I).run ro q Q C ok' H' a' w' j u,u.2⟩⟩
def Dn.merge n j d x(h1:Dn P ops (l.take n) σ (KD (λs=>s.wipe j=(σ.wipe j).uq (some d) x) K))(h2:Dn P ops (l.drop n) ((σ.wipe j).uq (some d) x) K):Dn P ops l σ K:=
 .join n _ (λs hs=>⟨λro u Q C ok H a w z I=>by
  have e:s.wipe j=(σ.wipe j).uq (some d) x:=hs;have q:=z.wipe j;rw[e]at q
  exact h2.run ro u Q C ok H a w q I⟩) h1
def CU {id}(h:Dn P ops ops.toList σ Q):Bq P (.region id ops false) σ Q:=⟨λro _ C ok H a w u=>by
 refine wpIn_region_list ?_;have :=h.run ro [] (λe a' w'=>∃ok' H' σ',Holds C ok' H' σ' a' w'/\Q e σ') C ok H a w u ⟨λσ' ok' H' a' w' q j=>⟨ok',H',σ',j,q⟩,λv σ' ok' H' a' w' q j=>⟨ok',H',σ',j,q⟩⟩
 rwa [Tv]at this⟩
def BM {id}(h:Dn P ops ops.toList σ (KD (λs=>Bq P y s Q) Q)):Bq P (.seq (.region id ops false) y) σ Q:=
 Bq.seq (λs=>Bq P y s Q) (CU h) (λ_ h=>h)
def AP [T:Kn P]{id}n(k:Dn P ops (ops.toList.drop n) (OI (Gt T ops n ops.toList σ)) (KD (λs=>Bq P y s Q) Q))(h:(Gt T ops n ops.toList σ).isSome=true:=by kernel_rfl):Bq P (.seq (.region id ops false) y) σ Q:=BM (Dn.a n k h)
def Az (n:Nat)(l:AA (Nat×Ai)):AA Ai:=(List.range n).map λi=>(Pn i l).getD .junk
def mk (n w:Nat):AA AY:=(List.range n).map λi=>Nat.testBit w i
def ahF {S}m π(h1:Vw σ.base σ.ents π=true:=by kernel_rfl)(h2:S=⟨NQ π m σ.slots,U5 σ.ents π,σ.base⟩:=by kernel_rfl):CO σ S:=a4Y.sub ⟨m,π,h1,h2⟩
inductive Me (P:Program) where
 |call (i:Nat) (f:FuncId) (eH:List Ai) (res:Ai) (run:Ej P f eH [] res []) (ent:II P f=true) (dat:eH.all Ai.Dx=true)
 |dat (i:Nat) (op:Op) (ns:List (Operand×Ai)) (x:Ai) (h:∀(o:Oper) (es:List BX),o.op=op->CG P o ns es x es)
 |at_ (i:Nat) (op:Op) (ns:List (Operand×Ai)) (k:Nat) (e:BX) (x:Ai) (h:∀(o:Oper) (es:List BX),es[k]? =some e->o.op=op->CG P o ns es x es)
 |fix (i:Nat) (op:Op) (ns:List (Operand×Ai)) (es:List BX) (x:Ai) (E:List BX) (h:∀(o:Oper),o.op=op->CG P o ns es x E)
def Me.ix:Me P->Nat
 | .call i .. =>i
 | .dat i .. =>i
 | .at_ i .. =>i
 | .fix i .. =>i
inductive Yp where
 |call (c:Option (FuncId×List Ai))
 |dat (op:Op) (vs:List Ai)
 |at_ (op:Op) (vs:List Ai) (e:Option BX)
 |fix (op:Op) (vs:List Ai) (es:List BX)
def aD2 {P:Ce}(i:Nat):AA (Me P)->AL (Me P)
 | []=>none
 |c::l=>match Nat.beq i c.ix with |true=>some c|false=>aD2 i l
section
variable {P:Ce}
def yI (σ:BN)(o:Oper):Me P->BN×AL Yp
 | .call _ _ _ j _ _ _=>(σ.uq o.dst (j.up [] σ.ents.length),some (.call (X3 σ o)))
 | .dat _ _ ns x _=>(σ.uq o.dst x,some (.dat o.op (ns.map λn=>σ.get n.1)))
 | .at_ _ _ ns k _ x _=>(σ.uq o.dst x,some (.at_ o.op (ns.map λn=>σ.get n.1) σ.ents[k]?))
 | .fix _ _ ns _ x E _=>(σ.put o.dst x E,some (.fix o.op (ns.map λn=>σ.get n.1) σ.ents))
def a0P :Me P->Yp
 | .call _ f eH _ _ _ _=>.call (some (f,eH))
 | .dat _ op ns _ _=>.dat op (ns.map (·.2))
 | .at_ _ op ns _ e _ _=>.at_ op (ns.map (·.2)) (some e)
 | .fix _ op ns es _ _ _=>.fix op (ns.map (·.2)) es
def V6 (T:Kn P)(L:AA (Me P))(ops:Bh Oper)(σ:BN)(i:Nat):AL (BN×AL Yp):=
 match ops[i]? with
 |none=>none
 |some o=>match aD2 i L with
  |some c=>match LQ ops σ o.guard with
   |some true=>some (yI σ o c)
   |_=>none
  |none=>match Ym T ops σ o with
   |some r=>some (σ.put o.dst r.x r.E,none)
   |none=>none
def LK (T:Kn P)(L:AA (Me P))(ops:Bh Oper)(σ:BN):AA Nat->BN
 | []=>σ
 |i::l=>match V6 T L ops (LK T L ops σ l) i with
  |some (σ',_)=>σ'
  |none=>σ
def dP (ops:Bh Oper)(m:AA Nat)(i:Nat):AY:=match ops[i]? with
 |some o=>o.after.toList.all λe=> !Region.binds .any e||(m.contains e.on&&(e.on<ops.size))
 |none=>false
def aKs (ops:Bh Oper)(N:AA (AA Nat))(F:AA Nat)(k:Nat)(m:AA Nat)(T:AA (Nat×Nat×Nat)):AY:=
 ((List.range ops.size).all λi=>m.contains i|| !dP ops m i||
   T.any λt=>t.2.1==i&&(t.2.2<N.length)&&(λq=>(List.range ops.size).all λj=>q.contains j==(m.contains j||j==i)) (N.getD t.2.2 []))&&
 (F.contains k||(List.range ops.size).any λi=> !m.contains i&&dP ops m i)
def a1o (ops:Bh Oper)(N:AA (AA Nat))(F:AA Nat):Nat->AA (AA Nat)->AA (Nat×Nat×Nat)->AY
 |_,[],_=>true
 |k,m::M,Tr=>aKs ops N F k m (Tr.takeWhile λt=>t.1==k)&&a1o ops N F (k+1) M (Tr.dropWhile λt=>t.1==k)
def jG (ops:Bh Oper)(N:AA (AA Nat))(Tr:AA (Nat×Nat×Nat))(F:AA Nat):AY:=a1o ops N F 0 N Tr
def aLA {α}{p}:∀{l:AA α} {x:α},x∈l.takeWhile p->p x=true
 | [],_,h=>JD
 |y::l,x,h=>by
  rw[List.takeWhile_cons]at h;cases j:p y with
  |true=>
   rw[j]at h;rcases FP.1 h with rfl|h
   ·exact j
   exact aLA h
  |false=>
   grind
def aVW {ops}{N}{F}:∀(M:AA (AA Nat)) (k:Nat) (Tr:AA (Nat×Nat×Nat)),a1o ops N F k M Tr=true->∀j,j<M.length->
 ∃T,aKs ops N F (k+j) (M.getD j []) T=true/\∀t∈T,t∈Tr/\t.1=k+j
 | [],_,_,_,j,u=>by simp at u
 |m::M,k,Tr,h,j,u=>by
  unfold a1o at h;rw[Di]at h;cases j with
  |zero=>exact⟨_,h.1,λt q=>⟨(List.takeWhile_sublist _).subset q,by have :=aLA q;simpa using this⟩⟩
  |succ j=>
   obtain⟨T,h1,h2⟩:=aVW M (k+1) _ h.2 j SY;refine⟨T,?_,λt q=>⟨(aJH _).subset (h2 t q).1,?_⟩⟩
   ·rw[show k+(j+1)=k+1+j by omega];simpa using h1
   rw[(h2 t q).2];omega
def WX (L:AA (Me P))(i:Nat):AL Yp:=(aD2 i L).map a0P
def aXY (T:Kn P){L}{i}(u:ops[i]? =some o)(h:V6 T L ops σ i=some (σ',WX L i)):
 ∃x E,((∃ns,CG P o ns σ.ents x E/\needs σ ns/\Xf ops σ o.guard)\/(x=.d (.lit undef)/\E=σ.ents/\Zo ops σ o.guard))/\σ'=σ.put o.dst x E:=by
 unfold V6 WX at h;rw[u]at h;simp only at h;split at h
 ·rename_i c z;split at h
  ·rename_i q;simp only[z,Kr,OX]at h;cases c with
   |call i f eH I run ent dat=>
    simp only[yI,a0P,WB,OX,Yp.call.injEq]at h;obtain⟨ns,h1,h2,h3⟩:=aF6 run ent h.2 dat;exact⟨_,_,.inl ⟨ns,h1,h2,QU q⟩,h.1.symm⟩
   |dat i op ns x j=>
    simp only[yI,a0P,WB,OX,Yp.dat.injEq]at h;exact⟨_,_,.inl ⟨ns,j o _ h.2.1,ZY h.2.2,QU q⟩,h.1.symm⟩
   |at_ i op ns k e x j=>
    simp only[yI,a0P,WB,OX,Yp.at_.injEq]at h;exact⟨_,_,.inl ⟨ns,j o _ h.2.2.2 h.2.1,ZY h.2.2.1,QU q⟩,h.1.symm⟩
   |fix i op ns es x E j=>
    simp only[yI,a0P,WB,OX,Yp.fix.injEq]at h;exact⟨_,_,.inl ⟨ns,h.2.2.2▸j o h.2.1,ZY h.2.2.1,QU q⟩,h.1.symm⟩
  cases h
 split at h
 ·rename_i r J;simp only[OX,WB]at h;obtain⟨h1,h2⟩:=iM T J
  grind
 cases h
def xC (s t:BN):Prop:=∀C ok H a w,Holds C ok H s a w->∃ok' H',Holds C ok' H' t a w
def aTQ s:xC s s:=λ_ ok H _ _ h=>⟨ok,H,h⟩
def oU {s t}(h:CO s t):xC s t:=h
def Bq.nodes (T:Kn P){id}L N Tr F Z(hm:P.follows .mixedOrders=true)(hN:jG ops N Tr F=true)(h0:N.getD 0 [0]=[])(hT:(Tr.map λt=>V6 T L ops (LK T L ops σ (N.getD t.1 [])) t.2.1)=Tr.map λt=>some (LK T L ops σ (N.getD t.2.2 []),WX L t.2.1))(hF:Qs (λk=>xC (LK T L ops σ (N.getD k [])) Z) F)(hQ:Q .normal Z):Bq P (.region id ops true) σ Q:=by
 refine⟨λro _ C ok H a w q=>?_⟩;refine wpIn_region_any hm ?_
 let S:Nat->BN:=λk=>LK T L ops σ (N.getD k [])
 let I:Bh AY->Act->BQ->Prop:=λl a w=>l.size=ops.size/\∃k ok H,k<N.length/\(∀i,i<ops.size->l.getD i false=(N.getD k []).contains i)/\Holds C ok H (S k) a w
 have hNN:∀k,k<N.length->(((List.range ops.size).all λi=>(N.getD k []).contains i|| !dP ops (N.getD k []) i||
  Tr.any λt=>t.1==k&&t.2.1==i&&(t.2.2<N.length)&&(List.range ops.size).all λj=>(N.getD t.2.2 []).contains j==((N.getD k []).contains j||j==i))&&
  (F.contains k||(List.range ops.size).any λi=> !(N.getD k []).contains i&&dP ops (N.getD k []) i))=true:=λk hk=>by
  obtain⟨T,h1,h2⟩:=aVW N 0 Tr hN k hk;unfold aKs at h1;rw[LC,Di,FW]at h1;rw[Di,FW];refine⟨λi hi=>?_,h1.2⟩;have h3:=h1.1 i hi;rw[ZE]at h3 ⊢;rcases h3 with h3|h3
  ·exact .inl h3
  obtain⟨t,ht,h4⟩:=Ja.1 h3;obtain⟨O,J⟩:=h2 t ht;rw[LC]at J;refine .inr (Ja.2 ⟨t,O,?_⟩);rw[show(t.1==k)=true by simpa using J,GZ];exact h4
 refine aRB I (λl a w h=>h.1) ?_ ?_ ops.size _ _ _ ?_ ?_
 ·rintro l a w ⟨h1,k,ok,H,hk,hl,q⟩ i hi;unfold Region.ready at hi;rw[Hg]at hi;obtain⟨hi1,hi2⟩:=hi;have hi':i<ops.size:=by simpa using hi1
  have ho:ops[i]? =some ops[i]:=by simp[hi']
  simp only[Di]at hi2;have u:=hi2.2;rw[ho]at u;simp only[Kr,OO]at u;have M:=λe he=>(YU.1 u) e he
  have hself:l.getD i false=false:=by
   have h8:=hi2.1;have hil:i<l.size:=AB
   simp[Array.getD,hil]at h8 ⊢;exact h8
  have hnc:(N.getD k []).contains i=false:=by rw[←hl i hi'];exact hself
  have hrd:dP ops (N.getD k []) i=true:=by
   unfold dP;rw[ho];simp only[FW];intro e he;have h9:=M e (by simpa using he);cases hb:Region.binds .any e with
   |false=>simp
   |true=>
    simp only[hb,Eu,RY]at h9 ⊢;by_cases hon:e.on<ops.size
    ·rw[←hl e.on hon,h9];simp[hon]
    have :l.getD e.on false=false:=by simp[Array.getD,show ¬e.on<l.size by omega]
    rw[this]at h9;cases h9
  have h2:=hNN k hk;simp only[Di,FW]at h2;have h3:=h2.1 i (by simpa using hi');rw[hnc,hrd]at h3;simp only[Eu,Bool.or_self,RY,Ja]at h3;obtain⟨⟨k',z,t⟩,htm,h4⟩:=h3;simp only[Di,NP,Io,FW]at h4;obtain⟨⟨⟨rfl,rfl⟩,ht⟩,O⟩:=h4;have J:V6 T L ops (S k') z=some (S t,WX L z):=List.map_inj_left.1 hT (k',z,t) htm;obtain⟨x,E,hs,he⟩:=aXY T ho J
  have U:∀(a':Act) (w':BQ) (ok':Nat->Prop) (H':AA CP),Holds C ok' H' ((S k').put ops[z].dst x E) a' w'->I (l.setIfInBounds z true) a' w':=by
   intro a' w' ok' H' hp;refine⟨mV,t,ok',H',ht,λj hj=>?_,he▸hp⟩;have h7:=O j (by simpa using hj);rw[h7,←hl j hj];by_cases hij:z=j
   ·subst hij;simp[Array.getD,h1,hj]
   have :(j==z)=false:=Ei
   rw[this,Nv];simp only[KG,Vl hij]
  unfold wpOpIn;rw[ho];show if Region.wanted ops[z] (yielded ops a.tmps)=true then _ else _
  rcases hs with⟨ns,hop,aBZ,hg⟩|⟨rfl,rfl,hg⟩
  ·rw[ET (Wp q hg)];refine kG ?_ (hop.inR ro C ok H a w _ q.mem (λn hn'=>Yo aBZ n hn'▸q.get n.1));rintro a' w' ⟨v,ok',H',rfl,hgr,hnn,hm',hx⟩;exact U _ _ _ _ (q.put ops[z].dst hgr hnn hm' hx)
  rw[Ee (by rw[aHS q hg];simp)];exact⟨λ_ _=>trivial,U _ _ _ _ (q.put ops[z].dst (.refl _ _) (.refl _) q.mem (.d _ _ (.lit _)))⟩
 ·rintro l a w ⟨h1,k,ok,H,hk,hl,q⟩ hr;have h2:=hNN k hk;simp only[Di,ZE]at h2
  have hFk:k∈F:=by
   rcases h2.2 with h|h
   ·simpa using h
   rw[Ja]at h;obtain⟨i,hi,h3⟩:=h;simp only[lD]at hi;simp only[Di,Vx]at h3;obtain⟨h4,O⟩:=h3;have ho:ops[i]? =some ops[i]:=X7
   have Y:i∈Region.ready .any ops l:=by
    unfold Region.ready;rw[Hg];refine⟨IZ,?_⟩;have hf:l.getD i false=false:=by rw[hl i hi];exact h4
    have hil:i<l.size:=AB
    have hf':l.getD i true=false:=aMi
    rw[hf',ho];simp only[JZ,GZ,Kr,OO];rw[YU];intro e he;unfold dP at O;rw[ho]at O;simp only[FW]at O;have J:=O e (by simpa using he);cases hb:Region.binds .any e with
    |false=>simp
    |true=>
     simp only[hb,Eu,RY]at J ⊢;rw[Di,Io]at J;rw[hl e.on J.2];exact J.1
   rw[hr]at Y;simp at Y
  obtain⟨ok',H',h3⟩:=hF.mem k hFk C ok H a w q;exact⟨ok',H',Z,h3,hQ⟩
 ·unfold toCome;simp
 refine⟨BU,0,ok,H,?_,λi hi=>?_,?_⟩
 ·cases N with
  |nil=>cases h0
  |cons x l=>simp
 ·have e:N.getD 0 []=[]:=by
   cases N with
   |nil=>rfl
   |cons x l=>simpa using h0
  rw[e];simp[Array.getD]
 have e:S 0=σ:=by
  show LK T L ops σ (N.getD 0 [])=σ;cases N with
  |nil=>rfl
  |cons x l=>have :x=[]:=by simpa using h0
             subst this;rfl
 rw[e];refine⟨⟨⟨q.mem.fr.os,q.mem.fr.tape,q.mem.fr.output,q.mem.fr.size,q.mem.fr.block⟩,q.mem.Dq,q.mem.Dt,q.mem.lQ,q.mem.names,q.mem.hlen,λk e h h1 h2=>(q.mem.ent k e h h1 h2).drew,q.mem.blk,q.mem.J6⟩,q.size,q.defers.mono (λb hb=>⟨hb,rfl⟩),q.base,λt ht=>R.mono (w:=w) (ok:=ok) (w':={ w with drawn:=w.drawn+1 }) (λb hb=>⟨hb,rfl⟩) (.refl _) (q.slot t ht)⟩
def ZA {f:FuncId}(i:Nat)(run:Ej P f eH [] j [])(ent:II P f=true)(dat:eH.all Ai.Dx=true:=by kernel_rfl):Me P:=.call i f eH j run ent dat
def SL (i:Nat)(op:Op)(h:∀(o:Oper) (es:AA BX),o.op=op->CG P o ns es x es):Me P:=.dat i op ns x h
def a1Y (i:Nat)(op:Op)(k:Nat)(e:BX)(h:∀(o:Oper) (es:AA BX),es[k]? =some e->o.op=op->CG P o ns es x es):Me P:=.at_ i op ns k e x h
def RG (i:Nat)(op:Op)(es E:AA BX)(h:∀(o:Oper),o.op=op->CG P o ns es x E):Me P:=.fix i op ns es x E h
section
variable [T:Kn P] {id:Nat} {ops:Bh Oper} {σ:BN} {Q:Exit->BN->Prop} {y:Code}
def Bq.node1 L N Tr j(q:Q .normal (LK T L ops σ (N.getD j [])))(hm:P.follows .mixedOrders=true:=by kernel_rfl)(u:jG ops N Tr [j]=true:=by kernel_rfl)(z:N.getD 0 [0]=[]:=by kernel_rfl)(I:(Tr.map λt=>V6 T L ops (LK T L ops σ (N.getD t.1 [])) t.2.1)=Tr.map λt=>some (LK T L ops σ (N.getD t.2.2 []),WX L t.2.1):=by kernel_rfl):Bq P (.region id ops true) σ Q:=
 Bq.nodes T L N Tr [j] _ hm u z I ⟨aTQ _,trivial⟩ q
def Bq.aLi L N Tr j(q:Bq P y (LK T L ops σ (N.getD j [])) Q)(hm:P.follows .mixedOrders=true:=by kernel_rfl)(u:jG ops N Tr [j]=true:=by kernel_rfl)(z:N.getD 0 [0]=[]:=by kernel_rfl)(I:(Tr.map λt=>V6 T L ops (LK T L ops σ (N.getD t.1 [])) t.2.1)=Tr.map λt=>some (LK T L ops σ (N.getD t.2.2 []),WX L t.2.1):=by kernel_rfl):Bq P (.seq (.region id ops true) y) σ Q:=
 Bq.seq1 _ (Bq.nodes T L N Tr [j] _ hm u z I ⟨aTQ _,trivial⟩ rfl) q
def Bq.aLj L N Tr F j(q:Qs (λk=>xC (LK T L ops σ (N.getD k [])) j) F)(u:Bq P y j Q)(hm:P.follows .mixedOrders=true:=by kernel_rfl)(z:jG ops N Tr F=true:=by kernel_rfl)(I:N.getD 0 [0]=[]:=by kernel_rfl)(J:(Tr.map λt=>V6 T L ops (LK T L ops σ (N.getD t.1 [])) t.2.1)=Tr.map λt=>some (LK T L ops σ (N.getD t.2.2 []),WX L t.2.1):=by kernel_rfl):Bq P (.seq (.region id ops true) y) σ Q:=
 Bq.seq1 j (Bq.nodes T L N Tr F j hm z I J q rfl) u
end
end
def Yd (n:Nat)(sl:AA Nat):AA (Nat×Nat):=sl.flatMap λi=>((List.range (n+1)).filter λm=>i<=m).map λm=>(i,m)
def Src (ops:Bh Oper)(σ:BN)(rs:AA Ai)(ess:AA (AA BX))(i:Nat):BN:=Gu ops σ (λi=>rs.getD i .junk) (λi=>ess.getD i []) i
def a7T (T:Kn P)(ops:Bh Oper)(σ:BN)(rs:AA Ai)(ess:AA (AA BX))(p:Nat×Nat):AL (Ai×AA BX×AY):=
 match ops[p.1]? with
 |some o=>(Ym T ops ⟨(Src ops σ rs ess p.1).slots,(Src ops σ rs ess p.2).ents,σ.base⟩ o).map λr=>(r.x,r.E,r.bar)
 |none=>none
def aU0 (T:Kn P){sl}(q:(sl.all λi=> !(bs.getD i false))=true)(u:(Yd ops.size sl).map (a7T T ops σ rs ess)=(Yd ops.size sl).map λp=>some (rs.getD p.1 .junk,(Src ops σ rs ess p.2).ents,false)):
 ∀i,i∈sl->bs.getD i false=false/\∀m,i<=m->m<=ops.size->∀o,ops[i]? =some o->Rj P ops ⟨(Gu ops σ (λi=>rs.getD i .junk) (λi=>ess.getD i []) i).slots,(Gu ops σ (λi=>rs.getD i .junk) (λi=>ess.getD i []) m).ents,σ.base⟩ (rs.getD i .junk) (Gu ops σ (λi=>rs.getD i .junk) (λi=>ess.getD i []) m).ents false o:=by
 intro i hi;refine⟨by have :=FW.1 q i hi;simpa using this,λm h1 h2 o I=>?_⟩
 have hp:(i,m)∈Yd ops.size sl:=by
  unfold Yd;rw[WL]
  grind
 have h3:=List.map_inj_left.1 u (i,m) hp;unfold a7T at h3;rw[I]at h3;simp only[dR]at h3;obtain⟨r,J,j⟩:=h3;have z:=iM T J;simp only[WB]at j;rw[j.1,j.2.1,j.2.2]at z;exact z
def Bq.aHD [T:Kn P]{id}sl(h:Fz P ops ops.toList σ rs ess bs σ')(I:Q .normal σ')(hm:P.follows .mixedOrders=true:=by kernel_rfl)(j:(VR ops&&YZ ops&&dH ops σ.slots.length&&YO ops)=true:=by kernel_rfl)(q:UK ops bs sl=true:=by kernel_rfl)(u:(sl.all λi=> !(bs.getD i false))=true:=by kernel_rfl)(z:(Yd ops.size sl).map (a7T T ops σ rs ess)=(Yd ops.size sl).map λp=>some (rs.getD p.1 .junk,(Src ops σ rs ess p.2).ents,false):=by kernel_rfl):Bq P (.region id ops true) σ Q:=
 Bq.aB0 hm j sl q h (aU0 T u z) I
def nC [T:Kn P]{id}sl(h:Fz P ops ops.toList σ rs ess bs σ')(I:Bq P y σ' Q)(hm:P.follows .mixedOrders=true:=by kernel_rfl)(j:(VR ops&&YZ ops&&dH ops σ.slots.length&&YO ops)=true:=by kernel_rfl)(q:UK ops bs sl=true:=by kernel_rfl)(u:(sl.all λi=> !(bs.getD i false))=true:=by kernel_rfl)(z:(Yd ops.size sl).map (a7T T ops σ rs ess)=(Yd ops.size sl).map λp=>some (rs.getD p.1 .junk,(Src ops σ rs ess p.2).ents,false):=by kernel_rfl):Bq P (.seq (.region id ops true) y) σ Q:=
 Bq.seq1 σ' (Bq.aB0 hm j sl q h (aU0 T u z) rfl) I
def Bq.conv {c}{q}(h:∀C ok H a w,Holds C ok H σ a w->∃ok',Holds C ok' H q a w)(k:Bq P c q Q):Bq P c σ Q:=⟨λro u C ok H a w z=>by
 obtain⟨ok',j⟩:=h C ok H a w z
 exact k.run ro u C ok' H a w j⟩
def a8X (es:AA BX)(H:AA CP):AA Nat:=(es.zip H).filterMap λp=>if p.1.live then EF p.2.v else none
variable {H:AA CP}{b:Nat}
def aMO:b∈a8X es H↔∃(k:Nat) (e:BX) (h:CP),es[k]? =some e/\e.live=true/\H[k]? =some h/\EF h.v=some b:=by
 unfold a8X;rw[eX];constructor
 ·rintro⟨⟨e,h⟩,hm,u⟩;obtain⟨k,j⟩:=List.mem_iff_getElem?.1 hm;rw[aMM]at j
  grind
 rintro⟨k,e,h,h1,h2,h3,q⟩;exact⟨(e,h),List.mem_iff_getElem?.2 ⟨k,aMM.2 ⟨h1,h3⟩⟩,by simp[h2,q]⟩
def FK.now (w:BQ)(ok:Nat->Prop)(es:AA BX)(H:AA CP):FK:=⟨w,ok,a8X es H,H⟩
variable {C:FK}{H':AA CP}{h:CP}{ok ok':Nat->Prop}{w':BQ}
def Dz.inner (hm:Dz C ok H es w):Dz (FK.now w ok es H) ok H es w:=
 ⟨.refl _ _,λ_ h=>h,λ_ h=>.inl h,hm.lQ,.refl _,hm.hlen,hm.ent,
  λk e h b j hl q u=>⟨(hm.blk k e h b j hl q u).1,(hm.blk k e h b j hl q u).2.1,.inr (aMO.2 ⟨k,e,h,j,hl,q,u⟩)⟩,hm.J6⟩
def Dz.outer (hm:Dz C ok H es w)(h:Dz (FK.now w ok es H) ok' H' es' w'):FT ok w ok' w'/\Names H H'/\Dz C ok' H' es' w':=by
 have q:∀b,b∈a8X es H->¬ok b/\b<w.heap.size/\(C.w0.heap.size<=b\/b∈C.X):=λb j=>by
  obtain⟨k,e,hd,h1,h2,h3,L⟩:=aMO.1 j;exact hm.blk k e hd b h1 h2 h3 L
 refine⟨λb j=>⟨h.Dq b j,h.fr.block b (hm.lQ b j) λu=>(q b u).1 j⟩,h.names,⟨h.fr.os.trans hm.fr.os,h.fr.tape.trans hm.fr.tape,h.fr.output.trans hm.fr.output,EC hm.fr.size h.fr.size,λk J u=>?_⟩,λb j=>h.Dq b (hm.Dq b j),λb j=>?_,h.lQ,hm.names.trans h.names,h.hlen,h.ent,λk e hd b M hl O j=>?_,h.J6⟩
 ·have z:k<w.heap.size:=YT J hm.fr.size;refine(h.fr.block k z λI=>?_).trans (hm.fr.block k J u);rcases(q k I).2.2 with h1|h1
  ·omega
  exact u h1
 ·rcases h.Dt b j with h1|h1|h1
  ·exact hm.Dt b h1
  ·exact .inr (.inl (EC hm.fr.size h1))
  exact .inr ((q b h1).2.2)
 obtain⟨h1,h2,h3⟩:=h.blk k e hd b M hl O j;refine⟨h1,h2,?_⟩;rcases h3 with h3|h3
 ·exact .inl (EC hm.fr.size h3)
 exact(q b h3).2.2
def Dz.anm (hm:Dz C ok H es w){e e'}{o}(J:es[n]? =some e)(hl:e.live=true)(L:H[n]? =some h)(M:EF h.v=some b)(he:FT ok w ok (w.putObj b o)->Fp ok (w.putObj b o) H h e'):
 Dz C ok H (es.set n e') (w.putObj b o)/\FT ok w ok (w.putObj b o):=by
 obtain⟨h1,h2,h3⟩:=hm.blk n e h b J hl L M;have hg:FT ok w ok (w.putObj b o):=λc j=>⟨j,ZF λe=>h1 (e▸j)⟩
 have z:=(I9.1 J).1;refine hm.change (λc=>c=b) rfl rfl rfl BU (λc _ j=>ZF j) (λc j _=>by subst j;exact⟨h1,h3⟩) (λ_ h=>h) (λ_ h=>.inl h) (.refl _) (by simpa using hm.hlen) λk e2 h4 hk q=>?_;rcases OB z hk with⟨rfl,rfl⟩|⟨u,I⟩
 ·right;rw[L]at q;obtain rfl:=E5 q;refine⟨he hg,λ_ c j=>?_⟩;rw[M]at j;obtain rfl:=E5 j;refine⟨h1,LP,h3,λk' e3 h5 u O U Y Z=>?_⟩;rcases OB z O with⟨rfl,_⟩|⟨_,hk4⟩
  ·exact u rfl
  exact u (hm.J6 k' _ e3 e h5 h _ hk4 J U hl Y L Z M)
 left;exact⟨I,q,λhl2 c j hcb=>u (hm.J6 k n e2 e h4 h c I J hl2 hl q L j (by rw[hcb];exact M))⟩
def kH :AA Tmp->AA Ai->AA Ai->AA Ai
 |p::j,x::xs,sl=>kH j xs (sl.set p x)
 |_,_,sl=>sl
def aTg :∀(j:AA Tmp) (xs:AA Ai) (vs:AA BG) (sl:AA Ai) (tm:Bh BG),xs.length=j.length->vs.length=j.length->(∀i,i<xs.length->R ok w H (xs.getD i .junk) (vs.getD i undef))->
 tm.size=sl.length->(∀t,t<sl.length->R ok w H (sl.getD t .junk) (tm.getD t undef))->
 ((j.zip vs).foldl (λt p=>t.setIfInBounds p.1 p.2) tm).size=(kH j xs sl).length/\∀t,t<(kH j xs sl).length->R ok w H ((kH j xs sl).getD t .junk) (((j.zip vs).foldl (λt p=>t.setIfInBounds p.1 p.2) tm).getD t undef)
 | [],xs,vs,sl,tm,_,_,_,hs,u=>by
   have e:kH [] xs sl=sl:=by cases xs<;>rfl
   rw[e];exact⟨hs,u⟩
 |p::j,[],vs,sl,tm,h,_,_,_,_=>JD
 |p::j,x::xs,[],sl,tm,_,h,_,_,_=>JD
 |p::j,x::xs,v::vs,sl,tm,h1,h2,z,hs,u=>by
  refine aTg j xs vs (sl.set p x) (tm.setIfInBounds p v) V9 LP (λi hi=>by simpa using z (i+1) IZ) zA (λt q=>?_);rw[jT]at q;by_cases e:p=t
  ·subst e;have I:(sl.set p x).getD p .junk=x:=by simp[List.getD,q]
   have J:(tm.setIfInBounds p v).getD p undef=v:=by simp[Array.getD,hs,q]
   rw[I,J];simpa using z 0 BU
  have I:(sl.set p x).getD t .junk=sl.getD t .junk:=aJO
  have J:(tm.setIfInBounds p v).getD t undef=tm.getD t undef:=by simp[KG,Vl e]
  grind
def Z8 :Exit->AL (LoopState×AL Code)
 | .normal=>some (.ready,none)
 | .ret=>some (.done,some .ret)
 | .exit i=>some (.done,some (.exit i))
 |_=>none
variable {assign body:Code}{fn:Func}{g:C9}
def a7m {l}(e:h.v=.func (.yield l) #[] #[]):EF h.v=some l:=wH
def Dn.yield {f}{xs}{ts}{tm}{slots}{rc}k eH(ho:o.op=.call { callee:=.value f,args:=xs,argTypes:=ts })(hf:σ.get f=.mp k)(hk:σ.ents[k]? =some (.loop tm slots rc .ready none))(hx:xs.toList.map σ.get=eH)(I:rc.1.size=xs.size)(hg:LQ ops σ o.guard=some true)(J:(Qn rc.2.1&&Qn rc.2.2)=true)(h:Bq P rc.2.1 ⟨kH rc.1.toList eH slots,σ.ents,σ.ents.length⟩ λe s=>e=.normal/\∃sl,s.ents[k]? =some (.loop tm sl rc .ready none)/\
  Bq P rc.2.2 ⟨s.slots,s.ents.set k (.loop tm sl rc .busy none),s.base⟩ λe s2=>∃z j,s2.ents[k]? =some (.loop tm z rc .busy none)/\Z8 e=some j/\
   Dn P ops rest (BN.uq ⟨σ.slots,s2.ents.set k (.loop tm z rc j.1 j.2),σ.base⟩ o.dst (.d (.lit (.bool j.2.isNone)))) K):Dn P ops (o::rest) σ K:=by
 rw[Di]at J;refine⟨λro l2 Q C ok H a w u L=>?_⟩;show wpListIn (KA ro) 0 P ops Q (o::(rest++l2)) a w;unfold wpListIn;rw[ET (Wp u (QU hg))];have hv:=hf▸u.get f;obtain⟨hd,M,Z⟩:=Hr u.mem.ent u.mem.hlen hk;obtain⟨l,fn,D,e1,e2,e3,e4⟩:=Z
 have hval:a.eval f=.func (.yield l) #[] #[]:=by
  cases hv with
  |mp _ v s hl hH=>
   rw[M]at hH;obtain rfl:=E5 hH;exact e1
 have hrun:(execOp a.eval o).run P w=.ok (.round l fn ((rc.1.zip (xs.map a.eval)).foldl (λtmps (t,a)=>tmps.setIfInBounds t a) tm) rc.2.1 rc.2.2) w:=by
  have :=run_yield (P:=P) e2 (args:=xs.map a.eval) (by simp[I]);simp[execOp,ho,resolve,hval,Deferred.ofValue,invoke,this]
 unfold Oper.wpIn;rw[pW _ _ _ (by rw[ho];intro c h;cases h),hrun,Oper.uponIn_round];refine⟨λ_ _=>trivial,λh=>H6,roundIn_of_wpIn trivial ?_⟩
 have hT:(rc.1.zip (xs.map a.eval)).foldl (λtmps (t,a)=>tmps.setIfInBounds t a) tm=(rc.1.toList.zip (xs.toList.map a.eval)).foldl (λt p=>t.setIfInBounds p.1 p.2) tm:=by
  rw[←Array.foldl_toList,Array.toList_zip,Array.toList_map]
 rw[hT];have hpl:eH.length=rc.1.toList.length:=by rw[←hx];simp[I]
 obtain⟨p1,p2⟩:=aTg (ok:=ok) (w:=w) (H:=H) rc.1.toList eH (xs.toList.map a.eval) slots tm hpl (by simp[I]) (λi hi=>by
  have hi':i<xs.toList.length:=by rw[←hx]at hi;simpa using hi
  have hi2:i<xs.size:=by simpa using hi'
  have Y:eH.getD i .junk=σ.get xs.toList[i]:=by rw[←hx];simp[List.getD,hi2]
  have q2:(xs.toList.map a.eval).getD i undef=a.eval xs.toList[i]:=by simp[List.getD,hi2]
  rw[Y,q2];exact u.get _) e3 e4
 have hin:Holds (FK.now w ok σ.ents H) ok H ⟨kH rc.1.toList eH slots,σ.ents,σ.ents.length⟩ { tmps:=(rc.1.toList.zip (xs.toList.map a.eval)).foldl (λt p=>t.setIfInBounds p.1 p.2) tm,defers:=[] } w:=
  ⟨u.mem.inner,p1,.nil _ _ _,u.mem.hlen,p2⟩
 show Code.wpIn (KA (some l)) 0 P _ _ _ _;refine V7 (h.run (some l) (.inr J.1) _ _ _ _ _ hin) ?_;rintro e a1 w1 ⟨ok1,H1,s1,q,rfl,sl,hs1,h2⟩;obtain⟨g1,n1,m1⟩:=u.mem.outer q.mem;have hk1:=n1 k hd M;obtain⟨l',fn',D',Y,q2,q3,q4⟩:=q.mem.ent k _ hd hs1 hk1;have O:l'=l:=by rw[e1]at Y;cases Y;rfl
 subst O
 obtain⟨m2,g2⟩:=q.mem.anm (o:=.loop { state:=.busy,pending:=none,fn:=fn',tmps:=tm,params:=rc.1,assign:=rc.2.1,body:=rc.2.2,defers:=D' }) (e':=.loop tm sl rc .busy none) hs1 rfl hk1 (a7m Y)
  (λg=>⟨l',fn',D',Y,YR (Ip.1 q2).1,q3,λt U=>(q4 t U).mono g (.refl _)⟩)
 refine⟨_,run_beginRound q2 rfl,?_⟩;refine V7 (h2.run (some l') (.inr J.2) _ _ _ _ _ ⟨m2,q.size,q.defers.mono g2,q.base,λt U=>(q.slot t U).mono g2 (.refl _)⟩) ?_;rintro e a2 w3 ⟨ok2,H2,s2,hh2,z,j,hs2,hj,hL⟩;obtain⟨g3,n3,m3⟩:=u.mem.outer hh2.mem;have hk2:=n3 k hd M;obtain⟨l3,fn3,D3,r1,r2,r3,r4⟩:=hh2.mem.ent k _ hd hs2 hk2;have O:l3=l':=by rw[e1]at r1;cases r1;rfl
 subst O
 have key:j.1=(if j.2.isNone then LoopState.ready else .done)->∃v w',(Instr.endRound l3 j.2).run P w3=.ok v w'/\wpListIn (KA ro) 0 P ops Q (rest++l2) (a.put o.dst v) w':=by
  intro hst
  obtain⟨m4,g4⟩:=m3.anm (o:=.loop { state:=(if j.2.isNone then LoopState.ready else .done),pending:=j.2,fn:=fn3,tmps:=tm,params:=rc.1,assign:=rc.2.1,body:=rc.2.2,defers:=D3 }) (e':=.loop tm z rc j.1 j.2) hs2 rfl hk2 (a7m r1)
   (λg=>⟨l3,fn3,D3,r1,by rw[hst];exact YR (Ip.1 r2).1,r3,λt U=>(r4 t U).mono g (.refl _)⟩)
  refine⟨_,_,run_endRound j.2 r2,hL.run ro l2 Q C _ _ _ _ (Holds.put (σ:=⟨σ.slots,s2.ents.set k (.loop tm z rc j.1 j.2),σ.base⟩) ⟨m4,u.size,u.defers.mono (g3.trans g4),u.base,λt U=>(u.slot t U).mono (g3.trans g4) n3⟩ o.dst (.refl _ _) (.refl _) m4 (.d _ _ (.lit _))) L⟩
 cases e with
 |normal=>obtain rfl:=E5 hj;exact key rfl
 |ret=>obtain rfl:=E5 hj;exact key rfl
 |exit i=>obtain rfl:=E5 hj;exact key rfl
 |_=>cases hj
def Bq.aEj {Y}{c}{gf}q(hg:∀(C:FK) (ok:Nat->Prop) (H:AA CP) (a:Act) (w:BQ),Holds C ok H σ a w->R ok w H (.fn (.func gf) [] q) (a.eval g))(hf:P.funcs[gf]? =some fn)(he:II P gf=true)(J:fn.body=some c)(hres:fn.results= #[])(h:∀tm,Bq P c ⟨(.mp σ.ents.length::q)++List.replicate (fn.ntmps-(q.length+1)) .junk,σ.ents++[.loop tm σ.slots (Y,assign,body) .ready none],σ.ents.length+1⟩ λe s=>(e=.normal\/e=.ret)/\
  ∃sl j x,s.ents[σ.ents.length]? =some (.loop tm sl (Y,assign,body) j.1 j.2)/\Z8 x=some j/\Q x ⟨σ.slots,s.ents.set σ.ents.length .dead,σ.base⟩):Bq P (.rangeFunc g Y assign body) σ Q:=by
 refine⟨λro hr C ok H a w u=>?_⟩;obtain rfl:ro=none:=hr.resolve_right (by simp[Qn]);have hv:=hg C ok H a w u;generalize hav:a.eval g=v at hv;cases hv with
 |fn _ _ _ vs us hl1 hl2 h1 h2=>
  obtain rfl:vs= #[]:=rY (by simpa using hl1);refine wpIn_rangeFunc ?_;intro fnm _;obtain⟨M,hrec⟩:∃M:Loop,M={ state:=.ready,pending:=none,fn:=fnm,tmps:=a.tmps,params:=Y,assign,body,defers:=w.heap.size }:=⟨_,rfl⟩
  obtain⟨I,L⟩:∃I,(w.alloc (.deferred (some []))).alloc (.loop M)=I:=⟨_,rfl⟩
  have hsz:I.heap.size=w.heap.size+2:=by rw[←L];simp
  have hL:I.heap[w.heap.size+1]? =some (.loop M):=by
   rw[←L];have :=nN (w.alloc (.deferred (some []))) (.loop M);rwa [aIZ]at this
  have hD:I.heap[w.heap.size]? =some (.deferred (some [])):=by
   rw[←L];exact(Lr _ _ _ BU).trans (nN w _)
  have hold:∀b,b<w.heap.size->I.heap[b]? =w.heap[b]? :=λb J=>by
   rw[←L];exact(Lr _ _ _ Ei).trans (Lr _ _ _ J)
  have hos:I.os=w.os/\I.tape=w.tape/\I.output=w.output:=by rw[←L];exact⟨rfl,rfl,rfl⟩
  obtain⟨hd,hhd⟩:∃hd:CP,hd=⟨.func (.yield (w.heap.size+1)) #[] #[],0⟩:=⟨_,rfl⟩
  have Z:hd.v=.func (.yield (w.heap.size+1)) #[] #[]:=by rw[hhd]
  have hgr:FT ok w (λb=>ok b\/b=w.heap.size) I:=λb J=>⟨.inl J,hold b (u.mem.lQ b J)⟩
  have hHn:(H++[hd])[σ.ents.length]? =some hd:=by rw[←u.mem.hlen];simp
  obtain⟨m2,g2⟩:=u.mem.change (ok':=λb=>ok b\/b=w.heap.size) (H':=H++[hd]) (es':=σ.ents++[.loop a.tmps σ.slots (Y,assign,body) .ready none]) (w':=I) (λ_=>False) hos.1 hos.2.1 hos.2.2 AB (λb J _=>hold b J) (λ_ h=>h.elim)
   (λ_ h=>.inl h) (λb J=>J.imp id λh=>AB) (.push _ _) (by simp[u.mem.hlen]) (λk e hk he hkk=>by
    rcases Xt he with he'|⟨rfl,rfl⟩
    ·left;have hkl:k<H.length:=by rw[u.mem.hlen];exact(I9.1 he').1
     rw[KH hkl]at hkk;exact⟨he',hkk,λ_ _ _ h=>h⟩
    right;rw[hHn]at hkk;obtain rfl:=E5 hkk;refine⟨⟨w.heap.size+1,fnm,w.heap.size,Z,by rw[hL,hrec],u.size,λt ht=>(u.slot t ht).mono hgr (.push _ _)⟩,λ_ b J=>?_⟩;rw[a7m Z]at J;obtain rfl:=E5 J;refine⟨λhx=>?_,AB,.inl (by have :=u.mem.fr.size;omega),λk' e' h' hne he' hl' O hb'=>?_⟩
    ·rcases hx with hx|hx
     ·have :=u.mem.lQ _ hx;omega
     omega
    rcases Xt he' with he2|⟨rfl,_⟩
    ·have hkl:k'<H.length:=by rw[u.mem.hlen];exact(I9.1 he2).1
     rw[KH hkl]at O;have :=(u.mem.blk k' e' h' _ he2 hl' O hb').2.1;omega
    exact hne rfl)
  have hargs:∀t,t<((.mp σ.ents.length::q)++List.replicate (fn.ntmps-(q.length+1)) .junk:AA Ai).length->
   R (λb=>ok b\/b=w.heap.size) I (H++[hd]) (((.mp σ.ents.length::q)++List.replicate (fn.ntmps-(q.length+1)) .junk:AA Ai).getD t .junk)
     (((#[.func (.yield (w.heap.size+1)) #[] #[]]++us)++Array.replicate (fn.ntmps-(#[.func (.yield (w.heap.size+1)) #[] #[]]++us:Bh BG).size) undef:Bh BG).getD t undef):=by
   intro t ht;by_cases h0:t<q.length+1
   ·have q1:((.mp σ.ents.length::q)++List.replicate (fn.ntmps-(q.length+1)) .junk:AA Ai).getD t .junk=(.mp σ.ents.length::q:AA Ai).getD t .junk:=by
     grind
    have q2:((#[.func (.yield (w.heap.size+1)) #[] #[]]++us)++Array.replicate (fn.ntmps-(#[.func (.yield (w.heap.size+1)) #[] #[]]++us:Bh BG).size) undef:Bh BG).getD t undef=(#[.func (.yield (w.heap.size+1)) #[] #[]]++us:Bh BG).getD t undef:=by
     simp only[KG];rw[Yy Ei]
    rw[q1,q2];cases t with
    |zero=>
     have q3:(#[.func (.yield (w.heap.size+1)) #[] #[]]++us:Bh BG).getD 0 undef=.func (.yield (w.heap.size+1)) #[] #[]:=by
      simp only[KG];rw[Yy BU];rfl
     rw[q3];exact .mp _ _ 0 rfl (by rw[hHn,hhd])
    |succ t=>
     have q3:(#[.func (.yield (w.heap.size+1)) #[] #[]]++us:Bh BG).getD (t+1) undef=us.getD t undef:=by
      simp only[KG];rw[aOE BU];rfl
     rw[q3];simpa using(h2 t AB).mono hgr (.push _ _)
   have q1:((.mp σ.ents.length::q)++List.replicate (fn.ntmps-(q.length+1)) .junk:AA Ai).getD t .junk=.junk:=by
    grind
   rw[q1];exact .junk _
  have hin:Holds (FK.now I (λb=>ok b\/b=w.heap.size) (σ.ents++[.loop a.tmps σ.slots (Y,assign,body) .ready none]) (H++[hd])) (λb=>ok b\/b=w.heap.size) (H++[hd])
   ⟨(.mp σ.ents.length::q)++List.replicate (fn.ntmps-(q.length+1)) .junk,σ.ents++[.loop a.tmps σ.slots (Y,assign,body) .ready none],σ.ents.length+1⟩
   { tmps:=(#[.func (.yield (w.heap.size+1)) #[] #[]]++us)++Array.replicate (fn.ntmps-(#[.func (.yield (w.heap.size+1)) #[] #[]]++us:Bh BG).size) undef,defers:=[] } I:=
   ⟨m2.inner,by simp[hl2];omega,.nil _ _ _,by simp[FK.now,u.mem.hlen],hargs⟩
  refine⟨w.heap.size+1,[{ target:=.collected w.heap.size,args:= #[] }],I,{ target:=.fn (.func gf) us,args:= #[.func (.yield (w.heap.size+1)) #[] #[]] },I,gf, #[.func (.yield (w.heap.size+1)) #[] #[]]++us,I,?_,?_,λ_ _=>trivial,?_,λh=>H6,?_⟩
  ·rw[←L,hrec];exact run_enterLoop_outer _ _ _ _ _
  ·have e9:a.eval (.const (.func (.yield (w.heap.size+1)) #[] #[]))=.func (.yield (w.heap.size+1)) #[] #[]:=rfl;simp[resolve,hav,Deferred.ofValue,e9]
  ·have :=Ux he (#[.func (.yield (w.heap.size+1)) #[] #[]]++us) I;simpa[invoke]using this
  refine aBE hf J trivial (V7 ((h a.tmps).run none (.inl rfl) _ _ _ _ _ hin) ?_) rfl;rintro e a' w' ⟨ok',H',s,O,hee,sl,j,x,hs,hj,hQ⟩;obtain⟨Ds,hDs,hnd,hds⟩:=O.defers
  have key:LeavesInM (KA none) 0 P fn a'.tmps (rangePost (KA none) 0 P (w.heap.size+1) (λe a' w'=>∃ok' H' σ',Holds C ok' H' σ' a' w'/\Q e σ') { a with defers:=[{ target:=.collected w.heap.size,args:= #[] }]++a.defers }) a'.defers .returning w':=by
   rw[hDs];refine aBs (P:=P) (C:=FK.now I (λb=>ok b\/b=w.heap.size) (σ.ents++[.loop a.tmps σ.slots (Y,assign,body) .ready none]) (H++[hd])) m2.lQ (λok3 a3 w3 h3=>?_) Ds O hds hnd;refine⟨.tuple #[],by simp[results,hres],?_⟩;obtain⟨g3,n3,m3⟩:=m2.outer h3.mem;have hk3:=n3 _ hd hHn;obtain⟨l3,fn3,D3,r1,r2,r3,r4⟩:=h3.mem.ent _ _ hd hs hk3;have hll:l3=w.heap.size+1:=by rw[Z]at r1;cases r1;rfl
   subst hll
   have hnb:j.1≠ .busy:=by
    cases x<;>simp[Z8]at hj<;>rw[←hj]<;>simp
   obtain⟨m4,g4⟩:=m3.anm (o:=.loop { state:=.exhausted,pending:=j.2,fn:=fn3,tmps:=a.tmps,params:=Y,assign:=assign,body:=body,defers:=D3 }) (e':=.dead) hs rfl hk3 (a7m Z) (λ_=>trivial);have U:=(g2.trans g3).trans g4
   have z:Holds C ok3 H' ⟨σ.slots,s.ents.set σ.ents.length .dead,σ.base⟩ { a with defers:=[{ target:=.collected w.heap.size,args:= #[] }]++a.defers }
    (w3.putObj (w.heap.size+1) (.loop { state:=.exhausted,pending:=j.2,fn:=fn3,tmps:=a.tmps,params:=Y,assign:=assign,body:=body,defers:=D3 })):=by
    refine⟨m4,u.size,?_,u.base,λt ht=>(u.slot t ht).mono U ((IK _ _).trans n3)⟩;obtain⟨Es,q1,q2,q3⟩:=u.defers.mono U;obtain⟨Fs,p1,p2,p3⟩:=u.defers
    have hEF:Es=Fs:=by
     have :=q1.symm.trans p1;exact(List.map_inj_right (λa b h=>Oa)).1 this
    subst hEF;refine⟨w.heap.size::Es,by simp[q1],KX.2 ⟨λhm=>?_,q2⟩,λD hDm=>?_⟩
    ·have :=u.mem.lQ _ (p3 _ hm).1;omega
    rcases FP.1 hDm with rfl|hDm
    ·have hok2:(λb=>ok b\/b=w.heap.size) w.heap.size:=.inr rfl;have q4:=(g3.trans g4) _ hok2;exact⟨q4.1,u.mem.fr.size,q4.2.trans hD⟩
    exact q3 D hDm
   refine⟨j.2,_,run_endLoop r2 hnb,?_⟩;cases x with
   |normal=>
    simp[Z8]at hj;rw[←hj]at z ⊢;exact⟨_,_,_,z,hQ⟩
   |ret=>
    simp[Z8]at hj;rw[←hj]at z ⊢;exact wpIn_ret ⟨_,_,_,z,hQ⟩
   |exit i=>
    simp[Z8]at hj;rw[←hj]at z ⊢;exact wpIn_exit ⟨_,_,_,z,hQ⟩
   |_=>
     cases hj
  rcases hee with rfl|rfl
  ·exact key
  exact key
def Bq.rangeFunc {z}{c}{I}q(J:σ.get g=.fn (.func I) [] q)(L:P.funcs[I]? =some fn)(M:II P I=true)(O:fn.body=some c)(u:fn.results= #[])(h:∀tm,Bq P c ⟨(.mp σ.ents.length::q)++List.replicate (fn.ntmps-(q.length+1)) .junk,σ.ents++[.loop tm σ.slots (z,assign,body) .ready none],σ.ents.length+1⟩ λe s=>(e=.normal\/e=.ret)/\
  ∃sl j x,s.ents[σ.ents.length]? =some (.loop tm sl (z,assign,body) j.1 j.2)/\Z8 x=some j/\Q x ⟨σ.slots,s.ents.set σ.ents.length .dead,σ.base⟩):Bq P (.rangeFunc g z assign body) σ Q:=
 Bq.aEj q (λ_ _ _ _ _ U=>J▸U.get g) L M O u h
def Bq.aqv {u}{c}{z}cs(I:σ.get g=.d (.fn (.func z) [] cs))(J:P.funcs[z]? =some fn)(L:II P z=true)(M:fn.body=some c)(q:fn.results= #[])(h:∀tm,Bq P c ⟨(.mp σ.ents.length::cs.map .d)++List.replicate (fn.ntmps-((cs.map Ai.d).length+1)) .junk,σ.ents++[.loop tm σ.slots (u,assign,body) .ready none],σ.ents.length+1⟩ λe s=>(e=.normal\/e=.ret)/\
  ∃sl j x,s.ents[σ.ents.length]? =some (.loop tm sl (u,assign,body) j.1 j.2)/\Z8 x=some j/\Q x ⟨σ.slots,s.ents.set σ.ents.length .dead,σ.base⟩):Bq P (.rangeFunc g u assign body) σ Q:=
 Bq.aEj (cs.map .d) (λ_ _ _ _ _ O=>R.dfn (I▸O.get g)) J L M q h
def acO :Code->Nat->Code
 | .seq a b,i=>if i=0 then a else b
 | .cond _ a b,i=>if i=0 then a else b
 | .block _ a,_=>a
 | .loop a,_=>a
 | .scope a,_=>a
 | .rangeFunc _ _ a b,i=>if i=0 then a else b
 |c,_=>c
def a9L (c:AL Code)(p:AA Nat):Bh Tmp×Code×Code:=
 match p.foldl acO (c.getD .skip)with
 | .rangeFunc _ j a b=>(j,a,b)
 |_=>(#[],.skip,.skip)
section
variable {K V:Type} [BEq K]
def DF :AA (K×V)->K->AL V
 | [],_=>none
 |p::l,k=>bif k==p.1 then some p.2 else DF l k
def EM :AA (K×V)->K->V->AA (K×V)
 | [],k,v=>[(k,v)]
 |p::l,k,v=>bif k==p.1 then(k,v)::l else p::EM l k v
def CS (ek:K->BG)(ev:V->D)(p:K×V):BG×D:=(ek p.1,ev p.2)
structure KeyTy (P:Program) (t:TypeId) (ek:K->Value):Prop where
 same:∃kd,P.underlying t=some kd/\∀a b,Instr.sameNow kd (ek a) (ek b)=some (a==b)
 check:∀e a w,(Instr.checkKey e 10000 t (ek a)).run P w=.ok () w
 eq:∀a b:K,(a==b)=true->a=b
 bits:∀a,Instr.sameBits 10000 (ek a) (ek a)=true
def ajA {k}(h:P.underlying t=some (.int k)):KeyTy P t (λn:Int=>Value.int k n):=by
 refine⟨⟨_,h,λa b=>by simp[Instr.sameNow]⟩,λe a w=>?_,λa b h=>Oa,λa=>?_⟩
 ·have :∀n,(Instr.checkKey e (n+1) t (.int k a)).run P w=.ok () w:=λn=>by simp[Instr.checkKey,underlying,h]
  exact this 9999
 unfold Instr.sameBits;simp
def a9F {ek:K->BG}{kd}(hs:∀a b,Instr.sameNow kd (ek a) (ek b)=some (a==b))k v:∀(m:AA (K×V)) (l:AA MapEntry) (i:Nat),l.map (·.key)=m.map (λp=>ek p.1)->
 (Instr.findNow kd (ek k) l i=some none/\DF m k=none/\EM m k v=m++[(k,v)])\/
 ∃j e p,Instr.findNow kd (ek k) l i=some (some (i+j,e.val))/\l[j]? =some e/\m[j]? =some p/\DF m k=some p.2/\(k==p.1)=true/\EM m k v=m.set j (k,v)
 | [],[],_,_=>.inl ⟨rfl,rfl,rfl⟩
 | [],_::_,_,h=>JD
 |_::_,[],_,h=>JD
 |p::m,e::l,i,h=>by
  simp only[Gz,a5l]at h;cases q:(k==p.1)with
  |true=>
   refine .inr ⟨0,e,p,?_,rfl,rfl,?_,q,?_⟩
   ·simp[Instr.findNow,h.1,hs,q]
   ·simp[DF,q]
   simp[EM,q]
  |false=>
   rcases a9F hs k v m l (i+1) h.2 with⟨h1,h2,h3⟩|⟨j,e',u,h1,h2,h3,z,I,J⟩
   ·refine .inl ⟨?_,?_,?_⟩
    ·simp[Instr.findNow,h.1,hs,q,h1]
    ·simp[DF,q,h2]
    simp[EM,q,h3]
   refine .inr ⟨j+1,e',u,?_,LP,YL,?_,I,?_⟩
   ·simp[Instr.findNow,h.1,hs,q,h1];omega
   ·simp[DF,q,z]
   simp[EM,q,J]
end
variable {clock:Nat}{ms:Bh MapEntry}
section
variable {es:AA (BG×D)}
def LJ.push (h:LJ ok w es ms clock){k v}{x}(I:EL ok w x v):LJ ok w (es++[(k,x)]) (ms.push { key:=k,val:=v,born:=clock }) (clock+1):=by
 have q:∀(i:Nat) (m:MapEntry),(ms.push { key:=k,val:=v,born:=clock })[i]? =some m->ms[i]? =some m\/(i=ms.size/\m={ key:=k,val:=v,born:=clock }):=λi m hm=>by
  rw[lX]at hm;split at hm
  ·rename_i e;exact .inr ⟨e,(E5 hm).symm⟩
  exact .inl hm
 refine⟨by simp[h.len],λi e m u hm=>?_,λi j m n z hm J=>?_⟩
 ·rcases q i m hm with h1|⟨rfl,rfl⟩
  ·have hi:i<es.length:=aKO
   rw[KH hi]at u;obtain⟨L,M,O⟩:=h.ent i e m u h1;exact⟨L,M,Nat.lt_succ_of_lt O⟩
  rw[h.len]at u;simp at u;subst u;exact⟨rfl,I,Yj _⟩
 rcases q i m hm with h1|⟨rfl,rfl⟩<;>rcases q j n J with h2|⟨rfl,rfl⟩
 ·exact h.inc i j m n z h1 h2
 ·have hi:i<es.length:=aKO
  exact(h.ent i es[i] m X7 h1).2.2
 ·have :=(Ip.1 h2).1;omega
 omega
def LJ.modify (h:LJ ok w es ms clock){k v}{x}(U:EL ok w x v)j:LJ ok w (es.set j (k,x)) (ms.modify j λe=>{ e with key:=k,val:=v }) clock:=by
 have u:∀(i:Nat) (m:MapEntry),(ms.modify j λe=>{ e with key:=k,val:=v })[i]? =some m->∃z,ms[i]? =some z/\m.born=z.born/\(i≠j->m=z)/\(i=j->m.key=k/\m.val=v):=λi m hm=>by
  grind
 refine⟨by simp[h.len],λi e m I hm=>?_,λi L m n J hm Y=>?_⟩
 ·obtain⟨z,h1,h2,h3,M⟩:=u i m hm;have hi:i<es.length:=aKO
  obtain⟨q1,q2,Z⟩:=h.ent i es[i] z X7 h1;by_cases O:i=j
  ·subst O;simp[hi]at I;subst I;exact⟨(M rfl).1,by rw[(M rfl).2];exact U,by rw[h2];exact Z⟩
  rw[eU (λq=>O q.symm)]at I
  grind
 obtain⟨z,h1,h2,_⟩:=u i m hm;obtain⟨n0,g1,g2,_⟩:=u L n Y;rw[h2,g2];exact h.inc i L z n0 J h1 g1
def LJ.mono {ok'}{w'}(h:LJ ok w es ms clock)(q:FT ok w ok' w'):LJ ok' w' es ms clock:=⟨h.len,λi e m j hm=>⟨(h.ent i e m j hm).1,(h.ent i e m j hm).2.1.mono q,(h.ent i e m j hm).2.2⟩,h.inc⟩
def LJ.keys (h:LJ ok w es ms clock):ms.toList.map (·.key)=es.map (·.1):=by
 apply Y4
 ·simp[h.len]
 intro i h1 h2;simp at h1 h2;have :=(h.ent i es[i] ms[i] (by simp[h2]) mV).1;simpa using this
end
def Zi :BG->D
 | .agg vs=>.agg (vs.toList.map QK)
 |v=>QK v
def aTV (h:z.cells.all (·.oneCell')=true):EL ok w (Zi z) z:=by
 unfold Zi;split
 ·rename_i vs;refine .agg _ vs BU (λi hi=>?_) (λi hi=>?_)
  ·simp at hi;have e:(vs.toList.map QK).getD i EO=QK vs[i]:=OH
   rw[e];exact zh ((YU.1 h) _ (by simp[Value.cells]))
  simp at hi;have e:(vs.toList.map QK).getD i EO=QK vs[i]:=OH
  have j:vs.getD i undef=vs[i]:=by simp[Array.getD,hi]
  rw[e,j];exact tK _
 exact tK _
variable {J L:Bz}{es0:AA (BG×D)}{j:Nat}{kd:IntKind}{v:BG}{x y:C9}
section
variable {P:Ce} {o:Oper} {es:AA BX} {K V:Type} [BEq K]
def TV (q:R ok w H (.mp k) v)(u:H[k]? =some h):v=h.v:=by
 cases q with
 |mp _ _ s hl j=>
  rw[u]at j;cases j;rfl
def adv (u:o.op=.makeMap t none:=by exact rfl):CG P o [] es (.mp es.length) (es++[.map []]):=
 .eff λC ok H a w hm J=>by
  have q:Fp ok (w.alloc (.map #[] 0)) (H++[⟨.map (some w.heap.size),0⟩]) ⟨.map (some w.heap.size),0⟩ (.map []):=
   ⟨w.heap.size, #[],0,rfl,(aGa w _).1,⟨rfl,λi e m z=>uX,λi j m n _ hm=>by simp at hm⟩⟩
  obtain⟨h2,h3⟩:=hm.push (.map #[] 0) ⟨.map (some w.heap.size),0⟩ _ (λb q=>aDP) q;refine⟨.map (some w.heap.size),_,ok,_,.inl ?_,h3,IK _ _,h2,.mp _ _ 0 rfl Ql⟩;have I:(newObj (.map #[] 0)).run P w=.ok w.heap.size (w.alloc (.map #[] 0)):=rfl;simp[execOp,u,Instr.makeMap,I]
def aO3 {k e}{n}(z:P.underlying t=some (.map k e))(I:o.op=.makeMap t (some x):=by exact rfl):CG P o [(x,.d (.lit (.int kd n)))] es (.mp es.length) (es++[.map []]):=
 .eff λC ok H a w hm J=>by
  have q:Fp ok (w.alloc (.map #[] 0)) (H++[⟨.map (some w.heap.size),0⟩]) ⟨.map (some w.heap.size),0⟩ (.map []):=
   ⟨w.heap.size, #[],0,rfl,(aGa w _).1,⟨rfl,λi e m L=>yB,λi j m n _ hm=>by simp at hm⟩⟩
  obtain⟨h2,h3⟩:=hm.push (.map #[] 0) ⟨.map (some w.heap.size),0⟩ _ (λb q=>aDP) q;have u:=(N7 J).lit;simp only at u;refine⟨.map (some w.heap.size),_,ok,_,.inl ?_,h3,IK _ _,h2,.mp _ _ 0 rfl Ql⟩;have M:(newObj (.map #[] 0)).run P w=.ok w.heap.size (w.alloc (.map #[] 0)):=rfl;simp[execOp,I,Instr.makeMap,M,u,asInt,asIntOf,underlying,z]
def a3E {O U}{ek}ev{I}{m:AA (K×V)}{key}(Y:P.underlying t=some (.map O U))(Z:KeyTy P O ek)(hz:(P.info? U).bind (·.zero)=some z)(hzv:Zi z=ev I)(J:z.cells.all (·.oneCell')=true)(hb:w.heap[b]? =some (.map ms clock))(hM:LJ ok w (m.map (CS ek ev)) ms clock)c:
 ∃v,(Instr.lookup t (.map (some b)) (ek key) c).run P w=.ok (if c then .tuple #[v,.bool (DF m key).isSome]else v) w/\EL ok w (ev ((DF m key).getD I)) v:=by
 obtain⟨kd,q,hs⟩:=Z.same;have L:ms.toList.map (·.key)=m.map (λp=>ek p.1):=by rw[hM.keys];simp[CS,aC3]
 have u:=Z.check;obtain⟨i,hi,M⟩:=mJ.1 hz;rcases a9F (i:=0) hs key I m ms.toList L with⟨h1,h2,_⟩|⟨j,e,p,h1,h2,h3,h4,_⟩
 ·refine⟨z,?_,?_⟩
  ·rw[h2];simp[Instr.lookup,underlying,Y,Qy hb,u,Instr.findKey,q,h1,zeroValue,typeInfo,hi,M]
  rw[h2];have :=aTV (ok:=ok) (w:=w) J
  grind
 refine⟨e.val,?_,?_⟩
 ·rw[h4];simp[Instr.lookup,underlying,Y,Qy hb,u,Instr.findKey,q,h1]
 rw[h4];have h5:(m.map (CS ek ev))[j]? =some (CS ek ev p):=by rw[Le,h3];rfl
 exact(hM.ent j _ e h5 LP).2.1
def dn {ek}ev M{m:AA (K×V)}{key}(Z:P.underlying t=some (.map J L))(hk:KeyTy P J ek)(hz:(P.info? L).bind (·.zero)=some z)(q:Zi z=ev M)(u:z.cells.all (·.oneCell')=true)(he:es[k]? =some (.map (m.map (CS ek ev))))(ho:o.op=.lookup t x y false:=by exact rfl):CG P o [(x,.mp k),(y,.d (.lit (ek key)))] es (.d (ev ((DF m key).getD M))) es:=
 .pure λok H a w j hl O=>by
  obtain⟨hd,hh,I⟩:=Hr j hl he;obtain⟨b,ms,clock,h1,h2,h3⟩:=I;have U:=TV (Fe O).1 hh;have Y:=(Fe O).2.lit;simp only at U Y;obtain⟨v,hr,hv⟩:=a3E (key:=key) ev Z hk hz q u h2 h3 false;refine⟨v,?_,.d _ _ hv⟩;simp[execOp,ho,U,Y,h1,hr]
def sB {ek}ev M{m:AA (K×V)}{key}(Z:P.underlying t=some (.map J L))(hk:KeyTy P J ek)(hz:(P.info? L).bind (·.zero)=some z)(q:Zi z=ev M)(u:z.cells.all (·.oneCell')=true)(he:es[k]? =some (.map (m.map (CS ek ev))))(ho:o.op=.lookup t x y true:=by exact rfl):CG P o [(x,.mp k),(y,.d (.lit (ek key)))] es (.eP [.d (ev ((DF m key).getD M)),.d (E9 (DF m key).isSome)]) es:=
 .pure λok H a w j hl O=>by
  obtain⟨hd,hh,I⟩:=Hr j hl he;obtain⟨b,ms,clock,h1,h2,h3⟩:=I;have U:=TV (Fe O).1 hh;have Y:=(Fe O).2.lit;simp only at U Y;obtain⟨v,hr,hv⟩:=a3E (key:=key) ev Z hk hz q u h2 h3 true;refine⟨.tuple #[v,.bool (DF m key).isSome],?_,.eP _ _ rfl λi hi=>?_⟩
  ·simp[execOp,ho,U,Y,h1,hr]
  match i,hi with
  |0,_=>exact .d _ _ hv
  |1,_=>exact .d _ _ (.lit _)
def vX (hm:Dz C ok H es w){u}{q}{hd}(J:es[k]? =some (.map es0))(L:H[k]? =some hd)(z:hd.v=.map (some b))(I:w.heap[b]? =some (.map ms clock))(M:LJ ok w u q j):(setObj b (.map q j)).run P w=.ok () (w.putObj b (.map q j))/\Dz C ok H (es.set k (.map u)) (w.putObj b (.map q j))/\FT ok w ok (w.putObj b (.map q j)):=by
 refine⟨by simp[setObj,Sem.run,I,World.putObj],hm.anm J rfl L wB λO=>⟨b,q,j,z,YR (Ip.1 I).1,M.mono O⟩⟩
def YB {kt vt}{u}{ek}ev{m:AA (K×V)}{key}{val}(ht:P.underlying t=some (.map kt vt))(J:KeyTy P kt ek)(L:es[k]? =some (.map (m.map (CS ek ev))))(ho:o.op=.mapUpdate t x y u:=by exact rfl):
 CG P o [(x,.mp k),(y,.d (.lit (ek key))),(u,.d (ev val))] es .junk (es.set k (.map ((EM m key val).map (CS ek ev)))):=
 .eff λC ok H a w hm M=>by
  obtain⟨hd,O,U⟩:=Hr hm.ent hm.hlen L;obtain⟨b,ms,clock,h1,h2,h3⟩:=U;have Y:=TV (M (x,.mp k) BU) O;have Z:=(M (y,.d (.lit (ek key))) BU).lit;have hu:EL ok w (ev val) (a.eval u):=by have :=M (u,.d (ev val)) BU;cases this with |d _ _ h=>exact h
  simp only at Y Z;obtain⟨kd,q,hs⟩:=J.same;have hks:ms.toList.map (·.key)=m.map (λp=>ek p.1):=aAf
  have z:=J.check;rcases a9F (i:=0) hs key val m ms.toList hks with⟨q1,_,q3⟩|⟨j,e,p,q1,q2,q3,_,q5,q6⟩
  ·have hM:=h3.push (k:=ek key) hu;obtain⟨r1,r2,r3⟩:=vX (P:=P) hm L O h1 h2 hM;refine⟨undef,_,ok,H,.inr ⟨rfl,?_⟩,r3,.refl _,?_,.junk _⟩
   ·simp[execOp,ho,Y,Z,h1,Instr.mapUpdate,underlying,ht,Qy h2,z,Instr.findKey,q,q1,r1]
   rw[q3,JY];exact r2
  have hM:=h3.modify (k:=ek key) hu j;obtain⟨r1,r2,r3⟩:=vX (P:=P) hm L O h1 h2 hM
  have I:e.key=ek key:=by
   have h5:(m.map (CS ek ev))[j]? =some (CS ek ev p):=by rw[Le,q3];rfl
   rw[(h3.ent j _ e h5 lK).1,J.eq _ _ q5];rfl
  have hst:∀w,(Instr.keyThatStays (ek key) (ek key)).run P w=.ok (ek key) w:=λw=>by simp[Instr.keyThatStays,J.bits]
  have hms:ms[j]? =some e:=lK
  refine⟨undef,_,ok,H,.inr ⟨rfl,?_⟩,r3,.refl _,?_,.junk _⟩
  ·simp[execOp,ho,Y,Z,h1,Instr.mapUpdate,underlying,ht,Qy h2,z,Instr.findKey,q,q1,hms,I,hst,r1]
  rw[q6,a5F];exact r2
def ae3 (M:P.underlying t=some (.map J L))(q:es[k]? =some (.map es0))(O:o.op=.call { callee:=.builtin .clear,args:= #[x],argTypes:= #[t] }:=by exact rfl):
 CG P o [(x,.mp k)] es .junk (es.set k (.map [])):=
 .eff λC ok H a w hm U=>by
  obtain⟨hd,z,u⟩:=Hr hm.ent hm.hlen q;obtain⟨b,ms,clock,h1,h2,h3⟩:=u;have I:=TV (U (x,.mp k) BU) z;simp only at I;have Y:LJ ok w [] #[] clock:=⟨rfl,λi e m q=>by simp at q,λi j m n _ hm=>by simp at hm⟩
  obtain⟨Z,r2,r3⟩:=vX (P:=P) hm q z h1 h2 Y;refine⟨.tuple #[],_,ok,H,.inl ?_,r3,.refl _,r2,.junk _⟩;simp[execOp,O,resolve,invoke,builtin,Builtin.clear_,I,h1,underlying,M,Qy h2,Z]
def aRT {z I}(hl:es0.length=n)(J:P.underlying t=some (.map z I))(L:es[k]? =some (.map es0))(M:o.op=.call { callee:=.builtin .len,args:= #[x],argTypes:= #[t] }:=by exact rfl):
 CG P o [(x,.mp k)] es (.d (Ad n)) es:=
 .pure λok H a w j hlen O=>by
  obtain⟨hd,U,q⟩:=Hr j hlen L;obtain⟨b,ms,clock,h1,h2,h3⟩:=q;have u:=TV (O (x,.mp k) BU) U;simp only at u;refine⟨goInt es0.length,?_,by rw[hl];exact .d _ _ (.lit _)⟩;simp[execOp,M,resolve,invoke,builtin,Builtin.len_,u,h1,underlying,J,Qy h2,h3.len]
end
variable {vs:AA BG}
def aB5 {xs ys}{us}(h:Hd ok w H xs vs)(k:Hd ok w H ys us):Hd ok w H (xs++ys) (vs++us):=by
 refine⟨by rw[Ef,Ef,h.1,k.1],λi hi=>?_⟩;by_cases j:i<xs.length
 ·have q:(xs++ys).getD i .junk=xs.getD i .junk:=by simp[List.getD,KH j]
  have u:(vs++us).getD i undef=vs.getD i undef:=by simp[List.getD,KH (by rw[h.1];exact j:i<vs.length)]
  rw[q,u];exact h.2 i j
 have z:i-xs.length<ys.length:=aGl
 have q:(xs++ys).getD i .junk=ys.getD (i-xs.length) .junk:=by simp[List.getD,Qg (X8 j)]
 have u:(vs++us).getD i undef=us.getD (i-xs.length) undef:=by simp[List.getD,Qg (by rw[h.1];omega:vs.length<=i),h.1]
 rw[q,u];exact k.2 _ z
variable {size:Nat}{v':BG}
def Dz.aHE (hm:Dz C ok H es w){e}(q:w.grownBy w' none)(u:∀g,EF v'=some g->w.heap.size<=g/\g<w'.heap.size)(he:FT ok w ok w'->Fp ok w' (H++[⟨v',size⟩]) ⟨v',size⟩ e):Dz C ok (H++[⟨v',size⟩]) (es++[e]) w'/\FT ok w ok w':=by
 have g0:FT ok w ok w':=λb u=>⟨u,q.block b (hm.lQ b u) BU⟩
 refine hm.change (λ_=>False) q.os q.tape q.output q.size (λb u _=>q.block b u BU) (λ_ h=>h.elim) (λ_ h=>h) (λ_ h=>.inl h) (IK _ _) jB ?_;intro k e' h' J z;rcases Xt J with h1|⟨h1,h2⟩
 ·left;refine⟨h1,?_,λ_ _ _ h=>h⟩;have Z:k<H.length:=aIW
  grind
 subst h2;have Z:k=H.length:=aCB
 subst Z;simp at z;subst z;refine .inr ⟨he g0,λ_ b L=>?_⟩;obtain⟨q1,q2⟩:=u b L;refine⟨λh3=>absurd (hm.lQ _ h3) AB,q2,.inl (EC hm.fr.size q1),λk' M O hne U hl j I=>?_⟩;rcases Xt U with h3|⟨h3,_⟩
 ·have Y:k'<H.length:=by rw[hm.hlen];exact(I9.1 h3).1
  rw[KH Y]at j;exact absurd (hm.blk k' M O _ h3 hl j I).2.1 AB
 grind
variable {ad:AL Addr}{agg:AY}{base:Nat}{h:Int}{l m r:AA α}{ty:Bz}{u:AA BG}{xs ys:AA D}{z:C9}
def CG.thaw {ns}{k e s}{xs}(h:CG P o ns es (.aS k) es')(I:es'[k]? =some (.arr e s xs)):CG P o ns es (.d (.sl xs)) (es'.set k .dead):=by
 intro C ok H a w Q hm J;refine Oper.wp_mono ?_ (h C ok H a w Q hm J);rintro a' w' ⟨v,ok',H',rfl,L,q,j,M⟩
 have u:Holds (FK.now w' ok' es' H') ok' H' ⟨[.aS k],es',H'.length⟩ { tmps:= #[v],defers:=[] } w':=⟨j.inner,rfl,.nil _ _ _,rfl,λt O=>by
  match t,O with
  |0,_=>exact M⟩
 obtain⟨z,h2⟩:=JI k I _ _ _ _ _ u;obtain⟨U,_,Y⟩:=j.outer h2.mem;refine⟨v,z,H',rfl,L.trans U,q,Y,?_⟩;have :=h2.slot 0 (by simp[BN.thaw]);simpa[BN.thaw,Ai.thaw]using this
def EL.aLl (h:EL ok w (.sl xs) (.slice ad n cap))(I:xs.length<=j):EL ok w (.sl xs) (.slice ad n j):=by
 cases h with
 |sl0 _ _=>exact .sl0 _ _
 |sl _ b off _ size z u hs J L q=>exact .sl xs b off j size I u hs J L q
def aP3 {e}{m}(j:P.underlying t=some (.slice e))(q:Em P e agg size)(h1:m<=cap):
 (Instr.slice t (.slice ad n cap) none (some (.int .i64 m)) (some (.int .i64 m))).run P w=.ok (.slice (if m=0 then ad else ad.map (·.add 0)) m m) w:=by
 have u:(underlying t).run P w=.ok (.slice e) w:=aGQ
 have z:((m:Int)<=(cap:Int)):=Int.ofNat_le.2 h1;simp[Instr.slice,u,Instr.sliceBounds,Instr.sliceBound,asIntOf,z,h1,q.size]
def aJe {e}enc{xs}(hr:I8 xs 0 h=some r)(ht:P.underlying t=some (.slice e))(hT:Em P e agg size)(hc:∀a,(enc a).cells.length=size)(ho:o.op=.slice t x none (some y) (some z):=by exact rfl):CG P o [(x,.d (BP enc xs)),(y,.d (Ad h)),(z,.d (Ad h))] es (.clip (r.map enc)) es:=
 .pure λok H a w _ _ O=>by
  obtain⟨⟨_,h1,h2⟩,rfl⟩:=aNK hr;have U:=O (x,.d (BP enc xs)) BU;have M:=(O (y,.d (Ad h)) BU).lit;have hz:=(O (z,.d (Ad h)) BU).lit;simp only at U M hz;generalize hv:a.eval x=v at U;have I:EL ok w (.sl (xs.map enc)) v:=by cases U with |d _ _ h=>exact h
  have J:∃ad cap,v=.slice ad (xs.map enc).length cap/\(xs.map enc).length<=cap:=by
   generalize hys:xs.map enc=ys at I;cases I with
   |sl0 ad cap=>
    grind
   |sl _ b off cap size q=>
    grind
  obtain⟨ad,cap,rfl,q⟩:=J
  have hlen:(List.map enc ((xs.drop 0).take (h.toNat-0))).length=h.toNat:=by
   grind
  have u:=aP3 (P:=P) (n:=xs.length) (ad:=ad) (w:=w) ht hT (m:=h.toNat) (cap:=cap) (by rw[DY]at q;omega);have Y:((h.toNat:Nat):Int)=h:=AB
  rw[Y]at u;refine⟨.slice (if h.toNat=0 then ad else ad.map (·.add 0)) h.toNat h.toNat,?_,?_⟩
  ·rw[DY]at hv;simp only[execOp,ho,Option.map_none,Kr,hv,M,hz,Instr.sliceAt];have hu:(underlying t).run P w=.ok (.slice e) w:=aC4
   simp only[GK,a0a,Hy,hu,u,Gi]
  have hD:EL ok w (.sl (List.map enc ((xs.drop 0).take (h.toNat-0)))) (.slice (if h.toNat=0 then ad else ad.map (·.add 0)) (List.map enc ((xs.drop 0).take (h.toNat-0))).length (List.map enc ((xs.drop 0).take (h.toNat-0))).length):=by
   by_cases L:h.toNat=0
   ·have e0:List.map enc ((xs.drop 0).take (h.toNat-0))=[]:=Hu (by rw[hlen,L]);rw[e0];exact .sl0 _ _
   have j:=aOl (l:=0) (h:=h.toNat) I (size:=size) (λy M=>by obtain⟨b,_,rfl⟩:=FB.1 M;exact hc b) (FQ _) Ei;have Z:cap≠0:=by rw[DY]at q;omega
   rw[Ee Z]at j;rw[Ee L,hlen];rw[←iU,←Yw]at j;simp only[Nat.zero_mul,Nat.sub_zero]at j ⊢;exact j.aLl (by rw[DY,Hl,a5t];omega)
  have :=R.clip (H:=H) _ _ hD
  grind
def aWk {e e'}(Z:h=(xs.length:Int))(hk:es[k]? =some (.arr e' s xs))(O:P.underlying t=some (.slice e))(hT:Em P e agg size)(ho:o.op=.slice t x none (some y) (some z):=by exact rfl):CG P o [(x,.aS k),(y,.d (Ad h)),(z,.d (Ad h))] es (.yE k) es:=
 .pure λok H a w u hl J=>by
  obtain⟨hd,I,L⟩:=Hr u hl hk;have M:=RJ (J (x,.aS k) BU) I;have U:=(J (y,.d (Ad h)) BU).lit;have Y:=(J (z,.d (Ad h)) BU).lit;simp only at M U Y;obtain⟨_,_,EY,⟨_,j⟩,_⟩:=L;obtain⟨v,CX⟩:=hd;simp only at j M;subst Z
  have key:∃ad cap,v=.slice ad xs.length cap/\xs.length<=cap/\ad.map (·.add 0)=ad:=by
   rcases j with⟨rfl,h1⟩|⟨g,cap,_,rfl,_,_,h1,_⟩
   ·grind
   exact⟨_,cap,rfl,h1,by simp[Addr.add]⟩
  obtain⟨ad,cap,rfl,h1,h2⟩:=key;have q:=aP3 (P:=P) (n:=xs.length) (ad:=ad) (w:=w) O hT (m:=xs.length) (cap:=cap) h1;have hi:(if xs.length=0 then ad else ad.map (·.add 0))=ad:=by split<;>simp[h2]
  rw[hi]at q;refine⟨.slice ad xs.length xs.length,?_,.yE k ad _ cap CX I⟩;simp only[execOp,ho,Option.map_none,Kr,M,U,Y,Instr.sliceAt];have hu:(underlying t).run P w=.ok (.slice e) w:=by simp[underlying,O]
  simp only[GK,a0a,Hy,hu,q,Gi]
def ahs (hm:Dz C ok H es w){e}(hE:Gm P t e size q)(hk:es[k]? =some (.arr e size xs)){x}(hv:R ok w H (.yE k) v)(L:YC w x ys.length size u)(I:Hd ok w H (flat ys) u)(hys:∀y∈ys,y.cells.length=size)(hb:(xs.length+ys.length)*q<=140737488355328)(hn:xs.length+ys.length<=maxLen):
 ∃v' w' H',(Builtin.append_ #[t,t] ty #[v,x]).run P w=.ok v' w'/\FT ok w ok w'/\Names H H'/\Dz C ok H' (es.set k .dead++[.arr e size (xs++ys)]) w'/\R ok w' H' (.aS es.length) v':=by
 obtain⟨h,hh,hok⟩:=Hr hm.ent hm.hlen hk;obtain⟨h1,h2,EY,j,hrs⟩:=hok
 have key:nM w e size v xs.length EY/\EF v=EF h.v:=by
  cases hv with
  |yE _ ad n cap s M=>
   rw[hh]at M;obtain rfl:=E5 M;rcases j.2 with⟨O,q2⟩|⟨g,cap',cur,O,q2,q3,q4,q5,q6,q7⟩
   ·simp only[pS]at O;obtain⟨rfl,rfl,rfl⟩:=O;exact⟨⟨j.1,.inl ⟨rfl,q2⟩⟩,rfl⟩
   simp only[pS]at O;obtain⟨rfl,rfl,rfl⟩:=O;exact⟨⟨j.1,.inr ⟨g,xs.length,cur,rfl,q2,q3,ER _,EC q4 q5,EC (Lu _ q4) q6,q7⟩⟩,rfl⟩
 obtain⟨z,U⟩:=key;obtain⟨v',w',hr,J,Y,Z⟩:=aEH (P:=P) (ty:=ty) hE z L hb hn
 obtain⟨h3,h4⟩:=hm.turn (h':=⟨v',size⟩) (e:=.arr e size (xs++ys)) hk rfl hh Y.os Y.tape Y.output Y.size (λc hc hne=>Y.block c hc (by rw[aKc z,U];exact λe=>hne e.symm)) (λg hg'=>⟨vw J hg',(Z g hg').imp (λh=>U▸h) id⟩) (λhgr=>by
  refine⟨rfl,λy hy=>?_,EY++u,a1E,?_⟩
  ·rcases Ia.1 hy with h|h
   ·exact h2 y h
   exact hys y h
  have a1:=hrs.mono hgr (IK H [⟨v',size⟩]);have a2:=I.mono hgr (IK H [⟨v',size⟩]);rw[kn]
  exact aB5 a1 a2)
 refine⟨v',w',_,hr,h4,IK _ _,h3,?_⟩;have M:(H++[(⟨v',size⟩:CP)])[es.length]? =some ⟨v',size⟩:=Ql
 rcases J.2 with⟨rfl,_⟩|⟨g',c',_,rfl,_⟩
 ·exact .aS _ _ _ _ size M
 exact .aS _ _ _ _ size M
def aUm {s}{e}enc(h:D5 j l m=some r)(hE:Gm P t e size j)(O:es[k]? =some (.arr e size (l.map enc)))(U:∀a,(enc a).cells.length=size)(Y:0<j)(Z:o.op=.call { callee:=.builtin .append,args:= #[s,x],argTypes:= #[t,t] }:=by exact rfl):
 CG P o [(s,.yE k),(x,.d (BP enc m))] es (.aS es.length) (es.set k .dead++[.arr e size (r.map enc)]):=by
 obtain⟨rfl,h2⟩:=a0A h;refine .eff λC ok H a w hm q=>?_;have h1:=(Fe q).1;have h3:=(Fe q).2;simp only at h1 h3;have I:EL ok w (.sl (m.map enc)) (a.eval x):=by cases h3 with |d _ _ h=>exact h
 have u:∀y∈m.map enc,y.cells.length=size:=λy hy=>by obtain⟨a,_,rfl⟩:=FB.1 hy;exact U a
 obtain⟨L,z,J⟩:=kL H I u;obtain⟨v',w',H',hr,r1,r2,M,r4⟩:=ahs (ty:=o.type) hm hE O h1 z J u LP (by simpa using a6U Y h2);rw[←JY]at M;refine⟨v',w',ok,H',.inl ?_,r1,r2,M,r4⟩;simp[execOp,Z,resolve,invoke,builtin,hr]
def aRX {e}(hE:Gm P t e size q){x}(hv:R ok w H (.clip xs) v)(Y:∀y∈xs,y.cells.length=size)(I:YC w x ys.length size u)(hpos:0<ys.length)(Z:(xs.length+ys.length)*q<=140737488355328)(hn:xs.length+ys.length<=maxLen):
 ∃j v' w',Hd ok w H (flat xs) j/\(Builtin.append_ #[t,t] ty #[v,x]).run P w=.ok v' w'/\w'.ownsRow w.heap.size e size v' (xs.length+ys.length) (j++u)/\w.grownBy w' none:=by
 obtain⟨i,z,hi,hz,hs,L,M⟩:=hE.info;cases hv with
 |clip _ ad hD=>
  obtain⟨j,ho,O⟩:=kL H hD Y;rcases I.at_ with⟨U,c,rfl,J⟩|⟨c,rfl,h0⟩
  ·rcases ho.at_ with⟨ad2,c2,h1,h2⟩|⟨c2,h1,h2⟩
   ·simp only[pS]at h1;obtain⟨rfl,_,rfl⟩:=h1;obtain⟨v',w',r1,r2,r3⟩:=run_append_arg_grows (P:=P) w t ty e i z size q hE.und hi hz hs L M hE.pos ad2 xs.length xs.length j ho.len h2 U ys.length c u I.len J AB hn Z;exact⟨j,v',w',O,r1,r2,r3⟩
   simp only[pS]at h1;obtain⟨rfl,_,_⟩:=h1;have hx:j=[]:=Hu (by rw[ho.len,h2];simp);subst hx;rw[h2]at hn Z ⊢;obtain⟨v',w',r1,r2,r3,_⟩:=run_append_own (P:=P) w w.heap.size t ty e i z size q hE.und hi hz hs L M hE.pos _ 0 [] (aAO w w.heap.size e size) U ys.length c u I.len J I.one hn Z (ER _);exact⟨[],v',w',O,r1,r2,r3⟩
  omega
def aU6 {e}{j q}(h:w'.ownsRow base e size v' (xs.length+ys.length) (j++q))(h1:Hd ok w' H (flat xs) j)(h2:Hd ok w' H (flat ys) q)(u:∀y∈xs,y.cells.length=size)(z:∀y∈ys,y.cells.length=size):
 Fp ok w' H ⟨v',size⟩ (.arr e size (xs++ys)):=by
 refine⟨rfl,λy I=>?_,j++q,?_,?_⟩
 ·grind
 ·have :=nM.of h;simpa using this
 rw[kn];exact aB5 h1 h2
def aL1 {e}{EY}(h:w'.ownsRow base e size v' n EY):∀g,EF v'=some g->base<=g/\g<w'.heap.size:=by
 intro g j;rcases h.2 with⟨rfl,_⟩|⟨q,_,_,rfl,h1,h2,_⟩
 ·simp[EF]at j
 simp[EF]at j;subst j;exact⟨h1,(Ip.1 h2).1⟩
def aNC {s}{e}enc(h:D5 j l m=some r)(hE:Gm P t e size j)(hc:∀a,(enc a).cells.length=size)(J:0<j)(L:o.op=.call { callee:=.builtin .append,args:= #[s,x],argTypes:= #[t,t] }:=by exact rfl):
 CG P o [(s,.clip (l.map enc)),(x,.d (BP enc m))] es (.d (BP enc r)) es:=by
 obtain⟨rfl,h2⟩:=a0A h;refine .eff λC ok H a w hm M=>?_;have h1:=(Fe M).1;have h3:=(Fe M).2;simp only at h1 h3;have h3':EL ok w (.sl (m.map enc)) (a.eval x):=by cases h3 with |d _ _ h=>exact h
 have O:∀y∈l.map enc,y.cells.length=size:=λy hy=>aMm
 have U:∀y∈m.map enc,y.cells.length=size:=λy hy=>aMm
 obtain⟨Y,q,hrs⟩:=kL H h3' U;by_cases Z:m=[]
 ·subst Z;obtain⟨i,z,hi,hz,hs,hby,hzs⟩:=hE.info;have I:Y=[]:=Hu (by rw[q.len];simp);subst I;generalize hv:a.eval s=v at h1;generalize hu:a.eval x=u at q;cases h1 with
  |clip _ ad hD=>
   refine⟨_,w,ok,H,.inl ?_,.refl _ _,.refl _,hm,.d _ _ (by rw[Tv];exact hD)⟩;have hL:∀w:BQ,((underlying t).run P w=.ok (.slice e) w):=λw=>aEv
   rcases q.at_ with⟨ad',c,rfl,_⟩|⟨c,rfl,_⟩
   ·cases ad with
    |none=>simp[execOp,L,resolve,invoke,builtin,hv,hu,Builtin.append_,hL,sizeOf,typeInfo,hi,Builtin.lenOf,Builtin.firstCells,loadCells,loadCellsFrom]
    |some ad=>simp[execOp,L,resolve,invoke,builtin,hv,hu,Builtin.append_,hL,sizeOf,typeInfo,hi,Builtin.lenOf,Builtin.firstCells,loadCells,loadCellsFrom,storeCells]
   cases ad with
   |none=>simp[execOp,L,resolve,invoke,builtin,hv,hu,Builtin.append_,hL,sizeOf,typeInfo,hi,Builtin.lenOf,Builtin.firstCells]
   |some ad=>simp[execOp,L,resolve,invoke,builtin,hv,hu,Builtin.append_,hL,sizeOf,typeInfo,hi,Builtin.lenOf,Builtin.firstCells,storeCells]
 obtain⟨olds,v',w',r0,r1,r2,r3⟩:=aRX (P:=P) (ty:=o.type) hE h1 O q (by simpa using lG.2 Z) LP (by simpa using a6U J h2);have hblk:=aL1 r2;obtain⟨m1,g1⟩:=hm.change (ok':=λb=>ok b\/EF v'=some b) (H':=H) (es':=es) (w':=w') (λ_=>False) r3.os r3.tape r3.output r3.size (λb J _=>r3.block b J BU) (λ_ h=>h.elim) (λ_ h=>.inl h) (λb h=>h.imp id λh=>hblk b h) (.refl _) hm.hlen (λk e h he hh=>.inl ⟨he,hh,λ_ _ _ h=>h⟩);have g0:FT ok w ok w':=λb J=>⟨J,(g1 b J).2⟩
 have hE':=aU6 r2 (r0.mono g0 (.refl _)) (hrs.mono g0 (.refl _)) O U;refine⟨v',w',_,H,.inl (by simp[execOp,L,resolve,invoke,builtin,r1]),g1,.refl _,m1,.d _ _ ?_⟩;have :=oz hE' (ok':=λb=>ok b\/EF v'=some b) (λ_ h=>.inl h) (λ_ h=>.inr h)
 rwa [←JY]at this
def aYk {s}{e}enc(h:D5 j l m=some r)(J:m≠[])(hE:Gm P t e size j)(Y:∀a,(enc a).cells.length=size)(hb:0<j)(ho:o.op=.call { callee:=.builtin .append,args:= #[s,x],argTypes:= #[t,t] }:=by exact rfl):
 CG P o [(s,.clip (l.map enc)),(x,.d (BP enc m))] es (.aS es.length) (es++[.arr e size (r.map enc)]):=by
 obtain⟨rfl,h2⟩:=a0A h;refine .eff λC ok H a w hm q=>?_;have h1:=(Fe q).1;have h3:=(Fe q).2;simp only at h1 h3;have L:EL ok w (.sl (m.map enc)) (a.eval x):=by cases h3 with |d _ _ h=>exact h
 have u:∀y∈l.map enc,y.cells.length=size:=λy M=>by obtain⟨a,_,rfl⟩:=FB.1 M;exact Y a
 have z:∀y∈m.map enc,y.cells.length=size:=λy M=>by obtain⟨a,_,rfl⟩:=FB.1 M;exact Y a
 obtain⟨Z,I,O⟩:=kL H L z;obtain⟨olds,v',w',r0,r1,U,r3⟩:=aRX (P:=P) (ty:=o.type) hE h1 u I (by simpa using lG.2 J) LP (by simpa using a6U hb h2)
 obtain⟨m1,g1⟩:=hm.aHE (v':=v') (size:=size) (e:=.arr e size ((l++m).map enc)) r3 (aL1 U) (λg0=>by
  have :=aU6 U (r0.mono g0 (IK H [⟨v',size⟩])) (O.mono g0 (IK H [⟨v',size⟩])) u z
  rwa [←JY]at this)
 refine⟨v',w',ok,_,.inl (by simp[execOp,ho,resolve,invoke,builtin,r1]),g1,IK _ _,m1,?_⟩;have hH:(H++[(⟨v',size⟩:CP)])[es.length]? =some ⟨v',size⟩:=Ql
 rcases U.2 with⟨rfl,_⟩|⟨g',c',_,rfl,_⟩
 ·exact .aS _ _ _ _ size hH
 exact .aS _ _ _ _ size hH
def D.plain:D->AY
 | .lit _=>true
 | .agg cs=>cs.all λc=>match c with | .lit _=>true|_=>false
 |_=>false
def ag1 (hp:∀x∈xs,x.plain=true)(h:Hd ok w H (flat xs) vs):Hd ok' w' H' (flat xs) vs:=by
 refine⟨h.1,λi hi=>⟨(h.2 i hi).1,?_⟩⟩;have I:=(h.2 i hi).2;have hm:(flat xs).getD i .junk∈flat xs:=OH
 generalize(flat xs).getD i .junk=y at I hm;unfold flat at hm;simp only[WL,FB]at hm;obtain⟨x,J,c,z,rfl⟩:=hm;have j:=hp x J
 have q:∃u,c=.lit u:=by
  cases x with
  |lit u=>simp[D.cells]at z;exact⟨u,z⟩
  |agg cs=>
   simp only[D.cells]at z;simp only[D.plain,FW]at j;have :=j c z;cases c with
   |lit u=>exact⟨u,rfl⟩
   |_=>simp at this
  |_=>cases j
 obtain⟨u,rfl⟩:=q;rw[I.lit];exact .d _ _ (.lit u)
variable {fH:AA Ai}{ops:Bh C9}
def aLw {o:Oper}{f}{e}(hr:Ej P f fH [] (.aS 0) [.arr e s xs])(hp:∀x∈xs,x.plain=true)(ha:iH es eH fH)(hl:ops.toList.length=eH.length){a:Act}(hm:Dz C ok H es w)(hn:∀n∈GL ops.toList eH,R ok w H n.2 (a.eval n.1)):
 Calls P f (ops.toList.map a.eval).toArray w λe' w'=>∃v,e'=.returned v/\w.grownBy w' none/\(∀g,EF v=some g->w.heap.size<=g/\g<w'.heap.size)/\Value.isSlice v=true/\∀M H2,Fp M w' H2 ⟨v,s⟩ (.arr e s xs):=by
 let I:Nat->Prop:=λb=>b<w.heap.size
 have Z:Dz ⟨w,I,[],[]⟩ I [] [] w:=
  ⟨.refl _ _,λ_ h=>h,λ_ h=>.inl h,λ_ h=>h,.refl _,rfl,λk e h O _=>by simp at O,λk e h b O=>by simp at O,λk k' e e' h h' b O=>by simp at O⟩
 refine(hr I [] [] w _ Z (by simp[hl,aI0 ha]) (λi hi=>?_)).mono ?_
 ·obtain⟨op,x,ho',U,q⟩:=aRc hl ha i hi;have L:=hn _ U
  have e1:(ops.toList.map a.eval).toArray.getD i undef=a.eval op:=by
   obtain⟨h1,h2⟩:=I9.1 ho';have h3:i<ops.size:=V9
   have h4:ops[i]=op:=LP
   simp[Array.getD,h3,h4]
  rw[e1];simp only at L;generalize fH.getD i .junk=y at q;generalize a.eval op=u at L;cases x with
  |d x=>
   obtain rfl:=q;cases L with |d _ _ h=>exact .d _ _ (h.mono (λb z=>⟨hm.lQ b z,rfl⟩))
  |aS k=>
   obtain⟨e',s,xs,hk,rfl⟩:=q;obtain⟨h,hh,J⟩:=Hr hm.ent hm.hlen hk;obtain rfl:=RJ L hh;exact .d _ _ (oz J (λb z=>hm.lQ b z) (λb z=>(hm.blk k _ h b hk rfl hh z).2.1))
  |_=>exact q.elim
 rintro e' w' ⟨v,ok',H',rfl,j,L⟩;have hg:w.grownBy w' none:=⟨j.fr.os,j.fr.tape,j.fr.output,j.fr.size,λb z _=>j.fr.block b z BU⟩
 have hl':H'.length=1:=j.hlen
 match H',hl' with
 | [hd],_=>
   obtain rfl:=RJ L (h:=hd) rfl;have J:=j.ent 0 _ hd rfl rfl;have z:=λb z=>j.blk 0 _ hd b rfl rfl rfl z;obtain⟨q1,q2,EY,q3,q4⟩:=J;obtain⟨v,CX⟩:=hd;simp only at q1 z q3;subst q1;refine⟨v,rfl,hg,λg hg'=>?_,?_,λM H2=>⟨rfl,q2,EY,q3,ag1 hp q4⟩⟩
   ·obtain⟨_,r2,Y⟩:=z g hg';rcases Y with Y|Y
    ·exact⟨Y,r2⟩
    simp at Y
   rcases q3.2 with⟨rfl,_⟩|⟨g',c',_,rfl,_⟩<;>rfl
variable {ats:Bh Bz}
def Jr {f}{e}(j:Ej P f fH [] (.aS 0) [.arr e s xs])(hp:∀x∈xs,x.plain=true)(q:II P f=true)(ha:iH es eH fH)(hl:ops.toList.length=eH.length)(u:o.op=.call { callee:=.value (.func f),args:=ops,argTypes:=ats }:=by exact rfl):CG P o (GL ops.toList eH) es (.aS es.length) (es++[.arr e s xs]):=by
 intro C ok H a w Q hm z;unfold Oper.wp;rw[vY u,Ux q,jS];have I:ops.map a.eval=(ops.toList.map a.eval).toArray:=a9r
 rw[I];refine(aLw (o:=o) j hp ha hl hm z).mono ?_;rintro e' w' ⟨v,rfl,J,L,hsl,hE⟩;obtain⟨M,O⟩:=hm.aHE (v':=v) (size:=s) (e:=.arr e s xs) J L (λ_=>hE _ _);refine⟨v,ok,_,rfl,O,IK _ _,M,?_⟩;have U:(H++[(⟨v,s⟩:CP)])[es.length]? =some ⟨v,s⟩:=Ql
 cases v with
 |slice ad n c=>exact .aS _ _ _ _ s U
 |_=>cases hsl
def a4W {f}{e}(u:Ej P f fH [] (.aS 0) [.arr e s xs])(hp:∀x∈xs,x.plain=true)(z:II P f=true)(ha:iH es eH fH)(hl:ops.toList.length=eH.length)(I:o.op=.call { callee:=.value (.func f),args:=ops,argTypes:=ats }:=by exact rfl):CG P o (GL ops.toList eH) es (.d (.sl xs)) es:=by
 intro C ok H a w Q hm J;unfold Oper.wp;rw[vY I,Ux z,jS];have L:ops.map a.eval=(ops.toList.map a.eval).toArray:=a9r
 rw[L];refine(aLw (o:=o) u hp ha hl hm J).mono ?_;rintro e' w' ⟨v,rfl,j,M,hsl,hE⟩;obtain⟨O,U⟩:=hm.change (ok':=λb=>ok b\/EF v=some b) (H':=H) (es':=es) (w':=w') (λ_=>False) j.os j.tape j.output j.size (λb q _=>j.block b q BU) (λ_ h=>h.elim) (λ_ h=>.inl h) (λb h=>h.imp id λh=>M b h) (.refl _) hm.hlen (λk e h Y Z=>.inl ⟨Y,Z,λ_ _ _ h=>h⟩);exact⟨v,_,H,rfl,U,.refl _,O,.d _ _ (oz (hE ok H) (λ_ h=>.inl h) (λ_ h=>.inr h))⟩
variable {F:Fence}
def aCi {Q}{a}{c}(h:c.wpIn F n P (Exit.noGoto Q) a w):(Code.scope c).wpIn F n P Q a w:=by
 intro b k cs J L M;have j:(lone (b.atR a (.code (.scope c)::k)) cs w).fenced P F:=fenced_calm L M rfl;have q:step P (lone (b.atR a (.code (.scope c)::k)) cs w)=.next (lone (b.atR a (.code c::.inScope c::k)) cs w):=step_lone_go aWG;obtain⟨e,z,I,u,harr⟩:=h b (.inScope c::k) cs J L M;cases e with
 |normal=>exact⟨.normal,z,I,u,.head j q (StepsIn.trans harr (.one (fenced_calm L M rfl) (step_lone_go aWG)))⟩
 |exit id=>
  have Y:exitTo id (.inScope c::k)=exitTo id k:=by simp[exitTo]
  exact⟨.exit id,z,I,u,λk' O=>.head j q (harr.1 k' (by rw[Y];exact O)),λU O=>let⟨Z,h1,h2⟩:=harr.2 U (by rw[Y];exact O);⟨Z,h1,.head j q h2⟩⟩
 |goto l=>exact u.elim
 |ret=>exact⟨_,z,I,u,.of_steps (.one j q) harr⟩
 |panic ch=>exact⟨_,z,I,u,.of_steps (.one j q) harr⟩
 |outgrown=>exact⟨_,z,I,u,.of_steps (.one j q) harr⟩
def aZ8 (Q:Exit->BN->Prop):Exit->BN->Prop
 | .goto _,_=>False
 |e,σ=>Q e σ
def Bq.scope {c}(h:Bq P c σ (aZ8 Q)):Bq P (.scope c) σ Q:=⟨λro j C ok H a w q=>
 aCi (V7 (h.run ro (j.imp id λh=>h) C ok H a w q) (by
  rintro e a' w' ⟨ok',H',σ',h1,h2⟩;cases e with
  |goto l=>exact h2.elim
  |_=>exact⟨ok',H',σ',h1,h2⟩))⟩
def aP2 (P:Ce)(f:FuncId)(args:AA Ai)(u:BG):Prop:=
 ∀(ok:Nat->Prop) (X:AA Nat) (H:AA CP) (w:BQ) (j:Bh BG),Dz ⟨w,ok,X,H⟩ ok H [] w->j.size=args.length->(∀i,i<args.length->R ok w H (args.getD i .junk) (j.getD i undef))->
  Calls P f j w λe w'=>∃ok' H',e=.panicked [{ v:=u,recovered:=false }]/\Dz ⟨w,ok,X,H⟩ ok' H' [] w'
variable {Rr:Type}
def RQ (P:Ce)(f:FuncId)(args:AA Ai)(r:Except BG Rr)(j:Rr->Ai):Prop:=(∀x,r=.ok x->Ej P f args [] (j x) [])/\∀u,r=.error u->aP2 P f args u
def ajS (P:Ce)(fn:Func)(r:Except BG Rr)(j:Rr->Ai)(e:Exit)(σ:BN):Prop:=
 (∃x,r=.ok x/\jD P fn (j x) [] e σ)\/∃u,r=.error u/\e=a0Q u/\σ.base=0
def aQ7 {P}{fn}{Rr}{C}{ch}(u:∀b,C.ok0 b->b<C.w0.heap.size){H}{σ}(z:∀ok a w,Holds C ok H σ a w->Rr (.panicked ch) w){tmps}:∀(Ds:AA Nat) {ok:Nat->Prop} {a:Act} {w:BQ},Holds C ok H σ a w->(∀d∈Ds,ok d/\C.w0.heap.size<=d/\w.heap[d]? =some (.deferred (some [])))->Ds.Nodup->
  LeavesInM (KA none) 0 P fn tmps Rr (Ds.map λD=>{ target:=.collected D,args:= #[] }) (.panicking ch) w
 | [],ok,a,w,h,_,_=>z ok a w h
 |D::Ds,ok,a,w,h,hd,I=>by
  obtain⟨ok',h',j⟩:=h.take u (λd q=>hd d (I7 _ q)) (hd D (Gv ..)) I;have h2:=aQ7 (P:=P) (fn:=fn) (tmps:=tmps) u z Ds h' j (KX.1 I).2;exact⟨BU,.inl ⟨D,_,rfl,run_takeDeferred (hd D (Gv ..)).2.2,h2⟩⟩
def Dz.none (hm:Dz C ok H es w)(q:C.H0=[]):Dz C ok [] [] w:=
 ⟨hm.fr,hm.Dq,hm.Dt,hm.lQ,by rw[q];exact .refl _,rfl,λk e h j=>uj,λk e h b j=>uj,λk k' e e' h h' b j=>uj⟩
def RQ.dV {f}{c}{args}{r}{q:Rr->Ai}(O:P.funcs[f]? =some fn)(U:fn.body=some c)(h:Bq P c (.enter args fn.ntmps []) (ajS P fn r q)):RQ P f args r q:=by
 refine⟨λx Y=>Ec O U (h.mono λe σ hq=>?_),λu Z=>?_⟩
 ·rcases hq with⟨x',h1,h2⟩|⟨u,h1,_⟩
  ·rw[Y]at h1;cases h1;exact h2
  rw[Y]at h1;cases h1
 intro ok X H w j hm hs ha;have hH:H=[]:=Hu hm.hlen;refine(a4T (ro:=none) (n:=0)).1 (aBE O U trivial (V7 (h.run none (.inl rfl) ⟨w,ok,X,H⟩ ok H _ w ?_) ?_) rfl)
 ·refine⟨hm,by simp[BN.enter,hs],.nil _ _ _,hm.hlen,λt ht=>?_⟩;simp only[BN.enter];by_cases e:t<args.length
  ·have z:(args++List.replicate (fn.ntmps-args.length) Ai.junk).getD t .junk=args.getD t .junk:=aBf
   have e2:(j++Array.replicate (fn.ntmps-j.size) undef).getD t undef=j.getD t undef:=by
    simp[KG,Yy (show t<j.size by omega)]
   rw[z,e2];exact ha t e
  have z:(args++List.replicate (fn.ntmps-args.length) Ai.junk).getD t .junk=.junk:=by
   simp only[List.getD,Qg (X8 e),List.getElem?_replicate];split<;>rfl
  rw[z];exact .junk _
 rintro e a' w' ⟨ok',H',σ',h1,h2⟩;rcases h2 with⟨x,h3,_⟩|⟨u',h3,rfl,_⟩
 ·rw[Z]at h3;cases h3
 rw[Z]at h3;cases h3;obtain⟨Ds,I,J,L⟩:=h1.defers;show LeavesInM (KA none) 0 P fn a'.tmps _ a'.defers (.panicking _) w';rw[I];exact aQ7 (P:=P) (C:=⟨w,ok,X,H⟩) hm.lQ (λM a2 w2 h4=>⟨M,[],rfl,h4.mem.none hH⟩) Ds h1 L J
section
variable {ops:Bh Oper}{l:AA Oper}
def Dn.panic {x}{t}{u}(q:o.op=.panic x)(z:σ.get x=.d (.lit (.iface t u)))(I:LQ ops σ o.guard=some true)(h:K (a0Q (.iface t u)) σ):Dn P ops (o::rest) σ K:=by
 refine⟨λro J Q C ok H a w j L=>?_⟩;show wpListIn (KA ro) 0 P ops Q (o::(rest++J)) a w;unfold wpListIn;rw[ET (Wp j (QU I))];have M:=(z▸j.get x).lit;unfold Oper.wpIn;rw[pW _ _ _ (by rw[q];intro c h;cases h)];have O:(execOp a.eval o).run P w=.halt (.panic (.iface t u)) w:=by simp[execOp,q,M,Instr.panic,goPanic]
 rw[O];exact⟨λ_ _=>trivial,L.2 _ _ _ _ _ _ h j⟩
end
section
variable {ops:Bh Oper}
def aR4:Jp o j=true↔∃e∈o.after,e.on=j/\Region.binds .any e=true:=by
 simp only[Jp,Ja,Array.mem_toList_iff,Di,Io]
def ad7 {N}{Q}(hN:N+1=ops.size)(hg:∀(i:Nat) (o:Oper),ops[i]? =some o->∀j b,o.guard=some (j,b)->j<N)(u:VR ops=true)(hb:YQ ops (List.replicate N false++[true])=true):∀(Am:Nat) (l:Bh AY) (a:Act) (w:BQ),l.size=N->(∀(j:Nat) (o:Oper),ops[j]? =some o->l.getD j false=true->∀i,Jp o i=true->l.getD i false=true)->
 wpAnyIn F n P .any ⟨ops.toList.take N⟩ (λe a w=>match e with | .normal=>wpOpIn F n P ops Q N (Q .normal) a w|e=>Q e a w) Am l a w->wpAnyIn F n P .any ops Q (Am+1) (l.push false) a w:=by
 have z:∀i,i<N->(⟨ops.toList.take N⟩:Bh Oper)[i]? =ops[i]? :=λi hi=>X7
 have I:∀(l:Bh AY),l.size=N->∀i,i<N->∀d,(l.push false).getD i d=l.getD i d:=λl hl i hi d=>by
  simp only[KG,lX,show i≠l.size by omega,Lc]
 have hgN:∀(l:Bh AY),l.size=N->∀d,(l.push false).getD N d=false:=λl hl d=>by
  simp only[KG,lX,hl,KT,OO]
 have hrd:∀(l:Bh AY),l.size=N->∀i,i<N->(i∈Region.ready .any ops (l.push false)↔i∈Region.ready .any ⟨ops.toList.take N⟩ l):=λl hl i hi=>by
  rw[WA,WA,z i hi,I l hl i hi];refine and_congr_right λ_=>exists_congr λo=>and_congr_right λq=>forall_congr' λe=>forall_congr' λhm=>forall_congr' λJ=>?_;rw[I l hl _ (Nat.lt_trans (yH u i o q e a5E J) hi)]
 have hrN:∀(l:Bh AY),l.size=N->(∀(j:Nat) (o:Oper),ops[j]? =some o->l.getD j false=true->∀i,Jp o i=true->l.getD i false=true)->N∈Region.ready .any ops (l.push false)->∀j,j<N->l.getD j false=true:=λl hl O U j hj=>by
  obtain⟨_,o,q,h⟩:=WA.1 U;refine ajR hb (show N<ops.size by omega) (by simp[List.getD]) (D:=λj=>l.getD j false=true) O (λo' L m hm=>?_) j hj;rw[q]at L;obtain rfl:=E5 L;obtain⟨e,e1,rfl,e3⟩:=aR4.1 hm;have :=h e e1 e3
  rwa [I l hl _ (yH u N o q e (by simpa using e1) e3)]at this
 have hwp:∀(i:Nat),i<N->∀(K:Act->BQ->Prop) (a:Act) (w:BQ),wpOpIn F n P ⟨ops.toList.take N⟩ (λe a w=>match e with | .normal=>wpOpIn F n P ops Q N (Q .normal) a w|e=>Q e a w) i K a w->wpOpIn F n P ops Q i K a w:=λi hi K a w h=>by
  unfold wpOpIn at h ⊢;rw[z i hi]at h;split
  ·rename_i q;rw[q]at h;exact h
  rename_i o q;rw[q]at h
  have hw:Region.wanted o (yielded ⟨ops.toList.take N⟩ a.tmps)=Region.wanted o (yielded ops a.tmps):=by
   unfold Region.wanted;cases hgo:o.guard with
   |none=>rfl
   |some g=>simp only[yielded,z g.1 (hg i o q g.1 g.2 hgo)]
  simp only[hw]at h;split
  rotate_left
  ·rename_i hn;simp only[hn]at h;exact h
  rename_i hy;simp only[hy,KT]at h;unfold Oper.wpIn at h ⊢;refine⟨h.1,?_⟩;have h:=h.2;generalize(o.semAt F.round a.eval).run P w=r at h ⊢;cases r with
  |ok x w'=>
   cases x<;>simp only[Oper.uponIn]at h ⊢ <;>
    first
     |exact h
     |exact⟨h.1,CallsIn.mono h.2 (λe w'' u=>by cases e<;>exact u)⟩
     |exact⟨h.1,RoundIn.mono h.2 (λe w'' u=>by cases e<;>exact u)⟩
  |halt x w'=>cases x<;>simp only[Oper.uponIn]at h ⊢ <;>exact h
 have hall:∀(l:Bh AY),l.size=N->(∀j,j<N->l.getD j false=true)->Region.ready .any ⟨ops.toList.take N⟩ l=[]:=λl hl h=>by
  rw[aHj];intro i hi;obtain⟨h1,o,q,_⟩:=WA.1 hi
  have Y:i<N:=by
   have :=(Ip.1 q).1;simp at this;omega
  have :=h i Y;have hil:i<l.size:=AB
  simp[Array.getD,hil]at h1 this;rw[h1]at this;cases this
 have hlt:∀(l:Bh AY) i,i∈Region.ready .any ops (l.push false)->i<N\/i=N:=λl i hi=>by
  obtain⟨_,o,q,_⟩:=WA.1 hi;have :=(Ip.1 q).1;omega
 have hend:∀(l:Bh AY),l.size=N->(∀j,j<N->l.getD j false=true)->∀Am a w,wpOpIn F n P ops Q N (Q .normal) a w->wpOpIn F n P ops Q N (wpAnyIn F n P .any ops Q Am ((l.push false).setIfInBounds N true)) a w:=λl hl h Am a w hw=>by
  refine wpOpIn_mono (λa' w' hq=>wpAnyIn_done ?_ hq Am) hw;rw[aHj];intro i hi;obtain⟨h1,o,q,_⟩:=WA.1 hi;have Y:=(Ip.1 q).1;rw[KG,aIy]at h1;by_cases e:N=i
  ·simp[e,hl]at h1
  rw[Ee e,←KG,I l hl i AB]at h1;have :=h i AB;have hil:i<l.size:=AB
  simp[Array.getD,hil]at h1 this;rw[h1]at this;cases this
 have M:∀(l:Bh AY),l.size=N->(∀(j:Nat) (o:Oper),ops[j]? =some o->l.getD j false=true->∀i,Jp o i=true->l.getD i false=true)->∀Am a w,(Region.ready .any ⟨ops.toList.take N⟩ l=[]->wpOpIn F n P ops Q N (Q .normal) a w)->Region.ready .any ⟨ops.toList.take N⟩ l=[]->(Region.ready .any ops (l.push false)=[]->Q .normal a w)/\∀i∈Region.ready .any ops (l.push false),wpOpIn F n P ops Q i (wpAnyIn F n P .any ops Q Am ((l.push false).setIfInBounds i true)) a w:=λl hl O Am a w h U=>by
  refine⟨λh0=>?_,λi hi=>?_⟩
  ·exfalso
   have key:∀j,j<N->l.getD j false=true:=λj=>by
    induction j using Nat.strongRecOn with
    |ind j ih=>
     intro hj;refine oZ λhn=>?_;have hjl:j<l.size:=AB
     have :j∈Region.ready .any ⟨ops.toList.take N⟩ l:=by
      refine WA.2 ⟨by simpa[Array.getD,hjl]using hn,ops[j],by rw[z j hj];simp[show j<ops.size by omega],λe hm J=>?_⟩;have :=yH u j ops[j] (by simp[show j<ops.size by omega]) e a5E J;exact ih e.on this AB
     rw[U]at this;cases this
   have :N∈Region.ready .any ops (l.push false):=by
    refine WA.2 ⟨hgN l hl true,ops[N],by simp[show N<ops.size by omega],λe hm J=>?_⟩;have :=yH u N ops[N] (by simp[show N<ops.size by omega]) e a5E J;rw[I l hl _ this];exact key _ this
   rw[h0]at this;cases this
  rcases hlt l i hi with h1|rfl
  ·rw[hrd l hl i h1,U]at hi;cases hi
  exact hend l hl (hrN l hl O hi) Am a w (h U)
 intro Am
 induction Am with
 |zero=>exact λl a w hl O h=>M l hl O 0 a w (λ_=>h.2) h.1
 |succ Am ih=>
  intro l a w hl O h;obtain⟨h0,h1⟩:=h;by_cases U:Region.ready .any ⟨ops.toList.take N⟩ l=[]
  ·exact M l hl O (Am+1) a w h0 U
  refine⟨λh2=>?_,λi hi=>?_⟩
  ·exfalso;obtain⟨i,hi⟩:=List.exists_mem_of_ne_nil _ U
   have Y:i<N:=by
    obtain⟨_,o,q,_⟩:=WA.1 hi;have :=(Ip.1 q).1;simp at this;omega
   rw[←hrd l hl i Y,h2]at hi;cases hi
  rcases hlt l i hi with h3|rfl
  ·have hm:=(hrd l hl i h3).1 hi;refine wpOpIn_mono (λa' w' hk=>?_) (hwp i h3 _ a w (h1 i hm))
   have hp:(l.push false).setIfInBounds i true=(l.setIfInBounds i true).push false:=by
    refine Array.ext_getElem? λk=>?_;simp only[aIy,lX,Array.size_push,Array.size_setIfInBounds]
    grind
   rw[hp];refine ih _ a' w' Ny (λj o q hj k u=>?_) hk;have Z:∀m,m≠i->(l.setIfInBounds i true).getD m false=l.getD m false:=λm hm=>by simp[KG,Vl (Ne.symm hm)]
   by_cases hki:k=i
   ·subst hki;simp[Array.getD,show k<l.size by omega]
   rw[Z k hki];by_cases hji:j=i
   ·subst hji;obtain⟨_,o',L,h4⟩:=WA.1 hm;rw[z j h3,q]at L;obtain rfl:=E5 L;obtain⟨e,e1,rfl,e3⟩:=aR4.1 u;exact h4 e e1 e3
   rw[Z j hji]at hj;exact O j o q hj k u
  exact absurd (hall l hl (hrN l hl O hi)) U
def Bq.aHG {id}N(h:Fz P ⟨ops.toList.take N⟩ (ops.toList.take N) σ rs ess bs σ')(hl:Dn P ops (ops.toList.drop N) σ' Q)(I:N+1=ops.size:=by kernel_rfl)(hm:P.follows .mixedOrders=true:=by kernel_rfl)(q:(VR ⟨ops.toList.take N⟩&&YZ ⟨ops.toList.take N⟩&&dH ⟨ops.toList.take N⟩ σ.slots.length&&YO ⟨ops.toList.take N⟩)=true:=by kernel_rfl)(u:YQ ⟨ops.toList.take N⟩ bs=true:=by kernel_rfl)(J:(VR ops&&ops.toList.all (λo=>(o.guard.map (·.1)).all (decide<| · <N))&&YQ ops (List.replicate N false++[true]))=true:=by kernel_rfl):Bq P (.region id ops true) σ Q:=by
 simp only[Di,FW]at J;refine⟨λro _ C ok H a w Y=>wpIn_region_any hm ?_⟩;have O:N<ops.size:=AB
 have Z:=Bq.aA1 q [] (aOo u) h (λ_ hi=>absurd hi H9) ro C ok H a w Y (λe a w=>match e with | .normal=>wpOpIn (KA ro) 0 P ops (λe a' w'=>∃ok' H' σ',Holds C ok' H' σ' a' w'/\Q e σ') N (λa' w'=>∃ok' H' σ',Holds C ok' H' σ' a' w'/\Q .normal σ') a w|e=>∃ok' H' σ',Holds C ok' H' σ' a w/\Q e σ') λok' H' a' w' h'=>?_
 ·have h1:=ad7 I (λi o ho j b L=>by have :=J.1.2 o (by simpa using Array.mem_of_getElem? ho);rw[L]at this;simpa using this) J.1.1 J.2 _ _ a _ Ei (λj o _ hj=>by simp[Array.getD]at hj) Z;have U:(⟨ops.toList.take N⟩:Bh Oper).size+1=ops.size:=Ei
  rw[U]at h1;have e2:(Array.replicate (⟨ops.toList.take N⟩:Bh Oper).size false).push false=Array.replicate ops.size false:=by rw[←U,Array.replicate_succ]
  rw[e2]at h1;exact h1
 have hd:ops.toList.drop N=[ops[N]]:=by
  rw[Nc dB];simp[←I]
 rw[hd]at hl;have h1:=hl.run ro [] (λe a' w'=>∃ok' H' σ',Holds C ok' H' σ' a' w'/\Q e σ') C ok' H' a' w' h' ⟨λσ' ok' H' a' w' M z=>⟨ok',H',σ',z,M⟩,λv σ' ok' H' a' w' M z=>⟨ok',H',σ',z,M⟩⟩;show wpOpIn _ _ _ _ _ _ _ _ _;unfold wpOpIn;rw[show ops[N]? =some ops[N] by simp[O]];simp only[aT,Ir,wpListIn]at h1;exact h1
end
def a9u e s(u:(P.info? t).bind (·.zero)=some (.slice none 0 0))(z:o.op=.alloc t:=by exact rfl):CG P o [] es (.ptr (es.length+1) 0) (es++[.arr e s [],.box [.aS es.length]]):=
 .eff λC ok H a w hm U=>by
  obtain⟨h1,h2⟩:=a05 hm e s;have I:(H++[(⟨.slice none 0 0,s⟩:CP)]).length=(es++[BX.arr e s []]).length:=h1.hlen;have J:(H++[(⟨.slice none 0 0,s⟩:CP)])[es.length]? =some ⟨.slice none 0 0,s⟩:=Ql
  have L:Fp ok (w.alloc (.cells #[.slice none 0 0] t)) ((H++[⟨.slice none 0 0,s⟩])++[⟨.pointer (some ⟨w.heap.size,0,none⟩),0⟩]) ⟨.pointer (some ⟨w.heap.size,0,none⟩),0⟩ (.box [.aS es.length]):=by
   refine⟨w.heap.size, #[.slice none 0 0],t,rfl,WR w _,rfl,λi hi=>?_⟩
   match i,hi with
   |0,_=>
    exact⟨rfl,.aS _ none 0 0 s (by rw[KH jB];exact J)⟩
  obtain⟨h3,M⟩:=h1.push (.cells #[.slice none 0 0] t) ⟨.pointer (some ⟨w.heap.size,0,none⟩),0⟩ _ (aAU w) L;have j:Dz C ok ((H++[⟨.slice none 0 0,s⟩])++[⟨.pointer (some ⟨w.heap.size,0,none⟩),0⟩]) (es++[.arr e s [],.box [.aS es.length]]) (w.alloc (.cells #[.slice none 0 0] t)):=by simpa[JK]using h3
  refine⟨.pointer (some ⟨w.heap.size,0,none⟩),_,ok,_,.inl ?_,M,(IK _ _).trans (IK _ _),j,.ptr _ _ w.heap.size 0 ?_⟩
  ·obtain⟨i,hi,q⟩:=mJ.1 u;have O:Value.cells (.slice none 0 0)= #[.slice none 0 0]:=rfl;simp[execOp,z,Instr.alloc,zeroValue,typeInfo,hi,q,newVar,newRow,O]
  grind
def a2I {e}enc{a}(h:Ak l i=some a)(hl:l.length=n)(L:P.underlying t=some (.array n e))(M:Em P e false 1)(O:es[k]? =some (.box (Ar (OT enc l))))(U:o.op=.indexAddr t x y:=by exact rfl):
 CG P o [(x,.ptr k 0),(y,.d (.lit (.int kd i)))] es (.ptr k i.toNat) es:=
 .pure λok H Y w j u I=>by
  obtain⟨Z,h1⟩:=Gl h;obtain⟨hd,hh,_⟩:=Hr j u O;have z:=(Fe I).1;have J:=(Fe I).2.lit;simp only at z J;have hlt:=(I9.1 h1).1;have hu:(underlying t).run P w=.ok (.array n e) w:=by simp[underlying,L]
  generalize hv:Y.eval x=v at z;cases z with
  |ptr _ _ b s hH=>
   have hb:0<=i/\i<n:=⟨Z,AB⟩
   refine⟨.pointer (some ⟨b,i.toNat,none⟩),?_,.ptr k _ b s hH⟩;have q:(⟨b,0,none⟩:Addr).add i.toNat=⟨b,i.toNat,none⟩:=by rw[addr_add,LC]
   simp[execOp,U,hv,J,Instr.indexAt,asIntOf,hu,Instr.sureAddr,hb,M.size w,q]
def aad {enc}{a}(h:Ak l i=some a):(Ar (OT enc l))[i.toNat]? =some (.d (enc a)):=by
 have h1:=(Gl h).2;simp[Ar,OT,D.cells,h1]
def a5Y enc{a}(h:Ak l i=some a)(j:es[k]? =some (.box (Ar (OT enc l))))(q:Em P t false 1)(u:o.op=.load t x:=by exact rfl):CG P o [(x,.ptr k i.toNat)] es (.d (enc a)) es:=aMe j (aad h) q u
def aSq {y}(j:match P.underlying t with |some (.interface _)=>false|some _=>true|none=>false)(u:o.op=.makeInterface t x:=by exact rfl):CG P o [(x,.d y)] es (.d (.TI t y)) es:=
 .pure λok H a w _ _ z=>by
  have h1:EL ok w y (a.eval x):=by have :=z (x,.d y) BU;cases this with |d _ _ h=>exact h
  refine⟨.iface t (a.eval x),?_,.d _ _ (.TI t y _ h1)⟩;cases q:P.underlying t with
  |none=>
   grind
  |some d=>
   rw[q]at j;have I:(underlying t).run P w=.ok d w:=aI1
   cases d<;>first|(cases j;done)|simp[execOp,u,Instr.makeInterface,I]
def aLO (us:AA BG)(j:match P.underlying t with |some (.interface _)=>false|some _=>true|none=>false)(u:o.op=.makeInterface t x:=by exact rfl):CG P o [(x,.d (.agg (us.map .lit)))] es (.d (.lit (.iface t (.agg us.toArray)))) es:=
 .pure λok H a w _ _ z=>by
  have h1:=(z (x,.d (.agg (us.map .lit))) BU).ak6;simp only at h1;refine⟨.iface t (.agg us.toArray),?_,.d _ _ (.lit _)⟩;cases q:P.underlying t with
  |none=>
   grind
  |some d=>
   rw[q]at j;have I:(underlying t).run P w=.ok d w:=aI1
   cases d<;>first|(cases j;done)|simp[execOp,u,Instr.makeInterface,I,h1]
def yV (P:Ce)(t:Bz)(j:String)(f:FuncId):AY:=
 match P.info? t with
 |some i=>(match i.methods.find? (·.name==j)with
  |some m=>m.path.toList.isEmpty&&(match m.func with |some (g,p)=>g=f&& !p|none=>false)
  |none=>false)&&(match P.underlying t with |some (.pointer _)=>false|some _=>true|none=>false)
 |none=>false
def aeb {j}{f}(h:yV P t j f=true)n v w:(method (n+1) t v j).run P w=.ok (f,v) w:=by
 unfold yV at h;split at h
 ·rename_i i hi;rw[Di]at h;obtain⟨h1,h2⟩:=h;split at h1
  ·rename_i m hm;rw[Di]at h1;obtain⟨h3,q⟩:=h1;split at q
   ·rename_i g p z;simp only[Di,Io,Vx]at q;obtain⟨rfl,rfl⟩:=q;have hp:m.path.toList=[]:=List.isEmpty_iff.1 h3;cases u:P.underlying t with
    |none=>
     grind
    |some d=>
     rw[u]at h2;have I:∀w,(underlying t).run P w=.ok d w:=λw=>by simp[underlying,u]
     cases d<;>first|(cases h2;done)|simp[method,typeInfo,hi,hm,hp,follow,z,receiverAt,I,Place.get]
   cases q
  cases h1
 cases h
def aVq {f}{j}{I}x q{z}(hr:Ej P f ((x::q).map .d) [] z [])(hf:II P f=true)(J:yV P t I f=true)(hl:ops.toList.length=q.length)(M:z.up [] es.length=z)(ho:o.op=.call { callee:=.invoke j I,args:=ops,argTypes:=ats }:=by exact rfl):CG P o ((j,.d (.TI t x))::GL ops.toList (q.map .d)) es z es:=by
 intro C ok H a w Q hm hn;have Y:=hn (j,.d (.TI t x)) BU;simp only at Y;have L:=yw (xs:=ops.toList) (vs:=q.map .d) Ny (λn Z=>hn n (I7 _ Z));generalize hv:a.eval j=v at Y;cases Y with
 |d _ _ h=>
  cases h with
  |TI _ _ u h1=>
   unfold Oper.wp
   have he:(execOp a.eval o).run P w=.ok (.enter f (#[u]++ops.map a.eval)) w:=by
    have h2:=Ux hf (#[u]++ops.map a.eval) w;have h3:=aeb J (P.types.size+99) u w;have h4:(#[Value.iface t u]++ops.map a.eval)[0]? =some (.iface t u):=by rw[Yy BU];rfl
    have h5:(#[Value.iface t u]++ops.map a.eval).extract 1 (#[Value.iface t u]++ops.map a.eval).size=ops.map a.eval:=by
     grind
    simp only[execOp,ho,resolve,hv,GK,Hy,Gi,invoke,h4,h5,callMethod];have h6:(program).run P w=.ok P w:=rfl;simp only[h6,Gi];have h7:P.types.size+Made.depth=P.types.size+99+1:=rfl;rw[h7,h3];exact h2
   rw[he,jS];have O:(ops.map a.eval).size=q.length:=Ny
   refine(aS3 hm hr _ (by simp at O;simp[O];omega) (λi hi=>?_) M).mono ?_
   ·cases i with
    |zero=>
     have e0:(#[u]++ops.map a.eval).getD 0 undef=u:=by simp[KG,Yy]
     rw[e0];exact h1
    |succ i=>
     have U:i<q.length:=IZ
     have h3:=L i (by simpa using U);have e1:(q.map Ai.d).getD i .junk=.d (q.getD i EO):=by simp[List.getD,U]
     have hi2:i<ops.size:=aRg
     have e2:(#[u]++ops.map a.eval).getD (i+1) undef=(ops.toList.map a.eval).getD i undef:=by
      simp only[KG,List.getD];rw[aOE BU];simp[hi2]
     rw[e2];rw[e1]at h3;have e3:(x::q).getD (i+1) EO=q.getD i EO:=BU
     rw[e3];cases h3 with |d _ _ h=>exact h
   rintro e w' ⟨v,ok',H',rfl,h3,h4,h5,h6⟩;exact⟨v,ok',H',rfl,h3,h4,h5,h6⟩
section
variable {P:Ce} {ops:Bh Oper} {o:Oper} {rest l:AA Oper} {σ:BN} {K:Exit->BN->Prop}
def Dn.Fv {f}{eH}{u}(Y:aP2 P f eH u)(Z:II P f=true)(h:K (a0Q u) σ)(J:X3 σ o=some (f,eH):=by kernel_rfl)(hd:eH.all Ai.Dx=true:=by kernel_rfl)(hg:LQ ops σ o.guard=some true:=by kernel_rfl):Dn P ops (o::rest) σ K:=by
 refine⟨λro l2 Q C ok H a w j hk=>?_⟩;show wpListIn (KA ro) 0 P ops Q (o::(rest++l2)) a w;unfold wpListIn;rw[ET (Wp j (QU hg))];unfold X3 at J;split at J
 ·rename_i c O;split at J
  ·rename_i f' I;cases J;obtain⟨callee,args,ats⟩:=c;simp only at I;subst I;have z:(execOp a.eval o).run P w=.ok (.enter f (args.map a.eval)) w:=by rw[vY O,Ux Z]
   unfold Oper.wpIn;rw[pW _ _ _ (by rw[O];intro c h;cases h),z]
   have M:Dz ⟨w,ok,[],[]⟩ ok [] [] w:=
    ⟨.refl _ _,λ_ h=>h,λ_ h=>.inl h,j.mem.lQ,.refl _,rfl,λk e h z=>uX,λk e h b z=>uX,λk k' e e' h h' b z=>uX⟩
   have key:Calls P f (args.map a.eval) w λe w'=>e=.panicked [{ v:=u,recovered:=false }]/\∃ok',Holds C ok' H σ a w':=by
    refine(Y ok [] [] w _ M BU (λi hi=>?_)).mono ?_
    ·have L:i<args.size:=IZ
     have e1:(args.toList.map σ.get).getD i .junk=σ.get args[i]:=by simp[List.getD,L]
     have e2:(args.map a.eval).getD i undef=a.eval args[i]:=by simp[Array.getD,L]
     have h3:Ai.Dx (σ.get args[i])=true:=by
      rw[FW]at hd;exact hd _ (FB.2 ⟨args[i],BU,rfl⟩)
     have U:=j.get args[i];rw[e1,e2];generalize σ.get args[i]=y at h3 U;cases y with
     |d y=>cases U with |d _ _ h=>exact .d _ _ h
     |_=>cases h3
    rintro e w' ⟨ok',H',rfl,q⟩;obtain⟨h1,h2⟩:=j.mem.change (ok':=ok) (H':=H) (es':=σ.ents) (w':=w') (λ_=>False) q.fr.os q.fr.tape q.fr.output q.fr.size (λb hb _=>q.fr.block b hb BU) (λ_ h=>h.elim) (λ_ h=>h) (λ_ h=>.inl h) (.refl _) j.mem.hlen (λk e h z j=>.inl ⟨z,j,λ_ _ _ h=>h⟩);exact⟨rfl,ok,h1,j.size,j.defers.mono h2,j.base,λt ht=>(j.slot t ht).mono h2 (.refl _)⟩
   refine⟨λ_ _=>trivial,λh=>H6,a4T.2 (key.mono ?_)⟩;rintro e w' ⟨rfl,ok',h5⟩;exact hk.2 _ _ _ _ _ _ h h5
  cases J
 cases J
def Ph:=@Dn.Fv
end
def Nb {β:Type}(r:Except BG α)(f:α->AL (Except BG β)):AL (Except BG β):=
 match r with
 | .ok a=>f a
 | .error u=>some (.error u)
def setCell_eq {x y}(j:w.heap[b]? =some (.cells #[x] t (0,0))):w.setCell ⟨b,0,none⟩ y=w.putObj b (.cells #[y] t (0,0)):=by
 simp only[World.setCell,World.putObj];congr 1;apply Array.ext_getElem?;intro i;rw[ZR,aIy];by_cases e:b=i
 ·subst e;rw[ET rfl,ET rfl,j,ET (Ip.1 j).1];rfl
 rw[Ee e,Ee e]
def aXe p w:
 CallsD Aq 279 #[.pointer (some p)] .returning w λe j w'=>e=.returned (.tuple #[])/\j=.returning/\w'=w:=by
 refine a7G func279 rfl λq cs u=>?_;apply Qo;apply RV;simp[wpOpsS,go_sem,recoverD,u,Tryz.ntmps279,Exit.thenS];apply Qo;apply RV;simp[wpOpsS,go_sem,Exit.thenS];refine nO (t:=false) rH ?_;simp only[UW,Lc];refine wpS_of_wp (wp_skip ?_);cases q
 simp_all [bodyPostS,results,Tryz.results279]
def acY b x n w(L:w.heap[b]? =some (.cells #[x] 64 (0,0))):
 CallsD Aq 279 #[.pointer (some ⟨b,0,none⟩)] (.panicking [{ v:=.iface 263 (.agg #[.int .i64 n]),recovered:=false }]) w λe M w'=>
  e=.returned (.tuple #[])/\M=.panicking [{ v:=.iface 263 (.agg #[.int .i64 n]),recovered:=true }]/\w.grownBy w' (some b)/\w'.heap[b]? =some (.cells #[.int .i64 n] 64 (0,0)):=by
 have q:∀(O:Bz) (w:BQ),(Instr.typeAssert (.iface 263 (.agg #[.int .i64 n])) O 263 true).run Aq w=.ok (.tuple #[.agg #[.int .i64 n],.bool true]) w:=λ_ _=>A8
 have U:∀w:BQ,(Instr.alloc 263 true (.tuple #[])).run Aq w=.ok (.pointer (some ⟨w.heap.size,0,none⟩)) (w.alloc (.cells #[.int .i64 0] 263)):=λw=>by
  simp[Instr.alloc,go_sem]
 have hst:∀w:BQ,(Instr.storeAt 263 (.pointer (some ⟨w.heap.size,0,none⟩)) (.agg #[.int .i64 n])).run Aq (w.alloc (.cells #[.int .i64 0] 263))=.ok () (w.alloc (.cells #[.int .i64 n] 263)):=λw=>by
  simp[Instr.storeAt,go_sem]
 refine a7G func279 rfl λc₀ cs Y=>?_;apply Qo;apply RV;simp[wpOpsS,go_sem,recoverD,Y,Tryz.ntmps279,Exit.thenS];apply Qo;apply RV;simp[wpOpsS,go_sem,Exit.thenS];refine nO (t:=true) rH ?_;simp only[KT];apply Qo;apply RV;simp[wpOpsS,execOp,q,U,hst,go_sem,Exit.thenS];apply Qo;apply Qo;apply RV;simp[wpOpsS,go_sem,Exit.thenS];refine nO (t:=false) rH ?_;simp only[UW,Lc];refine wpS_of_wp (wp_skip ?_);simp only[Exit.thenS];have u:b<w.heap.size:=(Ip.1 L).1;have j:(w.alloc (.cells #[.int .i64 n] 263)).heap[b]? =some (.cells #[x] 64 (0,0)):=(Lr _ _ _ u).trans L;have Z:(w.alloc (.cells #[.int .i64 n] 263)).cell? ⟨b,0,none⟩=some x:=a1p
 have z:(w.alloc (.cells #[.int .i64 n] 263)).frozen? ⟨b,0,none⟩=false:=by simp[World.frozen?,j]
 apply RV;simp[wpOpsS,go_sem,Exit.thenS,Z,z,bodyPostS,results,Tryz.results279];rw[setCell_eq j];have I:b<(w.alloc (.cells #[.int .i64 n] 263)).heap.size:=(Ip.1 j).1;refine⟨⟨rfl,rfl,rfl,BU,λi hi J=>?_⟩,YR I⟩;rw[ZF (λe=>J (by rw[e]))];exact Lr _ _ _ hi
variable {T:Type}
def Xd:Except BG T->AL Int
 | .ok _=>some 0
 | .error (.iface t (.agg cs))=>bif t==263 then(match cs.toList with | [.int .i64 n]=>some n|_=>none)else none
 | .error _=>none
def aVI b n w(j:w.heap[b]? =some (.cells #[.int .i64 n] 64 (0,0)))tmps(q:tmps.getD 2 undef=.pointer (some ⟨b,0,none⟩)):(results Tryz.f221 tmps).run Aq w=.ok (.int .i64 n) w:=by
 have u:w.cell? ⟨b,0,none⟩=some (.int .i64 n):=a1p
 have e:results Tryz.f221 tmps=(do let v ←loadVar 64 (←asAddr (tmps.getD 2 undef));pure v):=by simp[results,Tryz.results221]
 rw[e,q];simp[go_sem,u]
def aiG {g}{us}{n}(he:∀(vs:Bh BG) (w:BQ),(callFunc g vs).run Aq w=.ok (.enter g vs) w)(I:Calls Aq g us (w.alloc (.cells #[.int .i64 0] 64 (0,0))) λe u=>(w.alloc (.cells #[.int .i64 0] 64 (0,0))).grownBy u none/\((∃v,e=.returned v/\n=0)\/e=.panicked [{ v:=.iface 263 (.agg #[.int .i64 n]),recovered:=false }])):
 Calls Aq 221 #[.func (.func g) #[] us] w λe w'=>e=.returned (.int .i64 n)/\w.grownBy w' none:=by
 have O:∀(fn:Fn) (first cap:Bh BG) (w:BQ),(Instr.makeFunc fn first cap).run Aq w=.ok (.func fn first cap) w:=λ_ _ _ _=>rfl;have q:w.grownBy (w.alloc (.cells #[.int .i64 0] 64 (0,0))) none:=⟨rfl,rfl,rfl,BU,λi hi _=>Lr _ _ _ hi⟩
 go_enter_defers func221,Tryz.ntmps221
 apply wp_seq;apply kF;refine .inl ?_;simp[Oper.wp,go_sem,wpList,Exit.then];apply wp_seq;apply kF;refine .inl ?_;simp[Oper.wp,go_sem,O,wpList,Exit.then];refine .inl ?_;apply wp_seq;apply kF;refine .inl ?_;simp[Oper.wp,go_sem,he,wpList,Exit.then];refine .inl (I.mono ?_);rintro e u ⟨J,h⟩;have L:u.heap[w.heap.size]? =some (.cells #[.int .i64 0] 64 (0,0)):=(J.block w.heap.size BU BU).trans (nN _ _);have U:w.heap.size<u.heap.size:=(Ip.1 L).1;have j:w.grownBy u none:=⟨J.os.trans q.os,J.tape.trans q.tape,J.output.trans q.output,EC q.size J.size,λi hi M=>(J.block i Ei M).trans (q.block i hi M)⟩
 have z:∀(Y:BQ) (m:Int),u.grownBy Y (some w.heap.size)->w.grownBy Y none:=λY m h3=>⟨h3.os.trans j.os,h3.tape.trans j.tape,h3.output.trans j.output,EC j.size h3.size,λi hi M=>(h3.block i (by have :=j.size;omega) Ei).trans (j.block i hi M)⟩
 rcases h with⟨v,rfl,rfl⟩|rfl
 ·have hc:u.cell? ⟨w.heap.size,0,none⟩=some (.int .i64 0):=by rw[World.cell?,L];rfl
  have Z:u.frozen? ⟨w.heap.size,0,none⟩=false:=by simp[World.frozen?,L]
  apply wp_seq;apply kF;refine .inl ?_;simp[Oper.wp,go_sem,hc,Z,wpList,Exit.then];apply wp_ret;rw[setCell_eq L];refine leaves_cons (f:=279) (args:= #[.pointer (some ⟨w.heap.size,0,none⟩)]) BU a8r ?_;refine(aXe ⟨w.heap.size,0,none⟩ _).mono ?_;rintro e u' w'' ⟨rfl,rfl,rfl⟩;refine⟨.int .i64 0,aVI w.heap.size 0 _ (YR U) _ rfl,rfl,z _ 0 ⟨rfl,rfl,rfl,BU,λi hi hne=>ZF (λe=>hne (by rw[e]))⟩⟩
 refine leaves_cons (f:=279) (args:= #[.pointer (some ⟨w.heap.size,0,none⟩)]) BU a8r ?_;refine(acY w.heap.size (.int .i64 0) n u L).mono ?_;rintro e u' w'' ⟨rfl,rfl,h3,h4⟩;exact⟨.int .i64 n,aVI w.heap.size n _ h4 _ rfl,rfl,z _ n h3⟩
noncomputable abbrev Aw:=II Aq
def aRF {res:T->Ai}g j r(hr:RQ Aq g (j.map .d) r res)(M:Aw g=true)n(z:Xd r=some n):
 E8 221 [.d (.fn (.func g) [] j)] [] (.d (Ad n)) []:=by
 intro ok X H w J hm hs ha;obtain rfl:H=[]:=Hu hm.hlen;have h0:=ha 0 BU
 obtain⟨fv,rfl⟩:∃fv,J= #[fv]:=by
  have h1:J.size=1:=hs;exact⟨J[0],by apply iF mV;intro i h1 h2;simp at h2;subst h2;rfl⟩
 have h0:R ok w [] (.d (.fn (.func g) [] j)) fv:=h0;cases h0 with
 |d _ _ h0=>
 cases h0 with
 |fn _ _ _ vs us hl1 hl2 h1 h2=>
 obtain rfl:vs= #[]:=rY (by simpa using hl1);obtain⟨I,Y⟩:∃I,I=w.alloc (.cells #[.int .i64 0] 64 (0,0)):=⟨_,rfl⟩
 have hg1:FT ok w ok I:=λb U=>⟨U,by rw[Y];exact Lr _ _ _ (hm.lQ b U)⟩
 have hmc:Dz ⟨I,ok,[],[]⟩ ok [] [] I:=
  ⟨.refl _ _,λ_ h=>h,λ_ h=>.inl h,λb U=>by rw[Y];simp;exact Nat.lt_succ_of_lt (hm.lQ b U),.refl _,rfl,λk e h M=>by simp at M,λk e h b M=>by simp at M,λk k' e e' h h' b M=>by simp at M⟩
 have L:∀i,i<(j.map Ai.d).length->R ok I [] ((j.map Ai.d).getD i .junk) (us.getD i undef):=λi hi=>by
  rw[DY]at hi;have e1:(j.map Ai.d).getD i .junk=.d (j.getD i EO):=OH
  rw[e1];exact .d _ _ ((h2 i hi).mono hg1)
 have hgr:∀{Z:Nat->Prop} {H2:AA CP} {w2:BQ},Dz ⟨I,ok,[],[]⟩ Z H2 [] w2->I.grownBy w2 none:=λq=>⟨q.fr.os,q.fr.tape,q.fr.output,q.fr.size,λb U _=>q.fr.block b U BU⟩
 have hcall:Calls Aq g us I λe w2=>I.grownBy w2 none/\((∃v,e=.returned v/\n=0)\/e=.panicked [{ v:=.iface 263 (.agg #[.int .i64 n]),recovered:=false }]):=by
  cases O:r with
  |ok x=>
   rw[O]at z;refine(hr.1 x O ok [] [] I us hmc (by simpa using hl2) L).mono ?_;rintro e w2 ⟨v,Z,H2,rfl,q,_⟩;exact⟨hgr q,.inl ⟨v,rfl,(E5 z).symm⟩⟩
  |error u=>
   rw[O]at z
   have hu:u=.iface 263 (.agg #[.int .i64 n]):=by
    unfold Xd at z;split at z
    ·rename_i h;cases h
    ·rename_i t cs h;cases h;cases ht:(t==263)with
     |false=>rw[ht]at z;cases z
     |true=>
      rw[ht]at z;simp only[BZ]at z;obtain rfl:t=263:=by simpa using ht
      split at z
      ·rename_i m hcs;obtain rfl:=E5 z;rw[←sW (xs:=cs),hcs]
      cases z
    cases z
   refine(hr.2 u O ok [] [] I us hmc (by simpa using hl2) L).mono ?_;rintro e w2 ⟨Z,H2,rfl,q⟩;exact⟨hgr q,.inr (by rw[hu])⟩
 subst Y;refine(aiG (λvs w=>Ux M vs w) hcall).mono ?_;rintro e w' ⟨rfl,hg⟩;obtain⟨m1,_⟩:=hm.change (ok':=ok) (H':=[]) (es':=[]) (w':=w') (λ_=>False) hg.os hg.tape hg.output hg.size (λb U _=>hg.block b U BU) (λ_ h=>h.elim) (λ_ h=>h) (λ_ h=>.inl h) (.refl _) rfl (λk e h M=>by simp at M);exact⟨_,ok,[],rfl,m1,.d _ _ (.lit _)⟩
def aZx p q w:
 CallsD Aq 453 #[.pointer (some p),.pointer (some q)] .returning w λe j w'=>e=.returned (.tuple #[])/\j=.returning/\w'=w:=by
 refine a7G func453 rfl λu cs z=>?_;apply Qo;apply RV;simp[wpOpsS,go_sem,recoverD,z,Tryz.ntmps453,Exit.thenS];apply Qo;apply RV;simp[wpOpsS,go_sem,Exit.thenS];refine nO (t:=false) rH ?_;simp only[UW,Lc];refine wpS_of_wp (wp_skip ?_);cases u
 simp_all [bodyPostS,results,Tryz.results453]
def ahV b c ad n cap x w(Y:w.heap[b]? =some (.cells #[.slice ad n cap] 41 (0,0)))(Z:w.heap[c]? =some (.cells #[x] 41 (0,0))):
 CallsD Aq 453 #[.pointer (some ⟨b,0,none⟩),.pointer (some ⟨c,0,none⟩)] (.panicking [{ v:=.iface 378 (.agg #[]),recovered:=false }]) w λe u' w'=>
  e=.returned (.tuple #[])/\u'=.panicking [{ v:=.iface 378 (.agg #[]),recovered:=true }]/\w.grownBy w' (some c)/\w'.heap[c]? =some (.cells #[.slice ad n cap] 41 (0,0)):=by
 have q:∀(t0:Bz) (w:BQ),(Instr.typeAssert (.iface 378 (.agg #[])) t0 378 true).run Aq w=.ok (.tuple #[.agg #[],.bool true]) w:=λ_ _=>A8
 refine a7G func453 rfl λc₀ cs hu=>?_;apply Qo;apply RV;simp[wpOpsS,go_sem,recoverD,hu,Tryz.ntmps453,Exit.thenS];apply Qo;apply RV;simp[wpOpsS,go_sem,Exit.thenS];refine nO (t:=true) rH ?_;simp only[KT];apply Qo;apply Qo;apply RV;simp[wpOpsS,execOp,q,go_sem,Exit.thenS];apply Qo;apply RV;simp[wpOpsS,go_sem,Exit.thenS];refine nO (t:=false) rH ?_;simp only[UW,Lc];refine wpS_of_wp (wp_skip ?_);simp only[Exit.thenS];have u:b<w.heap.size:=(Ip.1 Y).1;have z:c<w.heap.size:=(Ip.1 Z).1;have I:(w.alloc (.cells #[] 378)).heap[b]? =some (.cells #[.slice ad n cap] 41 (0,0)):=(Lr _ _ _ u).trans Y;have j:(w.alloc (.cells #[] 378)).heap[c]? =some (.cells #[x] 41 (0,0)):=(Lr _ _ _ z).trans Z;have J:(w.alloc (.cells #[] 378)).cell? ⟨b,0,none⟩=some (.slice ad n cap):=by rw[World.cell?,I];rfl
 have L:(w.alloc (.cells #[] 378)).cell? ⟨c,0,none⟩=some x:=a1p
 have M:(w.alloc (.cells #[] 378)).frozen? ⟨c,0,none⟩=false:=by simp[World.frozen?,j]
 apply RV;simp[wpOpsS,go_sem,Exit.thenS,J,L,M,bodyPostS,results,Tryz.results453];rw[setCell_eq j];have O:c<(w.alloc (.cells #[] 378)).heap.size:=(Ip.1 j).1;refine⟨⟨rfl,rfl,rfl,BU,λi hi U=>?_⟩,YR O⟩;rw[ZF (λe=>U (by rw[e]))];exact Lr _ _ _ hi
def step_fin b v w(j:w.heap[b]? =some (.cells #[v] 41 (0,0)))tmps(q:tmps.getD 6 undef=.pointer (some ⟨b,0,none⟩)):(results Tryz.f438 tmps).run Aq w=.ok v w:=by
 have u:w.cell? ⟨b,0,none⟩=some v:=a1p
 have e:results Tryz.f438 tmps=(do let v ←loadVar 41 (←asAddr (tmps.getD 6 undef));pure v):=by simp[results,Tryz.results438]
 rw[e,q];simp[go_sem,u]
def aYn {l id}{Rv:BG->BQ->Prop}{bad}(I:Calls Aq 454 #[l,.slice ad n cap,id] ((w.alloc (.cells #[.slice ad n cap] 41 (0,0))).alloc (.cells #[.slice none 0 0] 41 (0,0))) λe j=>((w.alloc (.cells #[.slice ad n cap] 41 (0,0))).alloc (.cells #[.slice none 0 0] 41 (0,0))).grownBy j none/\((∃L n' q,e=.returned (.slice L n' q)/\Rv (.slice L n' q) j)\/(e=.panicked [{ v:=.iface 378 (.agg #[]),recovered:=false }]/\bad))):
 Calls Aq 438 #[l,.slice ad n cap,id] w λe w'=>w.grownBy w' none/\((∃v j,e=.returned v/\Rv v j/\w.grownBy j none/\w.heap.size+1<j.heap.size/\j.grownBy w' (some (w.heap.size+1)))\/(e=.returned (.slice ad n cap)/\bad)):=by
 have hmf:∀(fn:Fn) (first cap:Bh BG) (w:BQ),(Instr.makeFunc fn first cap).run Aq w=.ok (.func fn first cap) w:=λ_ _ _ _=>rfl;obtain⟨O,u⟩:∃O,O=(w.alloc (.cells #[.slice ad n cap] 41 (0,0))).alloc (.cells #[.slice none 0 0] 41 (0,0)):=⟨_,rfl⟩
 have hs1:O.heap.size=w.heap.size+2:=by rw[u];simp
 have Y:O.heap[w.heap.size]? =some (.cells #[.slice ad n cap] 41 (0,0)):=by rw[u];exact(Lr _ _ _ BU).trans (nN w _)
 have h1c:O.heap[w.heap.size+1]? =some (.cells #[.slice none 0 0] 41 (0,0)):=by
  have :=nN (w.alloc (.cells #[.slice ad n cap] 41 (0,0))) (.cells #[.slice none 0 0] 41 (0,0));rw[aIZ]at this;rw[u];exact this
 have J:w.grownBy O none:=by
  rw[u];exact⟨rfl,rfl,rfl,Ei,λi hi _=>(Lr _ _ _ Ei).trans (Lr _ _ _ hi)⟩
 have hcb:O.cell? ⟨w.heap.size,0,none⟩=some (.slice ad n cap):=by rw[World.cell?,Y];rfl
 rw[←u]at I
 go_enter_defers func438,Tryz.ntmps438
 apply wp_seq;apply kF;refine .inl ?_;simp[Oper.wp,go_sem,wpList,Exit.then];rw[←u];have he:∀(vs:Bh BG) (w:BQ),(callFunc 454 vs).run Aq w=.ok (.enter 454 vs) w:=λvs w=>Ux (P:=Aq) (f:=454) A8 vs w;refine .inl ?_;apply wp_seq;apply kF;refine .inl ?_;simp[Oper.wp,go_sem,hmf,wpList,Exit.then];refine .inl ?_;apply wp_seq;apply kF;refine .inl ?_;simp[Oper.wp,go_sem,wpList,Exit.then,hcb,he];refine .inl (.inl (.inl (I.mono ?_)));rintro e j ⟨U,h⟩;have hb:j.heap[w.heap.size]? =some (.cells #[.slice ad n cap] 41 (0,0)):=(U.block _ AB BU).trans Y;have Z:j.heap[w.heap.size+1]? =some (.cells #[.slice none 0 0] 41 (0,0)):=(U.block _ AB BU).trans h1c;have hcl:w.heap.size+1<j.heap.size:=(Ip.1 Z).1;have z:w.grownBy j none:=⟨U.os.trans J.os,U.tape.trans J.tape,U.output.trans J.output,EC J.size U.size,λi hi hn=>(U.block i AB hn).trans (J.block i hi hn)⟩
 have M:∀(w3:BQ),j.grownBy w3 (some (w.heap.size+1))->w.grownBy w3 none:=λw3 h3=>⟨h3.os.trans z.os,h3.tape.trans z.tape,h3.output.trans z.output,EC z.size h3.size,λi hi hn=>(h3.block i AB Ei).trans (z.block i hi hn)⟩
 rcases h with⟨L,n',q,rfl,hv⟩|⟨rfl,hbad⟩
 ·have hcc:j.cell? ⟨w.heap.size+1,0,none⟩=some (.slice none 0 0):=by rw[World.cell?,Z];rfl
  have hfz:j.frozen? ⟨w.heap.size+1,0,none⟩=false:=by simp[World.frozen?,Z]
  simp[hcc,hfz,go_sem,wpList,Exit.then];refine .inl (wp_ret ?_);rw[setCell_eq Z];refine leaves_cons (f:=453) (args:= #[.pointer (some ⟨w.heap.size,0,none⟩),.pointer (some ⟨w.heap.size+1,0,none⟩)]) BU a8r ?_;refine(aZx ⟨w.heap.size,0,none⟩ ⟨w.heap.size+1,0,none⟩ _).mono ?_;rintro e u' w'' ⟨rfl,rfl,rfl⟩;have h3:j.grownBy (j.putObj (w.heap.size+1) (.cells #[.slice L n' q] 41 (0,0))) (some (w.heap.size+1)):=⟨rfl,rfl,rfl,BU,λi hi hne=>ZF (λe=>hne (by rw[e]))⟩
  exact⟨.slice L n' q,step_fin (w.heap.size+1) _ _ (YR hcl) _ rfl,M _ h3,.inl ⟨_,rfl,j,hv,z,hcl,h3⟩⟩
 refine leaves_cons (f:=453) (args:= #[.pointer (some ⟨w.heap.size,0,none⟩),.pointer (some ⟨w.heap.size+1,0,none⟩)]) BU a8r ?_;refine(ahV w.heap.size (w.heap.size+1) ad n cap (.slice none 0 0) j hb Z).mono ?_;rintro e u' w'' ⟨rfl,rfl,h3,h4⟩;exact⟨.slice ad n cap,step_fin (w.heap.size+1) _ _ h4 _ rfl,M _ h3,.inr ⟨rfl,hbad⟩⟩
def a2f (s:T):Except BG T->AL T
 | .ok x=>some x
 | .error (.iface t (.agg cs))=>bif t==378&&cs.toList.isEmpty then some s else none
 | .error _=>none
def ac8 (enc:T->AA D)dl di s r(hr:RQ Aq 454 [.d dl,.d (.sl (enc s)),.d di] r (λx=>.d (.sl (enc x))))O(Z:a2f s r=some O):
 E8 438 [.d dl,.d (.sl (enc s)),.d di] [] (.d (.sl (enc O))) []:=by
 intro ok X H w I hm hs ha;obtain rfl:H=[]:=Hu hm.hlen;have hsz:I.size=3:=hs
 obtain⟨l,sv,id,rfl⟩:∃l sv id,I= #[l,sv,id]:=⟨I[0],I[1],I[2],by
  apply iF (by simp[hsz]);intro i h1 h2
  match i,h2 with
  |0,_=>rfl
  |1,_=>rfl
  |2,_=>rfl⟩
 have a0:R ok w [] (.d dl) l:=ha 0 BU;have a1:R ok w [] (.d (.sl (enc s))) sv:=ha 1 BU;have a2:R ok w [] (.d di) id:=ha 2 BU
 have slv:∀{ok:Nat->Prop} {w:BQ} {H:AA CP} {xs:AA D} {v:BG},R ok w H (.d (.sl xs)) v->∃ad n cap,v=.slice ad n cap:=λh=>by
  cases h with
  |d _ _ h=>cases h with
   |sl0 ad cap=>exact⟨_,_,_,rfl⟩
   |sl=>exact⟨_,_,_,rfl⟩
 obtain⟨ad,n,cap,rfl⟩:=slv a1;obtain⟨J,hw1⟩:∃J,J=(w.alloc (.cells #[.slice ad n cap] 41 (0,0))).alloc (.cells #[.slice none 0 0] 41 (0,0)):=⟨_,rfl⟩
 have hs1:J.heap.size=w.heap.size+2:=by rw[hw1];simp
 have hg1:FT ok w ok J:=λb z=>⟨z,by rw[hw1];exact(Lr _ _ _ (by have h:=hm.lQ b z;rw[aIZ];omega)).trans (Lr _ _ _ (hm.lQ b z))⟩
 have hmc:Dz ⟨J,ok,[],[]⟩ ok [] [] J:=
  ⟨.refl _ _,λ_ h=>h,λ_ h=>.inl h,λb z=>by have h:=hm.lQ b z;rw[hs1];omega,.refl _,rfl,λk e h he=>by simp at he,λk e h b he=>by simp at he,λk k' e e' h h' b he=>by simp at he⟩
 have U:∀i,i<3->R ok J [] ([Ai.d dl,.d (.sl (enc s)),.d di].getD i .junk) ((#[l,.slice ad n cap,id]:Bh BG).getD i undef):=λi hi=>by
  match i,hi with
  |0,_=>exact a0.mono hg1 (.refl _)
  |1,_=>exact a1.mono hg1 (.refl _)
  |2,_=>exact a2.mono hg1 (.refl _)
 have hgr:∀{j:Nat->Prop} {H2:AA CP} {M:BQ},Dz ⟨J,ok,[],[]⟩ j H2 [] M->J.grownBy M none:=λq=>⟨q.fr.os,q.fr.tape,q.fr.output,q.fr.size,λb z _=>q.fr.block b z BU⟩
 have Y:Calls Aq 454 #[l,.slice ad n cap,id] J λe M=>J.grownBy M none/\((∃ad' n' L,e=.returned (.slice ad' n' L)/\∃x j,r=.ok x/\Dz ⟨J,ok,[],[]⟩ j [] [] M/\EL j M (.sl (enc x)) (.slice ad' n' L))\/(e=.panicked [{ v:=.iface 378 (.agg #[]),recovered:=false }]/\O=s)):=by
  cases hrr:r with
  |ok x=>
   refine(hr.1 x hrr ok [] [] J _ hmc rfl U).mono ?_;rintro e M ⟨v,j,H2,rfl,q,hR⟩;obtain⟨ad',n',L,rfl⟩:=slv hR;obtain rfl:H2=[]:=Hu q.hlen;exact⟨hgr q,.inl ⟨ad',n',L,rfl,x,j,rfl,q,by cases hR with |d _ _ h=>exact h⟩⟩
  |error u=>
   rw[hrr]at Z
   have hu:u=.iface 378 (.agg #[])/\O=s:=by
    unfold a2f at Z;split at Z
    ·rename_i h;cases h
    ·rename_i t cs h;cases h;cases ht:(t==378&&cs.toList.isEmpty)with
     |false=>rw[ht]at Z;cases Z
     |true=>
      rw[ht]at Z;simp only[Di]at ht;obtain rfl:t=378:=by simpa using ht.1
      have :cs= #[]:=by rw[←sW (xs:=cs),List.isEmpty_iff.1 ht.2]
      subst this;exact⟨rfl,(E5 Z).symm⟩
    cases Z
   refine(hr.2 u hrr ok [] [] J _ hmc rfl U).mono ?_;rintro e M ⟨j,H2,rfl,q⟩;exact⟨hgr q,.inr ⟨by rw[hu.1],hu.2⟩⟩
 rw[hw1]at Y;refine(aYn Y (Rv:=λv M=>∃x j,r=.ok x/\Dz ⟨_,ok,[],[]⟩ j [] [] M/\EL j M (.sl (enc x)) v) (bad:=O=s)).mono ?_;rw[←hw1];rintro e w' ⟨hg,h⟩
 have mk:∀(j:Nat->Prop),(∀b,ok b->j b)->(∀b,j b->ok b\/(w.heap.size<=b/\b<w'.heap.size))->Dz ⟨w,ok,X,[]⟩ j [] [] w':=λj h1 h2=>
  (hm.change (ok':=j) (H':=[]) (es':=[]) (w':=w') (λ_=>False) hg.os hg.tape hg.output hg.size (λb z _=>hg.block b z BU) (λ_ h=>h.elim) h1 h2 (.refl _) rfl (λk e h he=>by simp at he)).1
 rcases h with⟨v,M,rfl,⟨x,j,hx,q,hD⟩,hg2,hlt,h3⟩|⟨rfl,rfl⟩
 ·rw[hx]at Z;obtain rfl:=E5 Z
  have hgg:FT j M j w':=λb z=>⟨z,h3.block b (q.lQ b z) (λe=>by
   obtain rfl:=E5 e;rcases q.Dt _ z with h|h|h
   ·have :=hm.lQ _ h;omega
   ·simp only at h;omega
   simp at h)⟩
  refine⟨v,j,[],rfl,mk j q.Dq (λb z=>?_),.d _ _ (hD.mono hgg)⟩;rcases q.Dt b z with h|h|h
  ·exact .inl h
  ·simp only at h;exact .inr ⟨AB,YT (q.lQ b z) h3.size⟩
  simp at h
 have hgg:FT ok w ok w':=λb z=>⟨z,hg.block b (hm.lQ b z) BU⟩
 exact⟨_,ok,[],rfl,mk ok (λ_ h=>h) (λ_ h=>.inl h),a1.mono hgg (.refl _)⟩
end Go.Proofs.YtfmoknlmaldmlaaGreat
namespace Go.Proofs
open Go.Proofs.YtfmoknlmaldmlaaGreat
open Go.Shelf
def Tryz.abY:Go.Shelf.Ren:=⟨λ|6=>483|15=>267|14=>487|28=>339|29=>340|20=>488|21=>489|22=>490|23=>491|24=>492|25=>493|26=>494|27=>495|46=>496|47=>408|48=>409|49=>497|50=>498|57=>499|n=>n,λ|22=>413|24=>415|25=>417|3=>3|39=>203|0=>0|53=>306|55=>202|4=>4|46=>300|45=>299|50=>150|5=>5|9=>9|66=>350|70=>354|76=>367|77=>368|n=>n,λ|n=>n⟩
def Tryz.awZ:SlLaysF0.n6 Aq Tryz.abY:={
 mixed:=A8
 f6:=⟨Tryz.f483.name,Bl,Tryz.func483.trans (BF some A8)⟩
 f14:=⟨Tryz.f487.name,Bl,Tryz.func487.trans (BF some A8)⟩
 f15:=Tryz.func267.trans (BF some A8)
 f20:=⟨Tryz.f488.name,Bl,Tryz.func488.trans (BF some A8)⟩
 f21:=⟨Tryz.f489.name,Bl,Tryz.func489.trans (BF some A8)⟩
 f22:=⟨Tryz.f490.name,Bl,Tryz.func490.trans (BF some A8)⟩
 f23:=⟨Tryz.f491.name,Bl,Tryz.func491.trans (BF some A8)⟩
 f24:=⟨Tryz.f492.name,Bl,Tryz.func492.trans (BF some A8)⟩
 f25:=⟨Tryz.f493.name,Bl,Tryz.func493.trans (BF some A8)⟩
 f26:=⟨Tryz.f494.name,Bl,Tryz.func494.trans (BF some A8)⟩
 f27:=⟨Tryz.f495.name,Bl,Tryz.func495.trans (BF some A8)⟩
 f28:=Tryz.func339.trans (BF some A8)
 f29:=Tryz.func340.trans (BF some A8)
 f46:=⟨Tryz.f496.name,Bl,Tryz.func496.trans (BF some A8)⟩
 f47:=Tryz.func408.trans (BF some A8)
 f48:=Tryz.func409.trans (BF some A8)
 f49:=⟨Tryz.f497.name,Bl,Tryz.func497.trans (BF some A8)⟩
 f50:=⟨Tryz.f498.name,Bl,Tryz.func498.trans (BF some A8)⟩
 f57:=⟨Tryz.f499.name,Bl,Tryz.func499.trans (BF some A8)⟩
 t0:=Tryz.underlying0
 a0:=Tryz.isAgg0
 z0:=Tryz.sizeOf0
 v0:=Tryz.zeroValue0
 t3:=Iw
 a3:=SPr
 z3:=uO
 v3:=wU
 t4:=Zp
 a4:=Tryz.isAgg4
 z4:=Tryz.sizeOf4
 v4:=a2l
 t5:=a8u
 a5:=Tryz.isAgg5
 z5:=Tryz.sizeOf5
 v5:=a3Z
 t9:=Ol
 a9:=Tryz.isAgg9
 z9:=Tryz.sizeOf9
 v9:=a2L
 t22:=Tryz.underlying413
 a22:=Tryz.isAgg413
 z22:=Tryz.sizeOf413
 v22:=Tryz.zeroValue413
 t25:=Tryz.underlying417
 a25:=Tryz.isAgg417
 z25:=Tryz.sizeOf417
 v25:=Tryz.zeroValue417
 t39:=Tryz.underlying203
 a39:=Tryz.isAgg203
 z39:=Tryz.sizeOf203
 v39:=Tryz.zeroValue203
 t45:=Tryz.underlying299
 a45:=Tryz.isAgg299
 z45:=Tryz.sizeOf299
 v45:=Tryz.zeroValue299
 t46:=Tryz.underlying300
 a46:=Tryz.isAgg300
 z46:=Tryz.sizeOf300
 v46:=Tryz.zeroValue300
 t50:=Tryz.underlying150
 a50:=Tryz.isAgg150
 z50:=Tryz.sizeOf150
 v50:=Tryz.zeroValue150
 t53:=Tryz.underlying306
 a53:=Tryz.isAgg306
 z53:=Tryz.sizeOf306
 v53:=Tryz.zeroValue306
 t55:=Tryz.underlying202
 a55:=Tryz.isAgg202
 z55:=Tryz.sizeOf202
 v55:=Tryz.zeroValue202
 t66:=Tryz.underlying350
 a66:=Tryz.isAgg350
 z66:=Tryz.sizeOf350
 v66:=Tryz.zeroValue350
 t70:=Tryz.underlying354
 a70:=Tryz.isAgg354
 z70:=Tryz.sizeOf354
 v70:=Tryz.zeroValue354
 t76:=Tryz.underlying367
 a76:=Tryz.isAgg367
 z76:=Tryz.sizeOf367
 v76:=Tryz.zeroValue367
 t77:=Tryz.underlying368
 a77:=Tryz.isAgg368
 z77:=Tryz.sizeOf368
 v77:=Tryz.zeroValue368 }
end Go.Proofs
namespace Go.Proofs.YtfmoknlmaldmlaaGreat
open Go.Proofs.Tryz
variable {H:AA CP}{P:Ce}{T:Bz}{k:Nat}{ok:Nat->Prop}{w:BQ}
section
open Go.RowKit Go.Sort
section
variable {α:Type}
def kP (le:α->α->AY)(x:α):AA α->AA α
 | []=>[x]
 |y::l=>bif le x y then x::y::l else y::kP le x l
def SA (le:α->α->AY)(l:AA α):AA α:=l.foldr (kP le) []
def aH0 le(x:α):∀l,(kP le x l).Perm (x::l)
 | []=>.refl _
 |y::l=>by
  unfold kP;cases h:le x y with
  |true=>exact .refl _
  |false=>exact((aH0 le x l).cons y).trans (.swap x y l)
def jg (le:α->α->AY):∀l,(SA le l).Perm l
 | []=>.refl _
 |x::l=>(aH0 le x (SA le l)).trans ((jg le l).cons x)
def aOT {le}(u:∀x y z,le x y=true->le y z=true->le x z=true)(I:∀x y,le x y=false->le y x=true)(x:α):∀l,l.Pairwise (λa b=>le a b=true)->(kP le x l).Pairwise (λa b=>le a b=true)
 | [],_=>by simp[kP]
 |y::l,h=>by
  have h':=QZ.1 h;unfold kP;cases q:le x y with
  |true=>
   refine QZ.2 ⟨λz j=>?_,h⟩;rcases FP.1 j with rfl|j
   ·exact q
   exact u x y z q (h'.1 z j)
  |false=>
   refine QZ.2 ⟨λz j=>?_,aOT u I x l h'.2⟩;rcases FP.1 ((aH0 le x l).mem_iff.1 j)with rfl|j
   ·exact I _ _ q
   exact h'.1 z j
def aQq {le}(j:∀x y z,le x y=true->le y z=true->le x z=true)(q:∀x y,le x y=false->le y x=true):∀l:AA α,(SA le l).Pairwise (λa b=>le a b=true)
 | []=>.nil
 |x::l=>aOT j q x _ (aQq j q l)
def aNl {le}(j:∀x y z,le x y=true->le y z=true->le x z=true)(q:∀x y,le x y=false->le y x=true)(ha:∀x y,le x y=true->le y x=true->x=y){l m:AA α}(hp:m.Perm l)(hs:m.Pairwise (λa b=>le a b=true)):m=SA le l:=
 (hp.trans (jg le l).symm).eq_of_pairwise (λa b _ _ h1 h2=>ha a b h1 h2) hs (aQq j q l)
def aGE {e}{enc}(j:∀x,(e x).cells=(enc x).map .lit):∀l:AA α,flat (l.map e)=(l.flatMap enc).map λv=>.d (.lit v)
 | []=>rfl
 |x::l=>by rw[Gz,YS,aGE j l,j,Oj,JY,fV];rfl
def a7R {enc:α->AA BG}{k}(j:∀x,(enc x).length=k):∀l:AA α,(l.flatMap enc).length=l.length*k
 | []=>BU
 |x::l=>by rw[Oj,Ef,j,a7R j l,Gh,jW,a3z,Vy]
def aPe {e}{enc}(q:∀x,(e x).cells=(enc x).map .lit)(J:∀x,(enc x).length=k)(h1:∀x,∀v∈enc x,v.oneCell'=true){h}{l:AA α}:
 Fp ok w H h (.arr T k (l.map e))↔h.size=k/\nM w T k h.v l.length (l.flatMap enc):=by
 have hl:=a7R J l;constructor
 ·rintro⟨u,_,xs,h3,z,L⟩;refine⟨u,?_⟩;rw[DY]at h3
  have :xs=l.flatMap enc:=by
   rw[aGE q]at z L;rw[DY]at z;refine Y4 z λi hi M=>?_;have O:=(L i (by simpa using M)).2;simp only[List.getD,Le,ES M,Kr,OO,ES hi]at O;cases O with |d _ _ h=>rw[EL.TR h]
  rw[←this];exact h3
 rintro⟨u,h3⟩;refine⟨u,λx I=>?_,l.flatMap enc,by rw[DY];exact h3,?_⟩
 ·obtain⟨n,_,rfl⟩:=FB.1 I;rw[q,DY,J]
 rw[aGE q];refine⟨BU,λi hi=>?_⟩;have j:i<(l.flatMap enc).length:=IZ
 simp only[List.getD,Le,ES j,Kr,OO];refine⟨?_,.d _ _ (.lit _)⟩;obtain⟨x,_,I⟩:=WL.1 (EU j);exact h1 x _ I
def aCw {j}(hs:j.size=2):j= #[j.getD 0 undef,j.getD 1 undef]:=by
 refine iF (by simp[hs]) λi h1 h2=>?_;simp at h2;have :i=0\/i=1:=AB
 rcases this with rfl|rfl<;>simp[Array.getD,hs]
def Ej.aF8 {f g}{e}{enc}(M:∀x,(e x).cells=(enc x).map .lit)(hk:∀x,(enc x).length=k)(h1:∀x,∀v∈enc x,v.oneCell'=true){l r:AA α}(h:∀(v:BG) (w:BQ),nM w T k v l.length (l.flatMap enc)->Calls P f #[v,.func (.func g) #[] #[]] w λx w'=>x=.returned (.tuple #[])/\nM w' T k v r.length (r.flatMap enc)/\Turns v w w'):
 Ej P f [.aS 0,.d (.fn (.func g) [] [])] [.arr T k (l.map e)] (.eP []) [.arr T k (r.map e)]:=by
 intro ok X H w I hm hs ha;have h0:=ha 0 BU;have O:=ha 1 BU;rw[aCw hs];obtain⟨hd,hh,hok⟩:=Hr hm.ent hm.hlen (k:=0) rfl;obtain hv:=RJ h0 hh
 have hf:I.getD 1 undef=.func (.func g) #[] #[]:=by
  simp only[List.getD,lW,gQ,OO]at O;generalize I.getD 1 undef=u at O;cases O with
  |d _ _ O=>
   cases O with
   |fn _ _ _ vs us hl hm'=>
    have e1:vs= #[]:=rY Ny;have e2:us= #[]:=rY (by simpa using hm');rw[e1,e2]
 rw[hv,hf];obtain⟨hz,how⟩:=(aPe M hk h1).1 hok;refine(h hd.v w how).mono ?_;rintro x w' ⟨rfl,U,L⟩;have z:=λb Y=>hm.blk 0 _ hd b rfl rfl hh Y
 have hg:=hm.change (ok':=ok) (H':=H) (w':=w') (es':=[.arr T k (r.map e)]) (λc=>EF hd.v=some c) L.os L.tape L.output L.size L.block (λc M _=>⟨(z c M).1,(z c M).2.2⟩) (λ_ h=>h) (λ_ h=>.inl h) (.refl _) hm.hlen (by
  intro j e' h' q Z
  match j,q with
  |0,q=>
   simp at q;subst q;rw[hh]at Z;obtain rfl:=E5 Z;refine .inr ⟨(aPe M hk h1).2 ⟨hz,U⟩,λ_ b Y=>⟨(z b Y).1,YT (z b Y).2.1 L.size,(z b Y).2.2,λk' e'' h'' hne J=>?_⟩⟩
   match k',J with
   |0,_=>exact absurd rfl hne
   |k'+1,J=>simp at J
  |k+1,q=>simp at q)
 exact⟨_,ok,H,rfl,hg.1,.eP [] #[] rfl (λi hi=>Tm)⟩
end
section
variable {α:Type} [Inhabited α]
def aMX {enc}(q:∀x,(enc x).length=k)(l:AA α):(flatK enc k l.toArray).toList=l.flatMap enc:=by
 have key:∀(l:AA α) (t:Nat),t<l.length*k->(enc (l[t/k]?.getD default))[t % k]? =(l.flatMap enc)[t]? :=by
  intro l
  induction l with
  |nil=>intro t j;simp at j
  |cons x l z=>
   intro t j;rw[Gh,jW,a3z]at j;rw[Oj];by_cases h:t<k
   ·rw[Nat.div_eq_of_lt h,Nat.mod_eq_of_lt h,KH (by rw[q];exact h)];rfl
   have h':k<=t:=X8 h;rcases V8 k with u|u
   ·subst u;simp at j
   have I:t/k=(t-k)/k+1:=Nat.div_eq_sub_div u h';rw[I,Nat.mod_eq_sub_mod h',Qg (by rw[q];exact h'),q,←z (t-k) AB,lW]
 refine Y4 (by simp[a7R q]) λt h1 h2=>?_;have j:t<l.length*k:=V9
 have :=key l t j;rw[ES h2]at this;have h3:=get_flatK enc k l.toArray t Vj;rw[a6Y _ _ Vj]at h3;rw[Array.getElem_toList,h3];have J:(l.toArray)[t/k]! =l[t/k]?.getD default:=BU
 rw[J];simp[List.getElem!_eq_getElem?_getD,this]
end
def VK (a b:Int):Int:=if a<b then -1 else if a>b then 1 else 0
def Yr (p q:Int×Int×Int):Int:=if p.2.1=q.2.1 then(if p.2.2=q.2.2 then VK p.1 q.1 else VK p.2.2 q.2.2)else VK q.2.1 p.2.1
def aBa a b:VK a b<0↔a<b:=by
 unfold VK;split
 ·omega
 split<;>omega
def abz p q:Yr p q<0↔q.2.1<p.2.1\/p.2.1=q.2.1/\(p.2.2<q.2.2\/p.2.2=q.2.2/\p.1<q.1):=by
 unfold Yr;split
 ·split
  ·rw[aBa];omega
  rw[aBa];omega
 rw[aBa];omega
def aew a b W:Calls Aq 485 #[.int .i64 a,.int .i64 b] W λe w'=>e=.returned (.int .i64 (VK a b))/\w'=W:=by
 unfold VK
 go_enter func485,Tryz.ntmps485
 go_wp2
 all_goals (go_ret;exact⟨rfl,rfl⟩)
set_option maxHeartbeats 1000000 in
def afP (r p1 p2 p3 q1 q2 q3:Int)(hr:r=if p2=q2 then(if p3=q3 then VK p1 q1 else VK p3 q3)else VK q2 p2)(W:BQ):Calls Aq 484 #[.agg #[.int .i64 p1,.int .i64 p2,.int .i64 p3],.agg #[.int .i64 q1,.int .i64 q2,.int .i64 q3]] W λe w'=>e=.returned (.int .i64 r)/\∃q u,w'=grow (W.drewN q) u:=by
 have j:=aew;generalize VK=c at j hr;have z:p2≠q2->c q2 p2=r:=λh=>by rw[hr,Ee h]
 have I:p2=q2->p3≠q3->c p3 q3=r:=λh k=>by rw[hr,ET h,Ee k]
 have J:p2=q2->p3=q3->c p1 q1=r:=λh k=>by rw[hr,ET h,ET k]
 clear hr
 go_enter func484,Tryz.ntmps484
 go_wp2_with (go_at_call 485;refine(j _ _ _).mono ?_;rintro e w' ⟨rfl,rfl⟩)
 all_goals go_ret
 ·rename_i h;rw[z Oa];exact⟨rfl,0,_,aCy⟩
 ·rename_i h k;rw[I Oa (by simpa using k)];exact⟨rfl,0,_,aCy⟩
 rename_i h k;rw[J Oa (by simpa using k)];exact⟨rfl,0,_,aCy⟩
def N9 (p q:Int×Int×Int):AY:= !decide (Yr q p<0)
def a06 p q:N9 p q=true↔¬(p.2.1<q.2.1\/q.2.1=p.2.1/\(q.2.2<p.2.2\/q.2.2=p.2.2/\q.1<p.1)):=by
 unfold N9;rw[Vx,sO,abz]
def aHi x y z(h:N9 x y=true)(k:N9 y z=true):N9 x z=true:=by
 rw[a06]at *;omega
def aVk x y(h:N9 x y=false):N9 y x=true:=by
 have h:¬N9 x y=true:=by rw[h];decide
 rw[a06]at *;omega
def aSp x y(h:N9 x y=true)(k:N9 y x=true):x=y:=by
 rw[a06]at *;obtain⟨j,q,u⟩:=x;obtain⟨z,I,J⟩:=y;simp only[WB]at *;omega
def aSj p q:N9 p q=false↔(p.2.1<q.2.1\/q.2.1=p.2.1/\(q.2.2<p.2.2\/q.2.2=p.2.2/\q.1<p.1)):=by
 rw[←bV,a06,Decidable.not_not]
def aaF x y z(h:N9 y x=false)(k:N9 z y=false):N9 z x=false:=by
 rw[aSj]at *;omega
section
variable {α:Type}
def a3y (f:α->Int×Int×Int)(l:AA α):AL (AA α):=if l.length<=1099511627776 then some (SA (λx y=>N9 (f x) (f y)) l)else none
def Qm (f:α->Int×Int×Int)(x:α):AA BG:=[.int .i64 (f x).1,.int .i64 (f x).2.1,.int .i64 (f x).2.2]
def aiW f(x:α):(Qm f x).length=3:=rfl
def aPB f(x:α):∀v∈Qm f x,v.oneCell'=true:=λv j=>by
 simp[Qm]at j;rcases j with rfl|rfl|rfl<;>rfl
def a7n (f:α->Int×Int×Int)x y:ltOf (λx y=>Yr (f x) (f y)) x y= !N9 (f y) (f x):=by simp[ltOf,N9]
def amK (f:α->Int×Int×Int):SWO (ltOf λx y:α=>Yr (f x) (f y)):=by
 refine⟨λx=>?_,λx y z h k=>?_,λx y z h k=>?_⟩
 ·rw[a7n,(a06 (f x) (f x)).2 AB];rfl
 ·rw[a7n,Vx]at *;exact aaF _ _ _ h k
 rw[a7n,Bool.not_eq_false']at *;exact aHi _ _ _ k h
variable [Inhabited α]
def agx (f:α->Int×Int×Int)blk off size w:CmpLays Aq 484 #[] (Qm f) 3 (λx y=>Yr (f x) (f y)) blk off size w:=
 λm os j _ x y=>afP (Yr (f x) (f y)) (f x).1 (f x).2.1 (f x).2.2 (f y).1 (f y).2.1 (f y).2.2 rfl (sortWorldK (Qm f) 3 w blk off m j os)
set_option maxHeartbeats 2000000 in
def aw4 (f:α->Int×Int×Int)(hf:∀x y,f x=f y->x=y)(e:α->D)(he:∀x,e x=.agg [Ad (f x).1,Ad (f x).2.1,Ad (f x).2.2])(l r:AA α)(h:a3y f l=some r):
 E8 483 [.aS 0,.d (.fn (.func 484) [] [])] [.arr 415 3 (l.map e)] (.eP []) [.arr 415 3 (r.map e)]:=by
 unfold a3y at h;split at h
 ·rename_i hn;obtain rfl:=E5 h;have Y:=aiW f;refine Ej.aF8 (enc:=Qm f) (λx=>by rw[he];rfl) Y (aPB f) λv w how=>?_;generalize hr:SA (λx y=>N9 (f x) (f y)) l=r;have I:r.length=l.length:=by rw[←hr];exact(jg _ l).length_eq
  rcases how.2 with⟨rfl,h0⟩|⟨g,cap,J,rfl,hbase,hg,hnc,hcm,hcs,L⟩
  ·have hl:l=[]:=Hu h0;have hl':r=[]:=Hu (by rw[I,h0]);subst hl;subst hl';refine(AnyF.slices_SortFunc_none (P:=Aq) (ρ:=Tryz.abY) { Tryz.awZ with } none 0 _ w).mono ?_;rintro e w' ⟨rfl,h⟩;subst h;exact⟨rfl,nM.nil _ _ _,Turns.refl _ _⟩
  have Z:g<w.heap.size:=(Ip.1 hg).1;have q:=aMX (enc:=Qm f) Y l
  have hH:HoldsK (Qm f) 3 w g 0 l.toArray:=by
   unfold HoldsK;have M:(flatK (Qm f) 3 l.toArray).size=l.length*3:=BU
   generalize flatK (Qm f) 3 l.toArray=F at q M;intro j O;refine⟨?_,by simp[World.frozen?,hg]⟩;have e0:(J.toList.take (l.length*3))[j]? =(l.flatMap (Qm f))[j]? :=by rw[L]
   rw[U4 AB,←q]at e0;simp only[World.cell?,hg,LC];simp only[Option.isSome_none,UW,Lc];rw[←zk,e0,zk,a6Y F j O,rQ O];rfl
  have eg:∀args w,(callFunc 484 args).run Aq w=.ok (.enter 484 args) w:=enters_of func484 A8 rfl;have :=AnyQ.slices_SortFunc (P:=Aq) (ρ:=Tryz.abY) Tryz.awZ 3 Tryz.isAgg415 Tryz.sizeOf415 (Qm f) Y (aPB f) (λx y=>Yr (f x) (f y)) (amK f) 484 #[] g 0 cap l.toArray w eg (agx f _ _ _ _) hH Z Ei;refine this.mono ?_;rintro e' w' ⟨rfl,U,n,os,hp,hs,rfl⟩;obtain⟨hsz,_,u⟩:=hp;have hsz':U.size=l.length:=by simpa using hsz
  have e1:U.extract 0 l.toArray.size=U:=by rw[←hsz];exact Array.extract_size
  rw[e1,Array.extract_size]at u
  have hm:U.toList=r:=by
   rw[←hr];refine aNl (le:=λx y=>N9 (f x) (f y)) (λx y z=>aHi (f x) (f y) (f z)) (λx y=>aVk (f x) (f y)) (λx y h k=>hf _ _ (aSp (f x) (f y) h k)) u ?_;refine JU.2 λi j hi O hij=>?_;have :=hs i j (FQ _) hij (by simpa[hsz']using O);rw[a7n,a6Y U i IZ,a6Y U j dB]at this;simpa using this
  obtain rfl:U=r.toArray:=by rw[←hm]
  have hF:=aMX (enc:=Qm f) Y r;have M:(flatK (Qm f) 3 r.toArray).size=l.length*3:=by simp[I]
  generalize hFF:flatK (Qm f) 3 r.toArray=F at hF M;refine⟨rfl,⟨by rw[a7R Y],.inr ⟨g,cap,putCells id 0 F J,by rw[I],FQ _,?_,AB,hcm,by simpa[putCells]using hcs,?_⟩⟩,⟨rfl,rfl,rfl,by simp[sortWorldK,putRowK],λc hc hne=>?_⟩⟩
  ·unfold sortWorldK putRowK;rw[hFF,heap_grow_old _ _ (by simpa using Z)];simp[putRow,mapBlock,Sort.ahead,ZR,hg,onCells]
  ·rw[←hF,I];apply rO;intro j;by_cases O:j<l.length*3
   ·have hjc:j<J.size:=by have :=Lu 3 hnc;omega
    rw[U4 O,zk,zk];have hjF:j<F.size:=AB
    simp[putCells,hjF,hjc]
   rw[List.getElem?_take_eq_none AB,Oe Ei]
  unfold sortWorldK putRowK;rw[heap_grow_old _ _ (by simpa using hc)];have :g≠c:=λe=>hne wH;simp[putRow,mapBlock,Sort.ahead,ZR,this]
 cases h
end
end
variable {C:FK}{es:AA BX}{hd:CP}
def Dz.freeze (hm:Dz C ok H es w){e}(hk:es[k]? =some e)(hl:e.live=true)(M:H[k]? =some hd):Dz C (λb=>ok b\/EF hd.v=some b) H (es.set k .dead) w:=by
 have z:k<es.length:=(I9.1 hk).1;have hblk:=λb q=>hm.blk k _ hd b hk hl M q;have hg:FT ok w (λb=>ok b\/EF hd.v=some b) w:=λb q=>⟨.inl q,rfl⟩
 refine⟨hm.fr,λb q=>.inl (hm.Dq b q),?_,?_,hm.names,jB,?_,?_,?_⟩
 ·rintro b (q|q)
  ·exact hm.Dt b q
  grind
 ·rintro b (q|q)
  ·exact hm.lQ b q
  grind
 ·intro j e' h' he I;rcases OB z he with⟨rfl,rfl⟩|⟨_,J⟩
  ·trivial
  exact(hm.ent j e' h' J I).mono hg (.refl _) (λ_ _ _=>rfl)
 ·intro j e' h' b he L I q;rcases OB z he with⟨rfl,rfl⟩|⟨hne,J⟩
  ·cases L
  have h3:=hm.blk j e' h' b J L I q;refine⟨λu=>?_,h3.2⟩;rcases u with u|u
  ·exact h3.1 u
  exact hne (hm.J6 j k e' _ h' hd b J hk L hl I M q u)
 intro i j e1 e2 h1 h2 b he1 he2 O U hh1 hh2 hb1 hb2;rcases OB z he1 with⟨rfl,rfl⟩|⟨_,Y⟩
 ·cases O
 rcases OB z he2 with⟨rfl,rfl⟩|⟨_,Z⟩
 ·cases U
 exact hm.J6 i j e1 e2 h1 h2 b Y Z O U hh1 hh2 hb1 hb2
variable {K V:Type}{J L t:Bz}{clock i n:Nat}{ms:Bh MapEntry}{o:Oper}{x:C9}
def aQC {m}(ht:P.underlying t=some (.map J L))(M:es[k]? =some (.map m))(ho:o.op=.range t x:=by exact rfl):CG P o [(x,.mp k)] es (.ptr es.length 0) (es.set k .dead++[.iter m []]):=
 .eff λC ok H a w hm hn=>by
  obtain⟨hd,O,u⟩:=Hr hm.ent hm.hlen M;obtain⟨b,ms,clock,h1,h2,h3⟩:=u;have U:=TV (hn (x,.mp k) BU) O;simp only at U;have hb:b<w.heap.size:=(Ip.1 h2).1;have Y:=hm.freeze M rfl O;have Z:FT ok w (λc=>ok c\/EF hd.v=some c) w:=λc q=>⟨.inl q,rfl⟩
  have z:EF hd.v=some b:=yt
  have g1:FT (λc=>ok c\/EF hd.v=some c) w (λc=>ok c\/EF hd.v=some c) (w.alloc (.mapIter (some b) clock #[] clock)):=λc q=>⟨q,Lr _ _ _ (Y.lQ c q)⟩
  have I:Fp (λc=>ok c\/EF hd.v=some c) (w.alloc (.mapIter (some b) clock #[] clock)) (H++[⟨.pointer (some ⟨w.heap.size,0,none⟩),0⟩]) ⟨.pointer (some ⟨w.heap.size,0,none⟩),0⟩ (.iter m []):=
   ⟨w.heap.size,b,ms,clock, #[],rfl,nN _ _,.inr z,(Lr _ _ _ hb).trans h2,(h3.mono Z).mono g1,rfl,λj i hj=>by simp at hj⟩
  obtain⟨m1,g2⟩:=Y.push (.mapIter (some b) clock #[] clock) ⟨.pointer (some ⟨w.heap.size,0,none⟩),0⟩ _ (aAU w) I;refine⟨.pointer (some ⟨w.heap.size,0,none⟩),_,_,_,.inl ?_,Z.trans g2,IK _ _,m1,.ptr _ _ w.heap.size 0 Ql⟩;have hr:=run_range_map (P:=P) w t J L b ms clock ht h2;simp[execOp,ho,U,h1,hr]
def born_inj {es}(h:LJ ok w es ms clock){j}{m n}(hi:ms[i]? =some m)(q:ms[j]? =some n)(u:m.born=n.born):i=j:=by
 rcases a0m i j with h1|h1|h1
 ·have :=h.inc i j m n h1 hi q;omega
 ·exact h1
 have :=h.inc j i n m h1 q hi;omega
def akh {es}(h:LJ ok w es ms clock):(ms.toList.map (·.born)).Nodup:=by
 unfold List.Nodup;rw[JU];intro i j hi q u;simp only[DY,VD]at hi q;have z:ms[i]? =some ms[i]:=X7
 have I:ms[j]? =some ms[j]:=by simp[q]
 simp only[P9,Array.getElem_toList];intro e;have :=born_inj h z I e;omega
def aND {ek}{ev}{m:AA (K×V)}{vis}{p}(hp:m[i]? =some p)(Y:es[n]? =some (.iter (m.map (CS ek ev)) (vis++[i])))(Z:o.op=.entry x:=by exact rfl):
 CG P o [(x,.ptr n 0)] es (.eP [.d (.lit (ek p.1)),.d (ev p.2)]) es:=
 .pure λok H a w u hl hn=>by
  obtain⟨hd,hh,I⟩:=Hr u hl Y;obtain⟨bi,M,ms,clock,seen,h1,h2,h3,h4,O,h6,h7⟩:=I;have J:=hn (x,.ptr n 0) BU;simp only at J;generalize hv:a.eval x=v at J;cases J with
  |ptr _ _ b' s U=>
   rw[hh]at U;obtain rfl:=E5 U;simp only[Value.pointer.injEq,OX,Addr.mk.injEq]at h1;obtain⟨rfl,_⟩:=h1;obtain⟨e,q1,q2⟩:=h7 vis.length i BU;have L:(m.map (CS ek ev))[i]? =some (CS ek ev p):=by rw[Le,hp];rfl
   obtain⟨r1,r2,_⟩:=O.ent i _ e L q1;refine⟨.tuple #[e.key,e.val],?_,.eP _ _ rfl λj hj=>?_⟩
   ·have q:seen.back?=some e.born:=by
     grind
    have z:e∈ms.toList:=by
     grind
    have hf:ms.find? (·.born==e.born)=some e:=by rw[←Array.find?_toList];exact find_born e ms.toList (akh O) z
    have g1:(getObj b').run P w=.ok (.mapIter (some M) clock seen clock) w:=by simp[getObj,Sem.run,h2]
    have g2:(getObj M).run P w=.ok (.map ms clock) w:=Qy h4;simp[execOp,Z,hv,Instr.entry,g1,g2,q,hf]
   match j,hj with
   |0,_=>
    rw[show([Ai.d (.lit (ek p.1)),.d (ev p.2)]:AA Ai).getD 0 .junk=.d (.lit (ek p.1))from rfl,show(#[e.key,e.val]:Bh BG).getD 0 undef=e.key from rfl,r1];exact .d _ _ (.lit _)
   |1,_=>
    exact .d _ _ r2
variable {seen:Bh Nat}
def aXj {ty}{bi Y}{es}(hi:w.heap[bi]? =some (.mapIter (some Y) clock seen clock))(hb:w.heap[Y]? =some (.map ms clock))(hM:LJ ok w es ms clock):
 ((leftOf ms seen).size=0/\(Instr.next (.pointer (some ⟨bi,0,none⟩)) false ty).run P w=.ok (.tuple #[.bool false]) w)\/
 ∃e∈(leftOf ms seen).toList,∃q:BQ,(q=w\/q=w.drew)/\(Instr.next (.pointer (some ⟨bi,0,none⟩)) false ty).run P w=.ok (.tuple #[.bool true,e.key,e.val]) (q.putObj bi (.mapIter (some Y) clock (seen.push e.born) clock)):=by
 have u:∀x∈ms.toList,x.born<clock:=λx I=>by
  obtain⟨i,hi,rfl⟩:=GY I;have J:i<ms.size:=IZ
  have Z:i<es.length:=by rw[←hM.len];exact J
  have :=(hM.ent i es[i] ms[i] (by simp[Z]) (by simp[J])).2.2;simpa using this
 simp only[Instr.next,getObj,GK,Sem.run,hi,hb,Result.andThen,next_test_false seen ms clock clock u (ER _),UW,Lc];unfold leftOf;have z:∀x∈(Array.filter (λe=> !seen.contains e.born) ms).toList,x.born<clock:=λx I=>u x (by simp at I ⊢;exact I.1);generalize Array.filter (λe=> !seen.contains e.born) ms=L at z ⊢;have e1:L.filter (λx=>x.born<clock)=L:=Array.filter_eq_self.2 (λx I=>by simpa using z x qh)
 have e2:L.filter (λx=>x.born>=clock)= #[]:=by
  rw[Array.filter_eq_empty_iff]
  grind
 simp only[e1,e2,Array.append_empty];by_cases h0:L.size=0
 ·left;have :L= #[]:=rY h0;subst this;refine⟨rfl,?_⟩;simp[choose,Sem.run,Question.forced]
 right;have hne:L.isEmpty=false:=by simp[Array.isEmpty,h0]
 simp only[hne,UW,Lc,Array.empty_append,Array.size_map]
 have hch:∃(j:Nat) (q:BQ),j<L.size/\(q=w\/q=w.drew)/\(choose (Question.mapNext L.size)).run P w=.ok j q:=by
  by_cases hf:L.size<=1
  ·exact⟨0,w,AB,.inl rfl,by simp[choose,Sem.run,Question.forced,hf]⟩
  exact⟨_,w.drew,qG _ AB,.inr rfl,by
   simp only[choose,Sem.run,Question.forced,Io,hf,Lc,Question.cut]
   rfl⟩
 obtain⟨j,q,hj,M,O⟩:=hch;refine⟨L[j],BU,q,M,?_⟩;have hi1:q.heap[bi]? =some (.mapIter (some Y) clock seen clock):=by rcases M with rfl|rfl<;>exact hi
 have U:∀(o':Obj),(setObj bi o').run P q=.ok () (q.putObj bi o'):=λo'=>by simp[setObj,Sem.run,hi1,World.putObj]
 simp only[O,Array.getElem?_map,rQ hj,Kr,GK,U,Result.andThen];rfl
variable {A Rr:Type}{Q:Exit->BN->Prop}{l rest:AA Oper}{ops:Bh Oper}{σ:BN}
def ahR {e}(h:e∈(leftOf ms seen).toList):e∈ms.toList/\e.born∉seen:=by
 unfold leftOf at h;simp at h
 grind
def Dn.next {ek}{ev}{ty:AY}n(m:AA (K×V))vis(hn:σ.ents[n]? =some (.iter (m.map (CS ek ev)) vis))(ho:o.op=.next x false)(hx:σ.get x=.ptr n 0)(hg:LQ ops σ o.guard=some true)(h0:(∀i,i<m.length->i∈vis)->Dn P ops rest (σ.uq o.dst (.eP [.d (E9 false)])) Q)(h1:∀i p,m[i]? =some p->i∉vis->Dn P ops rest (σ.put o.dst (.eP [.d (E9 true),.d (.lit (ek p.1)),.d (ev p.2)]) (σ.ents.set n (.iter (m.map (CS ek ev)) (vis++[i])))) Q):Dn P ops (o::rest) σ Q:=by
 refine⟨λro l2 Q' C ok H a w z hk=>?_⟩;show wpListIn (KA ro) 0 P ops Q' (o::(rest++l2)) a w;unfold wpListIn;rw[ET (Wp z (QU hg))];have hv:=hx▸z.get x;obtain⟨hd,Y,Z⟩:=Hr z.mem.ent z.mem.hlen hn;obtain⟨bi,L,ms,clock,seen,q1,q2,q3,q4,q5,q6,q7⟩:=Z
 have J:a.eval x=.pointer (some ⟨bi,0,none⟩):=by
  generalize a.eval x=v at hv;cases hv with
  |ptr _ _ b' s hH=>
   rw[Y]at hH;obtain rfl:=E5 hH;simp only[Value.pointer.injEq,OX,Addr.mk.injEq]at q1;obtain⟨rfl,_⟩:=q1;rfl
 have hlen:ms.size=m.length:=by rw[q5.len,DY]
 unfold Oper.wpIn;rw[pW _ _ _ (by rw[ho];intro c h;cases h)];rcases aXj (P:=P) (ty:=o.type) q2 q4 q5 with⟨hs,hr⟩|⟨e,M,w1,hw1,hr⟩
 ·have he:(execOp a.eval o).run P w=.ok (.value (.tuple #[.bool false])) w:=by simp[execOp,ho,J,hr]
  rw[he];refine⟨λ_ _=>trivial,?_⟩
  refine(h0 λi hi=>?_).run ro l2 Q' C ok H _ w (z.put o.dst (.refl _ _) (.refl _) z.mem (.eP _ _ rfl λj q=>by
   match j,q with
   |0,_=>exact .d _ _ (.lit _))) hk
  have O:i<ms.size:=AB
  have hnot:ms[i]∉(leftOf ms seen).toList:=by
   grind
  have hin:ms[i].born∈seen:=by
   apply oZ;intro hc;refine hnot ?_;unfold leftOf;simp[hc]
  obtain⟨j,q,hje⟩:=Array.getElem_of_mem hin;have hjv:j<vis.length:=AB
  obtain⟨e,r1,r2⟩:=q7 j vis[j] (by simp[hjv])
  have hb:e.born=ms[i].born:=by
   grind
  have :=born_inj q5 r1 (show ms[i]? =some ms[i] by simp[O]) hb;rw[←this];simp
 have he:(execOp a.eval o).run P w=.ok (.value (.tuple #[.bool true,e.key,e.val])) (w1.putObj bi (.mapIter (some L) clock (seen.push e.born) clock)):=by simp[execOp,ho,J,hr]
 rw[he];refine⟨λ_ _=>trivial,?_⟩;obtain⟨aMD,hes⟩:=ahR M;obtain⟨i,hi,hie⟩:=GY aMD;have O:i<ms.size:=IZ
 have U:ms[i]? =some e:=by rw[←hie];simp[O]
 have him:i<m.length:=AB
 have hpe:(m.map (CS ek ev))[i]? =some (CS ek ev m[i]):=by simp[him]
 obtain⟨r1,r2,_⟩:=q5.ent i _ e hpe U
 have aME:i∉vis:=λhc=>by
  obtain⟨j,q,hje⟩:=GY hc;obtain⟨e2,s1,s2⟩:=q7 j i (by simp[←hje,q]);rw[U]at s1;obtain rfl:=E5 s1
  grind
 have I:Dz C ok H σ.ents w1/\FT ok w ok w1:=by
  rcases hw1 with rfl|rfl
  ·exact⟨z.mem,.refl _ _⟩
  exact z.mem.drew
 have hi1:w1.heap[bi]? =some (.mapIter (some L) clock seen clock):=by rcases hw1 with rfl|rfl<;>exact q2
 have u:w1.heap[L]? =some (.map ms clock):=(I.2 L q3).2.trans q4;have hne:L≠bi:=λe=>by rw[e,hi1]at u;cases u
 obtain⟨m2,g2⟩:=I.1.anm (o:=.mapIter (some L) clock (seen.push e.born) clock) (e':=.iter (m.map (CS ek ev)) (vis++[i])) hn rfl Y (by rw[q1];rfl)
  (λg=>⟨bi,L,ms,clock,seen.push e.born,q1,YR (Ip.1 hi1).1,q3,(ZF hne).trans u,(q5.mono I.2).mono g,by simp[q6],λj i' q=>by
   by_cases hjl:j<vis.length
   ·rw[KH hjl]at q;obtain⟨e2,s1,s2⟩:=q7 j i' q;exact⟨e2,s1,by rw[Array.getElem?_push_lt AB];simpa[rQ (show j<seen.size by omega)]using s2⟩
   have hj2:j=vis.length:=by
    have :=(I9.1 q).1;simp at this;omega
   subst hj2;simp at q;subst q
   exact⟨e,U,by rw[←q6];simp⟩⟩)
 have g3:=I.2.trans g2
 have hp:=(h1 i m[i] (by simp[him]) aME).run ro l2 Q' C ok H (a.put o.dst (.tuple #[.bool true,e.key,e.val])) _ (z.put o.dst (x:=.eP [.d (E9 true),.d (.lit (ek m[i].1)),.d (ev m[i].2)]) g3 (.refl _) m2 (.eP _ _ rfl λj q=>by
  match j,q with
  |0,_=>exact .d _ _ (.lit _)
  |1,_=>
   show R ok _ H (.d (.lit (ek m[i].1))) e.key;rw[r1];exact .d _ _ (.lit _)
  |2,_=>exact .d _ _ (r2.mono g3))) hk
 exact hp
def Bq.aBg {cd}(S:AA Nat->A->BN)(m:AA (K×V))(step:A->K×V->AL A)Kf(r:Rr)a0(hs:CO σ (S [] a0))(L:∀vis:AA Nat,vis.Nodup->(∀i,i∈vis↔i<m.length)->((vis.filterMap λ(i:Nat)=>m[i]?).foldlM step a0).bind Kf=some r)(round:∀(J:BN->Prop) (vis:AA Nat) (a:A),((∀i,i<m.length->i∈vis)->Kf a=some r)->(∀i p,m[i]? =some p->i∉vis->∃a',step a p=some a'/\∀s,CO s (S (vis++[i]) a')->J s)->Bq P cd (S vis a) (KD J Q)):Bq P (.loop cd) σ Q:=by
 have U:∀vis:AA Nat,vis.Nodup->(∀i∈vis,i<m.length)->∃rest,(vis++rest).Nodup/\(∀i,i∈vis++rest↔i<m.length):=λvis q u=>by
  refine⟨(List.range m.length).filter λi=> !vis.contains i,?_,λi=>?_⟩
  ·refine rM.2 ⟨q,List.Pairwise.filter _ List.nodup_range,λa ha b Y e=>?_⟩;subst e;rw[Hg]at Y;simp[ha]at Y
  rw[Ia,Hg];constructor
  ·rintro(h|h)
   ·exact u i h
   simpa using h.1
  intro h;by_cases hc:i∈vis
  ·exact .inl hc
  exact .inr ⟨Oa,by simp[hc]⟩
 refine Bq.loop (λn s=>∃vis a,n=m.length-vis.length/\vis.Nodup/\(∀i∈vis,i<m.length)/\(vis.filterMap λ(i:Nat)=>m[i]?).foldlM step a0=some a/\CO s (S vis a)) (m.length) ⟨[],a0,BU,aZ,λi h=>JD,rfl,hs⟩ ?_;rintro n s ⟨vis,a,rfl,q,u,hf,M⟩;refine D6 M (round _ vis a (λhc=>?_) (λi p hp hi=>?_))
 ·have :=L vis q (λi=>⟨u i,hc i⟩);rw[hf]at this;exact this
 have him:i<m.length:=(I9.1 hp).1;have z:(vis++[i]).Nodup:=rM.2 ⟨q,BU,λa ha b Y e=>by simp at Y;subst Y;subst e;exact hi ha⟩
 have I:∀j∈vis++[i],j<m.length:=λj Z=>by
  rcases Ia.1 Z with h|h
  ·exact u j h
  simp at h;subst h;exact him
 obtain⟨rest,h1,h2⟩:=U (vis++[i]) z I;have h3:=L _ h1 h2;rw[iY,iY]at h3;simp only[SK,List.filterMap_nil,hp,List.foldlM_append,VZ,List.foldlM_nil,hf,bind,pure,Ac]at h3;cases hst:step a p with
 |none=>rw[hst]at h3;simp at h3
 |some a'=>
  refine⟨a',rfl,λs hs=>⟨m.length-(vis++[i]).length,?_,vis++[i],a',rfl,z,I,?_,hs⟩⟩
  ·have :vis.length<m.length:=by
    have M:vis.length<=(List.range m.length).length:=by
     refine aOn q ?_;intro j Z;simpa using u j Z
    have O:(vis++[i]).length<=(List.range m.length).length:=by
     refine aOn z ?_;intro j Z;simpa using I j Z
    simp at O;omega
   simp;omega
  rw[iY,List.foldlM_append,hf];simp[hp,hst]
variable {α:Type}
def aU8:∀(m:AA α) (vis:AA Nat),vis.Nodup->(∀i,i∈vis↔i<m.length)->(vis.filterMap λ(i:Nat)=>m[i]?).Perm m:=λm vis j q=>by
 have h1:vis.Perm (List.range m.length):=by
  grind
 have h2:((List.range m.length).filterMap λ(i:Nat)=>m[i]?)=m:=by
  apply rO;intro i
  have :∀(n:Nat),n<=m.length->((List.range n).filterMap λ(i:Nat)=>m[i]?)=m.take n:=by
   intro n
   induction n with
   |zero=>
    intro _;simp
   |succ n u=>
    intro z;rw[a2U,iY,u AB];have hl:n<m.length:=AB
    simp[hl]
  rw[this m.length (ER _),Gw]
 have h3:=h1.filterMap (λ(i:Nat)=>m[i]?)
 rwa [h2]at h3
def aCO {α β}{c}{f}{b}:∀(l:AA α) (v:AA β),
 l.foldlM (λv p=>bif c p then(D5 b v [f p]).bind λx=>some x else some v) v=if(v.length+(l.filter c).length)*b<=140737488355328\/l.filter c=[]then some (v++(l.filter c).map f)else none
 | [],v=>BU
 |p::l,v=>by
  rw[VZ];cases u:c p with
  |false=>
   have q:=aCO (c:=c) (f:=f) (b:=b) l v;simp only[BH,bind,Ac,q,UY,u,UW,Lc]
  |true=>
   simp only[BZ,UY,u,KT];have I:D5 b v [f p]=if(v.length+[f p].length)*b<=140737488355328 then some (v++[f p])else none:=rfl
   rw[I];by_cases j:(v.length+[f p].length)*b<=140737488355328
   ·rw[ET j];have q:=aCO (c:=c) (f:=f) (b:=b) l (v++[f p]);simp only[Ac,bind,q];have z:(v++[f p]).length+(l.filter c).length=v.length+(p::l.filter c).length:=Ei
    rw[z];by_cases hl:l.filter c=[]
    ·rw[hl]at z ⊢;simp only[Gh,Qp]at j ⊢;simp[j]
    simp[hl]
   rw[Ee j];simp only[Option.bind_none,bind];rw[Ee];rintro(h|h)
   ·refine j (EC (Lu _ ?_) h);simp
   cases h
variable {β:Type}{b:Nat}
def aRd {c:α->AY}{f:α->β}{u q:AA α}{v}{Kf}{r:Rr}(hp:u.Perm q)(I:∀x y,x.Perm y->Kf x=Kf y)(h:(q.foldlM (λv p=>bif c p then(D5 b v [f p]).bind λx=>some x else some v) v).bind Kf=some r):
 (u.foldlM (λv p=>bif c p then(D5 b v [f p]).bind λx=>some x else some v) v).bind Kf=some r:=by
 rw[aCO]at h ⊢;have j:=hp.filter c
 have e:((v.length+(u.filter c).length)*b<=140737488355328\/u.filter c=[])↔((v.length+(q.filter c).length)*b<=140737488355328\/q.filter c=[]):=by
  rw[j.length_eq];constructor
  ·grind
  rintro(h|h)
  ·exact .inl h
  exact .inr (by rw[h]at j;exact j.eq_nil)
 by_cases z:((v.length+(q.filter c).length)*b<=140737488355328\/q.filter c=[])
 ·rw[ET z]at h;rw[ET (e.2 z)];simp only[Ac]at h ⊢;rw[←h];exact I _ _ ((j.map f).append_left v)
 rw[Ee z]at h;cases h
section
variable {K V:Type} [BEq K]
def Gs :AA (K×V)->K->Nat
 | [],_=>0
 |p::m,k=>bif k==p.1 then 0 else Gs m k+1
def aTe {ek:K->BG}{kd}(hs:∀a b,Instr.sameNow kd (ek a) (ek b)=some (a==b))k v:∀(m:AA (K×V)) (l:AA MapEntry) (i:Nat),l.map (·.key)=m.map (λp=>ek p.1)->
 (Instr.findNow kd (ek k) l i=some none/\DF m k=none/\EM m k v=m++[(k,v)]/\Gs m k=m.length)\/
 ∃e p,Instr.findNow kd (ek k) l i=some (some (i+Gs m k,e.val))/\l[Gs m k]? =some e/\m[Gs m k]? =some p/\DF m k=some p.2/\(k==p.1)=true/\EM m k v=m.set (Gs m k) (k,v)
 | [],[],_,_=>.inl ⟨rfl,rfl,rfl,rfl⟩
 | [],_::_,_,h=>JD
 |_::_,[],_,h=>JD
 |p::m,e::l,i,h=>by
  simp only[Gz,a5l]at h;cases j:(k==p.1)with
  |true=>
   refine .inr ⟨e,p,?_,?_,?_,?_,j,?_⟩
   ·simp[Instr.findNow,h.1,hs,j,Gs]
   ·simp[Gs,j]
   ·simp[Gs,j]
   ·simp[DF,j]
   simp[EM,Gs,j]
  |false=>
   rcases aTe hs k v m l (i+1) h.2 with⟨h1,h2,h3,q⟩|⟨e',u,h1,h2,h3,q,z,I⟩
   ·refine .inl ⟨?_,?_,?_,?_⟩
    ·simp[Instr.findNow,h.1,hs,j,h1]
    ·simp[DF,j,h2]
    ·simp[EM,j,h3]
    simp[Gs,j,q]
   refine .inr ⟨e',u,?_,by simpa[Gs,j]using h2,by simpa[Gs,j]using h3,?_,z,?_⟩
   ·simp[Instr.findNow,h.1,hs,j,h1,Gs];omega
   ·simp[DF,j,q]
   simp[EM,j,I,Gs]
def aUS k v:∀m:AA (K×V),(EM m k v)[Gs m k]? =some (k,v)
 | []=>rfl
 |p::m=>by
  cases j:(k==p.1)with
  |true=>simp[EM,Gs,j]
  |false=>simp[EM,Gs,j,aUS k v m]
def aNs k v u:∀m:AA (K×V),(EM m k v).set (Gs m k) (k,u)=EM m k u
 | []=>rfl
 |p::m=>by
  cases j:(k==p.1)with
  |true=>simp[EM,Gs,j]
  |false=>simp[EM,Gs,j,aNs k v u m]
end
section
variable {es:AA (BG×D)}
def TM.nil:TM #[] 0:=⟨rfl,λi e h=>JD⟩
def TM.push (h:TM ms clock){k v}:TM (ms.push { key:=k,val:=v,born:=clock }) (clock+1):=by
 refine⟨by simp[h.1],λi e j=>?_⟩;rw[lX]at j;split at j
 ·rename_i q;obtain rfl:=E5 j;rw[q];exact h.1
 exact h.2 i e j
def TM.modify (h:TM ms clock)j f(u:∀e,(f e).born=e.born):TM (ms.modify j f) clock:=by
 refine⟨by simp[h.1],λi e q=>?_⟩;rw[ZR]at q;split at q
 ·rw[dR]at q;obtain⟨z,h1,rfl⟩:=q;rw[u];exact h.2 i z h1
 exact h.2 i e q
def TM.find (h:TM ms clock)(q:n<ms.size):ms.findIdx? (λe=>(e.born:Int)==(n:Int))=some n:=by
 rw[Array.findIdx?_eq_some_iff_getElem];refine⟨q,?_,λj u=>?_⟩
 ·have :=h.2 n ms[n] (by simp[q]);simp[this]
 have :=h.2 j ms[j] (by simp[Nat.lt_trans u q]);simp[this];omega
def anA (ms:Bh MapEntry)j k v(q:∀e,ms[j]? =some e->e.key=k):(ms.modify j λe=>{ e with val:=v })=ms.modify j λe=>{ e with key:=k,val:=v }:=by
 grind
def aiz (ms:Bh MapEntry)j k v(q:∀e,ms[j]? =some e->e.val=v):(ms.modify j λe=>{ e with key:=k })=ms.modify j λe=>{ e with key:=k,val:=v }:=by
 grind
end
variable {j:Bh (Nat×C9)}{kt vt:Bz}{u y:C9}{z:BG}
section
variable {P:Ce} {o:Oper} {es:AA BX} {K V:Type} [BEq K]
def ah4 {q}{cs}(u:Jj P t q z)vs(I:MN (λ(i:Nat)=>q[i]?) (Gp z) j.toList vs=cs)(hp:Ot (λ(i:Nat)=>q[i]?) (Gp z).length j.toList vs=true)(J:o.op=.build t j:=by exact rfl):
 CG P o (Oc j.toList vs) es (.ag cs) es:=I▸am7 u vs hp J
def Y1 (x y:Int):Int:=bif y>x then y else x
def ac5 {ats}{kd}{a b}(q:o.op=.call { callee:=.builtin .max,args:= #[x,y],argTypes:=ats }:=by exact rfl):
 CG P o [(x,.d (.lit (.int kd a))),(y,.d (.lit (.int kd b)))] es (.d (.lit (.int kd (Y1 a b)))) es:=
 .pure λok H c w _ _ j=>by
  have h1:=(Fe j).1.lit;have h2:=(Fe j).2.lit;simp only at h1 h2;have e:Y1 a b=if b>a then b else a:=by unfold Y1;by_cases h:b>a<;>simp[h]
  refine⟨.int kd (Y1 a b),?_,.d _ _ (.lit _)⟩;rw[e];simp[execOp,q,resolve,invoke,builtin,h1,h2,Go.run_max_int2]
def aCv (u:o.op=.makeMap t none:=by exact rfl):CG P o [] es (.mp es.length) (es++[.fK []]):=
 .eff λC ok H a w hm J=>by
  have q:Fp ok (w.alloc (.map #[] 0)) (H++[⟨.map (some w.heap.size),0⟩]) ⟨.map (some w.heap.size),0⟩ (.fK []):=
   ⟨w.heap.size, #[],0,rfl,(aGa w _).1,⟨rfl,λi e m z=>uX,λi j m n _ hm=>by simp at hm⟩,.nil⟩
  obtain⟨h2,h3⟩:=hm.push (.map #[] 0) ⟨.map (some w.heap.size),0⟩ _ (λb q=>aDP) q;refine⟨.map (some w.heap.size),_,ok,_,.inl ?_,h3,IK _ _,h2,.mp _ _ 0 rfl Ql⟩;have I:(newObj (.map #[] 0)).run P w=.ok w.heap.size (w.alloc (.map #[] 0)):=rfl;simp[execOp,u,Instr.makeMap,I]
def nT {ek}ev M{m:AA (K×V)}{key}(Z:P.underlying t=some (.map J L))(hk:KeyTy P J ek)(hz:(P.info? L).bind (·.zero)=some z)(q:Zi z=ev M)(u:z.cells.all (·.oneCell')=true)(he:es[k]? =some (.fK (m.map (CS ek ev))))(ho:o.op=.lookup t x y false:=by exact rfl):CG P o [(x,.mp k),(y,.d (.lit (ek key)))] es (.d (ev ((DF m key).getD M))) es:=
 .pure λok H a w j hl O=>by
  obtain⟨hd,hh,I⟩:=Hr j hl he;obtain⟨b,ms,clock,h1,h2,h3,_⟩:=I;have U:=TV (Fe O).1 hh;have Y:=(Fe O).2.lit;simp only at U Y;obtain⟨v,hr,hv⟩:=a3E (key:=key) ev Z hk hz q u h2 h3 false;refine⟨v,?_,.d _ _ hv⟩;simp[execOp,ho,U,Y,h1,hr]
def afA {ek}ev M{m:AA (K×V)}{key}(Z:P.underlying t=some (.map J L))(hk:KeyTy P J ek)(hz:(P.info? L).bind (·.zero)=some z)(q:Zi z=ev M)(u:z.cells.all (·.oneCell')=true)(he:es[k]? =some (.fK (m.map (CS ek ev))))(ho:o.op=.lookup t x y true:=by exact rfl):CG P o [(x,.mp k),(y,.d (.lit (ek key)))] es (.eP [.d (ev ((DF m key).getD M)),.d (E9 (DF m key).isSome)]) es:=
 .pure λok H a w j hl O=>by
  obtain⟨hd,hh,I⟩:=Hr j hl he;obtain⟨b,ms,clock,h1,h2,h3,_⟩:=I;have U:=TV (Fe O).1 hh;have Y:=(Fe O).2.lit;simp only at U Y;obtain⟨v,hr,hv⟩:=a3E (key:=key) ev Z hk hz q u h2 h3 true;refine⟨.tuple #[v,.bool (DF m key).isSome],?_,.eP _ _ rfl λi hi=>?_⟩
  ·simp[execOp,ho,U,Y,h1,hr]
  match i,hi with
  |0,_=>exact .d _ _ hv
  |1,_=>exact .d _ _ (.lit _)
def wG (hm:Dz C ok H es w){es0 u}{j}{q}(J:es[k]? =some (.fK es0))(L:H[k]? =some hd)(z:hd.v=.map (some b))(I:w.heap[b]? =some (.map ms clock))(M:LJ ok w u q j)(O:TM q j):(setObj b (.map q j)).run P w=.ok () (w.putObj b (.map q j))/\Dz C ok H (es.set k (.fK u)) (w.putObj b (.map q j))/\FT ok w ok (w.putObj b (.map q j)):=by
 refine⟨by simp[setObj,Sem.run,I,World.putObj],hm.anm J rfl L wB λU=>⟨b,q,j,z,YR (Ip.1 I).1,M.mono U,O⟩⟩
def acW {ek}ev{m:AA (K×V)}{key}{val}(ht:P.underlying t=some (.map kt vt))(J:KeyTy P kt ek)(L:es[k]? =some (.fK (m.map (CS ek ev))))(ho:o.op=.mapUpdate t x y u:=by exact rfl):
 CG P o [(x,.mp k),(y,.d (.lit (ek key))),(u,.d (ev val))] es .junk (es.set k (.fK ((EM m key val).map (CS ek ev)))):=
 .eff λC ok H a w hm M=>by
  obtain⟨hd,O,U⟩:=Hr hm.ent hm.hlen L;obtain⟨b,ms,clock,h1,h2,h3,h4⟩:=U;have Y:=TV (M (x,.mp k) BU) O;have Z:=(M (y,.d (.lit (ek key))) BU).lit;have hu:EL ok w (ev val) (a.eval u):=by have :=M (u,.d (ev val)) BU;cases this with |d _ _ h=>exact h
  simp only at Y Z;obtain⟨kd,q,hs⟩:=J.same;have hks:ms.toList.map (·.key)=m.map (λp=>ek p.1):=aAf
  have z:=J.check;rcases a9F (i:=0) hs key val m ms.toList hks with⟨q1,_,q3⟩|⟨j,e,p,q1,q2,q3,_,q5,q6⟩
  ·have hM:=h3.push (k:=ek key) hu;obtain⟨r1,r2,r3⟩:=wG (P:=P) hm L O h1 h2 hM h4.push;refine⟨undef,_,ok,H,.inr ⟨rfl,?_⟩,r3,.refl _,?_,.junk _⟩
   ·simp[execOp,ho,Y,Z,h1,Instr.mapUpdate,underlying,ht,Qy h2,z,Instr.findKey,q,q1,r1]
   rw[q3,JY];exact r2
  have hM:=h3.modify (k:=ek key) hu j;obtain⟨r1,r2,r3⟩:=wG (P:=P) hm L O h1 h2 hM (h4.modify j _ λ_=>rfl)
  have I:e.key=ek key:=by
   have h5:(m.map (CS ek ev))[j]? =some (CS ek ev p):=by rw[Le,q3];rfl
   rw[(h3.ent j _ e h5 lK).1,J.eq _ _ q5];rfl
  have hst:∀w,(Instr.keyThatStays (ek key) (ek key)).run P w=.ok (ek key) w:=λw=>by simp[Instr.keyThatStays,J.bits]
  have hms:ms[j]? =some e:=lK
  refine⟨undef,_,ok,H,.inr ⟨rfl,?_⟩,r3,.refl _,?_,.junk _⟩
  ·simp[execOp,ho,Y,Z,h1,Instr.mapUpdate,underlying,ht,Qy h2,z,Instr.findKey,q,q1,hms,I,hst,r1]
  rw[q6,a5F];exact r2
def aDG {ek}ev J{m:AA (K×V)}{key}(ht:P.underlying t=some (.map kt vt))(hk:KeyTy P kt ek)(hz:(P.info? vt).bind (·.zero)=some z)(hzv:Zi z=ev J)(hzl:z.cells.all (·.oneCell')=true)(he:es[k]? =some (.fK (m.map (CS ek ev))))(ho:o.op=.mapEntry t x y:=by exact rfl):
 CG P o [(x,.mp k),(y,.d (.lit (ek key)))] es (.eP [.d (ev ((DF m key).getD J)),.d (Ad (Gs m key:Nat))]) (es.set k (.fK ((EM m key ((DF m key).getD J)).map (CS ek ev)))):=
 .eff λC ok H a w hm hn=>by
  obtain⟨hd,hh,hok⟩:=Hr hm.ent hm.hlen he;obtain⟨b,ms,clock,h1,h2,h3,h4⟩:=hok;have hx:=TV (Fe hn).1 hh;have hy:=(Fe hn).2.lit;simp only at hx hy;obtain⟨kd,L,hs⟩:=hk.same;have hks:ms.toList.map (·.key)=m.map (λp=>ek p.1):=aAf
  have M:=hk.check;have hml:ms.size=m.length:=by have :=h3.len;simpa using this
  obtain⟨i0,hi0,hz'⟩:=mJ.1 hz;rcases aTe (i:=0) hs key ((DF m key).getD J) m ms.toList hks with⟨q1,q2,q3,q4⟩|⟨e,p,q1,q2,q3,q4,q5,q6⟩
  ·have O:EL ok w (ev ((DF m key).getD J)) z:=by
    rw[q2];have :=aTV (ok:=ok) (w:=w) hzl
    grind
   have hM:=h3.push (k:=ek key) O;obtain⟨r1,r2,U⟩:=wG (P:=P) hm he hh h1 h2 hM h4.push;refine⟨.tuple #[z,goInt clock],_,ok,H,.inl ?_,U,.refl _,?_,.eP _ _ rfl λi hi=>?_⟩
   ·simp[execOp,ho,hx,hy,h1,Instr.mapEntry,underlying,ht,Qy h2,M,Instr.findKey,L,q1,r1,zeroValue,typeInfo,hi0,hz']
   ·rw[q3,JY];exact r2
   match i,hi with
   |0,_=>
    have u:=O.mono U;exact .d _ _ u
   |1,_=>
    have :goInt (clock:Nat)=.int .i64 (Gs m key:Nat):=by rw[q4,←hml,←h4.1];rfl
    show R ok _ H (.d (Ad (Gs m key:Nat))) (goInt clock);rw[this];exact .d _ _ (.lit _)
  have h5:(m.map (CS ek ev))[Gs m key]? =some (CS ek ev p):=by rw[Le,q3];rfl
  have j:ms[Gs m key]? =some e:=lK
  have q:=h3.ent _ _ e h5 j;have O:EL ok w (ev ((DF m key).getD J)) e.val:=by rw[q4];exact q.2.1
  have hM:=h3.modify (k:=ek key) O (Gs m key);have hmk:=aiz ms (Gs m key) (ek key) e.val (λe' Y=>by rw[j]at Y;rw[←E5 Y]);rw[←hmk]at hM;have Z:e.key=ek key:=by rw[q.1,hk.eq _ _ q5];rfl
  obtain⟨r1,r2,U⟩:=wG (P:=P) hm he hh h1 h2 hM (h4.modify _ _ λ_=>rfl);have hst:∀w,(Instr.keyThatStays (ek key) (ek key)).run P w=.ok (ek key) w:=λw=>by simp[Instr.keyThatStays,hk.bits]
  have I:e.born=Gs m key:=h4.2 _ e j;refine⟨.tuple #[e.val,goInt (Gs m key:Nat)],_,ok,H,.inl ?_,U,.refl _,?_,.eP _ _ rfl λi hi=>?_⟩
  ·simp[execOp,ho,hx,hy,h1,Instr.mapEntry,underlying,ht,Qy h2,M,Instr.findKey,L,q1,j,Z,hst,r1,I]
  ·rw[q6,a5F];exact r2
  match i,hi with
  |0,_=>
   have u:=O.mono U;exact .d _ _ u
  |1,_=>
   exact .d _ _ (.lit _)
def aJS {s}{ek}ev{m:AA (K×V)}{key}{z0 val}(hk:KeyTy P kt ek)(U:es[k]? =some (.fK ((EM m key z0).map (CS ek ev))))(ho:o.op=.entryStore t x s u:=by exact rfl):
 CG P o [(x,.mp k),(s,.d (Ad (Gs m key:Nat))),(u,.d (ev val))] es .junk (es.set k (.fK ((EM m key val).map (CS ek ev)))):=
 .eff λC ok H a w hm L=>by
  obtain⟨hd,Y,M⟩:=Hr hm.ent hm.hlen U;obtain⟨b,ms,clock,h1,h2,h3,Z⟩:=M;have hx:=TV (L (x,.mp k) BU) Y;have hy:a.eval s=.int .i64 (Gs m key:Nat):=(L (s,.d (Ad (Gs m key:Nat))) BU).lit;have hu:EL ok w (ev val) (a.eval u):=by have :=L (u,.d (ev val)) BU;cases this with |d _ _ h=>exact h
  simp only at hx;have j:=aUS key z0 m;have h5:((EM m key z0).map (CS ek ev))[Gs m key]? =some (CS ek ev (key,z0)):=by rw[Le,j];rfl
  have q:Gs m key<ms.size:=by
   have h6:=(I9.1 j).1;have :=h3.len
   grind
  have z:ms[Gs m key]? =some ms[Gs m key]:=by simp[q]
  have I:=h3.ent _ _ _ h5 z;have hM:=h3.modify (k:=ek key) hu (Gs m key);have O:=anA ms (Gs m key) (ek key) (a.eval u) (λe' J=>by rw[z]at J;rw[←E5 J];exact I.1);rw[←O]at hM;obtain⟨r1,r2,r3⟩:=wG (P:=P) hm U Y h1 h2 hM (Z.modify _ _ λ_=>rfl);refine⟨undef,_,ok,H,.inr ⟨rfl,?_⟩,r3,.refl _,?_,.junk _⟩
  ·simp[execOp,ho,hx,hy,h1,Instr.entryStore,Qy h2,asInt,asIntOf,Z.find q,r1]
  have e1:((EM m key z0).map (CS ek ev)).set (Gs m key) (ek key,ev val)=(EM m key val).map (CS ek ev):=by
   rw[←aNs key z0 val m,a5F];rfl
  rw[←e1];exact r2
end
variable {b:AY}{u v z:A}
section
variable {c:C9}{x y:Code}
def Df (h:(cond b u v)=z)(j:u=z->Bq P x σ Q)(q:v=z->Bq P y σ Q)(I:σ.get c=.d (.lit (.bool b)):=by kernel_rfl):Bq P (.cond c x y) σ Q:=
 Bq.cond b I (λe=>j (Ru e h)) (λe=>q (Rl e h))
def Bo (h:(cond b u v)=z)(j:u=z->Q .normal σ)(q:v=z->Bq P y σ Q)(I:σ.get c=.d (.lit (.bool b)):=by kernel_rfl):Bq P (.cond c .skip y) σ Q:=Df h (λe=>F9 (j e)) q I
def BA (h:(cond b u v)=z)(j:u=z->Bq P x σ Q)(q:v=z->Q .normal σ)(I:σ.get c=.d (.lit (.bool b)):=by kernel_rfl):Bq P (.cond c x .skip) σ Q:=Df h j (λe=>F9 (q e)) I
end
variable {K:Exit->BN->Prop}
section
variable {σ':BN}{ns:AA (C9×Ai)}{x:Ai}{es':AA BX}
def Dn.f (h:CG P o ns σ.ents x es')(k:Dn P ops rest (σ.put o.dst x es') K)(j:(ns.map λn=>σ.get n.1)=ns.map (·.2):=by kernel_rfl)(q:LQ ops σ o.guard=some true:=by kernel_rfl)(u:(Oo ns).all (tmpsOf o).contains=true:=by kernel_rfl):Dn P ops (o::rest) σ K:=Dn.e es' h k rfl j q u
def Fz.f {rs}{ess}{bs}(h:CG P o ns σ.ents x es')(k:Fz P ops rest (σ.put o.dst x es') rs ess bs σ')(j:(ns.map λn=>σ.get n.1)=ns.map (·.2):=by kernel_rfl)(q:LQ ops σ o.guard=some true:=by kernel_rfl)(u:(Oo ns).all (tmpsOf o).contains=true:=by kernel_rfl):Fz P ops (o::rest) σ (x::rs) (es'::ess) (true::bs) σ':=Fz.e es' h k rfl j q u
end
def Zh (h:(cond b u v)=z):(b=true/\u=z)\/(b=false/\v=z):=by
 grind
def CM {a b:A}(h:some a=some b):a=b:=E5 h
variable {γ:Type}{x:AL α}{y:α->AL β}{z:γ}
def eL {f:α->β->AL γ}(h:(x.bind λa=>(y a).bind (f a))=some z):∃a,x=some a/\∃b,y a=some b/\f a b=some z:=by
 obtain⟨a,h1,h⟩:=Du h;obtain⟨b,h2,h⟩:=Du h
 grind
variable {δ:Type}{w:α->β->AL δ}
def a5Q {f:α->β->δ->AL γ}(h:(x.bind λa=>(y a).bind λb=>(w a b).bind (f a b))=some z):∃a,x=some a/\∃b,y a=some b/\∃d,w a b=some d/\f a b d=some z:=by
 obtain⟨a,h1,b,h2,h⟩:=eL h;obtain⟨d,h3,h⟩:=Du h
 grind
variable {G:Prop}
def AO {f}{z:β}(h:x.bind f=some z)(k:∀a,x=some a->f a=some z->G):G:=by
 obtain⟨a,h1,h⟩:=Du h;exact k a h1 h
def Bv {f:α->β->AL γ}(h:(x.bind λa=>(y a).bind (f a))=some z)(k:∀a,x=some a->∀b,y a=some b->f a b=some z->G):G:=by
 obtain⟨a,h1,b,h2,h⟩:=eL h;exact k a h1 b h2 h
def Hq {f:α->β->δ->AL γ}(h:(x.bind λa=>(y a).bind λb=>(w a b).bind (f a b))=some z)(k:∀a,x=some a->∀b,y a=some b->∀d,w a b=some d->f a b d=some z->G):G:=by
 obtain⟨a,h1,b,h2,d,h3,h⟩:=a5Q h
 grind
variable {len q size:Nat}{x y:C9}{z:BG}
def aX8 {P:Ce}(T:Kn P)(t n:Nat):AY:=match Pn t T.sl with
 |some e=>match Pn e T.ty with
  |some (_,m)=>Nat.beq m n
  |none=>false
 |none=>false
def BD [T:Kn P]{i}enc{l}{a:α}(h:Ak l i=some a)(j:o.op=.indexAddr t x y:=by exact rfl)(hs:aX8 T t (enc a).cells.length=true:=by kernel_rfl):
 CG P o [(x,.d (BP enc l)),(y,.d (.lit (.int .i64 i)))] es (.d (.ref (enc a).cells 0)) es:=by
 unfold aX8 at hs;split at hs
 ·rename_i e h1;split at hs
  ·rename_i agg m h2;exact bW enc h (T.hsl.mem _ (Nh h1)) (T.hty.mem _ (Nh h2)) (aA9 hs).symm j
  cases hs
 cases hs
def BJ [T:Kn P]enc(l:AA α)(j:o.op=.call { callee:=.builtin .len,args:= #[x],argTypes:= #[t] }:=by exact rfl)(q:(Pn t T.sl).isSome=true:=by kernel_rfl):
 CG P o [(x,.d (BP enc l))] es (.d (Ad l.length)) es:=by
 obtain⟨e,h1⟩:=SB.1 q;exact akf enc l (T.hsl.mem _ (Nh h1)) j
def EG {e}(hE:Gm P t e size q)(J:(P.info? e).bind (·.zero)=some z)ys(L:o.op=.buildSlice t len j:=by exact rfl)(h1:z.cells.all (·.oneCell')=true:=by kernel_rfl)(u:z.cells.size=size:=by kernel_rfl)(hlen:Nat.ble (len*size) 16777216=true:=by kernel_rfl)(hp:Ot (λi=>some (i*size,size)) (len*size) j.toList (ys.map .d)=true:=by kernel_rfl)(M:MN (λi=>some (i*size,size)) (Rn z (len*size)) j.toList (ys.map .d)=flat ys:=by kernel_rfl)(hl:ys.length=len:=by kernel_rfl)(I:ys.all (λy=>y.cells.length=size)=true:=by kernel_rfl):
 CG P o (Oc j.toList (ys.map .d)) es (.d (.sl ys)) es:=a4U hE J h1 u (DT hlen) (ys.map .d) ys hp M hl I L
def Ht {e}(hE:Gm P t e size q)(J:(P.info? e).bind (·.zero)=some z)ys(L:o.op=.buildSlice t len j:=by exact rfl)(h1:z.cells.all (·.oneCell')=true:=by kernel_rfl)(u:z.cells.size=size:=by kernel_rfl)(hlen:Nat.ble (len*size) 16777216=true:=by kernel_rfl)(hp:Ot (λi=>some (i*size,size)) (len*size) j.toList (ys.map .d)=true:=by kernel_rfl)(M:MN (λi=>some (i*size,size)) (Rn z (len*size)) j.toList (ys.map .d)=flat ys:=by kernel_rfl)(hl:ys.length=len:=by kernel_rfl)(I:ys.all (λy=>y.cells.length=size)=true:=by kernel_rfl):
 CG P o (Oc j.toList (ys.map .d)) es (.aS es.length) (es++[.arr e size ys]):=a7L hE J h1 u (DT hlen) (ys.map .d) ys hp M hl I L
def Dn.aM [T:Kn P]{M}n(k:M (OI (Gt T ops n l σ)))(hl:l.length=n:=by kernel_rfl)(h:(Gt T ops n l σ).isSome=true:=by kernel_rfl):Dn P ops l σ (KD M K):=
 .a n (by rw[a5v (QL hl)];exact .aY k) h
def EX {z}(h:(cond b u v)=z)(j:b=true->u=z->G)(k2:b=false->v=z->G):G:=by
 grind
section
variable {S:BN}
def Dn.aN [T:Kn P](k:K .normal (OI (Gt T ops l.length l σ)))(h:(Gt T ops l.length l σ).isSome=true:=by kernel_rfl):Dn P ops l σ K:=.a l.length (by rw[PN];exact .nil k) h
def Cx [T:Kn P]{id}(k:K .normal (OI (Gt T ops ops.toList.length ops.toList σ)))(h:(Gt T ops ops.toList.length ops.toList σ).isSome=true:=by kernel_rfl):Bq P (.region id ops false) σ K:=CU (Dn.aN k h)
def aMF :Ai->AY
 | .junk=>false
 |_=>true
def Ae π(h1:Vw σ.base σ.ents π=true:=by kernel_rfl)(h2:S=⟨NQ π (S.slots.map aMF) σ.slots,U5 σ.ents π,σ.base⟩:=by kernel_rfl):CO σ S:=ahF (S.slots.map aMF) π h1 h2
end
section
variable {f:FuncId}{fn:Func}{c:Code}{ε:Type}
def Ej.h1 (j:P.funcs[f]? =some fn) (q:fn.body=some c) (F:α->AL ε) (a:α->Ai) (R:ε->Ai) (k:∀x r,F x=some r->Bq P c (.enter [a x] fn.ntmps []) (jD P fn (R r) [])) ⦃x:α⦄ ⦃r:ε⦄ (h:F x=some r):Ej P f [a x] [] (R r) []:=.dV j q (k x r h)
def Dc:=@Ej.h1
def Ej.h2 (j:P.funcs[f]? =some fn) (q:fn.body=some c) (F:α->β->AL ε) (a:α->Ai) (b:β->Ai) (R:ε->Ai) (k:∀x y r,F x y=some r->Bq P c (.enter [a x,b y] fn.ntmps []) (jD P fn (R r) [])) ⦃x:α⦄ ⦃y:β⦄ ⦃r:ε⦄ (h:F x y=some r):Ej P f [a x,b y] [] (R r) []:=.dV j q (k x y r h)
def DW:=@Ej.h2
def Ej.h3 (j:P.funcs[f]? =some fn) (q:fn.body=some c) (F:α->β->γ->AL ε) (a:α->Ai) (b:β->Ai) (d:γ->Ai) (R:ε->Ai) (k:∀x y z r,F x y z=some r->Bq P c (.enter [a x,b y,d z] fn.ntmps []) (jD P fn (R r) [])) ⦃x:α⦄ ⦃y:β⦄ ⦃z:γ⦄ ⦃r:ε⦄ (h:F x y z=some r):Ej P f [a x,b y,d z] [] (R r) []:=.dV j q (k x y z r h)
def O5:=@Ej.h3
def Ej.o1 (j:P.funcs[f]? =some fn) (q:fn.body=some c) (F:α->AL ε) (a:α->Ai) (R:ε->BX) (k:∀x r,F x=some r->Bq P c (.enter [a x] fn.ntmps []) (jD P fn (.aS 0) [R r])) ⦃x:α⦄ ⦃r:ε⦄ (h:F x=some r):Ej P f [a x] [] (.aS 0) [R r]:=.dV j q (k x r h)
def LX:=@Ej.o1
def Ej.o2 (j:P.funcs[f]? =some fn) (q:fn.body=some c) (F:α->β->AL ε) (a:α->Ai) (b:β->Ai) (R:ε->BX) (k:∀x y r,F x y=some r->Bq P c (.enter [a x,b y] fn.ntmps []) (jD P fn (.aS 0) [R r])) ⦃x:α⦄ ⦃y:β⦄ ⦃r:ε⦄ (h:F x y=some r):Ej P f [a x,b y] [] (.aS 0) [R r]:=.dV j q (k x y r h)
def Gj:=@Ej.o2
end
def aYr (o:AL A)(f:A->Ai):Ai:=match o with
 |none=>.d (.lit (.pointer none))
 |some a=>f a
def aeG (o:AL A)(f:A->AA BX):AA BX:=match o with
 |none=>[]
 |some a=>f a
variable {B:Type}
def gV (o:AL A)(x:AL B)(f:A->AL B):AL B:=match o with
 |none=>x
 |some a=>f a
variable {z:AL B}
def a7j {x}{f:A->AL B}(h:gV none x f=z):x=z:=h
def a5z {x}{a:A}{f}(h:gV (some a) x f=z):f a=z:=h
variable {t':Bz}
def a4V {off}(q:P.underlying t=some (.pointer (P.pointee t)))(z:o.op=.binOp .eql t x y t':=by exact rfl):CG P o [(x,.ptr k off),(y,.d (.lit (.pointer none)))] es (.d (E9 false)) es:=
 .pure λ_ _ a w _ _ j=>⟨.bool false,by
  have h1:=(Fe j).1;have h2:=(Fe j).2.lit;simp only at h1 h2;generalize I:a.eval x=u at h1;cases h1 with
  |ptr _ _ b s L=>
   have J:(eqGuard .eql t x y (Value.pointer (some ⟨b,off,none⟩)) (.pointer none)).run P w=.ok () w:=by
    unfold eqGuard;simp[pure,Sem.run_pure']
   simp only[execOp,z,I,h2,GK,J,Gi,run_eql_pointer_nil w t _ q,Hy]
   rfl,.d _ _ (.lit _)⟩
def a2t (q:P.underlying t=some (.pointer (P.pointee t)))(u:o.op=.binOp .eql t x y t':=by exact rfl):CG P o [(x,.d (.lit (.pointer none))),(y,.d (.lit (.pointer none)))] es (.d (E9 true)) es:=
 .pure λ_ _ a w _ _ j=>⟨.bool true,by
  have h1:=(Fe j).1.lit;have h2:=(Fe j).2.lit;simp only at h1 h2
  have z:(eqGuard .eql t x y (Value.pointer none) (.pointer none)).run P w=.ok () w:=by
   unfold eqGuard;simp[pure,Sem.run_pure']
  simp only[execOp,u,h1,h2,GK,z,Gi,run_eql_pointer_nil w t _ q,Hy]
  rfl,.d _ _ (.lit _)⟩
def aIb :AA ResultVar->AY
 | []=>true
 | .tmp _::rs=>aIb rs
 |_::_=>false
def a8l (σ:BN):AA ResultVar->AA Ai
 | []=>[]
 | .tmp t::rs=>σ.slots.getD t .junk::a8l σ rs
 |_::rs=>.junk::a8l σ rs
def aOd {P}{σ}:∀{rs:AA ResultVar},aIb rs=true->ah P σ rs (a8l σ rs)
 | [],_=>trivial
 | .tmp _::_,h=>⟨rfl,aOd h⟩
def Ez {rs}{j}{E'}π(ha:aIb rs=true:=by kernel_rfl)(q:Vw σ.base σ.ents π=true:=by kernel_rfl)(u:j=(pq (a8l σ rs)).back π:=by kernel_rfl)(z:E'=U5 σ.ents π:=by kernel_rfl):
 ∃xs π,ah P σ rs xs/\Vw σ.base σ.ents π=true/\j=(pq xs).back π/\E'=U5 σ.ents π:=⟨_,π,aOd ha,q,u,z⟩
def ad6 (o:Oper):Nat:=o.after.toList.foldl (λm e=>bif Region.binds .any e then Nat.lor m (2^e.on)else m) 0
def aY1 (o:Oper):AY:=match o.op with
 | .alloc _=>true
 | .box .. =>true
 |_=>false
def aPL :AA Oper->Nat->AA (Nat×Nat×AY)
 | [],_=>[]
 |o::l,i=>(2^i,ad6 o,aY1 o)::aPL l (i+1)
def aMj (m a:Nat):AA (Nat×Nat)->Nat->AL Nat
 | [],_=>none
 |s::S,j=>bif Nat.beq s.1 m&&Nat.beq s.2 a then some j else aMj m a S (j+1)
def a8b (m a k:Nat):AA (Nat×Nat×AY)->Nat->AA (Nat×Nat)->AA (Nat×Nat×Nat)->AA (Nat×Nat)×AA (Nat×Nat×Nat)
 | [],_,S,T=>(S,T)
 |(b,e,w)::l,i,S,T=>bif Nat.beq (Nat.land m b) 0&&Nat.beq (Nat.land m e) e then
    (match aMj (m+b) (cond w (64*a+i+1) a) S 0 with
    |some j=>a8b m a k l (i+1) S ((k,i,j)::T)
    |none=>a8b m a k l (i+1) (S++[(m+b,bif w then 64*a+i+1 else a)]) ((k,i,S.length)::T))
  else a8b m a k l (i+1) S T
def aU3 (E:AA (Nat×Nat×AY)):Nat->Nat->AA (Nat×Nat)->AA (Nat×Nat×Nat)->AA (Nat×Nat×Nat)
 |0,_,_,T=>T.reverse
 |n+1,k,S,T=>match S[k]? with
  |some (m,a)=>match a8b m a k E 0 S T with
   |(S,T)=>aU3 E n (k+1) S T
  |none=>T.reverse
def WT (ops:Bh Oper):AA (Nat×Nat×Nat):=aU3 (aPL ops.toList 0) 2000 0 [(0,0)] []
def aDA :AA (Nat×Nat×Nat)->AA (AA Nat)->Nat->AA (AA Nat)
 | [],N,_=>N
 |t::Tr,N,n=>bif Nat.beq t.2.2 n then aDA Tr (N++[t.2.1::N.getD t.1 []]) (n+1)else aDA Tr N n
def QT (ops:Bh Oper):AA (AA Nat):=aDA (WT ops) [[]] 1
section
variable {P:Ce} [T:Kn P] {id:Nat} {ops:Bh Oper} {σ:BN} {Q:Exit->BN->Prop} {y:Code}
def Bq.aEt L j(q:Q .normal (LK T L ops σ ((QT ops).getD j [])))(hm:P.follows .mixedOrders=true:=by kernel_rfl)(u:jG ops (QT ops) (WT ops) [j]=true:=by kernel_rfl)(z:((WT ops).map λt=>V6 T L ops (LK T L ops σ ((QT ops).getD t.1 [])) t.2.1)=(WT ops).map λt=>some (LK T L ops σ ((QT ops).getD t.2.2 []),WX L t.2.1):=by kernel_rfl)(I:(QT ops).getD 0 [0]=[]:=by kernel_rfl):Bq P (.region id ops true) σ Q:=
 Bq.node1 L _ _ j q hm u I z
def Yl L j(q:Bq P y (LK T L ops σ ((QT ops).getD j [])) Q)(hm:P.follows .mixedOrders=true:=by kernel_rfl)(u:jG ops (QT ops) (WT ops) [j]=true:=by kernel_rfl)(z:((WT ops).map λt=>V6 T L ops (LK T L ops σ ((QT ops).getD t.1 [])) t.2.1)=(WT ops).map λt=>some (LK T L ops σ ((QT ops).getD t.2.2 []),WX L t.2.1):=by kernel_rfl)(I:(QT ops).getD 0 [0]=[]:=by kernel_rfl):Bq P (.seq (.region id ops true) y) σ Q:=
 Bq.aLi L _ _ j q hm u I z
def Bq.axc L F j(q:Qs (λk=>xC (LK T L ops σ ((QT ops).getD k [])) j) F)(u:Bq P y j Q)(hm:P.follows .mixedOrders=true:=by kernel_rfl)(z:jG ops (QT ops) (WT ops) F=true:=by kernel_rfl)(I:((WT ops).map λt=>V6 T L ops (LK T L ops σ ((QT ops).getD t.1 [])) t.2.1)=(WT ops).map λt=>some (LK T L ops σ ((QT ops).getD t.2.2 []),WX L t.2.1):=by kernel_rfl)(J:(QT ops).getD 0 [0]=[]:=by kernel_rfl):Bq P (.seq (.region id ops true) y) σ Q:=
 Bq.aLj L _ _ F j q u hm z J I
end
end Go.Proofs.YtfmoknlmaldmlaaGreat
namespace Go
open Go.Proofs.YtfmoknlmaldmlaaGreat
variable {P:Ce}
def a5X w U Y ty q b o u I a z J k n cs(Z:P.underlying U=some (.slice q))(hs:(P.info? q).map (·.size)=some k)(hn:n=Nat.min z u)(hl:cs.length=n*k)(L:∀j v,cs[j]? =some v->w.cell? (a.add j)=some v)(hc:∀j,j<cs.length->(w.cell? ⟨b,o+j,none⟩).isSome=true)(hf:∀j,j<cs.length->w.frozen? ⟨b,o+j,none⟩=false)(h1:∀v∈cs,v.oneCell'=true):
 (Builtin.copy_ #[U,Y] ty #[.slice (some ⟨b,o,none⟩) u I,.slice (some a) z J]).run P w=.ok (goInt n) (w.setCells b o cs):=by
 have M:=aW3 (P:=P) w a cs L;have hst:=run_storeCells_cells (P:=P) b o cs 0 w (by simpa using hc) (by simpa using hf) h1;rw[hl]at M;cases O:P.info? q with
 |none=>simp[O]at hs
 |some i=>
  have hi:i.size=k:=by simpa[O]using hs
  simp[Builtin.copy_,a6L Z,Builtin.lenOf,Builtin.firstCells,sizeOf,typeInfo,O,hi,←hn,M,hst]
end Go
namespace Go.Proofs.YtfmoknlmaldmlaaGreat
open Go.Proofs.Tryz
open Go.Shelf Go.RowKit Go.Lib
variable {es:AA BX}{k:Nat}{ok:Nat->Prop}{w:BQ}
section
variable {K V:Type} [BEq K]
def aS8 {α β}(f:α->β):∀(l:AA α) (j:Nat),(l.map f).eraseIdx j=(l.eraseIdx j).map f
 | [],_=>rfl
 |_::_,0=>rfl
 |x::l,j+1=>BF (f x:: ·) (aS8 f l j)
def Lm :AA (K×V)->K->AA (K×V)
 | [],_=>[]
 |p::l,k=>bif k==p.1 then l else p::Lm l k
def aML {ek:K->BG}{kd}(hs:∀a b,Instr.sameNow kd (ek a) (ek b)=some (a==b))k:∀(m:AA (K×V)) (l:AA MapEntry) (i:Nat),l.map (·.key)=m.map (λp=>ek p.1)->
 (Instr.findNow kd (ek k) l i=some none/\Lm m k=m)\/∃(j:Nat) (e:MapEntry),Instr.findNow kd (ek k) l i=some (some (i+j,e.val))/\j<l.length/\Lm m k=m.eraseIdx j
 | [],[],_,_=>.inl ⟨rfl,rfl⟩
 | [],_::_,_,h=>JD
 |_::_,[],_,h=>JD
 |p::m,e::l,i,h=>by
  simp only[Gz,a5l]at h;cases q:(k==p.1)with
  |true=>
   refine .inr ⟨0,e,?_,BU,?_⟩
   ·simp[Instr.findNow,h.1,hs,q]
   simp[Lm,q]
  |false=>
   rcases aML hs k m l (i+1) h.2 with⟨h1,h2⟩|⟨j,e',h1,h2,h3⟩
   ·refine .inl ⟨?_,?_⟩
    ·simp[Instr.findNow,h.1,hs,q,h1]
    simp[Lm,q,h2]
   refine .inr ⟨j+1,e',?_,LP,?_⟩
   ·simp[Instr.findNow,h.1,hs,q,h1];omega
   simp[Lm,q,h3]
def LJ.erase {es}{ms}{clock}(h:LJ ok w es ms clock){j}(z:j<ms.size):LJ ok w (es.eraseIdx j) (ms.eraseIdxIfInBounds j) clock:=by
 have hE:ms.eraseIdxIfInBounds j=ms.eraseIdx j z:=by simp[Array.eraseIdxIfInBounds,z]
 have hl:=h.len
 have key:∀(i:Nat) (m:MapEntry),(ms.eraseIdx j z)[i]? =some m->∃q,(∀e,(es.eraseIdx j)[i]? =some e->es[q]? =some e)/\ms[q]? =some m/\q=(if i<j then i else i+1):=λi m hm=>by
  rw[Array.getElem?_eraseIdx]at hm;refine⟨if i<j then i else i+1,λe u=>?_,?_,rfl⟩
  ·rw[List.getElem?_eraseIdx]at u;split at u<;>rename_i c
   ·rw[ET c];exact u
   rw[Ee c];exact u
  split at hm<;>rename_i c
  ·rw[ET c];exact hm
  rw[Ee c];exact hm
 rw[hE];refine⟨by rw[Array.size_eraseIdx,List.length_eraseIdx];split<;>omega,λi e m u hm=>?_,λi k m n I hm J=>?_⟩
 ·obtain⟨q,h1,h2,_⟩:=key i m hm;exact h.ent q e m (h1 e u) h2
 obtain⟨q,_,h2,L⟩:=key i m hm;obtain⟨k',_,M,O⟩:=key k n J;exact h.inc q k' m n (by rw[L,O];split<;>split<;>omega) h2 M
def aiE {P}{o}{t kt vt u}{x y}{ek}ev{m:AA (K×V)}{key}(ht:P.underlying t=some (.map kt vt))(hk:KeyTy P kt ek)(I:es[k]? =some (.map (m.map (CS ek ev))))(ho:o.op=.call { callee:=.builtin .delete,args:= #[x,y],argTypes:= #[t,u] }:=by exact rfl):
 CG P o [(x,.mp k),(y,.d (.lit (ek key)))] es .junk (es.set k (.map ((Lm m key).map (CS ek ev)))):=
 .eff λC ok H a w hm hn=>by
  obtain⟨hd,J,L⟩:=Hr hm.ent hm.hlen I;obtain⟨b,ms,clock,h1,h2,h3⟩:=L;have M:=TV (hn (x,.mp k) BU) J;have O:=(hn (y,.d (.lit (ek key))) BU).lit;simp only at M O;obtain⟨kd,q,hs⟩:=hk.same;have U:ms.toList.map (·.key)=m.map (λp=>ek p.1):=aAf
  have z:=hk.check;rcases aML (i:=0) hs key m ms.toList U with⟨Y,Z⟩|⟨j,e,Y,q2,Z⟩
  ·obtain⟨r1,r2,r3⟩:=vX (P:=P) hm I J h1 h2 h3;refine⟨.tuple #[],_,ok,H,.inl ?_,r3,.refl _,?_,.junk _⟩
   ·simp[execOp,ho,resolve,invoke,builtin,Builtin.delete_,M,O,h1,underlying,ht,Qy h2,z,Instr.findKey,q,Y,r1]
   rw[Z];exact r2
  have hM:=h3.erase (j:=j) lK;obtain⟨r1,r2,r3⟩:=vX (P:=P) hm I J h1 h2 hM;refine⟨.tuple #[],_,ok,H,.inl ?_,r3,.refl _,?_,.junk _⟩
  ·simp[execOp,ho,resolve,invoke,builtin,Builtin.delete_,M,O,h1,underlying,ht,Qy h2,z,Instr.findKey,q,Y,r1]
  rw[Z,←aS8];exact r2
end
set_option linter.unusedVariables false
set_option linter.unusedSimpArgs false
set_option maxHeartbeats 4000000 in
set_option maxRecDepth 100000 in
def aYe (b n c i vb vc:Nat)(cs vs:AA BG)(w:BQ)(hi:i<n)(hroom:n+1<=c)(hc63:c<=9223372036854775807)(hvb:vb≠b)(hcl:cs.length=n*29)(hvl:vs.length=29)(hcs:∀j v,cs[j]? =some v->w.cell? ⟨b,j,none⟩=some v)(hsp:∀j,j<(n+1)*29->(w.cell? ⟨b,j,none⟩).isSome=true)(hfz:∀j,j<(n+1)*29->w.frozen? ⟨b,j,none⟩=false)(hvs:∀j v,vs[j]? =some v->w.cell? ⟨vb,j,none⟩=some v)(h1c:∀v∈cs,v.oneCell'=true)(h1v:∀v∈vs,v.oneCell'=true)(tA tB:Bz)(kA kB:Nat)(hsa:w.shape? vb=some (tA,kA))(hsb:w.shape? b=some (tB,kB))(hkB:kB≠0)(hfa:w.frozen? ⟨vb,0,none⟩=false)(hfe:w.frozen? ⟨vb,kA,none⟩=false):
 Calls Aq 140 #[.slice (some ⟨b,0,none⟩) n c,.int .i64 i,.slice (some ⟨vb,0,none⟩) 1 vc] w λe w'=>
  e=.returned (.slice (some ⟨b,0,none⟩) (n+1) c)/\w'=(w.drew.setCells b ((i+1)*29) (cs.drop (i*29))).setCells b (i*29) vs:=by
 have hz2:¬((i:Int)=(n:Int)):=AB
 have hw1:Au ((i:Int)+1)=(i:Int)+1:=OW
 have hw2:Au ((n:Int)+1)=(n:Int)+1:=OW
 have hb1:(0:Int)<=(i:Int)+1:=AB
 have hin:i<=n:=AB
 have htn:((i:Int)+1).toNat=i+1:=AB
 have aSO:((n:Int)+1).toNat=n+1:=AB
 have hb2:¬(c=i+1):=AB
 have hb3:(i:Int)<=(n:Int)+1:=AB
 have hb4:¬(c=i):=AB
 have hb5:¬((c:Int)<(n:Int)+1):=AB
 have z:(Aq.info? 38).map (·.size)=some 29:=A8
 have U:∀w,(Go.sizeOf 38).run Aq w=.ok 29 w:=λw=>by
  cases Y:Aq.info? 38 with
  |none=>simp[Y]at z
  |some i=>
   have h0:i.size=29:=by simpa[Y]using z
   simp[sizeOf,typeInfo,Y,h0]
 have Z:∀lb cb,(callFunc 218 #[.slice (some ⟨vb,0,none⟩) 1 vc,.slice (some ⟨b,(i+1)*29,none⟩) lb cb]).run Aq w=.ok (.value (.bool false)) w:=λlb cb=>by
  rw[run_callFunc_extern func218 A8 A8 A8 (e:=Extern.SlicesOverlaps.overlaps #[22,22] #[4]) A8,
   Lib.run_overlaps_apart w 22 4 38 Sub 29 U ⟨vb,0,none⟩ ⟨b,(i+1)*29,none⟩ 1 vc lb cb hvb tA tB kA kB hsa hsb hkB hfa hfe]
  rfl
 have I:(cs.drop (i*29)).length=(n-i)*29:=by rw[Lh,hcl,Nat.sub_mul]
 have J:∀ty Ar sc,(Builtin.copy_ #[22,22] ty #[.slice (some ⟨b,(i+1)*29,none⟩) (n-i) Ar,.slice (some ⟨b,i*29,none⟩) (n+1-i) sc]).run Aq w.drew=.ok (goInt (n-i:Nat)) (w.drew.setCells b ((i+1)*29) (cs.drop (i*29))):=λty Ar sc=>
  a5X w.drew _ _ ty 38 b ((i+1)*29) (n-i) Ar ⟨b,i*29,none⟩ (n+1-i) sc 29 (n-i) (cs.drop (i*29)) Sub z a7d I
   (λj v q=>by rw[o9];exact hcs (i*29+j) v (by rwa [Vk]at q))
   (λj q=>hsp _ aEJ) (λj q=>hfz _ aEJ) (λv hv=>h1c v (List.mem_of_mem_drop hv))
 obtain⟨W1,u⟩:∃W1,W1=w.drew.setCells b ((i+1)*29) (cs.drop (i*29)):=⟨_,rfl⟩
 have L:∀k,k<(n+1)*29->(W1.cell? ⟨b,k,none⟩).isSome=true:=λk hk=>by
  rw[u];exact isSome_setCells b (cs.drop (i*29)) ((i+1)*29) w.drew (λj q=>hsp _ aEJ) _ (hsp k hk)
 have M:∀(W:BQ),(∀x,W.cell? x=W1.cell? x)->(∀x,W.frozen? x=W1.frozen? x)->∀ty Ar,(Builtin.copy_ #[22,22] ty #[.slice (some ⟨b,i*29,none⟩) (n+1-i) Ar,.slice (some ⟨vb,0,none⟩) 1 vc]).run Aq W=.ok (goInt (1:Nat)) (W.setCells b (i*29) vs):=λW O hWf ty Ar=>
  a5X W _ _ ty 38 b (i*29) (n+1-i) Ar ⟨vb,0,none⟩ 1 vc 29 1 vs Sub z a7d (by rw[hvl])
   (λj v q=>by
    rw[o9,O,u,World.cell?_setCells_out b _ _ _ _ (λh _=>absurd h hvb),LC]
    exact hvs j v q)
   (λj q=>by rw[O];exact L _ AB) (λj q=>by rw[hWf,u,World.frozen?_setCells];exact hfz _ AB) h1v
 rw[←u]at J;have mixed:Aq.follows .mixedOrders=true:=A8
 go_enter func140,Tryz.ntmps140
 go_wp2_with (simp only[Z])
 go_region_law_o (refine step_copy_runI rfl _ _ 22 22 rfl _ _ aB1 aB1 (J _ _ _) ?_)
 go_wp2_with (at_builtin;refine wpList_copy_runI _ rfl _ _ 22 22 rfl _ _ rfl rfl (M _ (λ_=>rfl) (λ_=>rfl) _ _) ?_)
 go_ret
 first|exact⟨rfl,rfl⟩|exact⟨rfl,by rw[u]⟩
set_option maxHeartbeats 4000000 in
set_option maxRecDepth 100000 in
def adY (b n c i vb vc:Nat)(cs vs:AA BG)(w:BQ)(hi:i<n)(hnc:n<=c)(hroom:c<n+1)(hbig:(n+1)*376<=140737488355328)(hcl:cs.length=n*29)(hvl:vs.length=29)(hcs:∀j v,cs[j]? =some v->w.cell? ⟨b,j,none⟩=some v)(hvs:∀j v,vs[j]? =some v->w.cell? ⟨vb,j,none⟩=some v)(h1c:∀v∈cs,v.oneCell'=true)(h1v:∀v∈vs,v.oneCell'=true):
 Calls Aq 140 #[.slice (some ⟨b,0,none⟩) n c,.int .i64 i,.slice (some ⟨vb,0,none⟩) 1 vc] w λe w'=>∃G ROW,e=.returned (.slice (some ⟨w.heap.size,0,none⟩) (n+1) G)/\n+1<=G/\G<=maxLen/\G*29<=ROW.size/\ROW.toList.take (i*29)=cs.take (i*29)/\
  w'=(((w.alloc (.cells ROW 38)).drew.setCells w.heap.size (i*29) vs).drew).setCells w.heap.size ((i+1)*29) (cs.drop (i*29)):=by
 have hE:Gm Aq 22 38 29 376:=Ku A8;obtain⟨i0,z0,hi0,hz0,hzs,hzb,hzc⟩:=hE.info;have hsz:(Aq.info? 38).map (·.size)=some 29:=by rw[hi0];simp[hzs]
 have mixed:Aq.follows .mixedOrders=true:=A8
 have hz2:¬((i:Int)=(n:Int)):=AB
 have hz3:(c:Int)<(n:Int)+1:=AB
 have hil:i*29<cs.length:=AB
 have hbw:b<w.heap.size:=block_lt_of_cell (hcs 0 _ (ES AB));have hvw:vb<w.heap.size:=block_lt_of_cell (hvs 0 _ (ES AB));have hkk:(n:Int)+1-(i:Int)=((n+1-i:Nat):Int):=AB
 have O:i+(n+1-i)=n+1:=AB
 have U:(cs.take (i*29)).length=i*29:=iZ
 have L:(Builtin.firstCells i0.size i (.slice (some ⟨b,0,none⟩) i c)).run Aq w.drew=.ok (cs.take (i*29)).toArray w.drew:=by
  rw[hzs]
  exact run_firstCells_some w.drew 29 i ⟨b,0,none⟩ i c (cs.take (i*29)) (by rw[U]) (λj v q=>by
   rw[o9,LC];rw[a4E]at q;split at q
   ·exact hcs j v q
   cases q)
 have J:∀ty,(Builtin.append_ #[22,3] ty #[.slice (some ⟨b,0,none⟩) i c,.int .i64 ((n:Int)+1-(i:Int))]).run Aq w=
  .ok (.slice (some ⟨w.heap.size,0,none⟩) (n+1) (grownCap w (n+1) c 38)) (w.drew.alloc (.cells ((cs.take (i*29)).toArray++Builtin.zeroCells z0.cells (n+1-i)++Builtin.zeroCells z0.cells (grownCap w (n+1) c 38-(n+1))) 38)):=λty=>by
  have h:=Lib.run_append_grow_zeros w 22 3 ty 38 i0 z0 .i64 .i64 hE.und A8 hi0 hz0 (some ⟨b,0,none⟩) i c (cs.take (i*29)) L (n+1-i) AB AB AB AB (by rw[hzb];omega) (by rw[hzb,O];exact growslice_fits AB AB);rw[O]at h;rw[hkk];exact h
 have hGn:n+1<=grownCap w (n+1) c 38:=yZ w _ _ _;have Y:=aAt w (n+1) c 38 oW;obtain⟨G,hG⟩:∃G,G=grownCap w (n+1) c 38:=⟨_,rfl⟩
 obtain⟨ROW,u⟩:∃ROW:Bh BG,ROW=(cs.take (i*29)).toArray++Builtin.zeroCells z0.cells (n+1-i)++Builtin.zeroCells z0.cells (G-(n+1)):=⟨_,rfl⟩
 rw[←hG]at J hGn Y;rw[←u]at J
 have hRl:ROW.size=G*29:=by
  rw[u];simp[Builtin.zeroCells,hzc];omega
 have hRt:ROW.toList.take (i*29)=cs.take (i*29):=by
  rw[u];simp[JK];rw[a1Z U]
 obtain⟨W1,z⟩:∃W1,W1=w.drew.alloc (.cells ROW 38):=⟨_,rfl⟩
 rw[←z]at J
 have hN:∀j,j<(n+1)*29->(W1.cell? ⟨w.heap.size,j,none⟩).isSome=true:=λj q=>by
  rw[z,World.cell?_alloc_at (w:=w.drew) ROW _ w.heap.size j rfl,rQ AB];rfl
 have hNf:∀j,W1.frozen? ⟨w.heap.size,j,none⟩=false:=λj=>by rw[z];exact World.frozen?_alloc_at (w:=w.drew) ROW _ w.heap.size j rfl
 have hOb:∀j v,w.cell? ⟨b,j,none⟩=some v->W1.cell? ⟨b,j,none⟩=some v:=λj v h=>by rw[z,World.cell?_alloc_past (w:=w.drew) _ b j hbw];exact h
 have hOv:∀j v,w.cell? ⟨vb,j,none⟩=some v->W1.cell? ⟨vb,j,none⟩=some v:=λj v h=>by rw[z,World.cell?_alloc_past (w:=w.drew) _ vb j hvw];exact h
 have hcpA:∀(W:BQ),(∀x,W.cell? x=W1.cell? x)->(∀x,W.frozen? x=W1.frozen? x)->∀ty Ar,(Builtin.copy_ #[22,22] ty #[.slice (some ⟨w.heap.size,i*29,none⟩) (n+1-i) Ar,.slice (some ⟨vb,0,none⟩) 1 vc]).run Aq W=.ok (goInt (1:Nat)) (W.setCells w.heap.size (i*29) vs):=λW I Z ty Ar=>
  a5X W _ _ ty 38 w.heap.size (i*29) (n+1-i) Ar ⟨vb,0,none⟩ 1 vc 29 1 vs hE.und hsz a7d (by rw[hvl])
   (λj v q=>by rw[o9,I,LC];exact hOv _ v (hvs j v q))
   (λj q=>by rw[I];exact hN _ AB) (λj q=>by rw[Z];exact hNf _) h1v
 have hG63:G<=9223372036854775807:=by unfold maxLen at Y;omega
 have hGi:¬(G=i):=AB
 have hGim:¬(G=i+1):=AB
 have hci:¬(c=i):=AB
 have hbN:b≠w.heap.size:=AB
 have hdl:(cs.drop (i*29)).length=(n-i)*29:=by rw[Lh,hcl,Nat.sub_mul]
 have M:∀(W:BQ),(∀x,W.cell? x=(W1.setCells w.heap.size (i*29) vs).cell? x)->(∀x,W.frozen? x=(W1.setCells w.heap.size (i*29) vs).frozen? x)->∀ty Ar sc,(Builtin.copy_ #[22,22] ty #[.slice (some ⟨w.heap.size,(i+1)*29,none⟩) (n-i) Ar,.slice (some ⟨b,i*29,none⟩) (n-i) sc]).run Aq W=.ok (goInt (n-i:Nat)) (W.setCells w.heap.size ((i+1)*29) (cs.drop (i*29))):=λW I Z ty Ar sc=>
  a5X W _ _ ty 38 w.heap.size ((i+1)*29) (n-i) Ar ⟨b,i*29,none⟩ (n-i) sc 29 (n-i) (cs.drop (i*29)) hE.und hsz a7d hdl
   (λj v q=>by
    rw[o9,I,World.cell?_setCells_out _ _ _ _ _ (λh _=>absurd h hbN)]
    exact hOb _ v (hcs (i*29+j) v (by rwa [Vk]at q)))
   (λj q=>by rw[I];exact isSome_setCells _ vs (i*29) W1 (λt ht=>hN _ AB) _ (hN _ (by rw[hdl]at q;omega)))
   (λj q=>by rw[Z,World.frozen?_setCells];exact hNf _) (λv hv=>h1c v (List.mem_of_mem_drop hv))
 subst z;have hE1:∀x,((w.alloc (.cells ROW 38)).drew).cell? x=(w.drew.alloc (.cells ROW 38)).cell? x:=λx=>rfl;have hE2:∀x,((w.alloc (.cells ROW 38)).drew).frozen? x=(w.drew.alloc (.cells ROW 38)).frozen? x:=λx=>rfl;have hF1:∀x,(((w.alloc (.cells ROW 38)).drew.setCells w.heap.size (i*29) vs).drew).cell? x=((w.drew.alloc (.cells ROW 38)).setCells w.heap.size (i*29) vs).cell? x:=λx=>rfl;have hF2:∀x,(((w.alloc (.cells ROW 38)).drew.setCells w.heap.size (i*29) vs).drew).frozen? x=((w.drew.alloc (.cells ROW 38)).setCells w.heap.size (i*29) vs).frozen? x:=λx=>rfl;have hw1:Au ((i:Int)+1)=(i:Int)+1:=OW
 have hw2:Au ((n:Int)+1)=(n:Int)+1:=OW
 have hw3:Au ((n:Int)+1-(i:Int))=(n:Int)+1-(i:Int):=OW
 have hb1:(0:Int)<=(i:Int)+1:=AB
 have hin:i<=n:=AB
 have htn:((i:Int)+1).toNat=i+1:=AB
 have hb3:(i:Int)<=(n:Int):=AB
 clear hkk O L u hG hil U
 go_enter func140,Tryz.ntmps140
 go_wp2_with (first
  |(at_builtin;refine a0p _ rfl _ _ _ _ rfl _ _ rfl rfl _ _ (J _) ?_)
  |(at_builtin;refine wpList_copy_runI _ rfl _ _ 22 22 rfl _ _ rfl rfl (hcpA _ hE1 hE2 _ _) ?_)
  |(at_builtin;refine wpList_copy_runI _ rfl _ _ 22 22 rfl _ _ rfl rfl (M _ (λ_=>rfl) (λ_=>rfl) _ _ _) ?_))
 go_region_law_o (refine step_copy_runI rfl _ _ 22 22 rfl (.slice (some ⟨w.heap.size,(i+1)*29,none⟩) (n-i) (G-(i+1))) (.slice (some ⟨b,i*29,none⟩) (n-i) (c-i)) aB1 aB1 (M _ hF1 hF2 3 (G-(i+1)) (c-i)) ?_)
 go_wp2
 go_ret
 exact⟨G,ROW,rfl,hGn,Y,QL hRl.symm,hRt,rfl⟩
def putAt (j:Bh BG):Nat->AA BG->Bh BG
 |_,[]=>j
 |o,v::r=>putAt (j.setIfInBounds o v) (o+1) r
def eA :∀(vs:AA BG) (o:Nat) (j:Bh BG),(putAt j o vs).size=j.size
 | [],_,_=>rfl
 |v::r,o,j=>by rw[putAt,eA r];simp
def uN :∀(vs:AA BG) (o:Nat) (q:Bh BG),o+vs.length<=q.size->(putAt q o vs).toList=q.toList.take o++vs++q.toList.drop (o+vs.length)
 | [],o,q,_=>by simp[putAt]
 |v::r,o,q,h=>by
  simp only[Gh]at h;rw[putAt,uN r (o+1) _ Ei,aJg];refine rO λj=>?_;simp only[JK,List.getElem?_append,Hl,jT,VD,a4E,List.getElem?_set,Vk,Gh,aT,aW8]
  grind
def vF b:∀(vs:AA BG) (o:Nat) (w:BQ) (j:Bh BG) (e:Bz) (fr:Nat×Nat),w.heap[b]? =some (.cells j e fr)->(w.setCells b o vs).heap[b]? =some (.cells (putAt j o vs) e fr)
 | [],_,_,_,_,_,h=>h
 |v::r,o,w,j,e,fr,h=>by
  rw[World.setCells,putAt];refine vF b r (o+1) _ _ e fr ?_;simp[World.setCell,ZR,h]
variable {n vb vc:Nat}{v:BG}{xs:AA BG}
set_option maxHeartbeats 4000000 in
set_option maxRecDepth 100000 in
def ahW {news:AA BG}(hown:nM w 38 29 v n xs)(hsrc:YC w (.slice (some ⟨vb,0,none⟩) 1 vc) 1 29 news)(hb:(n+1)*376<=140737488355328):
 Calls Aq 140 #[v,.int .i64 n,.slice (some ⟨vb,0,none⟩) 1 vc] w λe w'=>∃v',e=.returned v'/\nM w' 38 29 v' (n+1) (xs++news)/\w.grownBy w' v.ownBlock/\∀g,EF v'=some g->EF v=some g\/w.heap.size<=g:=by
 have hE:Gm Aq 22 38 29 376:=Ku A8;obtain⟨v',w',u,h2,h3,z⟩:=aEH (ty:=22) hE hown hsrc hb oW;have mixed:Aq.follows .mixedOrders=true:=A8
 rcases hown.2 with⟨rfl,J⟩|⟨g,cap,L,rfl,_,U,M,j,O,q⟩
 ·subst J
  go_enter func140,Tryz.ntmps140
  go_wp2_with (at_builtin;refine a0p _ rfl _ _ _ _ rfl _ _ rfl rfl _ _ u ?_)
  go_ret
  exact⟨v',rfl,h2,h3,z⟩
 have I:cap<=9223372036854775807:=by unfold maxLen at j;omega
 go_enter func140,Tryz.ntmps140
 go_wp2_with (at_builtin;refine a0p _ rfl _ _ _ _ rfl _ _ rfl rfl _ _ u ?_)
 all_goals (go_ret;exact⟨v',rfl,h2,h3,z⟩)
def yc b:∀(vs:AA BG) (o:Nat) (w:BQ),(w.setCells b o vs).os=w.os/\(w.setCells b o vs).tape=w.tape/\(w.setCells b o vs).output=w.output/\(w.setCells b o vs).heap.size=w.heap.size/\∀i,i≠b->(w.setCells b o vs).heap[i]? =w.heap[i]?
 | [],_,_=>⟨rfl,rfl,rfl,rfl,λ_ _=>rfl⟩
 |v::r,o,w=>by
  obtain⟨h1,h2,h3,j,q⟩:=yc b r (o+1) (w.setCell ⟨b,o,none⟩ v);rw[World.setCells];refine⟨h1,h2,h3,by rw[j];simp[World.setCell],λi hi=>?_⟩;rw[q i hi];simp[World.setCell,ZR,Ne.symm hi]
variable {N:Nat}{j:Bh BG}{vs:AA BG}
def ak3 {a}(u:j.toList.take N=xs)(hl:xs.length=N)(q:vs.length=k)(ha:a<=N)(hs:N+k<=j.size):
 (putAt (putAt j (a+k) (xs.drop a)) a vs).toList.take (N+k)=xs.take a++vs++xs.drop a:=by
 have hd:(xs.drop a).length=N-a:=by rw[Lh,hl]
 rw[uN vs a _ (by rw[eA];omega),uN (xs.drop a) (a+k) j AB,q,hd]
 have z:(j.toList.take (a+k)++xs.drop a++j.toList.drop (a+k+(N-a))).take a=xs.take a:=by
  rw[JK,List.take_append_of_le_length Ei,aI6,←u,aI6,lI AB,lI ha]
 have I:(j.toList.take (a+k)++xs.drop a++j.toList.drop (a+k+(N-a))).drop (a+k)=xs.drop a++j.toList.drop (a+k+(N-a)):=by
  rw[JK,List.drop_left' Ei]
 rw[z,I,←JK,a1Z (by simp[hd,q,hl];omega)]
def aef {a}(u:j.toList.take a=xs.take a)(hl:xs.length=N)(q:vs.length=k)(ha:a<=N)(hs:N+k<=j.size):
 (putAt (putAt j a vs) (a+k) (xs.drop a)).toList.take (N+k)=xs.take a++vs++xs.drop a:=by
 have hd:(xs.drop a).length=N-a:=by rw[Lh,hl]
 rw[uN (xs.drop a) (a+k) _ (by rw[eA];omega),uN vs a j AB,q,hd,u];have z:(xs.take a++vs++j.toList.drop (a+k)).take (a+k)=xs.take a++vs:=a1Z (by simp[q,hl];omega);rw[z,a1Z (by simp[hd,q,hl];omega)]
variable {T:Bz}{fr:Nat×Nat}{g:Nat}{q:Bh BG}
def yF (u:w.heap[g]? =some (.cells q T fr))(z:q.toList.take n=xs)j v(h:xs[j]? =some v):w.cell? ⟨g,j,none⟩=some v:=by
 unfold World.cell?;simp only[u];rw[←z,a4E]at h;split at h
 ·simpa using h
 cases h
def aek (u:w.heap[g]? =some (.cells q T fr))j(h:j<q.size):(w.cell? ⟨g,j,none⟩).isSome=true:=by
 unfold World.cell?;simp[u,h]
def aEP (u:w.heap[g]? =some (.cells q T (0,0)))j:w.frozen? ⟨g,j,none⟩=false:=by
 unfold World.frozen?;simp[u]
def acV {i}{q}(hi:i<=n)(J:nM w 38 29 v n xs)(h1:∀u∈xs,u.oneCell'=true)(hx:nM w 38 29 (.slice (some ⟨vb,0,none⟩) 1 vc) 1 q)(Z:∀u∈q,u.oneCell'=true)(hne:EF v≠some vb)(hb:(n+1)*376<=140737488355328):
 Calls Aq 140 #[v,.int .i64 i,.slice (some ⟨vb,0,none⟩) 1 vc] w λe w'=>∃v',e=.returned v'/\nM w' 38 29 v' (n+1) (xs.take (i*29)++q++xs.drop (i*29))/\Turns v w w'/\∀g,EF v'=some g->EF v=some g\/w.heap.size<=g:=by
 have L:=J.1;have M:q.length=29:=by have :=hx.1;omega
 rcases hx.2 with⟨e0,_⟩|⟨vb',aSP,aMH,e0,_,O,hvn,_,hvs,hvt⟩
 ·cases e0
 injection e0 with e1 _ e3
 injection e1 with e1
 injection e1 with e1
 subst e1 e3;rcases rJ i n with hin|hin
 ·rcases J.2 with⟨_,h0⟩|⟨g,cap,Y,rfl,_,hg,hnc,hcm,hcs,I⟩
  ·omega
  have hgv:vb≠g:=λe=>hne wH;have hil:i*29<=n*29:=Lu _ hi;rcases rJ n cap with z|z
  ·have hfit:(n+1)*29<=Y.size:=EC (Lu _ z) hcs;refine(aYe g n cap i vb vc xs q w hin z (by unfold maxLen at hcm;omega) hgv L M (yF hg I) (λj hj=>aek hg j AB) (λj _=>aEP hg j) (yF O hvt) h1 Z 38 38 aMH.size Y.size (by simp[World.shape?,O]) (by simp[World.shape?,hg]) AB (aEP O 0) (aEP O _)).mono ?_;rintro e w' ⟨rfl,rfl⟩;have hh:=vF g q (i*29) _ _ _ _ (vF g (xs.drop (i*29)) ((i+1)*29) w.drew Y 38 (0,0) hg);obtain⟨a1,a2,a3,a4,a5⟩:=yc g (xs.drop (i*29)) ((i+1)*29) w.drew;obtain⟨b1,b2,b3,b4,b5⟩:=yc g q (i*29) (w.drew.setCells g ((i+1)*29) (xs.drop (i*29)));refine⟨_,rfl,⟨?_,.inr ⟨g,cap,_,rfl,FQ _,hh,z,hcm,by rw[eA,eA];exact hcs,?_⟩⟩,⟨b1.trans a1,b2.trans a2,b3.trans a3,by rw[b4,a4];exact ER _,λc hc hcb=>?_⟩,λg' hg'=>.inl hg'⟩
   ·simp[M,L];omega
   ·have :=ak3 (a:=i*29) (k:=29) I L M hil AB;rw[show(i+1)*29=i*29+29 by omega,show(n+1)*29=n*29+29 by omega];exact this
   have U:c≠g:=λe=>hcb wH;rw[b5 c U,a5 c U];rfl
  refine(adY g n cap i vb vc xs q w hin hnc AB hb L M (yF hg I) (yF O hvt) h1 Z).mono ?_;rintro e w' ⟨G,ROW,rfl,hGn,hGm,hGs,hRt,rfl⟩
  have hal:((w.alloc (.cells ROW 38)).drew).heap[w.heap.size]? =some (.cells ROW 38 (0,0)):=by
   show(w.heap.push (.cells ROW 38 (0,0)))[w.heap.size]? =_;simp
  have hh:=vF w.heap.size (xs.drop (i*29)) ((i+1)*29) _ _ _ _ (show(((w.alloc (.cells ROW 38)).drew.setCells w.heap.size (i*29) q).drew).heap[w.heap.size]? =_ from vF w.heap.size q (i*29) _ ROW 38 (0,0) hal);obtain⟨a1,a2,a3,a4,a5⟩:=yc w.heap.size q (i*29) (w.alloc (.cells ROW 38)).drew;obtain⟨b1,b2,b3,b4,b5⟩:=yc w.heap.size (xs.drop (i*29)) ((i+1)*29) ((w.alloc (.cells ROW 38)).drew.setCells w.heap.size (i*29) q).drew;refine⟨_,rfl,⟨?_,.inr ⟨w.heap.size,G,_,rfl,FQ _,hh,hGn,hGm,by rw[eA,eA];exact hGs,?_⟩⟩,⟨b1.trans a1,b2.trans a2,b3.trans a3,?_,λc hc hcb=>?_⟩,λg' hg'=>.inr (by simp[EF]at hg';omega)⟩
  ·simp[M,L];omega
  ·have :=aef (a:=i*29) (k:=29) hRt L M hil (by have :=Lu 29 hGn;omega);rw[show(i+1)*29=i*29+29 by omega,show(n+1)*29=n*29+29 by omega];exact this
  ·rw[b4];show w.heap.size<=((w.alloc (.cells ROW 38)).drew.setCells w.heap.size (i*29) q).heap.size;rw[a4];show w.heap.size<=(w.heap.push (.cells ROW 38 (0,0))).size;simp
  have U:c≠w.heap.size:=AB
  rw[b5 c U];show((w.alloc (.cells ROW 38)).drew.setCells w.heap.size (i*29) q).heap[c]? =_;rw[a5 c U];show(w.heap.push (.cells ROW 38 (0,0)))[c]? =_;simp[lX,U]
 have hni:i=n:=AB
 subst hni;refine(ahW J ⟨AB,Z,.inl ⟨_,_,rfl,λj u hj=>by rw[o9,LC];exact yF O hvt j u hj⟩⟩ hb).mono ?_;rintro e w' ⟨v',rfl,h2,h3,h4⟩;refine⟨v',rfl,?_,⟨h3.os,h3.tape,h3.output,h3.size,λk hk hne'=>h3.block k hk ?_⟩,h4⟩
 ·rw[RU AB,a5v AB,Tv];exact h2
 rcases J.2 with⟨rfl,_⟩|⟨g,cap,Y,rfl,_⟩
 ·simp[Value.ownBlock]
 intro e;exact hne' e.symm
def aXW (hs:j.size=3):j= #[j.getD 0 undef,j.getD 1 undef,j.getD 2 undef]:=by
 refine iF (by simp[hs]) λi h1 h2=>?_;simp at h2;have :i=0\/i=1\/i=2:=AB
 rcases this with rfl|rfl|rfl<;>simp[Array.getD,hs]
variable {H:AA CP}{xs:AA Ai}
def afR (h:Hd ok w H xs vs)n:Hd ok w H (xs.take n) (vs.take n):=by
 refine⟨by rw[Hl,Hl,h.1],λi hi=>?_⟩;rw[Hl]at hi;have :=h.2 i AB;rw[wE,wE]at this ⊢;rw[U4 AB,U4 AB];exact this
def ae0 (h:Hd ok w H xs vs)n:Hd ok w H (xs.drop n) (vs.drop n):=by
 refine⟨by rw[Lh,Lh,h.1],λi hi=>?_⟩;rw[Lh]at hi;have :=h.2 (n+i) AB;rw[wE,wE]at this ⊢;rw[Vk,Vk];exact this
def aRH (h:Hd ok w H xs vs):∀u∈vs,u.oneCell'=true:=λu j=>by
 obtain⟨i,hi,rfl⟩:=GY j;have h2:=h.2 i (by rw[←h.1];exact hi);have :=h2.2.leaf h2.1
 rwa [wE,ES hi]at this
def aUW {size}:∀{es:AA D} (i:Nat),(∀x∈es,x.cells.length=size)->flat (es.take i)=(flat es).take (i*size)
 | [],i,_=>Ui
 |x::l,0,_=>Ui
 |x::l,i+1,h=>by
  have j:(x.cells.map Ai.d).length=size:=by rw[DY];exact h x (Gv ..)
  rw[List.take_succ_cons,YS,YS,aUW i λy q=>h y (I7 _ q),jW,a3z,Vy,←j,List.take_length_add_append]
def aUw {size}:∀{es:AA D} (i:Nat),(∀x∈es,x.cells.length=size)->flat (es.drop i)=(flat es).drop (i*size)
 | [],i,_=>Ui
 |x::l,0,_=>Ui
 |x::l,i+1,h=>by
  have j:(x.cells.map Ai.d).length=size:=by rw[DY];exact h x (Gv ..)
  rw[List.drop_succ_cons,YS,aUw i λy q=>h y (I7 _ q),jW,a3z,Vy,←j,List.drop_length_add_append]
def Dz.kill {C}(hm:Dz C ok H es w)k:Dz C ok H (es.set k .dead) w:=
 (hm.change (ok':=ok) (H':=H) (w':=w) (es':=es.set k .dead) (λ_=>False) rfl rfl rfl (ER _) (λ_ _ _=>rfl) (λ_ h=>h.elim) (λ_ h=>h) (λ_ h=>.inl h) (.refl _) (by simpa using hm.hlen) (by
  intro j e' h' q u;by_cases z:k=j
  ·subst z;rw[List.getElem?_set]at q;simp only[KT]at q;split at q
   ·cases q;exact .inr ⟨trivial,λh=>H6⟩
   cases q
  rw[eU z]at q
  exact .inl ⟨q,u,λ_ _ _ h=>h⟩)).1
variable {α:Type}
def aAd (l:AA α)(i:Int)(m:AA α):AL (AA α):=match m with
 | [x]=>if(0<=i/\i<=(l.length:Int))/\l.length<=34359738368 then some (l.take i.toNat++x::l.drop i.toNat)else none
 |_=>none
def azy {e}(hk:∀x,(e x).cells.length=29)l q(m r:AA α)(h:aAd l q m=some r):
 E8 140 [.aS 0,.d (Ad q),.aS 1] [.arr 38 29 (l.map e),.arr 38 29 (m.map e)] (.aS 2) [.dead,.dead,.arr 38 29 (r.map e)]:=by
 unfold aAd at h;split at h
 case h_2=>cases h
 rename_i x;split at h
 case isFalse=>cases h
 rename_i hc;obtain⟨⟨hq0,hql⟩,hb⟩:=hc;obtain rfl:=E5 h;obtain⟨i,rfl⟩:∃i:Nat,q=i:=⟨q.toNat,AB⟩
 have hi:i<=l.length:=AB
 rw[Uu];intro ok X H w L hm hs ha;have h0:=ha 0 BU;have hq:=ha 1 BU;have h2:=ha 2 BU;rw[aXW hs];obtain⟨hd,hh,hok⟩:=Hr hm.ent hm.hlen (k:=0) rfl;obtain⟨M,O,U⟩:=Hr hm.ent hm.hlen (k:=1) rfl;obtain hv:=RJ h0 hh;obtain hv1:=RJ h2 O
 have hq':L.getD 1 undef=.int .i64 i:=by
  simp only[List.getD,lW,gQ,OO]at hq;cases hq with |d _ _ hq=>exact EL.TR hq
 rw[hv,hv1,hq'];obtain⟨hz,Y,xs,Z,J⟩:=hok;obtain⟨hz1,aSQ,news,u,I⟩:=U;rw[DY]at Z
 obtain⟨g1,c1,hg1⟩:∃g1 c1,M.v=.slice (some ⟨g1,0,none⟩) 1 c1:=by
  rcases u.2 with⟨_,h⟩|⟨g,cap,cur,h,_⟩
  ·cases h
  exact⟨g,cap,h⟩
 have hne:EF hd.v≠some g1:=λhb=>by
  have :=hm.J6 0 1 _ _ hd M g1 rfl rfl rfl rfl hh O hb (by rw[hg1];rfl);cases this
 rw[hg1]at u ⊢;refine(acV hi Z (aRH J) u (aRH I) hne AB).mono ?_;rintro y w' ⟨v',rfl,j,ht,hblk⟩;have hlen:l.length+1=((l.take i++x::l.drop i).map e).length:=Ei
 rw[hlen]at j
 have hfl:flat ((l.take i++x::l.drop i).map e)=(flat (l.map e)).take (i*29)++flat ([x].map e)++(flat (l.map e)).drop (i*29):=by
  rw[←aUW i Y,←aUw i Y,←kn,←kn,JY,Gz,Yw,iU,JK];rfl
 have hg:=hm.turn (e:=.arr 38 29 ((l.take i++x::l.drop i).map e)) (h':=⟨v',29⟩) (w':=w') (k:=0) rfl rfl hh ht.os ht.tape ht.output ht.size ht.block (λg hg=>⟨vw j hg,hblk g hg⟩) (λhgr=>⟨rfl,λy hy=>by
  obtain⟨z,_,rfl⟩:=FB.1 hy
  exact hk z,_,j,by rw[hfl];exact(aB5 (aB5 (afR J _) I) (ae0 J _)).mono hgr (.push _ _)⟩)
 refine⟨v',ok,H++[⟨v',29⟩],rfl,hg.1.kill 1,?_⟩;have hl:H.length=2:=hm.hlen;have hr:(H++[(⟨v',29⟩:CP)])[2]? =some ⟨v',29⟩:=by rw[←hl];simp
 rcases j.2 with⟨rfl,_⟩|⟨g,cap,cur,rfl,_⟩
 ·exact .aS 2 _ _ _ 29 hr
 exact .aS 2 _ _ _ 29 hr
end Go.Proofs.YtfmoknlmaldmlaaGreat
namespace Go.Proofs.YtfmoknlmaldmlaaGreat
open Go.RowKit Go.Proofs.Tryz
variable {α:Type}
def dJ (j:Nat)(n:Int):AL (AA α):=if 0<=n/\n*j<=140737488355328 then some []else none
def afq w(n:Nat)(hb:n*376<=140737488355328):
 Calls Aq 230 #[.slice none 0 0,.int .i64 n] w λe w'=>(e=.returned (.slice none 0 0)/\w'=w)\/∃G ROW,e=.returned (.slice (some ⟨w.heap.size,0,none⟩) 0 G)/\G<=maxLen/\ROW.size=G*29/\w'=w.drew.alloc (.cells ROW 38):=by
 have hE:Gm Aq 22 38 29 376:=Ku A8;obtain⟨Z,z0,I,J,hzs,L,M⟩:=hE.info;have mixed:Aq.follows .mixedOrders=true:=A8
 rcases V8 n with O|O
 ·subst O;refine Calls.mono ?_ (λe w' h=>Or.inl h)
  go_enter func230,Tryz.ntmps230
  go_wp2
  go_ret
  exact⟨rfl,rfl⟩
 refine Calls.mono ?_ (λe w' h=>Or.inr h);have U:n<=grownCap w n 0 38:=yZ w _ _ _;have u:=aAt w n 0 38 oW
 have q:∀ty,(Builtin.append_ #[22,3] ty #[.slice none 0 0,.int .i64 (n:Int)]).run Aq w=.ok (.slice (some ⟨w.heap.size,0,none⟩) n (grownCap w n 0 38)) (w.drew.alloc (.cells (Builtin.zeroCells z0.cells n++Builtin.zeroCells z0.cells (grownCap w n 0 38-n)) 38)):=λty=>
  Lib.run_append_nil_zeros w 22 3 ty 38 Z z0 .i64 .i64 hE.und A8 I J n O AB AB (by rw[L];omega)
 obtain⟨G,Y⟩:∃G,G=grownCap w n 0 38:=⟨_,rfl⟩
 obtain⟨ROW,j⟩:∃ROW:Bh BG,ROW=Builtin.zeroCells z0.cells n++Builtin.zeroCells z0.cells (G-n):=⟨_,rfl⟩
 rw[←Y]at q U u;rw[←j]at q
 have z:ROW.size=G*29:=by
  rw[j];simp[Builtin.zeroCells,M];omega
 have hp1:¬((n:Int)<0):=AB
 have hp2:(n:Int)>0:=AB
 have hw1:Au ((n:Int)-0)=(n:Int):=OW
 have hw2:Au (n:Int)=(n:Int):=OW
 have hc0:(0:Int)<=(G:Int):=AB
 clear Y j
 go_enter func230,Tryz.ntmps230
 go_wp2_with (first
  |(at_builtin;refine a0p _ rfl _ _ _ _ rfl _ _ rfl rfl _ _ (q _) ?_))
 go_ret
 exact⟨G,rfl,u,ROW,by first|exact z|simpa using z,rfl⟩
def alo e q(r:AA α)(h:dJ 376 q=some r):E8 230 [.d (.lit (.slice none 0 0)),.d (Ad q)] [] (.aS 0) [.arr 38 29 (r.map e)]:=by
 unfold dJ at h;split at h
 case isFalse=>cases h
 rename_i Z;obtain rfl:=E5 h;obtain⟨n,rfl⟩:∃n:Nat,q=n:=⟨q.toNat,AB⟩
 intro ok X H w j hm hs ha;have z:=ha 0 BU;have h1:=ha 1 BU
 have I:j.getD 0 undef=.slice none 0 0:=by
  simp only[List.getD,gQ,OO]at z;cases z with |d _ _ u=>exact EL.TR u
 have J:j.getD 1 undef=.int .i64 n:=by
  simp only[List.getD,lW,gQ,OO]at h1;cases h1 with |d _ _ u=>exact EL.TR u
 have L:j= #[.slice none 0 0,.int .i64 n]:=by
  rw[←I,←J];exact aCw hs
 rw[L];have M:H.length=0:=hm.hlen;obtain rfl:H=[]:=Hu M;refine(afq w n AB).mono ?_;rintro y w' (⟨rfl,rfl⟩|⟨G,ROW,rfl,hG,hR,rfl⟩)
 ·obtain⟨h2,h3⟩:=a05 hm 38 29;exact⟨_,ok,[]++[⟨.slice none 0 0,29⟩],rfl,h2,.aS 0 none 0 0 29 rfl⟩
 obtain⟨O,d2⟩:=hm.drew
 have h2:=O.push (.cells ROW 38) ⟨.slice (some ⟨w.heap.size,0,none⟩) 0 G,29⟩ (.arr 38 29 []) (λb U=>by
  have :w.heap.size=b:=E5 U
  exact this.symm) ⟨rfl,λx Y=>absurd Y H9,[],⟨rfl,.inr ⟨w.heap.size,G,ROW,rfl,FQ _,WR w.drew _,FQ _,hG,QL hR.symm,rfl⟩⟩,rfl,λi hi=>absurd hi (Zu _)⟩
 exact⟨_,ok,[]++[⟨.slice (some ⟨w.heap.size,0,none⟩) 0 G,29⟩],rfl,h2.1,.aS 0 _ 0 _ 29 rfl⟩
def ad4 w(n:Nat)(hb:n*8<=140737488355328):
 Calls Aq 256 #[.slice none 0 0,.int .i64 n] w λe w'=>(e=.returned (.slice none 0 0)/\w'=w)\/∃G ROW,e=.returned (.slice (some ⟨w.heap.size,0,none⟩) 0 G)/\G<=maxLen/\ROW.size=G*1/\w'=w.drew.alloc (.cells ROW 3):=by
 have hE:Gm Aq 27 3 1 8:=Ku A8;obtain⟨Z,z0,I,J,hzs,L,M⟩:=hE.info;have mixed:Aq.follows .mixedOrders=true:=A8
 rcases V8 n with O|O
 ·subst O;refine Calls.mono ?_ (λe w' h=>Or.inl h)
  go_enter func256,Tryz.ntmps256
  go_wp2
  go_ret
  exact⟨rfl,rfl⟩
 refine Calls.mono ?_ (λe w' h=>Or.inr h);have U:n<=grownCap w n 0 3:=yZ w _ _ _;have u:=aAt w n 0 3 oW
 have q:∀ty,(Builtin.append_ #[27,3] ty #[.slice none 0 0,.int .i64 (n:Int)]).run Aq w=.ok (.slice (some ⟨w.heap.size,0,none⟩) n (grownCap w n 0 3)) (w.drew.alloc (.cells (Builtin.zeroCells z0.cells n++Builtin.zeroCells z0.cells (grownCap w n 0 3-n)) 3)):=λty=>
  Lib.run_append_nil_zeros w 27 3 ty 3 Z z0 .i64 .i64 hE.und A8 I J n O AB AB (by rw[L];omega)
 obtain⟨G,Y⟩:∃G,G=grownCap w n 0 3:=⟨_,rfl⟩
 obtain⟨ROW,j⟩:∃ROW:Bh BG,ROW=Builtin.zeroCells z0.cells n++Builtin.zeroCells z0.cells (G-n):=⟨_,rfl⟩
 rw[←Y]at q U u;rw[←j]at q
 have z:ROW.size=G*1:=by
  rw[j];simp[Builtin.zeroCells,M];omega
 have hp1:¬((n:Int)<0):=AB
 have hp2:(n:Int)>0:=AB
 have hw1:Au ((n:Int)-0)=(n:Int):=OW
 have hw2:Au (n:Int)=(n:Int):=OW
 have hc0:(0:Int)<=(G:Int):=AB
 clear Y j
 go_enter func256,Tryz.ntmps256
 go_wp2_with (first
  |(at_builtin;refine a0p _ rfl _ _ _ _ rfl _ _ rfl rfl _ _ (q _) ?_))
 go_ret
 exact⟨G,rfl,u,ROW,by first|exact z|simpa using z,rfl⟩
def akn e q(r:AA α)(h:dJ 8 q=some r):E8 256 [.d (.lit (.slice none 0 0)),.d (Ad q)] [] (.aS 0) [.arr 3 1 (r.map e)]:=by
 unfold dJ at h;split at h
 case isFalse=>cases h
 rename_i Z;obtain rfl:=E5 h;obtain⟨n,rfl⟩:∃n:Nat,q=n:=⟨q.toNat,AB⟩
 intro ok X H w j hm hs ha;have z:=ha 0 BU;have h1:=ha 1 BU
 have I:j.getD 0 undef=.slice none 0 0:=by
  simp only[List.getD,gQ,OO]at z;cases z with |d _ _ u=>exact EL.TR u
 have J:j.getD 1 undef=.int .i64 n:=by
  simp only[List.getD,lW,gQ,OO]at h1;cases h1 with |d _ _ u=>exact EL.TR u
 have L:j= #[.slice none 0 0,.int .i64 n]:=by
  rw[←I,←J];exact aCw hs
 rw[L];have M:H.length=0:=hm.hlen;obtain rfl:H=[]:=Hu M;refine(ad4 w n AB).mono ?_;rintro y w' (⟨rfl,rfl⟩|⟨G,ROW,rfl,hG,hR,rfl⟩)
 ·obtain⟨h2,h3⟩:=a05 hm 3 1;exact⟨_,ok,[]++[⟨.slice none 0 0,1⟩],rfl,h2,.aS 0 none 0 0 1 rfl⟩
 obtain⟨O,d2⟩:=hm.drew
 have h2:=O.push (.cells ROW 3) ⟨.slice (some ⟨w.heap.size,0,none⟩) 0 G,1⟩ (.arr 3 1 []) (λb U=>by
  have :w.heap.size=b:=E5 U
  exact this.symm) ⟨rfl,λx Y=>absurd Y H9,[],⟨rfl,.inr ⟨w.heap.size,G,ROW,rfl,FQ _,WR w.drew _,FQ _,hG,QL hR.symm,rfl⟩⟩,rfl,λi hi=>absurd hi (Zu _)⟩
 exact⟨_,ok,[]++[⟨.slice (some ⟨w.heap.size,0,none⟩) 0 G,1⟩],rfl,h2.1,.aS 0 _ 0 _ 1 rfl⟩
variable {P:Ce}
def aaq (ops:Bh Oper)(σ:BN)(i:Nat):BN:=match ops[i]? with
 |some o=>match o.op with
  | .move x=>σ.uq o.dst (σ.get x)
  | .assign x=>σ.uq o.dst (σ.get x)
  |_=>σ
 |none=>σ
def atE (ops:Bh Oper)(σ:BN)(sl:AA Nat):BN:=sl.foldl (aaq ops) σ
def pI {o}{es}{t}{k}(j:o.op=.makeMap t none:=by exact rfl)(q:es.length=k:=by kernel_rfl):CG P o [] es (.mp k) (es++[.map []]):=q▸adv j
def a3X (P:Ce)(c:Code)(Q:Exit->BN->Prop):Nat->BN->Prop
 |0,_=>False
 |m+1,σ=>Bq P c σ (KD (a3X P c Q m) Q)
variable {Q:Exit->BN->Prop}{σ:BN}
def Bq.round {c}{m}(h:Bq P c σ (KD (a3X P c Q m) Q)):a3X P c Q (m+1) σ:=h
def Bq.rounds {c}m(h:a3X P c Q m σ):Bq P (.loop c) σ Q:=by
 refine⟨λro j C ok H a w q=>wpIn_loop_rounds m ?_⟩
 induction m generalizing σ ok H a w with
 |zero=>exact h.elim
 |succ m u=>
  rw[roundsIn_succ];refine V7 (h.run ro j C ok H a w q) ?_;rintro e a' w' ⟨ok',H',σ',h1,h2⟩;cases e with
  |normal=>exact u h2 ok' H' a' w' h1
  |_=>exact⟨ok',H',σ',h1,h2⟩
end Go.Proofs.YtfmoknlmaldmlaaGreat
