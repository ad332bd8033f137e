/- Part 2 of the laws' proofs (short forms by wip/shrink2.py). -/
import Derived.Test.YtfmoknlmaldmlaaGreatRc1
set_option linter.defProp false
set_option linter.unnecessarySimpa false
set_option linter.unusedSectionVars false
set_option linter.unusedVariables false
set_option linter.unusedSimpArgs false
namespace Go.Proofs.YtfmoknlmaldmlaaGreat
open Go.RowKit Go.Proofs.Tryz
def fF (x:Int):AA Int->AA Int
 | []=>[x]
 |y::l=>bif x<=y then x::y::l else y::fF x l
def LW (l:AA Int):AA Int:=l.foldr fF []
def aHM (x:Int):∀l,(fF x l).Perm (x::l)
 | []=>.refl _
 |y::l=>by
  unfold fF;cases h:decide (x<=y)with
  |true=>exact .refl _
  |false=>exact((aHM x l).cons y).trans (.swap x y l)
def St :∀l,(LW l).Perm l
 | []=>.refl _
 |x::l=>(aHM x (LW l)).trans ((St l).cons x)
def aWa (x:Int):∀l,l.Pairwise (· <= ·)->(fF x l).Pairwise (· <= ·)
 | [],_=>by simp[fF]
 |y::l,h=>by
  have h':=QI.1 h;unfold fF;cases u:decide (x<=y)with
  |true=>
   have q:x<=y:=VB u;refine QI.2 ⟨λz j=>?_,h⟩;rcases FI.1 j with rfl|j
   ·exact q
   have :=h'.1 z j;omega
  |false=>
   have q:¬x<=y:=N8 u;refine QI.2 ⟨λz j=>?_,aWa x l h'.2⟩;rcases FI.1 ((aHM x l).mem_iff.1 j)with rfl|j
   ·omega
   exact h'.1 z j
def Fin :∀l,(LW l).Pairwise (· <= ·)
 | []=>.nil
 |x::l=>aWa x _ (Fin l)
def aKu (l:AA Int):LW l=l.mergeSort λx y=>decide (x<=y):=by
 have hs:(l.mergeSort λx y=>x<=y).Pairwise (· <= ·):=by
  have :=List.pairwise_mergeSort (le:=λx y:Int=>x<=y) (by intro a b c;simp;omega) (by intro a b;simp;omega) l;exact this.imp (by intro a b h;simpa using h)
 exact((St l).trans (List.mergeSort_perm l _).symm).eq_of_pairwise (λa b _ _ h k=>AL) (Fin l) hs
abbrev AU:=AA Int
def Oc (l:AA Int):AB AU:=if l.length<=1099511627776 then some (LW l)else none
def XZ (l:AA Int):AB AU:=if l.length<=1099511627776 then some (Lib.compact l)else none
def ny.nil (w:BX)(e size:Nat):ny w e size (.slice none 0 0) 0 []:=.of (a7b w 0 e size)
variable {cap g n:Nat}{w:BX}
def ajk {e:Bq}{os:Bg Obj}{j:Bg BD}{q u:AA Int}(hl:u.length=q.length)(z:w.heap[g]? =some (.cells j e (0,0)))(h1:q.length<=cap)(h2:cap<=maxLen)(h3:cap*1<=j.size):
 ny (Go.Sort.grow (Go.Sort.putRow D6 (Go.Sort.ahead w n) g 0 u.toArray) os) e 1 (.slice (some ⟨g,0,none⟩) q.length cap) q.length (u.map D6):=
 ⟨fB,.inr ⟨g,cap,_,rfl,Ef _,heap_sortedI _ z,h1,h2,by simpa[Go.Sort.putCells]using h3,by rw[pO,←hl];exact take_putCellsI j u AL⟩⟩
variable {k q:Nat}
def ahw {e:Bq}{EO ys:AA Int}(h:ny w e 1 (.slice (some ⟨g,0,none⟩) n cap) n (EO.map D6))(L:ys.length=n)(M:k<=n):
 ny (Go.Sort.putRow D6 (Go.Sort.ahead w q) g 0 ys.toArray) e 1 (.slice (some ⟨g,0,none⟩) k cap) k ((ys.take k).map D6):=by
 rcases h.2 with⟨u,_⟩|⟨O,z,j,u,I,J,U,hm,hs,Y⟩
 ·cases u
 injection u with e1 _ e3
 injection e1 with e1
 injection e1 with e1
 subst e1;subst e3;refine⟨EY,.inr ⟨g,cap,Go.Sort.putCells D6 0 ys.toArray j,rfl,I,?_,AL,hm,by simpa[Go.Sort.putCells]using hs,?_⟩⟩
 ·simp[Go.Sort.putRow,Go.Sort.mapBlock,Go.Sort.ahead,YE,J,Go.Sort.onCells]
 have :=take_putCellsI j ys AL;rw[pO,YM,←this,aEw,zU AL]
variable {l m:AA Int}
def adR (h:l.Perm m):LW l=LW m:=by
 have hs:∀(l:AA Int),(LW l).Pairwise (· <= ·):=Fin;exact((St l).trans (h.trans (St m).symm)).eq_of_pairwise (λa b _ _ h1 h2=>AL) (hs l) (hs m)
def aR4 (h:l.Perm m):Oc l=Oc m:=by
 unfold Oc;rw[h.length_eq,adR h]
abbrev Dw:=EW Ak
def zJ (l r:AA Int)(h:Oc l=some r):Dw 197 [.aQ 0] [.arr 3 1 (List.map Ad l)] (.eG []) [.arr 3 1 (List.map Ad r)]:=by
 unfold Oc at h;split at h
 ·rename_i U;obtain rfl:=Dv h;refine EW.aGb λv w q=>?_;rcases q.2 with⟨rfl,M⟩|⟨g,cap,O,rfl,u,z,I,J,L,j⟩
  ·have hl:l=[]:=Hd M;subst hl;refine(Tryz.slices_Sort_int_none _ _ _).mono ?_;rintro e w' ⟨rfl,h⟩;subst h;exact⟨rfl,ny.nil _ _ _,Turns.refl _ _⟩
  have hs:(l.mergeSort λx y=>x<=y).length=l.length:=List.length_mergeSort _;refine(Tryz.slices_Sort_int g 0 cap l w (holds_of_blockI z VI) (IJ.1 z).1 AL).mono ?_;rintro e w' ⟨rfl,n,os,rfl⟩;rw[aKu];refine⟨rfl,?_,Turns.aDX (grownBy_sortedI _)⟩;rw[hs];exact ajk (os:=os) (n:=n) hs z I J L
 cases h
def aDq (l r:AA Int)(h:XZ l=some r):Dw 198 [.aQ 0] [.arr 3 1 (List.map Ad l)] (.aQ 1) [.dead,.arr 3 1 (List.map Ad r)]:=by
 unfold XZ at h;split at h
 ·rename_i hn;obtain rfl:=Dv h;refine EW.turned λv w u=>?_;rcases u.2 with⟨rfl,O⟩|⟨g,cap,U,rfl,I,z,J,Y,Z,j⟩
  ·have hl:l=[]:=Hd O;subst hl;refine(Tryz.slices_Compact_int_empty _ _ _).mono ?_;rintro e w' ⟨rfl,h⟩;subst h;exact⟨_,rfl,ny.nil _ _ _,Turns.refl _ _,λg z=>by simp[E5]at z⟩
  refine(Tryz.slices_Compact_int g 0 cap l w (holds_of_blockI z VI) AL J).mono ?_;rintro e w' ⟨rfl,q,rfl⟩;have L:=Lib.compact_length_le l;have hy:(Lib.compact l++List.replicate (l.length-(Lib.compact l).length) 0).length=l.length:=EY
  refine⟨_,rfl,?_,?_,λg z=>.inl z⟩
  ·have :=ahw (q:=q) u hy L;rw[zh rfl]at this;exact this
  exact⟨rfl,rfl,rfl,by simp[Sort.putRow,Sort.mapBlock,Sort.ahead],λk hk M=>by
   have :g≠k:=λe=>M zT
   simp[Sort.putRow,Sort.mapBlock,Sort.ahead,YE,this]⟩
 cases h
def strings_IndexByte (s:BL)(c:Int):AB Int:=some (Lib.indexByte s.data.toList c.toNat.toUInt8)
def aj0 (s:BL)(c:Int)(r:Int)(h:strings_IndexByte s c=some r):Dw 203 [.d (DT s),.d (Dh c)] [] (.d (Ad r)) []:=by
 rw[←Dv h];exact EW.plain (vs:=[.string s,.int .u8 c]) (v:=.int .i64 (Lib.indexByte s.data.toList c.toNat.toUInt8)) (λ_ _ _=>.d _ _ (.lit _)) λw=>(Tryz.strings_IndexByte s c w).mono λe w' ⟨h1,h2⟩=>⟨h1,aP9⟩
def a4P (s t:BL):AB Int:=match t.data.toList with
 | [c]=>some (Lib.indexByte s.data.toList c)
 |_=>none
def alc (s t:BL)(r:Int)(h:a4P s t=some r):Dw 342 [.d (DT s),.d (DT t)] [] (.d (Ad r)) []:=by
 unfold a4P at h;split at h
 ·rename_i c j;rw[←Dv h];obtain⟨⟨l⟩⟩:=t;simp only at j;subst j;exact EW.plain (vs:=[.string s,.string ⟨#[c]⟩]) (v:=.int .i64 (Lib.indexByte s.data.toList c)) (λ_ _ _=>.d _ _ (.lit _)) λw=>(Tryz.stringslite_Index_one s c w).mono λe w' ⟨h1,h2⟩=>⟨h1,aP9⟩
 cases h
structure gJ (P:Program) (t:TypeId) (s:Nat) (z:Value):Prop where
 und:∃n e,P.underlying t=some (.array n e)/\∃i,P.info? e=some i/\i.size=s
 zero:(P.info? t).bind (·.zero)=some z
 one:z.cells.all (·.oneCell')=true
def aM9 (P:Ch)(t:Bq)(s:Nat):AV:=
 match P.underlying t with
 |some (.array _ e)=>match P.info? e with
  |some i=>i.size=s
  |none=>false
 |_=>false
variable {P:Ch}{s:Nat}{t:Bq}{z:BD}
def aCC (h:aM9 P t s=true)(j:(P.info? t).bind (·.zero)=some z)(h1:z.cells.all (·.oneCell')=true):gJ P t s z:=by
 unfold aM9 at h;split at h
 ·rename_i n e q;split at h
  ·rename_i i hi;exact⟨⟨n,e,q,i,hi,VB h⟩,j,h1⟩
  cases h
 cases h
variable {α:Type}{es:AA Bc}{i:Int}{o:Oper}{off:Nat}{x:Bz}
theorem akT {j:Bg (Nat×Bz)}(hA:gJ P t s z)(vs:AA Ah)(hp:Nw (λi=>some (i*s,s)) (Fz z).length j.toList vs=true)(hd:(KL (λi=>some (i*s,s)) (Fz z) j.toList vs).all Ah.C9=true)(Z:o.op=.build t j:=by exact rfl):
 CB P o (OA j.toList vs) es (.d (.agg (JD (KL (λi=>some (i*s,s)) (Fz z) j.toList vs)))) es:=
 .pure λok H a w _ _ hn=>by
  obtain⟨⟨n,e,hu,i,hi,hs⟩,hz,h1⟩:=hA;have u:=aAc (P:=P) hz w;have I:(underlying t).run P w=.ok (.array n e) w:=a3o
  have J:(sizeOf e).run P w=.ok s w:=aGs
  obtain⟨q,hc,L⟩:=a01 (place:=λi=>some (i*s,s)) j.toList vs (Fz z) z.cells (aDW (ok:=ok) (w:=w) (H:=H) h1) hp hn;refine⟨.agg q,?_,.d _ _ ?_⟩
  ·have e:(j.map λ(i,x)=>(i,a.eval x)).toList=j.toList.map λp=>(p.1,a.eval p.2):=BU
   simp only[execOp,Z,Instr.build,Fg,u,I,J,Fv];rw[e,hc];rfl
  rw[aO0 hd]at L;generalize JD (KL (λi=>some (i*s,s)) (Fz z) j.toList vs)=xs at L ⊢;obtain⟨h2,h3⟩:=L;simp only[Di]at h2 h3
  have Y:∀i,i<xs.length->(xs.map Ah.d).getD i .junk=.d (xs.getD i EJ):=by
   grind
  have M:q.size=xs.length:=LM
  refine .agg xs q M ?_ ?_<;>intro i hi
  ·have :=(h3 i hi).1;rw[Y i hi]at this;exact this
  have O:=(h3 i hi).2;rw[Y i hi]at O;have U:i<q.size:=AL
  have e:q.toList.getD i undef=q.getD i undef:=by simp[List.getD,Array.getD,U]
  rw[e]at O;cases O with |d _ _ h=>exact h
def NT (enc:α->D)(l:AA α):D:=.agg (l.map enc)
def a5A {y:Bz}{e:Bq}{k:IntKind}(enc:α->D){l:AA α}{a:α}(h:Aj l i=some a)(O:P.underlying t=some (.array n e))(I:Eb P e false 1)(hl:l.length=n)(U:o.op=.index t x y:=by exact rfl):
 CB P o [(x,.d (NT enc l)),(y,.d (.lit (.int k i)))] es (.d (enc a)) es:=
 .pure λok H Y w _ _ J=>by
  obtain⟨Z,h1⟩:=GZ h;have q:=(FC J).1;have L:=(FC J).2.lit;simp only at q L;have u:=(Gs.1 h1).1;have hu:(underlying t).run P w=.ok (.array n e) w:=by simp[underlying,O]
  generalize hv:Y.eval x=v at q;cases q with
  |d _ _ q=>
   cases q with
   |agg _ vs z hf M=>
    rw[Di]at z hf M;have j:i.toNat<vs.size:=AL
    refine⟨vs[i.toNat],?_,?_⟩
    ·have hb:0<=i/\i<n:=⟨Z,AL⟩
     simp only[execOp,U,hv,L,Instr.index,asIntOf,Fg,Gl,hu,Fv,hb,and_self,JK,I.size w,part,I.agg w];simp[j]
    have :=M i.toNat u;simp only[Array.getD,j,dif_pos]at this;have e2:(l.map enc).getD i.toNat EJ=enc a:=by simp[List.getD,h1]
    rw[e2]at this;exact .d _ _ this
def adn (j:o.op=.nilCheck x:=by exact rfl):CB P o [(x,.ptr k off)] es (.ptr k off) es:=
 .pure λok H a w _ _ q=>by
  have h1:=L9 q;simp only at h1;generalize z:a.eval x=u at h1;cases h1 with
  |ptr _ _ b s h=>exact⟨_,by simp[execOp,j,z],.ptr _ _ b s h⟩
def aZA {i:Nat}(j:o.op=.nilCheck x:=by exact rfl):CB P o [(x,.lN k i off)] es (.lN k i off) es:=
 .pure λok H a w _ _ q=>by
  have h1:=L9 q;simp only at h1;generalize z:a.eval x=u at h1;cases h1 with
  |lN _ _ _ b n cap s h=>exact⟨_,by simp[execOp,j,z],.lN _ _ _ b n cap s h⟩
def aft {cs:AA D}(q:o.op=.nilCheck x:=by exact rfl):CB P o [(x,.d (.ref cs off))] es (.d (.ref cs off)) es:=
 .pure λok H a w _ _ z=>by
  have h1:=L9 z;simp only at h1;generalize I:a.eval x=u at h1;cases h1 with
  |d _ _ h=>cases h with
   |ref _ _ b p j J L M=>exact⟨_,by simp[execOp,q,I],.d _ _ (.ref _ _ b p j J L M)⟩
def aUs (n:Nat):D:=.fn (.func n) [] []
def QT {α:Type}(p:α->Prop):AA α->Prop
 | []=>True
 |x::l=>p x/\QT p l
def QT.mem {α:Type}{p:α->Prop}:∀{l:AA α},QT p l->∀x∈l,p x
 | [],_,x,h=>IV
 |y::l,hl,x,h=>by
  rcases FI.1 h with rfl|h
  ·exact hl.1
  exact hl.2.mem x h
class Kn (P:Program) where
 und:List (Nat×TypeDesc)
 an1:QT (λp:Nat×TypeDesc=>P.underlying p.1=some p.2) und
 ty:List (Nat×Bool×Nat)
 hty:QT (λp:Nat×Bool×Nat=>Eb P p.1 p.2.1 p.2.2) ty
 fld:List ((Nat×Nat)×Nat)
 hfld:QT (λp:(Nat×Nat)×Nat=>E9 P p.1.1 p.1.2 p.2) fld
 part:List ((Nat×Nat)×Nat×Bool×Nat)
 hpart:QT (λp:(Nat×Nat)×Nat×Bool×Nat=>mZ P p.1.1 p.1.2 p.2.1 p.2.2.1 p.2.2.2=true) part
 zero:List (Nat×Value)
 hzero:QT (λp:Nat×Value=>(P.info? p.1).bind (·.zero)=some p.2/\p.2.cells.all (·.oneCell')=true) zero
 st:List (Nat×List (Nat×Nat)×Value)
 hst:QT (λp:Nat×List (Nat×Nat)×Value=>Iw P p.1 p.2.1 p.2.2) st
 arr:List (Nat×Nat×Value)
 harr:QT (λp:Nat×Nat×Value=>gJ P p.1 p.2.1 p.2.2) arr
 sl:List (Nat×Nat)
 hsl:QT (λp:Nat×Nat=>P.underlying p.1=some (.slice p.2)) sl
def Oa {β:Type}(t:Nat):AA (Nat×β)->AB β
 | []=>none
 |(u,b)::l=>match Nat.beq t u with |true=>some b|false=>Oa t l
def MH {β:Type}{t:Nat}{b:β}:∀{l:AA (Nat×β)},Oa t l=some b->(t,b)∈l
 | [],h=>IK
 |(u,c)::l,h=>by
  unfold Oa at h;split at h
  ·rename_i e;cases h;rw[a1N e];exact I8
  exact Ii _ (MH h)
def a0H {β:Type}(t f:Nat):AA ((Nat×Nat)×β)->AB β
 | []=>none
 |((u,g),b)::l=>match Nat.beq t u&&Nat.beq f g with |true=>some b|false=>a0H t f l
def a0a {β:Type}{t f:Nat}{b:β}:∀{l:AA ((Nat×Nat)×β)},a0H t f l=some b->((t,f),b)∈l
 | [],h=>IK
 |((u,g),c)::l,h=>by
  unfold a0H at h;split at h
  ·rename_i e;cases h;rw[ED]at e;rw[a1N e.1,a1N e.2];exact I8
  exact Ii _ (a0a h)
structure Px where
 ns:List (Operand×Ah)
 x:Ah
 E:List Bc
 bar:Bool
def aF7 (op:BinOp)(k:IntKind)(a b:Int):AB BD:=
 match op with
 | .add=>some (.int k (k.wrap (a+b)))
 | .sub=>some (.int k (k.wrap (a-b)))
 | .mul=>some (.int k (k.wrap (a*b)))
 | .eql=>some (.bool (a==b))
 | .neq=>some (.bool (a != b))
 | .lss=>some (.bool (decide (a<b)))
 | .leq=>some (.bool (decide (a<=b)))
 | .gtr=>some (.bool (decide (a>b)))
 | .geq=>some (.bool (decide (a>=b)))
 |_=>none
variable {op:BinOp}{r:BD}
def ahM {k:IntKind}{a b:Int}(h:aF7 op k a b=some r)(w:BX):(binOp op t (.int k a) (.int k b)).run P w=.ok r w:=by
 unfold aF7 at h;cases op<;>first|(cases h;done)|(cases h;simp[binOp,Op.intArith,Op.intCmp];done)|(cases h;cases k<;>rfl)
def aKf (op:BinOp)(a b:BL):AB BD:=
 match op with
 | .eql=>some (.bool (a.toList==b.toList))
 | .neq=>some (.bool (!(a.toList==b.toList)))
 | .lss=>some (.bool (Op.bytesLess a.toList b.toList))
 | .leq=>some (.bool (Op.bytesLess a.toList b.toList||a.toList==b.toList))
 | .gtr=>some (.bool (!(Op.bytesLess a.toList b.toList||a.toList==b.toList)))
 | .geq=>some (.bool (!Op.bytesLess a.toList b.toList))
 |_=>none
def acU {a b:BL}(h:aKf op a b=some r)(w:BX):(binOp op t (.string a) (.string b)).run P w=.ok r w:=by
 unfold aKf at h;cases op<;>first|(cases h;done)|(cases h;rfl)
variable {es':AA Bc}{ns:AA (Bz×Ah)}{x:Ah}
def CB.aHJ {j:AA (Bz×Ah)}(h:CB P o ns es x es')(q:∀n∈ns,n∈j\/n=(.const (.slice none 0 0),.d (.sl []))):CB P o j es x es':=by
 intro C ok H a w Q hm z;refine h C ok H a w Q hm (λn u=>?_);rcases q n u with h1|rfl
 ·exact z n h1
 exact .d _ _ (.sl0 none 0)
def Ah.aQJ:Ah->AB BD
 | .d (.lit v)=>some v
 |_=>none
def aCf (K:Kn P)(σ:BP)(o:Oper):AB Px:=
 match o.op with
 | .move x=>match x with
   | .const (.slice none 0 0)=>some ⟨[],.d (.sl []),σ.ents,false⟩
   |x=>some ⟨[(x,σ.get x)],σ.get x,σ.ents,false⟩
 | .assign x=>match x with
   | .const (.slice none 0 0)=>some ⟨[],.d (.sl []),σ.ents,false⟩
   |x=>some ⟨[(x,σ.get x)],σ.get x,σ.ents,false⟩
 | .pick c x y=>match σ.get c with
   | .d (.lit (.bool true))=>some ⟨[(c,.d (.lit (.bool true))),(x,σ.get x)],σ.get x,σ.ents,false⟩
   | .d (.lit (.bool false))=>some ⟨[(c,.d (.lit (.bool false))),(y,σ.get y)],σ.get y,σ.ents,false⟩
   |_=>none
 | .binOp op t x y _=>match σ.get x,σ.get y with
   | .d (.lit (.int k a)),.d (.lit (.int k' b))=>if k=k' then(aF7 op k a b).map λr=>⟨[(x,.d (.lit (.int k a))),(y,.d (.lit (.int k b)))],.d (.lit r),σ.ents,false⟩else none
   | .d (.lit (.string a)),.d (.lit (.string b))=>(aKf op a b).map λr=>⟨[(x,.d (.lit (.string a))),(y,.d (.lit (.string b)))],.d (.lit r),σ.ents,false⟩
   | .d (.lit (.bool a)),.d (.lit (.bool b))=>match Oa t K.und with
     |some .bool=>match op with
      | .eql=>some ⟨[(x,.d (Dt a)),(y,.d (Dt b))],.d (Dt (a==b)),σ.ents,false⟩
      | .neq=>some ⟨[(x,.d (Dt a)),(y,.d (Dt b))],.d (Dt (!(a==b))),σ.ents,false⟩
      |_=>none
     |_=>none
   |_,_=>none
 | .unOp op _ x=>match σ.get x with
   | .d (.lit (.bool b))=>match op with
     | .not=>some ⟨[(x,.d (.lit (.bool b)))],.d (.lit (.bool !b)),σ.ents,false⟩
     |_=>none
   | .d (.lit (.int k n))=>match op with
     | .neg=>some ⟨[(x,.d (.lit (.int k n)))],.d (.lit (.int k (k.wrap (0-n)))),σ.ents,false⟩
     |_=>none
   |_=>none
 | .convert s t x=>match Oa s K.und,Oa t K.und,σ.get x with
   |some (.int J),some (.int k),.d (.lit (.int L n))=>if J=L then some ⟨[(x,.d (.lit (.int J n)))],.d (.lit (.int k (k.wrap n))),σ.ents,false⟩else none
   |some .string,some .string,.d (.lit (.string u))=>some ⟨[(x,.d (DT u))],.d (DT u),σ.ents,false⟩
   |_,_,_=>none
 | .extract x i=>match σ.get x with
   | .eG xs=>match xs[i]? with
     |some v=>some ⟨[(x,.eG xs)],v,σ.ents,false⟩
     |none=>none
   |_=>none
 | .fieldAddr t x f=>match a0H t f K.fld,σ.get x with
   |some off,.ptr k I=>some ⟨[(x,.ptr k I)],.ptr k (I+off),σ.ents,false⟩
   |some off,.lN k i I=>some ⟨[(x,.lN k i I)],.lN k i (I+off),σ.ents,false⟩
   |some off,.d (.ref cs I)=>some ⟨[(x,.d (.ref cs I))],.d (.ref cs (I+off)),σ.ents,false⟩
   |_,_=>none
 | .nilCheck x=>match σ.get x with
   | .ptr k I=>some ⟨[(x,.ptr k I)],.ptr k I,σ.ents,false⟩
   | .lN k i I=>some ⟨[(x,.lN k i I)],.lN k i I,σ.ents,false⟩
   | .d (.ref cs I)=>some ⟨[(x,.d (.ref cs I))],.d (.ref cs I),σ.ents,false⟩
   |_=>none
 | .field t x f=>match a0H t f K.part,σ.get x with
   |some (off,agg,n),.d (.agg cs)=>if off+n<=cs.length/\(agg=false->n=1)then some ⟨[(x,.d (.agg cs))],.d (Q7 agg cs off n),σ.ents,false⟩else none
   |_,_=>none
 | .load t x=>match Oa t K.ty,σ.get x with
   |some (agg,n),.d (.ref cs off)=>if off+n<=cs.length/\(agg=false->n=1)then some ⟨[(x,.d (.ref cs off))],.d (Q7 agg cs off n),σ.ents,false⟩else none
   |some (agg,n),.ptr k off=>match σ.ents[k]? with
    |some (.box cs)=>if(off+n<=cs.length/\(agg=false->n=1))/\cs.all Ah.C9=true then some ⟨[(x,.ptr k off)],.d (Q7 agg (JD cs) off n),σ.ents,false⟩else match agg,n,cs[off]? with
     |false,1,some v=>some ⟨[(x,.ptr k off)],v,σ.ents,false⟩
     |_,_,_=>none
    |_=>none
   |_,_=>none
 | .box _ x=>if(σ.get x).cells.all Ah.leaf=true then some ⟨[(x,σ.get x)],.ptr σ.ents.length 0,σ.ents++[.box (σ.get x).cells],true⟩else none
 | .alloc t=>match Oa t K.zero with
   |some z=>some ⟨[],.ptr σ.ents.length 0,σ.ents++[.box (Fz z)],true⟩
   |none=>none
 | .store t x y=>match Oa t K.ty,σ.get x with
   |some (_,n),.ptr k off=>match σ.ents[k]? with
    |some (.box cs)=>match y with
     | .const (.slice none 0 0)=>if n=1/\off+1<=cs.length then some ⟨[(x,.ptr k off)],.junk,σ.ents.set k (.box (setAt cs off [.d (.sl [])])),true⟩else none
     |y=>if((σ.get y).cells.all Ah.leaf=true/\(σ.get y).cells.length=n)/\off+n<=cs.length then some ⟨[(x,.ptr k off),(y,σ.get y)],.junk,σ.ents.set k (.box (setAt cs off (σ.get y).cells)),true⟩else none
    |_=>none
   |_,_=>none
 | .build t j=>match Oa t K.st with
   |some (q,z)=>
    if Nw (λ(i:Nat)=>q[i]?) (Fz z).length j.toList (j.toList.map λp=>σ.get p.2)=true/\(KL (λ(i:Nat)=>q[i]?) (Fz z) j.toList (j.toList.map λp=>σ.get p.2)).all Ah.C9=true
    then some ⟨OA j.toList (j.toList.map λp=>σ.get p.2),.d (.agg (JD (KL (λ(i:Nat)=>q[i]?) (Fz z) j.toList (j.toList.map λp=>σ.get p.2)))),σ.ents,false⟩
    else none
   |none=>match Oa t K.arr with
    |some (s,z)=>
     if Nw (λi=>some (i*s,s)) (Fz z).length j.toList (j.toList.map λp=>σ.get p.2)=true/\(KL (λi=>some (i*s,s)) (Fz z) j.toList (j.toList.map λp=>σ.get p.2)).all Ah.C9=true
     then some ⟨OA j.toList (j.toList.map λp=>σ.get p.2),.d (.agg (JD (KL (λi=>some (i*s,s)) (Fz z) j.toList (j.toList.map λp=>σ.get p.2)))),σ.ents,false⟩
     else none
    |none=>none
 | .call c=>match c.callee,c.args.toList,c.argTypes.toList with
   | .builtin .len,[x],[t]=>match Oa t K.und,σ.get x with
     |some .string,.d (.lit (.string s))=>some ⟨[(x,.d (DT s))],.d (Ad s.size),σ.ents,false⟩
     |_,_=>none
   |_,_,_=>none
 |_=>none
def aHk (σ:BP):∀(l:AA (Nat×Bz)),needs σ (OA l (l.map λp=>σ.get p.2))
 | []=>trivial
 |(_,x)::l=>⟨rfl,aHk σ l⟩
variable {r:Px}{σ:BP}
theorem aYO (K:Kn P)(h:aCf K σ o=some r):CB P o r.ns σ.ents r.x r.E/\needs σ r.ns/\(r.bar=false->r.E=σ.ents):=by
 unfold aCf at h;split at h
 ·rename_i x j;split at h
  ·cases h;exact⟨ai0 j,trivial,λ_=>rfl⟩
  cases h;exact⟨an6 j,⟨rfl,trivial⟩,λ_=>rfl⟩
 ·rename_i x j;split at h
  ·cases h;exact⟨aa7 j,trivial,λ_=>rfl⟩
  cases h;exact⟨afa j,⟨rfl,trivial⟩,λ_=>rfl⟩
 ·rename_i c x y j;split at h
  ·rename_i e;cases h;exact⟨aaT true rfl j,⟨e,rfl,trivial⟩,λ_=>rfl⟩
  ·rename_i e;cases h;exact⟨ama false rfl j,⟨e,rfl,trivial⟩,λ_=>rfl⟩
  cases h
 ·rename_i op t x y t' j;split at h
  ·rename_i k a k' b O U;split at h
   ·rename_i I;subst I;rw[ay]at h;obtain⟨v,L,rfl⟩:=h;exact⟨Iy j (ahM L) ⟨rfl,rfl⟩,⟨O,U,trivial⟩,λ_=>rfl⟩
   cases h
  ·rename_i a b O U;rw[ay]at h;obtain⟨v,L,rfl⟩:=h;exact⟨Iy j (acU L) ⟨rfl,rfl⟩,⟨O,U,trivial⟩,λ_=>rfl⟩
  ·rename_i a b O U;split at h
   ·rename_i Y;have Y:=K.an1.mem _ (MH Y);split at h
    ·cases h;exact⟨aa0 Y j,⟨O,U,trivial⟩,λ_=>rfl⟩
    ·cases h;exact⟨abb Y j,⟨O,U,trivial⟩,λ_=>rfl⟩
    cases h
   cases h
  cases h
 ·rename_i op t x j;split at h
  ·rename_i b e;split at h
   ·cases h;exact⟨aFQ j (λ_=>rfl),⟨e,trivial⟩,λ_=>rfl⟩
   cases h
  ·rename_i k n e;split at h
   ·cases h;exact⟨aFQ j (λ_=>rfl),⟨e,trivial⟩,λ_=>rfl⟩
   cases h
  cases h
 ·rename_i s t x j;split at h
  ·rename_i k0 k k1 n h1 h2 e;split at h
   ·rename_i I;subst I;cases h;exact⟨aae (K.an1.mem _ (MH h1)) (K.an1.mem _ (MH h2)) j,⟨e,trivial⟩,λ_=>rfl⟩
   cases h
  ·rename_i u h1 h2 e;cases h;exact⟨amh (K.an1.mem _ (MH h1)) (K.an1.mem _ (MH h2)) j,⟨e,trivial⟩,λ_=>rfl⟩
  cases h
 ·rename_i x i j;split at h
  ·rename_i xs e;split at h
   ·rename_i v L;cases h;exact⟨aa3 j L,⟨e,trivial⟩,λ_=>rfl⟩
   cases h
  cases h
 ·rename_i t x f j;split at h
  ·rename_i off k o' h1 e;cases h;exact⟨acW (K.hfld.mem _ (a0a h1)) j,⟨e,trivial⟩,λ_=>rfl⟩
  ·rename_i off k i o' h1 e;cases h;exact⟨akY (K.hfld.mem _ (a0a h1)) j,⟨e,trivial⟩,λ_=>rfl⟩
  ·rename_i off cs o' h1 e;cases h;exact⟨akJ (K.hfld.mem _ (a0a h1)) j,⟨e,trivial⟩,λ_=>rfl⟩
  cases h
 ·rename_i x j;split at h
  ·rename_i e;cases h;exact⟨adn j,⟨e,trivial⟩,λ_=>rfl⟩
  ·rename_i e;cases h;exact⟨aZA j,⟨e,trivial⟩,λ_=>rfl⟩
  ·rename_i e;cases h;exact⟨aft j,⟨e,trivial⟩,λ_=>rfl⟩
  cases h
 ·rename_i t x f j;split at h
  ·rename_i off agg n cs h1 e;split at h
   ·rename_i q;cases h;exact⟨aaQ rfl (K.hpart.mem _ (a0a h1)) q.1 q.2 j,⟨e,trivial⟩,λ_=>rfl⟩
   cases h
  cases h
 ·rename_i t x j;split at h
  ·rename_i agg n cs off h1 e;split at h
   ·rename_i q;cases h;exact⟨am9 rfl (K.hty.mem _ (MH h1)) q.1 q.2 j,⟨e,trivial⟩,λ_=>rfl⟩
   cases h
  ·rename_i agg n k off h1 e;split at h
   ·rename_i cs I;split at h
    ·rename_i q;cases h;exact⟨aXc rfl I q.2 (K.hty.mem _ (MH h1)) q.1.1 q.1.2 j,⟨e,trivial⟩,λ_=>rfl⟩
    split at h
    ·rename_i v L _;cases h;exact⟨aTT I L (K.hty.mem _ (MH h1)) j,⟨e,trivial⟩,λ_=>rfl⟩
    cases h
   cases h
  cases h
 ·rename_i t x j;split at h
  ·rename_i q;cases h;exact⟨aZh q j,⟨rfl,trivial⟩,λM=>by cases M⟩
  cases h
 ·rename_i t j;split at h
  ·rename_i z hz;cases h;exact⟨ahG (K.hzero.mem _ (MH hz)).1 (K.hzero.mem _ (MH hz)).2 j,trivial,λM=>by cases M⟩
  cases h
 ·rename_i t x y j;split at h
  ·rename_i agg n k off h1 e;split at h
   ·rename_i cs I;split at h
    ·split at h
     ·rename_i q;cases h;refine⟨CB.aHJ (aVk (v:=.d (.sl [])) I rfl (by have h9:=(K.hty.mem _ (MH h1)).size;rw[q.1]at h9;exact h9) rfl q.2 j) (λn hn=>?_),⟨e,trivial⟩,λM=>by cases M⟩
      grind
     cases h
    split at h
    ·rename_i q;cases h;exact⟨aVk I q.1.1 (K.hty.mem _ (MH h1)).size q.1.2 q.2 j,⟨e,rfl,trivial⟩,λM=>by cases M⟩
    cases h
   cases h
  cases h
 ·rename_i t parts j;split at h
  ·rename_i Z z hs;split at h
   ·rename_i q;cases h;exact⟨alz (K.hst.mem _ (MH hs)) _ j rfl q.1 q.2,aHk σ _,λ_=>rfl⟩
   cases h
  split at h
  ·rename_i s z hs;split at h
   ·rename_i q;cases h;exact⟨akT (K.harr.mem _ (MH hs)) _ q.1 q.2 j,aHk σ _,λ_=>rfl⟩
   cases h
  cases h
 ·rename_i c j;split at h
  ·rename_i x t J ha ht
   have j:o.op=.call { callee:=.builtin .len,args:= #[x],argTypes:= #[t] }:=by
    obtain⟨cal,aQP,ts⟩:=c;simp only at J ha ht;rw[j,J,show aQP= #[x]from by rw[←iY (xs:=aQP),ha],show ts= #[t]from by rw[←iY (xs:=ts),ht]]
   split at h
   ·rename_i s h1 e;cases h;exact⟨aYu s (K.an1.mem _ (MH h1)) j,⟨e,trivial⟩,λ_=>rfl⟩
   cases h
  cases h
 cases h
def Ju (ops:Bg Oper)(σ:BP):AB (Nat×AV)->AB AV
 |none=>some true
 |some (j,q)=>match(ops[j]?).bind (·.dst)with
  |some d=>match σ.slots.getD d .junk with
   | .d (.lit (.bool b))=>some (b==q)
   | .d (.lit (.tuple a))=>match a.toList with
     | []=>some false
     |_=>none
   |_=>none
  |none=>none
variable {g:AB (Nat×AV)}{ops:Bg Oper}
theorem PO (h:Ju ops σ g=some true):XE ops σ g:=by
 unfold Ju at h;split at h
 ·exact .inl rfl
 rename_i j q;split at h
 ·rename_i d hd;split at h
  ·rename_i b hs;refine .inr ⟨j,q,d,b,rfl,hd,hs,?_⟩;simpa using h
  ·grind
  cases h
 cases h
def ad6 (h:Ju ops σ g=some false):Ya ops σ g:=by
 unfold Ju at h;split at h
 ·cases h
 rename_i j q;split at h
 ·rename_i d hd;split at h
  ·rename_i b hs;refine aZs j q d b rfl hd hs ?_;have :(b==q)=false:=Dv h;cases b<;>cases q<;>first|rfl|cases this
  ·rename_i a hs;split at h
   ·rename_i ha;have ha:a= #[]:=by rw[←iY (xs:=a),ha]
    subst ha;exact aix j q d rfl hd hs
   cases h
  cases h
 cases h
def Xx (K:Kn P)(ops:Bg Oper)(σ:BP)(o:Oper):AB Px:=
 match Ju ops σ o.guard with
 |some true=>match aCf K σ o with
  |some r=>if(OG r.ns).all (tmpsOf o).contains=true then some r else none
  |none=>none
 |some false=>some ⟨[],.d (.lit undef),σ.ents,false⟩
 |none=>none
def dS (K:Kn P)(h:Xx K ops σ o=some r):QY P ops σ r.x r.E r.bar o:=by
 unfold Xx at h;split at h
 ·rename_i j;split at h
  ·rename_i z q;split at h
   ·rename_i u;cases h;obtain⟨h1,h2,h3⟩:=aYO K q;exact⟨.inl ⟨_,h1,h2,u,PO j⟩,h3⟩
   cases h
  cases h
 ·rename_i j;cases h;exact⟨.inr ⟨rfl,rfl,ad6 j⟩,λ_=>rfl⟩
 cases h
def GI {P:Ch}(K:Kn P)(ops:Bg Oper):Nat->AA Oper->BP->AB (BP×AA Px)
 |0,_,σ=>some (σ,[])
 |n+1,l,σ=>match l with
  |o::l=>match Xx K ops σ o with
   |some r=>match GI K ops n l (σ.put o.dst r.x r.E)with
    |some (σ',rs)=>some (σ',r::rs)
    |none=>none
   |none=>none
  | []=>none
def Nh :AB (BP×AA Px)->BP
 |some (σ,_)=>σ
 |none=>⟨[],[],0⟩
def aK :AB (BP×AA Px)->AA Px
 |some (_,rs)=>rs
 |none=>[]
def Chain.auto {P:Ch}(K:Kn P){ops:Bg Oper}:∀(n:Nat) {l:AA Oper} {σ σ':BP},(GI K ops n l σ).isSome=true->Chain P ops (l.drop n) (Nh (GI K ops n l σ)) σ'->Chain P ops l σ σ'
 |0,l,σ,σ',_,k=>by simpa[GI,Nh]using k
 |n+1,l,σ,σ',h,k=>by
  unfold GI at h k;split at h
  ·rename_i o l';split at h
   ·rename_i r j;split at h
    ·rename_i q rs h2;simp only[j,h2]at k;refine .aqY o.dst (dS K j) rfl (Chain.auto K n (by rw[h2];rfl) ?_);rw[h2];exact k
    cases h
   cases h
  cases h
def FT.auto {P:Ch}(K:Kn P){ops:Bg Oper}:∀(n:Nat) {l:AA Oper} {σ σ':BP} {rs:AA Ah} {ess:AA (AA Bc)} {bs:AA AV},(GI K ops n l σ).isSome=true->FT P ops (l.drop n) (Nh (GI K ops n l σ)) rs ess bs σ'->
 FT P ops l σ ((aK (GI K ops n l σ)).map Px.x++rs) ((aK (GI K ops n l σ)).map Px.E++ess) ((aK (GI K ops n l σ)).map Px.bar++bs) σ'
 |0,l,σ,σ',rs,ess,bs,_,k=>by simpa[GI,Nh,aK]using k
 |n+1,l,σ,σ',rs,ess,bs,h,k=>by
  unfold GI at h k ⊢;split at h
  ·rename_i o l';split at h
   ·rename_i r j;split at h
    ·rename_i u q h2;simp only[j,h2]at k ⊢;refine .aqY o.dst (dS K j) rfl ?_;have :=FT.auto K n (l:=l') (σ:=σ.put o.dst r.x r.E) (σ':=σ') (rs:=rs) (ess:=ess) (bs:=bs) (by rw[h2];rfl) (by rw[h2];exact k);rw[h2]at this;exact this
    cases h
   cases h
  cases h
variable {l:AA Oper}{σ':BP}
def Chain.a [T:Kn P](n:Nat)(k:Chain P ops (l.drop n) (Nh (GI T ops n l σ)) σ')(h:(GI T ops n l σ).isSome=true:=by kernel_rfl):Chain P ops l σ σ':=Chain.auto T n h k
variable {bs:AA AV}{ess:AA (AA Bc)}{rs:AA Ah}
def FT.a [T:Kn P](n:Nat)(k:FT P ops (l.drop n) (Nh (GI T ops n l σ)) rs ess bs σ')(h:(GI T ops n l σ).isSome=true:=by kernel_rfl):
 FT P ops l σ ((aK (GI T ops n l σ)).map Px.x++rs) ((aK (GI T ops n l σ)).map Px.E++ess) ((aK (GI T ops n l σ)).map Px.bar++bs) σ':=FT.auto T n h k
variable {rest:AA Oper}
def FT.c [T:Kn P]{e c:AV}(h:some e=some c)(k:FT P ops rest (σ.tX o.dst (.d (.lit (.bool c)))) rs ess bs σ')(hs:(Xx T ops σ o).map (λr=>(r.x,r.E,r.bar))=some (.d (.lit (.bool e)),σ.ents,false):=by kernel_rfl):
 FT P ops (o::rest) σ (.d (.lit (.bool c))::rs) (σ.ents::ess) (false::bs) σ':=by
 rw[ay]at hs;obtain⟨r,q,j⟩:=hs;have h1:=dS T q;simp only[Uu]at j;rw[j.1,j.2.1,j.2.2,Dv h]at h1;exact .aqY o.dst h1 rfl k
def aSz (σ:BP)(ns:AA (Bz×Ah)):Prop:=(ns.map λn=>σ.get n.1)=ns.map (·.2)
def ZE {σ:BP}:∀{ns:AA (Bz×Ah)},aSz σ ns->needs σ ns
 | [],_=>trivial
 |n::ns,h=>by
  simp only[aSz,Gg,aBI]at h;exact⟨h.1,ZE h.2⟩
def FT.p (h:CB P o ns σ.ents x σ.ents)(k:FT P ops rest (σ.tX o.dst x) rs ess bs σ')(j:(ns.map λn=>σ.get n.1)=ns.map (·.2):=by kernel_rfl)(q:Ju ops σ o.guard=some true:=by kernel_rfl)(u:(OG ns).all (tmpsOf o).contains=true:=by kernel_rfl):FT P ops (o::rest) σ (x::rs) (σ.ents::ess) (false::bs) σ':=
 .op o.dst h (ZE j) (PO q) rfl u k
def FT.e (E:AA Bc)(h:CB P o ns σ.ents x es')(k:FT P ops rest (σ.put o.dst x E) rs ess bs σ')(j:es'=E:=by kernel_rfl)(q:(ns.map λn=>σ.get n.1)=ns.map (·.2):=by kernel_rfl)(u:Ju ops σ o.guard=some true:=by kernel_rfl)(z:(OG ns).all (tmpsOf o).contains=true:=by kernel_rfl):FT P ops (o::rest) σ (x::rs) (E::ess) (true::bs) σ':=
 .oe o.dst E h j (ZE q) (PO u) rfl z k
def Uw (σ:BP)(o:Oper):AB (FuncId×AA Ah):=
 match o.op with
 | .call c=>match c.callee with
   | .value (.func f)=>some (f,c.args.toList.map σ.get)
   |_=>none
 |_=>none
def aWN {srcs:AA EN}:∀{l:AA Ah},l.all Ah.C9=true->NV srcs l l
 | [],_=>trivial
 |x::l,h=>by
  simp only[List.all_cons,ED]at h;refine⟨?_,aWN h.2⟩;cases x with
  |d x=>exact .inl rfl
  |_=>cases h.1
def aOT (σ:BP):∀(l:AA Bz),needs σ (Fh l (l.map σ.get))
 | []=>trivial
 |_::l=>⟨rfl,aOT σ l⟩
variable {dY:AA Ah}
def aHs {f:FuncId}{u:Ah}(M:EW P f dY [] u [])(O:Gw P f=true)(q:Uw σ o=some (f,dY))(hd:dY.all Ah.C9=true):∃ns,CB P o ns σ.ents (u.up [] σ.ents.length) σ.ents/\needs σ ns/\(OG ns).all (tmpsOf o).contains=true:=by
 unfold Uw at q;split at q
 ·rename_i c L;split at q
  ·rename_i Z j;cases q;obtain⟨callee,args,ats⟩:=c;simp only at j;subst j;refine⟨_,aSt M O (aWN hd) BU rfl L,aOT σ _,?_⟩;rw[Fq];intro t I;unfold OG at I;rw[eA]at I;obtain⟨n,U,J⟩:=I
   have z:n.1∈args.toList:=by
    have :∀(l:AA Bz) (vs:AA Ah),n∈Fh l vs->n.1∈l:=by
     intro l
     induction l with
     |nil=>intro vs h;cases vs<;>simp[Fh]at h
     |cons x l Y=>
      intro vs h;cases vs with
      |nil=>simp[Fh]at h
      |cons v vs=>
       simp only[Fh,FI]at h;rcases h with rfl|h
       ·exact I8
       exact Ii _ (Y vs h)
    exact this _ _ U
   unfold tmpsOf;simp only[List.contains_iff_mem,eA];refine⟨n.1,?_,J⟩;rw[L];show n.1∈(#[Operand.func f]++args).toList;simp[z]
  cases q
 cases q
variable {j:Ah}
def FT.call {f:FuncId}(q:EW P f dY [] j [])(u:Gw P f=true)(k:FT P ops rest (σ.tX o.dst (j.up [] σ.ents.length)) rs ess bs σ')(z:Uw σ o=some (f,dY):=by kernel_rfl)(hd:dY.all Ah.C9=true:=by kernel_rfl)(I:Ju ops σ o.guard=some true:=by kernel_rfl):FT P ops (o::rest) σ (j.up [] σ.ents.length::rs) (σ.ents::ess) (false::bs) σ':=by
 obtain⟨ns,h1,h2,h3⟩:=aHs q u z hd;exact .op o.dst h1 h2 (PO I) rfl h3 k
def qy (v:BD):Exit:=.panic [{ v,recovered:=false }]
structure Dj (P:Program) (ops:Array Oper) (l:List Oper) (σ:BP) (K:Exit->BP->Prop):Prop where
 run:∀(ro:Option Nat) (l2:List Oper) (Q:Exit->Act->World->Prop) (C:Ez) (ok:Nat->Prop) (H:List CG) (a:Act) (w:World),Holds C ok H σ a w->
  ((∀σ' ok' H' a' w',K .normal σ'->Holds C ok' H' σ' a' w'->wpListIn (JE ro) 0 P ops Q l2 a' w')/\(∀v σ' ok' H' a' w',K (qy v) σ'->Holds C ok' H' σ' a' w'->Q (qy v) a' w'))->wpListIn (JE ro) 0 P ops Q (l++l2) a w
variable {K Q:Exit->BP->Prop}{y:Code}
def Dj.nil (h:K .normal σ):Dj P ops [] σ K:=⟨λ_ _ _ _ _ _ _ _ j q=>q.1 _ _ _ _ _ h j⟩
def Dj.aU {M:BP->Prop}(h:M σ):Dj P ops [] σ (JG M K):=.nil h
def Dj.step {E:AA Bc}{bar:AV}(hs:QY P ops σ x E bar o)(k:Dj P ops rest (σ.put o.dst x E) K):Dj P ops (o::rest) σ K:=by
 refine⟨λro l2 Q C ok H a w j J=>?_⟩;show wpListIn (JE ro) 0 P ops Q (o::(rest++l2)) a w;unfold wpListIn;rcases hs.1 with⟨ns,L,M,_,q⟩|⟨rfl,rfl,q⟩
 ·rw[ES (Uh j q)];refine aX ?_ (L.inR ro C ok H a w Q j.mem (λn u=>Zo M n u▸j.get n.1));rintro a' w' ⟨v,ok',H',rfl,z,I,hm,O⟩;exact k.run ro l2 Q C _ _ _ _ (j.put o.dst z I hm O) J
 rw[EZ (by rw[aHl j q];simp)];exact⟨λ_ _=>trivial,k.run ro l2 Q C _ _ _ _ (j.put o.dst (.refl _ _) (.refl _) j.mem (.d _ _ (.lit _))) J⟩
def Dj.conv (q:BP)(h:∀C ok H a w,Holds C ok H σ a w->∃ok',Holds C ok' H q a w)(k:Dj P ops l q K):Dj P ops l σ K:=⟨λro l2 Q C ok H a w u z=>by
 obtain⟨ok',j⟩:=h C ok H a w u
 exact k.run ro l2 Q C _ _ _ _ j z⟩
def Dj.auto (T:Kn P):∀(n:Nat) {l:AA Oper} {σ:BP},(GI T ops n l σ).isSome=true->Dj P ops (l.drop n) (Nh (GI T ops n l σ)) K->Dj P ops l σ K
 |0,l,σ,_,k=>by simpa[GI,Nh]using k
 |n+1,l,σ,h,k=>by
  unfold GI at h k;split at h
  ·rename_i o l';split at h
   ·rename_i r j;split at h
    ·rename_i q rs h2;simp only[j,h2]at k;refine .step (dS T j) (Dj.auto T n (by rw[h2];rfl) ?_);rw[h2];exact k
    cases h
   cases h
  cases h
def Dj.a [T:Kn P](n:Nat)(k:Dj P ops (l.drop n) (Nh (GI T ops n l σ)) K)(h:(GI T ops n l σ).isSome=true:=by kernel_rfl):Dj P ops l σ K:=Dj.auto T n h k
def Dj.p (h:CB P o ns σ.ents x σ.ents)(k:Dj P ops rest (σ.tX o.dst x) K)(j:(ns.map λn=>σ.get n.1)=ns.map (·.2):=by kernel_rfl)(q:Ju ops σ o.guard=some true:=by kernel_rfl)(u:(OG ns).all (tmpsOf o).contains=true:=by kernel_rfl):Dj P ops (o::rest) σ K:=
 .step (aM1 h (ZE j) (PO q) u) k
def Dj.e (E:AA Bc)(h:CB P o ns σ.ents x es')(k:Dj P ops rest (σ.put o.dst x E) K)(j:es'=E:=by kernel_rfl)(q:(ns.map λn=>σ.get n.1)=ns.map (·.2):=by kernel_rfl)(u:Ju ops σ o.guard=some true:=by kernel_rfl)(z:(OG ns).all (tmpsOf o).contains=true:=by kernel_rfl):Dj P ops (o::rest) σ K:=
 .step (bar:=true) ⟨.inl ⟨ns,j▸h,ZE q,z,PO u⟩,λh=>IK⟩ k
def Dj.call {f:FuncId}(q:EW P f dY [] j [])(u:Gw P f=true)(k:Dj P ops rest (σ.tX o.dst (j.up [] σ.ents.length)) K)(z:Uw σ o=some (f,dY):=by kernel_rfl)(hd:dY.all Ah.C9=true:=by kernel_rfl)(I:Ju ops σ o.guard=some true:=by kernel_rfl):Dj P ops (o::rest) σ K:=by
 obtain⟨ns,h1,h2,h3⟩:=aHs q u z hd;exact .step (aM1 h1 h2 (PO I) h3) k
def Dj.c [T:Kn P]{e c:AV}(h:some e=some c)(k:Dj P ops rest (σ.tX o.dst (.d (.lit (.bool c)))) K)(hs:(Xx T ops σ o).map (λr=>(r.x,r.E,r.bar))=some (.d (.lit (.bool e)),σ.ents,false):=by kernel_rfl):Dj P ops (o::rest) σ K:=by
 rw[ay]at hs;obtain⟨r,q,j⟩:=hs;have h1:=dS T q;simp only[Uu]at j;rw[j.1,j.2.1,j.2.2,Dv h]at h1;exact .step h1 k
def BP.wipe (j:AA Nat)(σ:BP):BP:=⟨j.foldl (λl d=>l.set d .junk) σ.slots,σ.ents,σ.base⟩
def Holds.wipe {C:Ez}{ok:Nat->Prop}{H:AA CG}{a:Act}{w:BX}:∀(j:AA Nat) {σ:BP},Holds C ok H σ a w->Holds C ok H (σ.wipe j) a w
 | [],σ,h=>h
 |d::j,σ,h=>by
  refine Holds.wipe j (σ:=⟨σ.slots.set d .junk,σ.ents,σ.base⟩) ⟨h.mem,by simpa using h.size,h.defers,h.base,λt q=>?_⟩;simp only[qH]at q;by_cases e:d=t
  ·subst e;have u:(σ.slots.set d .junk).getD d .junk=.junk:=by simp[List.getD,q]
   rw[u];exact .junk _
  have u:(σ.slots.set d .junk).getD t .junk=σ.slots.getD t .junk:=aDa
  rw[u];exact h.slot t q
def an9 (n:Nat)(l l2:AA Oper):l++l2=l.take n++(l.drop n++l2):=by
 rw[←Il,ZT]
def Dj.join (n:Nat)(M:BP->Prop)(h2:∀s,M s->Dj P ops (l.drop n) s K)(h1:Dj P ops (l.take n) σ (JG M K)):Dj P ops l σ K:=⟨λro l2 Q C ok H a w u q=>by
 rw[an9 n l l2]
 exact h1.run ro _ Q C ok H a w u ⟨λσ' ok' H' a' w' z j=>(h2 σ' z).run ro l2 Q C ok' H' a' w' j q,q.2⟩⟩
def Dj.merge (n:Nat)(j:AA Nat)(d:Nat)(x:Ah)(h1:Dj P ops (l.take n) σ (JG (λs=>s.wipe j=(σ.wipe j).tX (some d) x) K))(h2:Dj P ops (l.drop n) ((σ.wipe j).tX (some d) x) K):Dj P ops l σ K:=
 .join n _ (λs hs=>⟨λro l2 Q C ok H a w u z=>by
  have e:s.wipe j=(σ.wipe j).tX (some d) x:=hs;have q:=u.wipe j;rw[e]at q
  exact h2.run ro l2 Q C ok H a w q z⟩) h1
def CS {id:Nat}(h:Dj P ops ops.toList σ Q):Bh P (.region id ops false) σ Q:=⟨λro _ C ok H a w u=>by
 refine wpIn_region_list ?_;have :=h.run ro [] (λe a' w'=>∃ok' H' σ',Holds C ok' H' σ' a' w'/\Q e σ') C ok H a w u ⟨λσ' ok' H' a' w' q j=>⟨ok',H',σ',j,q⟩,λv σ' ok' H' a' w' q j=>⟨ok',H',σ',j,q⟩⟩
 rwa [Rs]at this⟩
def BO {id:Nat}(h:Dj P ops ops.toList σ (JG (λs=>Bh P y s Q) Q)):Bh P (.seq (.region id ops false) y) σ Q:=
 Bh.seq (λs=>Bh P y s Q) (CS h) (λ_ h=>h)
def AP [T:Kn P]{id:Nat}(n:Nat)(k:Dj P ops (ops.toList.drop n) (Nh (GI T ops n ops.toList σ)) (JG (λs=>Bh P y s Q) Q))(h:(GI T ops n ops.toList σ).isSome=true:=by kernel_rfl):Bh P (.seq (.region id ops false) y) σ Q:=BO (Dj.a n k h)
def BA (n:Nat)(l:AA (Nat×Ah)):AA Ah:=(List.range n).map λi=>(Oa i l).getD .junk
def mk (n w:Nat):AA AV:=(List.range n).map λi=>Nat.testBit w i
def aYU {S:BP}(m:AA AV)(π:AA (Nat×AV))(h1:Vw σ.base σ.ents π=true:=by kernel_rfl)(h2:S=⟨Lr π m σ.slots,SS σ.ents π,σ.base⟩:=by kernel_rfl):CO σ S:=aAS.sub ⟨m,π,h1,h2⟩
inductive LK (P:Program) where
 |call (i:Nat) (f:FuncId) (dY:List Ah) (res:Ah) (run:EW P f dY [] res []) (ent:Gw P f=true) (dat:dY.all Ah.C9=true)
 |dat (i:Nat) (op:Op) (ns:List (Operand×Ah)) (x:Ah) (h:∀(o:Oper) (es:List Bc),o.op=op->CB P o ns es x es)
 |at_ (i:Nat) (op:Op) (ns:List (Operand×Ah)) (k:Nat) (e:Bc) (x:Ah) (h:∀(o:Oper) (es:List Bc),es[k]? =some e->o.op=op->CB P o ns es x es)
 |fix (i:Nat) (op:Op) (ns:List (Operand×Ah)) (es:List Bc) (x:Ah) (E:List Bc) (h:∀(o:Oper),o.op=op->CB P o ns es x E)
def LK.ix:LK P->Nat
 | .call i .. =>i
 | .dat i .. =>i
 | .at_ i .. =>i
 | .fix i .. =>i
inductive Y6 where
 |call (c:Option (FuncId×List Ah))
 |dat (op:Op) (vs:List Ah)
 |at_ (op:Op) (vs:List Ah) (e:Option Bc)
 |fix (op:Op) (vs:List Ah) (es:List Bc)
def aJ6 {P:Ch}(i:Nat):AA (LK P)->AB (LK P)
 | []=>none
 |c::l=>match Nat.beq i c.ix with |true=>some c|false=>aJ6 i l
section
variable {P:Ch}
def xA (σ:BP)(o:Oper):LK P->BP×AB Y6
 | .call _ _ _ j _ _ _=>(σ.tX o.dst (j.up [] σ.ents.length),some (.call (Uw σ o)))
 | .dat _ _ ns x _=>(σ.tX o.dst x,some (.dat o.op (ns.map λn=>σ.get n.1)))
 | .at_ _ _ ns k _ x _=>(σ.tX o.dst x,some (.at_ o.op (ns.map λn=>σ.get n.1) σ.ents[k]?))
 | .fix _ _ ns _ x E _=>(σ.put o.dst x E,some (.fix o.op (ns.map λn=>σ.get n.1) σ.ents))
def a0n :LK P->Y6
 | .call _ f dY _ _ _ _=>.call (some (f,dY))
 | .dat _ op ns _ _=>.dat op (ns.map (·.2))
 | .at_ _ op ns _ e _ _=>.at_ op (ns.map (·.2)) (some e)
 | .fix _ op ns es _ _ _=>.fix op (ns.map (·.2)) es
def U3 (T:Kn P)(L:AA (LK P))(ops:Bg Oper)(σ:BP)(i:Nat):AB (BP×AB Y6):=
 match ops[i]? with
 |none=>none
 |some o=>match aJ6 i L with
  |some c=>match Ju ops σ o.guard with
   |some true=>some (xA σ o c)
   |_=>none
  |none=>match Xx T ops σ o with
   |some r=>some (σ.put o.dst r.x r.E,none)
   |none=>none
def Jm (T:Kn P)(L:AA (LK P))(ops:Bg Oper)(σ:BP):AA Nat->BP
 | []=>σ
 |i::l=>match U3 T L ops (Jm T L ops σ l) i with
  |some (σ',_)=>σ'
  |none=>σ
def fZ (ops:Bg Oper)(m:AA Nat)(i:Nat):AV:=match ops[i]? with
 |some o=>o.after.toList.all λe=> !Region.binds .any e||(m.contains e.on&&(e.on<ops.size))
 |none=>false
def aEy (ops:Bg Oper)(N:AA (AA Nat))(F:AA Nat)(k:Nat)(m:AA Nat)(T:AA (Nat×Nat×Nat)):AV:=
 ((List.range ops.size).all λi=>m.contains i|| !fZ ops m i||
   T.any λt=>t.2.1==i&&(t.2.2<N.length)&&(λq=>(List.range ops.size).all λj=>q.contains j==(m.contains j||j==i)) (N.getD t.2.2 []))&&
 (F.contains k||(List.range ops.size).any λi=> !m.contains i&&fZ ops m i)
def a4V (ops:Bg Oper)(N:AA (AA Nat))(F:AA Nat):Nat->AA (AA Nat)->AA (Nat×Nat×Nat)->AV
 |_,[],_=>true
 |k,m::M,Tr=>aEy ops N F k m (Tr.takeWhile λt=>t.1==k)&&a4V ops N F (k+1) M (Tr.dropWhile λt=>t.1==k)
def gq (ops:Bg Oper)(N:AA (AA Nat))(Tr:AA (Nat×Nat×Nat))(F:AA Nat):AV:=a4V ops N F 0 N Tr
theorem aUH {α:Type}{p:α->AV}:∀{l:AA α} {x:α},x∈l.takeWhile p->p x=true
 | [],_,h=>IV
 |y::l,x,h=>by
  rw[List.takeWhile_cons]at h;cases j:p y with
  |true=>
   rw[j]at h;rcases FI.1 h with rfl|h
   ·exact j
   exact aUH h
  |false=>
   grind
def aP2 {ops:Bg Oper}{N:AA (AA Nat)}{F:AA Nat}:∀(M:AA (AA Nat)) (k:Nat) (Tr:AA (Nat×Nat×Nat)),a4V ops N F k M Tr=true->∀j,j<M.length->
 ∃T,aEy ops N F (k+j) (M.getD j []) T=true/\∀t∈T,t∈Tr/\t.1=k+j
 | [],_,_,_,j,u=>by simp at u
 |m::M,k,Tr,h,j,u=>by
  unfold a4V at h;rw[ED]at h;cases j with
  |zero=>exact⟨_,h.1,λt q=>⟨(List.takeWhile_sublist _).subset q,by have :=aUH q;simpa using this⟩⟩
  |succ j=>
   obtain⟨T,h1,h2⟩:=aP2 M (k+1) _ h.2 j Qy;refine⟨T,?_,λt q=>⟨(aGc _).subset (h2 t q).1,?_⟩⟩
   ·rw[show k+(j+1)=k+1+j by omega];simpa using h1
   rw[(h2 t q).2];omega
def V5 (L:AA (LK P))(i:Nat):AB Y6:=(aJ6 i L).map a0n
theorem akk (T:Kn P){L:AA (LK P)}{i:Nat}(u:ops[i]? =some o)(h:U3 T L ops σ i=some (σ',V5 L i)):
 ∃x E,((∃ns,CB P o ns σ.ents x E/\needs σ ns/\XE ops σ o.guard)\/(x=.d (.lit undef)/\E=σ.ents/\Ya ops σ o.guard))/\σ'=σ.put o.dst x E:=by
 unfold U3 V5 at h;rw[u]at h;simp only at h;split at h
 ·rename_i c z;split at h
  ·rename_i q;simp only[z,JV,Nk]at h;cases c with
   |call i f dY I run ent dat=>
    simp only[xA,a0n,Uu,Nk,Y6.call.injEq]at h;obtain⟨ns,h1,h2,h3⟩:=aHs run ent h.2 dat;exact⟨_,_,.inl ⟨ns,h1,h2,PO q⟩,h.1.symm⟩
   |dat i op ns x j=>
    simp only[xA,a0n,Uu,Nk,Y6.dat.injEq]at h;exact⟨_,_,.inl ⟨ns,j o _ h.2.1,ZE h.2.2,PO q⟩,h.1.symm⟩
   |at_ i op ns k e x j=>
    simp only[xA,a0n,Uu,Nk,Y6.at_.injEq]at h;exact⟨_,_,.inl ⟨ns,j o _ h.2.2.2 h.2.1,ZE h.2.2.1,PO q⟩,h.1.symm⟩
   |fix i op ns es x E j=>
    simp only[xA,a0n,Uu,Nk,Y6.fix.injEq]at h;exact⟨_,_,.inl ⟨ns,h.2.2.2▸j o h.2.1,ZE h.2.2.1,PO q⟩,h.1.symm⟩
  cases h
 split at h
 ·rename_i r J;simp only[Nk,Uu]at h;obtain⟨h1,h2⟩:=dS T J
  grind
 cases h
def vI (s t:BP):Prop:=∀C ok H a w,Holds C ok H s a w->∃ok' H',Holds C ok' H' t a w
def aMT (s:BP):vI s s:=λ_ ok H _ _ h=>⟨ok,H,h⟩
def NC {s t:BP}(h:CO s t):vI s t:=h
def Bh.nodes (T:Kn P){id:Nat}(L:AA (LK P))(N:AA (AA Nat))(Tr:AA (Nat×Nat×Nat))(F:AA Nat)(Z:BP)(hm:P.follows .mixedOrders=true)(hN:gq ops N Tr F=true)(h0:N.getD 0 [0]=[])(hT:(Tr.map λt=>U3 T L ops (Jm T L ops σ (N.getD t.1 [])) t.2.1)=Tr.map λt=>some (Jm T L ops σ (N.getD t.2.2 []),V5 L t.2.1))(hF:QT (λk=>vI (Jm T L ops σ (N.getD k [])) Z) F)(hQ:Q .normal Z):Bh P (.region id ops true) σ Q:=by
 refine⟨λro _ C ok H a w q=>?_⟩;refine wpIn_region_any hm ?_
 let S:Nat->BP:=λk=>Jm T L ops σ (N.getD k [])
 let I:Bg AV->Act->BX->Prop:=λl a w=>l.size=ops.size/\∃k ok H,k<N.length/\(∀i,i<ops.size->l.getD i false=(N.getD k []).contains i)/\Holds C ok H (S k) a w
 have hNN:∀k,k<N.length->(((List.range ops.size).all λi=>(N.getD k []).contains i|| !fZ ops (N.getD k []) i||
  Tr.any λt=>t.1==k&&t.2.1==i&&(t.2.2<N.length)&&(List.range ops.size).all λj=>(N.getD t.2.2 []).contains j==((N.getD k []).contains j||j==i))&&
  (F.contains k||(List.range ops.size).any λi=> !(N.getD k []).contains i&&fZ ops (N.getD k []) i))=true:=λk hk=>by
  obtain⟨T,h1,h2⟩:=aP2 N 0 Tr hN k hk;unfold aEy at h1;rw[Js,ED,Fq]at h1;rw[ED,Fq];refine⟨λi hi=>?_,h1.2⟩;have h3:=h1.1 i hi;rw[zI]at h3 ⊢;rcases h3 with h3|h3
  ·exact .inl h3
  obtain⟨t,ht,h4⟩:=KX.1 h3;obtain⟨O,J⟩:=h2 t ht;rw[Js]at J;refine .inr (KX.2 ⟨t,O,?_⟩);rw[show(t.1==k)=true by simpa using J,GV];exact h4
 refine aRD I (λl a w h=>h.1) ?_ ?_ ops.size _ _ _ ?_ ?_
 ·rintro l a w ⟨h1,k,ok,H,hk,hl,q⟩ i hi;unfold Region.ready at hi;rw[Ji]at hi;obtain⟨hi1,hi2⟩:=hi;have hi':i<ops.size:=by simpa using hi1
  have ho:ops[i]? =some ops[i]:=by simp[hi']
  simp only[ED]at hi2;have u:=hi2.2;rw[ho]at u;simp only[JV,NQ]at u;have M:=λe he=>(WL.1 u) e he
  have hself:l.getD i false=false:=by
   have h8:=hi2.1;have hil:i<l.size:=AL
   simp[Array.getD,hil]at h8 ⊢;exact h8
  have hnc:(N.getD k []).contains i=false:=by rw[←hl i hi'];exact hself
  have hrd:fZ ops (N.getD k []) i=true:=by
   unfold fZ;rw[ho];simp only[Fq];intro e he;have h9:=M e (by simpa using he);cases hb:Region.binds .any e with
   |false=>simp
   |true=>
    simp only[hb,Eh,RJ]at h9 ⊢;by_cases hon:e.on<ops.size
    ·rw[←hl e.on hon,h9];simp[hon]
    have :l.getD e.on false=false:=by simp[Array.getD,show ¬e.on<l.size by omega]
    rw[this]at h9;cases h9
  have h2:=hNN k hk;simp only[ED,Fq]at h2;have h3:=h2.1 i (by simpa using hi');rw[hnc,hrd]at h3;simp only[Eh,Bool.or_self,RJ,KX]at h3;obtain⟨⟨k',z,t⟩,htm,h4⟩:=h3;simp only[ED,VR,Iu,Fq]at h4;obtain⟨⟨⟨rfl,rfl⟩,ht⟩,O⟩:=h4;have J:U3 T L ops (S k') z=some (S t,V5 L z):=List.map_inj_left.1 hT (k',z,t) htm;obtain⟨x,E,hs,he⟩:=akk T ho J
  have U:∀(a':Act) (w':BX) (ok':Nat->Prop) (H':AA CG),Holds C ok' H' ((S k').put ops[z].dst x E) a' w'->I (l.setIfInBounds z true) a' w':=by
   intro a' w' ok' H' hp;refine⟨mD,t,ok',H',ht,λj hj=>?_,he▸hp⟩;have h7:=O j (by simpa using hj);rw[h7,←hl j hj];by_cases hij:z=j
   ·subst hij;simp[Array.getD,h1,hj]
   have :(j==z)=false:=EY
   rw[this,MJ];simp only[JJ,Uk hij]
  unfold wpOpIn;rw[ho];show if Region.wanted ops[z] (yielded ops a.tmps)=true then _ else _
  rcases hs with⟨ns,hop,az9,hg⟩|⟨rfl,rfl,hg⟩
  ·rw[ES (Uh q hg)];refine aX ?_ (hop.inR ro C ok H a w _ q.mem (λn hn'=>Zo az9 n hn'▸q.get n.1));rintro a' w' ⟨v,ok',H',rfl,hgr,hnn,hm',hx⟩;exact U _ _ _ _ (q.put ops[z].dst hgr hnn hm' hx)
  rw[EZ (by rw[aHl q hg];simp)];exact⟨λ_ _=>trivial,U _ _ _ _ (q.put ops[z].dst (.refl _ _) (.refl _) q.mem (.d _ _ (.lit _)))⟩
 ·rintro l a w ⟨h1,k,ok,H,hk,hl,q⟩ hr;have h2:=hNN k hk;simp only[ED,zI]at h2
  have hFk:k∈F:=by
   rcases h2.2 with h|h
   ·simpa using h
   rw[KX]at h;obtain⟨i,hi,h3⟩:=h;simp only[jU]at hi;simp only[ED,Vg]at h3;obtain⟨h4,O⟩:=h3;have ho:ops[i]? =some ops[i]:=Ur
   have Y:i∈Region.ready .any ops l:=by
    unfold Region.ready;rw[Ji];refine⟨Hf,?_⟩;have hf:l.getD i false=false:=by rw[hl i hi];exact h4
    have hil:i<l.size:=AL
    have hf':l.getD i true=false:=aV7
    rw[hf',ho];simp only[Ip,GV,JV,NQ];rw[WL];intro e he;unfold fZ at O;rw[ho]at O;simp only[Fq]at O;have J:=O e (by simpa using he);cases hb:Region.binds .any e with
    |false=>simp
    |true=>
     simp only[hb,Eh,RJ]at J ⊢;rw[ED,Iu]at J;rw[hl e.on J.2];exact J.1
   rw[hr]at Y;simp at Y
  obtain⟨ok',H',h3⟩:=hF.mem k hFk C ok H a w q;exact⟨ok',H',Z,h3,hQ⟩
 ·unfold toCome;simp
 refine⟨BU,0,ok,H,?_,λi hi=>?_,?_⟩
 ·cases N with
  |nil=>cases h0
  |cons x l=>simp
 ·have e:N.getD 0 []=[]:=by
   cases N with
   |nil=>rfl
   |cons x l=>simpa using h0
  rw[e];simp[Array.getD]
 have e:S 0=σ:=by
  show Jm T L ops σ (N.getD 0 [])=σ;cases N with
  |nil=>rfl
  |cons x l=>have :x=[]:=by simpa using h0
             subst this;rfl
 rw[e];refine⟨⟨⟨q.mem.fr.os,q.mem.fr.tape,q.mem.fr.output,q.mem.fr.size,q.mem.fr.block⟩,q.mem.CU,q.mem.CV,q.mem.lg,q.mem.names,q.mem.hlen,λk e h h1 h2=>(q.mem.ent k e h h1 h2).drew,q.mem.blk,q.mem.Jy⟩,q.size,q.defers.mono (λb hb=>⟨hb,rfl⟩),q.base,λt ht=>R.mono (w:=w) (ok:=ok) (w':={ w with drawn:=w.drawn+1 }) (λb hb=>⟨hb,rfl⟩) (.refl _) (q.slot t ht)⟩
def tJ {f:FuncId}(i:Nat)(run:EW P f dY [] j [])(ent:Gw P f=true)(dat:dY.all Ah.C9=true:=by kernel_rfl):LK P:=.call i f dY j run ent dat
def VH (i:Nat)(op:Op)(h:∀(o:Oper) (es:AA Bc),o.op=op->CB P o ns es x es):LK P:=.dat i op ns x h
def zC (i:Nat)(op:Op)(k:Nat)(e:Bc)(h:∀(o:Oper) (es:AA Bc),es[k]? =some e->o.op=op->CB P o ns es x es):LK P:=.at_ i op ns k e x h
def XJ (i:Nat)(op:Op)(es E:AA Bc)(h:∀(o:Oper),o.op=op->CB P o ns es x E):LK P:=.fix i op ns es x E h
section
variable [T:Kn P] {id:Nat} {ops:Bg Oper} {σ:BP} {Q:Exit->BP->Prop} {y:Code}
def Bh.node1 (L:AA (LK P))(N:AA (AA Nat))(Tr:AA (Nat×Nat×Nat))(j:Nat)(q:Q .normal (Jm T L ops σ (N.getD j [])))(hm:P.follows .mixedOrders=true:=by kernel_rfl)(u:gq ops N Tr [j]=true:=by kernel_rfl)(z:N.getD 0 [0]=[]:=by kernel_rfl)(I:(Tr.map λt=>U3 T L ops (Jm T L ops σ (N.getD t.1 [])) t.2.1)=Tr.map λt=>some (Jm T L ops σ (N.getD t.2.2 []),V5 L t.2.1):=by kernel_rfl):Bh P (.region id ops true) σ Q:=
 Bh.nodes T L N Tr [j] _ hm u z I ⟨aMT _,trivial⟩ q
def Bh.aJi (L:AA (LK P))(N:AA (AA Nat))(Tr:AA (Nat×Nat×Nat))(j:Nat)(q:Bh P y (Jm T L ops σ (N.getD j [])) Q)(hm:P.follows .mixedOrders=true:=by kernel_rfl)(u:gq ops N Tr [j]=true:=by kernel_rfl)(z:N.getD 0 [0]=[]:=by kernel_rfl)(I:(Tr.map λt=>U3 T L ops (Jm T L ops σ (N.getD t.1 [])) t.2.1)=Tr.map λt=>some (Jm T L ops σ (N.getD t.2.2 []),V5 L t.2.1):=by kernel_rfl):Bh P (.seq (.region id ops true) y) σ Q:=
 Bh.seq1 _ (Bh.nodes T L N Tr [j] _ hm u z I ⟨aMT _,trivial⟩ rfl) q
def Bh.aJj (L:AA (LK P))(N:AA (AA Nat))(Tr:AA (Nat×Nat×Nat))(F:AA Nat)(j:BP)(q:QT (λk=>vI (Jm T L ops σ (N.getD k [])) j) F)(u:Bh P y j Q)(hm:P.follows .mixedOrders=true:=by kernel_rfl)(z:gq ops N Tr F=true:=by kernel_rfl)(I:N.getD 0 [0]=[]:=by kernel_rfl)(J:(Tr.map λt=>U3 T L ops (Jm T L ops σ (N.getD t.1 [])) t.2.1)=Tr.map λt=>some (Jm T L ops σ (N.getD t.2.2 []),V5 L t.2.1):=by kernel_rfl):Bh P (.seq (.region id ops true) y) σ Q:=
 Bh.seq1 j (Bh.nodes T L N Tr F j hm z I J q rfl) u
end
end
def Y7 (n:Nat)(sl:AA Nat):AA (Nat×Nat):=sl.flatMap λi=>((List.range (n+1)).filter λm=>i<=m).map λm=>(i,m)
def yV (ops:Bg Oper)(σ:BP)(rs:AA Ah)(ess:AA (AA Bc))(i:Nat):BP:=GU ops σ (λi=>rs.getD i .junk) (λi=>ess.getD i []) i
def aBP (T:Kn P)(ops:Bg Oper)(σ:BP)(rs:AA Ah)(ess:AA (AA Bc))(p:Nat×Nat):AB (Ah×AA Bc×AV):=
 match ops[p.1]? with
 |some o=>(Xx T ops ⟨(yV ops σ rs ess p.1).slots,(yV ops σ rs ess p.2).ents,σ.base⟩ o).map λr=>(r.x,r.E,r.bar)
 |none=>none
theorem aUu (T:Kn P){sl:AA Nat}(q:(sl.all λi=> !(bs.getD i false))=true)(u:(Y7 ops.size sl).map (aBP T ops σ rs ess)=(Y7 ops.size sl).map λp=>some (rs.getD p.1 .junk,(yV ops σ rs ess p.2).ents,false)):
 ∀i,i∈sl->bs.getD i false=false/\∀m,i<=m->m<=ops.size->∀o,ops[i]? =some o->QY P ops ⟨(GU ops σ (λi=>rs.getD i .junk) (λi=>ess.getD i []) i).slots,(GU ops σ (λi=>rs.getD i .junk) (λi=>ess.getD i []) m).ents,σ.base⟩ (rs.getD i .junk) (GU ops σ (λi=>rs.getD i .junk) (λi=>ess.getD i []) m).ents false o:=by
 intro i hi;refine⟨by have :=Fq.1 q i hi;simpa using this,λm h1 h2 o I=>?_⟩
 have hp:(i,m)∈Y7 ops.size sl:=by
  unfold Y7;rw[Vy]
  grind
 have h3:=List.map_inj_left.1 u (i,m) hp;unfold aBP at h3;rw[I]at h3;simp only[ay]at h3;obtain⟨r,J,j⟩:=h3;have z:=dS T J;simp only[Uu]at j;rw[j.1,j.2.1,j.2.2]at z;exact z
def Bh.aFx [T:Kn P]{id:Nat}(sl:AA Nat)(h:FT P ops ops.toList σ rs ess bs σ')(I:Q .normal σ')(hm:P.follows .mixedOrders=true:=by kernel_rfl)(j:(Ud ops&&X9 ops&&YC ops σ.slots.length&&XF ops)=true:=by kernel_rfl)(q:Sr ops bs sl=true:=by kernel_rfl)(u:(sl.all λi=> !(bs.getD i false))=true:=by kernel_rfl)(z:(Y7 ops.size sl).map (aBP T ops σ rs ess)=(Y7 ops.size sl).map λp=>some (rs.getD p.1 .junk,(yV ops σ rs ess p.2).ents,false):=by kernel_rfl):Bh P (.region id ops true) σ Q:=
 Bh.aAa hm j sl q h (aUu T u z) I
def a4O [T:Kn P]{id:Nat}(sl:AA Nat)(h:FT P ops ops.toList σ rs ess bs σ')(I:Bh P y σ' Q)(hm:P.follows .mixedOrders=true:=by kernel_rfl)(j:(Ud ops&&X9 ops&&YC ops σ.slots.length&&XF ops)=true:=by kernel_rfl)(q:Sr ops bs sl=true:=by kernel_rfl)(u:(sl.all λi=> !(bs.getD i false))=true:=by kernel_rfl)(z:(Y7 ops.size sl).map (aBP T ops σ rs ess)=(Y7 ops.size sl).map λp=>some (rs.getD p.1 .junk,(yV ops σ rs ess p.2).ents,false):=by kernel_rfl):Bh P (.seq (.region id ops true) y) σ Q:=
 Bh.seq1 σ' (Bh.aAa hm j sl q h (aUu T u z) rfl) I
def Bh.conv {c:Code}{q:BP}(h:∀C ok H a w,Holds C ok H σ a w->∃ok',Holds C ok' H q a w)(k:Bh P c q Q):Bh P c σ Q:=⟨λro u C ok H a w z=>by
 obtain⟨ok',j⟩:=h C ok H a w z
 exact k.run ro u C ok' H a w j⟩
def aC4 (es:AA Bc)(H:AA CG):AA Nat:=(es.zip H).filterMap λp=>if p.1.live then E5 p.2.v else none
variable {H:AA CG}{b:Nat}
theorem aQn:b∈aC4 es H↔∃(k:Nat) (e:Bc) (h:CG),es[k]? =some e/\e.live=true/\H[k]? =some h/\E5 h.v=some b:=by
 unfold aC4;rw[eA];constructor
 ·rintro⟨⟨e,h⟩,hm,u⟩;obtain⟨k,j⟩:=List.mem_iff_getElem?.1 hm;rw[aWt]at j
  grind
 rintro⟨k,e,h,h1,h2,h3,q⟩;exact⟨(e,h),List.mem_iff_getElem?.2 ⟨k,aWt.2 ⟨h1,h3⟩⟩,by simp[h2,q]⟩
def Ez.now (w:BX)(ok:Nat->Prop)(es:AA Bc)(H:AA CG):Ez:=⟨w,ok,aC4 es H,H⟩
variable {C:Ez}{H':AA CG}{h:CG}{ok ok':Nat->Prop}{w':BX}
def Dq.inner (hm:Dq C ok H es w):Dq (Ez.now w ok es H) ok H es w:=
 ⟨.refl _ _,λ_ h=>h,λ_ h=>.inl h,hm.lg,.refl _,hm.hlen,hm.ent,
  λk e h b j hl q u=>⟨(hm.blk k e h b j hl q u).1,(hm.blk k e h b j hl q u).2.1,.inr (aQn.2 ⟨k,e,h,j,hl,q,u⟩)⟩,hm.Jy⟩
def Dq.outer (hm:Dq C ok H es w)(h:Dq (Ez.now w ok es H) ok' H' es' w'):F9 ok w ok' w'/\Names H H'/\Dq C ok' H' es' w':=by
 have q:∀b,b∈aC4 es H->¬ok b/\b<w.heap.size/\(C.w0.heap.size<=b\/b∈C.X):=λb j=>by
  obtain⟨k,e,hd,h1,h2,h3,L⟩:=aQn.1 j;exact hm.blk k e hd b h1 h2 h3 L
 refine⟨λb j=>⟨h.CU b j,h.fr.block b (hm.lg b j) λu=>(q b u).1 j⟩,h.names,⟨h.fr.os.trans hm.fr.os,h.fr.tape.trans hm.fr.tape,h.fr.output.trans hm.fr.output,EK hm.fr.size h.fr.size,λk J u=>?_⟩,λb j=>h.CU b (hm.CU b j),λb j=>?_,h.lg,hm.names.trans h.names,h.hlen,h.ent,λk e hd b M hl O j=>?_,h.Jy⟩
 ·have z:k<w.heap.size:=Wn J hm.fr.size;refine(h.fr.block k z λI=>?_).trans (hm.fr.block k J u);rcases(q k I).2.2 with h1|h1
  ·omega
  exact u h1
 ·rcases h.CV b j with h1|h1|h1
  ·exact hm.CV b h1
  ·exact .inr (.inl (EK hm.fr.size h1))
  exact .inr ((q b h1).2.2)
 obtain⟨h1,h2,h3⟩:=h.blk k e hd b M hl O j;refine⟨h1,h2,?_⟩;rcases h3 with h3|h3
 ·exact .inl (EK hm.fr.size h3)
 exact(q b h3).2.2
def Dq.al8 (hm:Dq C ok H es w){e e':Bc}{o:Obj}(J:es[n]? =some e)(hl:e.live=true)(L:H[n]? =some h)(M:E5 h.v=some b)(he:F9 ok w ok (w.putObj b o)->FQ ok (w.putObj b o) H h e'):
 Dq C ok H (es.set n e') (w.putObj b o)/\F9 ok w ok (w.putObj b o):=by
 obtain⟨h1,h2,h3⟩:=hm.blk n e h b J hl L M;have hg:F9 ok w ok (w.putObj b o):=λc j=>⟨j,aB λe=>h1 (e▸j)⟩
 have z:=(Gs.1 J).1;refine hm.change (λc=>c=b) rfl rfl rfl BU (λc _ j=>aB j) (λc j _=>by subst j;exact⟨h1,h3⟩) (λ_ h=>h) (λ_ h=>.inl h) (.refl _) (by simpa using hm.hlen) λk e2 h4 hk q=>?_;rcases N9 z hk with⟨rfl,rfl⟩|⟨u,I⟩
 ·right;rw[L]at q;obtain rfl:=Dv q;refine⟨he hg,λ_ c j=>?_⟩;rw[M]at j;obtain rfl:=Dv j;refine⟨h1,LM,h3,λk' e3 h5 u O U Y Z=>?_⟩;rcases N9 z O with⟨rfl,_⟩|⟨_,hk4⟩
  ·exact u rfl
  exact u (hm.Jy k' _ e3 e h5 h _ hk4 J U hl Y L Z M)
 left;exact⟨I,q,λhl2 c j hcb=>u (hm.Jy k n e2 e h4 h c I J hl2 hl q L j (by rw[hcb];exact M))⟩
def dA :AA Tmp->AA Ah->AA Ah->AA Ah
 |p::j,x::xs,sl=>dA j xs (sl.set p x)
 |_,_,sl=>sl
theorem aRk :∀(j:AA Tmp) (xs:AA Ah) (vs:AA BD) (sl:AA Ah) (tm:Bg BD),xs.length=j.length->vs.length=j.length->(∀i,i<xs.length->R ok w H (xs.getD i .junk) (vs.getD i undef))->
 tm.size=sl.length->(∀t,t<sl.length->R ok w H (sl.getD t .junk) (tm.getD t undef))->
 ((j.zip vs).foldl (λt p=>t.setIfInBounds p.1 p.2) tm).size=(dA j xs sl).length/\∀t,t<(dA j xs sl).length->R ok w H ((dA j xs sl).getD t .junk) (((j.zip vs).foldl (λt p=>t.setIfInBounds p.1 p.2) tm).getD t undef)
 | [],xs,vs,sl,tm,_,_,_,hs,u=>by
   have e:dA [] xs sl=sl:=by cases xs<;>rfl
   rw[e];exact⟨hs,u⟩
 |p::j,[],vs,sl,tm,h,_,_,_,_=>IV
 |p::j,x::xs,[],sl,tm,_,h,_,_,_=>IV
 |p::j,x::xs,v::vs,sl,tm,h1,h2,z,hs,u=>by
  refine aRk j xs vs (sl.set p x) (tm.setIfInBounds p v) Zh LM (λi hi=>by simpa using z (i+1) Hf) wC (λt q=>?_);rw[qH]at q;by_cases e:p=t
  ·subst e;have I:(sl.set p x).getD p .junk=x:=by simp[List.getD,q]
   have J:(tm.setIfInBounds p v).getD p undef=v:=by simp[Array.getD,hs,q]
   rw[I,J];simpa using z 0 BU
  have I:(sl.set p x).getD t .junk=sl.getD t .junk:=aDa
  have J:(tm.setIfInBounds p v).getD t undef=tm.getD t undef:=by simp[JJ,Uk e]
  grind
def YD :Exit->AB (LoopState×AB Code)
 | .normal=>some (.ready,none)
 | .ret=>some (.done,some .ret)
 | .exit i=>some (.done,some (.exit i))
 |_=>none
variable {assign body:Code}{fn:Func}{g:Bz}
def a3s {l:Nat}(e:h.v=.func (.yield l) #[] #[]):E5 h.v=some l:=zT
def Dj.yield {f:Bz}{xs:Bg Bz}{ts:Bg Bq}{tm:Bg BD}{slots:AA Ah}{rc:Bg Tmp×Code×Code}(k:Nat)(dY:AA Ah)(ho:o.op=.call { callee:=.value f,args:=xs,argTypes:=ts })(hf:σ.get f=.mp k)(hk:σ.ents[k]? =some (.loop tm slots rc .ready none))(hx:xs.toList.map σ.get=dY)(I:rc.1.size=xs.size)(hg:Ju ops σ o.guard=some true)(J:(QJ rc.2.1&&QJ rc.2.2)=true)(h:Bh P rc.2.1 ⟨dA rc.1.toList dY slots,σ.ents,σ.ents.length⟩ λe s=>e=.normal/\∃sl,s.ents[k]? =some (.loop tm sl rc .ready none)/\
  Bh P rc.2.2 ⟨s.slots,s.ents.set k (.loop tm sl rc .busy none),s.base⟩ λe s2=>∃z j,s2.ents[k]? =some (.loop tm z rc .busy none)/\YD e=some j/\
   Dj P ops rest (BP.tX ⟨σ.slots,s2.ents.set k (.loop tm z rc j.1 j.2),σ.base⟩ o.dst (.d (.lit (.bool j.2.isNone)))) K):Dj P ops (o::rest) σ K:=by
 rw[ED]at J;refine⟨λro l2 Q C ok H a w u L=>?_⟩;show wpListIn (JE ro) 0 P ops Q (o::(rest++l2)) a w;unfold wpListIn;rw[ES (Uh u (PO hg))];have hv:=hf▸u.get f;obtain⟨hd,M,Z⟩:=Gp u.mem.ent u.mem.hlen hk;obtain⟨l,fn,D,e1,e2,e3,e4⟩:=Z
 have hval:a.eval f=.func (.yield l) #[] #[]:=by
  cases hv with
  |mp _ v s hl hH=>
   rw[M]at hH;obtain rfl:=Dv hH;exact e1
 have hrun:(execOp a.eval o).run P w=.ok (.round l fn ((rc.1.zip (xs.map a.eval)).foldl (λtmps (t,a)=>tmps.setIfInBounds t a) tm) rc.2.1 rc.2.2) w:=by
  have :=run_yield (P:=P) e2 (args:=xs.map a.eval) (by simp[I]);simp[execOp,ho,resolve,hval,Deferred.ofValue,invoke,this]
 unfold Oper.wpIn;rw[jE _ _ _ (by rw[ho];intro c h;cases h),hrun,Oper.uponIn_round];refine⟨λ_ _=>trivial,λh=>IK,roundIn_of_wpIn trivial ?_⟩
 have hT:(rc.1.zip (xs.map a.eval)).foldl (λtmps (t,a)=>tmps.setIfInBounds t a) tm=(rc.1.toList.zip (xs.toList.map a.eval)).foldl (λt p=>t.setIfInBounds p.1 p.2) tm:=by
  rw[←Array.foldl_toList,Array.toList_zip,Array.toList_map]
 rw[hT];have hpl:dY.length=rc.1.toList.length:=by rw[←hx];simp[I]
 obtain⟨p1,p2⟩:=aRk (ok:=ok) (w:=w) (H:=H) rc.1.toList dY (xs.toList.map a.eval) slots tm hpl (by simp[I]) (λi hi=>by
  have hi':i<xs.toList.length:=by rw[←hx]at hi;simpa using hi
  have hi2:i<xs.size:=by simpa using hi'
  have Y:dY.getD i .junk=σ.get xs.toList[i]:=by rw[←hx];simp[List.getD,hi2]
  have q2:(xs.toList.map a.eval).getD i undef=a.eval xs.toList[i]:=by simp[List.getD,hi2]
  rw[Y,q2];exact u.get _) e3 e4
 have hin:Holds (Ez.now w ok σ.ents H) ok H ⟨dA rc.1.toList dY slots,σ.ents,σ.ents.length⟩ { tmps:=(rc.1.toList.zip (xs.toList.map a.eval)).foldl (λt p=>t.setIfInBounds p.1 p.2) tm,defers:=[] } w:=
  ⟨u.mem.inner,p1,.nil _ _ _,u.mem.hlen,p2⟩
 show Code.wpIn (JE (some l)) 0 P _ _ _ _;refine UD (h.run (some l) (.inr J.1) _ _ _ _ _ hin) ?_;rintro e a1 w1 ⟨ok1,H1,s1,q,rfl,sl,hs1,h2⟩;obtain⟨g1,n1,m1⟩:=u.mem.outer q.mem;have hk1:=n1 k hd M;obtain⟨l',fn',D',Y,q2,q3,q4⟩:=q.mem.ent k _ hd hs1 hk1;have O:l'=l:=by rw[e1]at Y;cases Y;rfl
 subst O
 obtain⟨m2,g2⟩:=q.mem.al8 (o:=.loop { state:=.busy,pending:=none,fn:=fn',tmps:=tm,params:=rc.1,assign:=rc.2.1,body:=rc.2.2,defers:=D' }) (e':=.loop tm sl rc .busy none) hs1 rfl hk1 (a3s Y)
  (λg=>⟨l',fn',D',Y,Xg (IJ.1 q2).1,q3,λt U=>(q4 t U).mono g (.refl _)⟩)
 refine⟨_,run_beginRound q2 rfl,?_⟩;refine UD (h2.run (some l') (.inr J.2) _ _ _ _ _ ⟨m2,q.size,q.defers.mono g2,q.base,λt U=>(q.slot t U).mono g2 (.refl _)⟩) ?_;rintro e a2 w3 ⟨ok2,H2,s2,hh2,z,j,hs2,hj,hL⟩;obtain⟨g3,n3,m3⟩:=u.mem.outer hh2.mem;have hk2:=n3 k hd M;obtain⟨l3,fn3,D3,r1,r2,r3,r4⟩:=hh2.mem.ent k _ hd hs2 hk2;have O:l3=l':=by rw[e1]at r1;cases r1;rfl
 subst O
 have key:j.1=(if j.2.isNone then LoopState.ready else .done)->∃v w',(Instr.endRound l3 j.2).run P w3=.ok v w'/\wpListIn (JE ro) 0 P ops Q (rest++l2) (a.put o.dst v) w':=by
  intro hst
  obtain⟨m4,g4⟩:=m3.al8 (o:=.loop { state:=(if j.2.isNone then LoopState.ready else .done),pending:=j.2,fn:=fn3,tmps:=tm,params:=rc.1,assign:=rc.2.1,body:=rc.2.2,defers:=D3 }) (e':=.loop tm z rc j.1 j.2) hs2 rfl hk2 (a3s r1)
   (λg=>⟨l3,fn3,D3,r1,by rw[hst];exact Xg (IJ.1 r2).1,r3,λt U=>(r4 t U).mono g (.refl _)⟩)
  refine⟨_,_,run_endRound j.2 r2,hL.run ro l2 Q C _ _ _ _ (Holds.put (σ:=⟨σ.slots,s2.ents.set k (.loop tm z rc j.1 j.2),σ.base⟩) ⟨m4,u.size,u.defers.mono (g3.trans g4),u.base,λt U=>(u.slot t U).mono (g3.trans g4) n3⟩ o.dst (.refl _ _) (.refl _) m4 (.d _ _ (.lit _))) L⟩
 cases e with
 |normal=>obtain rfl:=Dv hj;exact key rfl
 |ret=>obtain rfl:=Dv hj;exact key rfl
 |exit i=>obtain rfl:=Dv hj;exact key rfl
 |_=>cases hj
theorem Bh.aCl {Y:Bg Tmp}{c:Code}{gf:FuncId}(q:AA Ah)(hg:∀(C:Ez) (ok:Nat->Prop) (H:AA CG) (a:Act) (w:BX),Holds C ok H σ a w->R ok w H (.fn (.func gf) [] q) (a.eval g))(hf:P.funcs[gf]? =some fn)(he:Gw P gf=true)(J:fn.body=some c)(hres:fn.results= #[])(h:∀tm,Bh P c ⟨(.mp σ.ents.length::q)++List.replicate (fn.ntmps-(q.length+1)) .junk,σ.ents++[.loop tm σ.slots (Y,assign,body) .ready none],σ.ents.length+1⟩ λe s=>(e=.normal\/e=.ret)/\
  ∃sl j x,s.ents[σ.ents.length]? =some (.loop tm sl (Y,assign,body) j.1 j.2)/\YD x=some j/\Q x ⟨σ.slots,s.ents.set σ.ents.length .dead,σ.base⟩):Bh P (.rangeFunc g Y assign body) σ Q:=by
 refine⟨λro hr C ok H a w u=>?_⟩;obtain rfl:ro=none:=hr.resolve_right (by simp[QJ]);have hv:=hg C ok H a w u;generalize hav:a.eval g=v at hv;cases hv with
 |fn _ _ _ vs us hl1 hl2 h1 h2=>
  obtain rfl:vs= #[]:=jF (by simpa using hl1);refine wpIn_rangeFunc ?_;intro fnm _;obtain⟨M,hrec⟩:∃M:Loop,M={ state:=.ready,pending:=none,fn:=fnm,tmps:=a.tmps,params:=Y,assign,body,defers:=w.heap.size }:=⟨_,rfl⟩
  obtain⟨I,L⟩:∃I,(w.alloc (.deferred (some []))).alloc (.loop M)=I:=⟨_,rfl⟩
  have hsz:I.heap.size=w.heap.size+2:=by rw[←L];simp
  have hL:I.heap[w.heap.size+1]? =some (.loop M):=by
   rw[←L];have :=jQ (w.alloc (.deferred (some []))) (.loop M);rwa [aJH]at this
  have hD:I.heap[w.heap.size]? =some (.deferred (some [])):=by
   rw[←L];exact(KD _ _ _ BU).trans (jQ w _)
  have hold:∀b,b<w.heap.size->I.heap[b]? =w.heap[b]? :=λb J=>by
   rw[←L];exact(KD _ _ _ EY).trans (KD _ _ _ J)
  have hos:I.os=w.os/\I.tape=w.tape/\I.output=w.output:=by rw[←L];exact⟨rfl,rfl,rfl⟩
  obtain⟨hd,hhd⟩:∃hd:CG,hd=⟨.func (.yield (w.heap.size+1)) #[] #[],0⟩:=⟨_,rfl⟩
  have Z:hd.v=.func (.yield (w.heap.size+1)) #[] #[]:=by rw[hhd]
  have hgr:F9 ok w (λb=>ok b\/b=w.heap.size) I:=λb J=>⟨.inl J,hold b (u.mem.lg b J)⟩
  have hHn:(H++[hd])[σ.ents.length]? =some hd:=by rw[←u.mem.hlen];simp
  obtain⟨m2,g2⟩:=u.mem.change (ok':=λb=>ok b\/b=w.heap.size) (H':=H++[hd]) (es':=σ.ents++[.loop a.tmps σ.slots (Y,assign,body) .ready none]) (w':=I) (λ_=>False) hos.1 hos.2.1 hos.2.2 AL (λb J _=>hold b J) (λ_ h=>h.elim)
   (λ_ h=>.inl h) (λb J=>J.imp id λh=>AL) (.push _ _) (by simp[u.mem.hlen]) (λk e hk he hkk=>by
    rcases Xl he with he'|⟨rfl,rfl⟩
    ·left;have hkl:k<H.length:=by rw[u.mem.hlen];exact(Gs.1 he').1
     rw[JR hkl]at hkk;exact⟨he',hkk,λ_ _ _ h=>h⟩
    right;rw[hHn]at hkk;obtain rfl:=Dv hkk;refine⟨⟨w.heap.size+1,fnm,w.heap.size,Z,by rw[hL,hrec],u.size,λt ht=>(u.slot t ht).mono hgr (.push _ _)⟩,λ_ b J=>?_⟩;rw[a3s Z]at J;obtain rfl:=Dv J;refine⟨λhx=>?_,AL,.inl (by have :=u.mem.fr.size;omega),λk' e' h' hne he' hl' O hb'=>?_⟩
    ·rcases hx with hx|hx
     ·have :=u.mem.lg _ hx;omega
     omega
    rcases Xl he' with he2|⟨rfl,_⟩
    ·have hkl:k'<H.length:=by rw[u.mem.hlen];exact(Gs.1 he2).1
     rw[JR hkl]at O;have :=(u.mem.blk k' e' h' _ he2 hl' O hb').2.1;omega
    exact hne rfl)
  have hargs:∀t,t<((.mp σ.ents.length::q)++List.replicate (fn.ntmps-(q.length+1)) .junk:AA Ah).length->
   R (λb=>ok b\/b=w.heap.size) I (H++[hd]) (((.mp σ.ents.length::q)++List.replicate (fn.ntmps-(q.length+1)) .junk:AA Ah).getD t .junk)
     (((#[.func (.yield (w.heap.size+1)) #[] #[]]++us)++Array.replicate (fn.ntmps-(#[.func (.yield (w.heap.size+1)) #[] #[]]++us:Bg BD).size) undef:Bg BD).getD t undef):=by
   intro t ht;by_cases h0:t<q.length+1
   ·have q1:((.mp σ.ents.length::q)++List.replicate (fn.ntmps-(q.length+1)) .junk:AA Ah).getD t .junk=(.mp σ.ents.length::q:AA Ah).getD t .junk:=by
     grind
    have q2:((#[.func (.yield (w.heap.size+1)) #[] #[]]++us)++Array.replicate (fn.ntmps-(#[.func (.yield (w.heap.size+1)) #[] #[]]++us:Bg BD).size) undef:Bg BD).getD t undef=(#[.func (.yield (w.heap.size+1)) #[] #[]]++us:Bg BD).getD t undef:=by
     simp only[JJ];rw[Zc EY]
    rw[q1,q2];cases t with
    |zero=>
     have q3:(#[.func (.yield (w.heap.size+1)) #[] #[]]++us:Bg BD).getD 0 undef=.func (.yield (w.heap.size+1)) #[] #[]:=by
      simp only[JJ];rw[Zc BU];rfl
     rw[q3];exact .mp _ _ 0 rfl (by rw[hHn,hhd])
    |succ t=>
     have q3:(#[.func (.yield (w.heap.size+1)) #[] #[]]++us:Bg BD).getD (t+1) undef=us.getD t undef:=by
      simp only[JJ];rw[aPa BU];rfl
     rw[q3];simpa using(h2 t AL).mono hgr (.push _ _)
   have q1:((.mp σ.ents.length::q)++List.replicate (fn.ntmps-(q.length+1)) .junk:AA Ah).getD t .junk=.junk:=by
    grind
   rw[q1];exact .junk _
  have hin:Holds (Ez.now I (λb=>ok b\/b=w.heap.size) (σ.ents++[.loop a.tmps σ.slots (Y,assign,body) .ready none]) (H++[hd])) (λb=>ok b\/b=w.heap.size) (H++[hd])
   ⟨(.mp σ.ents.length::q)++List.replicate (fn.ntmps-(q.length+1)) .junk,σ.ents++[.loop a.tmps σ.slots (Y,assign,body) .ready none],σ.ents.length+1⟩
   { tmps:=(#[.func (.yield (w.heap.size+1)) #[] #[]]++us)++Array.replicate (fn.ntmps-(#[.func (.yield (w.heap.size+1)) #[] #[]]++us:Bg BD).size) undef,defers:=[] } I:=
   ⟨m2.inner,by simp[hl2];omega,.nil _ _ _,by simp[Ez.now,u.mem.hlen],hargs⟩
  refine⟨w.heap.size+1,[{ target:=.collected w.heap.size,args:= #[] }],I,{ target:=.fn (.func gf) us,args:= #[.func (.yield (w.heap.size+1)) #[] #[]] },I,gf, #[.func (.yield (w.heap.size+1)) #[] #[]]++us,I,?_,?_,λ_ _=>trivial,?_,λh=>IK,?_⟩
  ·rw[←L,hrec];exact run_enterLoop_outer _ _ _ _ _
  ·have e9:a.eval (.const (.func (.yield (w.heap.size+1)) #[] #[]))=.func (.yield (w.heap.size+1)) #[] #[]:=rfl;simp[resolve,hav,Deferred.ofValue,e9]
  ·have :=UC he (#[.func (.yield (w.heap.size+1)) #[] #[]]++us) I;simpa[invoke]using this
  refine aH6 hf J trivial (UD ((h a.tmps).run none (.inl rfl) _ _ _ _ _ hin) ?_) rfl;rintro e a' w' ⟨ok',H',s,O,hee,sl,j,x,hs,hj,hQ⟩;obtain⟨Ds,hDs,hnd,hds⟩:=O.defers
  have key:LeavesInM (JE none) 0 P fn a'.tmps (rangePost (JE none) 0 P (w.heap.size+1) (λe a' w'=>∃ok' H' σ',Holds C ok' H' σ' a' w'/\Q e σ') { a with defers:=[{ target:=.collected w.heap.size,args:= #[] }]++a.defers }) a'.defers .returning w':=by
   rw[hDs];refine aFI (P:=P) (C:=Ez.now I (λb=>ok b\/b=w.heap.size) (σ.ents++[.loop a.tmps σ.slots (Y,assign,body) .ready none]) (H++[hd])) m2.lg (λok3 a3 w3 h3=>?_) Ds O hds hnd;refine⟨.tuple #[],by simp[results,hres],?_⟩;obtain⟨g3,n3,m3⟩:=m2.outer h3.mem;have hk3:=n3 _ hd hHn;obtain⟨l3,fn3,D3,r1,r2,r3,r4⟩:=h3.mem.ent _ _ hd hs hk3;have hll:l3=w.heap.size+1:=by rw[Z]at r1;cases r1;rfl
   subst hll
   have hnb:j.1≠ .busy:=by
    cases x<;>simp[YD]at hj<;>rw[←hj]<;>simp
   obtain⟨m4,g4⟩:=m3.al8 (o:=.loop { state:=.exhausted,pending:=j.2,fn:=fn3,tmps:=a.tmps,params:=Y,assign:=assign,body:=body,defers:=D3 }) (e':=.dead) hs rfl hk3 (a3s Z) (λ_=>trivial);have U:=(g2.trans g3).trans g4
   have z:Holds C ok3 H' ⟨σ.slots,s.ents.set σ.ents.length .dead,σ.base⟩ { a with defers:=[{ target:=.collected w.heap.size,args:= #[] }]++a.defers }
    (w3.putObj (w.heap.size+1) (.loop { state:=.exhausted,pending:=j.2,fn:=fn3,tmps:=a.tmps,params:=Y,assign:=assign,body:=body,defers:=D3 })):=by
    refine⟨m4,u.size,?_,u.base,λt ht=>(u.slot t ht).mono U ((Gy _ _).trans n3)⟩;obtain⟨Es,q1,q2,q3⟩:=u.defers.mono U;obtain⟨Fs,p1,p2,p3⟩:=u.defers
    have hEF:Es=Fs:=by
     have :=q1.symm.trans p1;exact(List.map_inj_right (λa b h=>O5)).1 this
    subst hEF;refine⟨w.heap.size::Es,by simp[q1],LC.2 ⟨λhm=>?_,q2⟩,λD hDm=>?_⟩
    ·have :=u.mem.lg _ (p3 _ hm).1;omega
    rcases FI.1 hDm with rfl|hDm
    ·have hok2:(λb=>ok b\/b=w.heap.size) w.heap.size:=.inr rfl;have q4:=(g3.trans g4) _ hok2;exact⟨q4.1,u.mem.fr.size,q4.2.trans hD⟩
    exact q3 D hDm
   refine⟨j.2,_,run_endLoop r2 hnb,?_⟩;cases x with
   |normal=>
    simp[YD]at hj;rw[←hj]at z ⊢;exact⟨_,_,_,z,hQ⟩
   |ret=>
    simp[YD]at hj;rw[←hj]at z ⊢;exact wpIn_ret ⟨_,_,_,z,hQ⟩
   |exit i=>
    simp[YD]at hj;rw[←hj]at z ⊢;exact wpIn_exit ⟨_,_,_,z,hQ⟩
   |_=>
     cases hj
  rcases hee with rfl|rfl
  ·exact key
  exact key
def Bh.rangeFunc {z:Bg Tmp}{c:Code}{I:FuncId}(q:AA Ah)(J:σ.get g=.fn (.func I) [] q)(L:P.funcs[I]? =some fn)(M:Gw P I=true)(O:fn.body=some c)(u:fn.results= #[])(h:∀tm,Bh P c ⟨(.mp σ.ents.length::q)++List.replicate (fn.ntmps-(q.length+1)) .junk,σ.ents++[.loop tm σ.slots (z,assign,body) .ready none],σ.ents.length+1⟩ λe s=>(e=.normal\/e=.ret)/\
  ∃sl j x,s.ents[σ.ents.length]? =some (.loop tm sl (z,assign,body) j.1 j.2)/\YD x=some j/\Q x ⟨σ.slots,s.ents.set σ.ents.length .dead,σ.base⟩):Bh P (.rangeFunc g z assign body) σ Q:=
 Bh.aCl q (λ_ _ _ _ _ U=>J▸U.get g) L M O u h
def Bh.ape {u:Bg Tmp}{c:Code}{z:FuncId}(cs:AA D)(I:σ.get g=.d (.fn (.func z) [] cs))(J:P.funcs[z]? =some fn)(L:Gw P z=true)(M:fn.body=some c)(q:fn.results= #[])(h:∀tm,Bh P c ⟨(.mp σ.ents.length::cs.map .d)++List.replicate (fn.ntmps-((cs.map Ah.d).length+1)) .junk,σ.ents++[.loop tm σ.slots (u,assign,body) .ready none],σ.ents.length+1⟩ λe s=>(e=.normal\/e=.ret)/\
  ∃sl j x,s.ents[σ.ents.length]? =some (.loop tm sl (u,assign,body) j.1 j.2)/\YD x=some j/\Q x ⟨σ.slots,s.ents.set σ.ents.length .dead,σ.base⟩):Bh P (.rangeFunc g u assign body) σ Q:=
 Bh.aCl (cs.map .d) (λ_ _ _ _ _ O=>R.dfn (I▸O.get g)) J L M q h
def aev :Code->Nat->Code
 | .seq a b,i=>if i=0 then a else b
 | .cond _ a b,i=>if i=0 then a else b
 | .block _ a,_=>a
 | .loop a,_=>a
 | .scope a,_=>a
 | .rangeFunc _ _ a b,i=>if i=0 then a else b
 |c,_=>c
def a1B (c:AB Code)(p:AA Nat):Bg Tmp×Code×Code:=
 match p.foldl aev (c.getD .skip)with
 | .rangeFunc _ j a b=>(j,a,b)
 |_=>(#[],.skip,.skip)
section
variable {K V:Type} [BEq K]
def DF :AA (K×V)->K->AB V
 | [],_=>none
 |p::l,k=>bif k==p.1 then some p.2 else DF l k
def Dy :AA (K×V)->K->V->AA (K×V)
 | [],k,v=>[(k,v)]
 |p::l,k,v=>bif k==p.1 then(k,v)::l else p::Dy l k v
def CQ (ek:K->BD)(ev:V->D)(p:K×V):BD×D:=(ek p.1,ev p.2)
structure KeyTy (P:Program) (t:TypeId) (ek:K->Value):Prop where
 same:∃kd,P.underlying t=some kd/\∀a b,Instr.sameNow kd (ek a) (ek b)=some (a==b)
 check:∀e a w,(Instr.checkKey e 10000 t (ek a)).run P w=.ok () w
 eq:∀a b:K,(a==b)=true->a=b
 bits:∀a,Instr.sameBits 10000 (ek a) (ek a)=true
def akS {k:IntKind}(h:P.underlying t=some (.int k)):KeyTy P t (λn:Int=>Value.int k n):=by
 refine⟨⟨_,h,λa b=>by simp[Instr.sameNow]⟩,λe a w=>?_,λa b h=>O5,λa=>?_⟩
 ·have :∀n,(Instr.checkKey e (n+1) t (.int k a)).run P w=.ok () w:=λn=>by simp[Instr.checkKey,underlying,h]
  exact this 9999
 unfold Instr.sameBits;simp
def aA4 {ek:K->BD}{kd:TypeDesc}(hs:∀a b,Instr.sameNow kd (ek a) (ek b)=some (a==b))(k:K)(v:V):∀(m:AA (K×V)) (l:AA MapEntry) (i:Nat),l.map (·.key)=m.map (λp=>ek p.1)->
 (Instr.findNow kd (ek k) l i=some none/\DF m k=none/\Dy m k v=m++[(k,v)])\/
 ∃j e p,Instr.findNow kd (ek k) l i=some (some (i+j,e.val))/\l[j]? =some e/\m[j]? =some p/\DF m k=some p.2/\(k==p.1)=true/\Dy m k v=m.set j (k,v)
 | [],[],_,_=>.inl ⟨rfl,rfl,rfl⟩
 | [],_::_,_,h=>IV
 |_::_,[],_,h=>IV
 |p::m,e::l,i,h=>by
  simp only[Gg,aBI]at h;cases q:(k==p.1)with
  |true=>
   refine .inr ⟨0,e,p,?_,rfl,rfl,?_,q,?_⟩
   ·simp[Instr.findNow,h.1,hs,q]
   ·simp[DF,q]
   simp[Dy,q]
  |false=>
   rcases aA4 hs k v m l (i+1) h.2 with⟨h1,h2,h3⟩|⟨j,e',u,h1,h2,h3,z,I,J⟩
   ·refine .inl ⟨?_,?_,?_⟩
    ·simp[Instr.findNow,h.1,hs,q,h1]
    ·simp[DF,q,h2]
    simp[Dy,q,h3]
   refine .inr ⟨j+1,e',u,?_,LM,Yg,?_,I,?_⟩
   ·simp[Instr.findNow,h.1,hs,q,h1];omega
   ·simp[DF,q,z]
   simp[Dy,q,J]
end
variable {clock:Nat}{ms:Bg MapEntry}
section
variable {es:AA (BD×D)}
def Jl.push (h:Jl ok w es ms clock){k v:BD}{x:D}(I:EF ok w x v):Jl ok w (es++[(k,x)]) (ms.push { key:=k,val:=v,born:=clock }) (clock+1):=by
 have q:∀(i:Nat) (m:MapEntry),(ms.push { key:=k,val:=v,born:=clock })[i]? =some m->ms[i]? =some m\/(i=ms.size/\m={ key:=k,val:=v,born:=clock }):=λi m hm=>by
  rw[jd]at hm;split at hm
  ·rename_i e;exact .inr ⟨e,(Dv hm).symm⟩
  exact .inl hm
 refine⟨by simp[h.len],λi e m u hm=>?_,λi j m n z hm J=>?_⟩
 ·rcases q i m hm with h1|⟨rfl,rfl⟩
  ·have hi:i<es.length:=aLX
   rw[JR hi]at u;obtain⟨L,M,O⟩:=h.ent i e m u h1;exact⟨L,M,Nat.lt_succ_of_lt O⟩
  rw[h.len]at u;simp at u;subst u;exact⟨rfl,I,Zw _⟩
 rcases q i m hm with h1|⟨rfl,rfl⟩<;>rcases q j n J with h2|⟨rfl,rfl⟩
 ·exact h.inc i j m n z h1 h2
 ·have hi:i<es.length:=aLX
  exact(h.ent i es[i] m Ur h1).2.2
 ·have :=(IJ.1 h2).1;omega
 omega
theorem Jl.modify (h:Jl ok w es ms clock){k v:BD}{x:D}(U:EF ok w x v)(j:Nat):Jl ok w (es.set j (k,x)) (ms.modify j λe=>{ e with key:=k,val:=v }) clock:=by
 have u:∀(i:Nat) (m:MapEntry),(ms.modify j λe=>{ e with key:=k,val:=v })[i]? =some m->∃z,ms[i]? =some z/\m.born=z.born/\(i≠j->m=z)/\(i=j->m.key=k/\m.val=v):=λi m hm=>by
  grind
 refine⟨by simp[h.len],λi e m I hm=>?_,λi L m n J hm Y=>?_⟩
 ·obtain⟨z,h1,h2,h3,M⟩:=u i m hm;have hi:i<es.length:=aLX
  obtain⟨q1,q2,Z⟩:=h.ent i es[i] z Ur h1;by_cases O:i=j
  ·subst O;simp[hi]at I;subst I;exact⟨(M rfl).1,by rw[(M rfl).2];exact U,by rw[h2];exact Z⟩
  rw[eL (λq=>O q.symm)]at I
  grind
 obtain⟨z,h1,h2,_⟩:=u i m hm;obtain⟨n0,g1,g2,_⟩:=u L n Y;rw[h2,g2];exact h.inc i L z n0 J h1 g1
def Jl.mono {ok':Nat->Prop}{w':BX}(h:Jl ok w es ms clock)(q:F9 ok w ok' w'):Jl ok' w' es ms clock:=⟨h.len,λi e m j hm=>⟨(h.ent i e m j hm).1,(h.ent i e m j hm).2.1.mono q,(h.ent i e m j hm).2.2⟩,h.inc⟩
def Jl.keys (h:Jl ok w es ms clock):ms.toList.map (·.key)=es.map (·.1):=by
 apply lJ
 ·simp[h.len]
 intro i h1 h2;simp at h1 h2;have :=(h.ent i es[i] ms[i] (by simp[h2]) mD).1;simpa using this
end
def Ym :BD->D
 | .agg vs=>.agg (vs.toList.map Oz)
 |v=>Oz v
def aX9 (h:z.cells.all (·.oneCell')=true):EF ok w (Ym z) z:=by
 unfold Ym;split
 ·rename_i vs;refine .agg _ vs BU (λi hi=>?_) (λi hi=>?_)
  ·simp at hi;have e:(vs.toList.map Oz).getD i EJ=Oz vs[i]:=NY
   rw[e];exact uo ((WL.1 h) _ (by simp[Value.cells]))
  simp at hi;have e:(vs.toList.map Oz).getD i EJ=Oz vs[i]:=NY
  have j:vs.getD i undef=vs[i]:=by simp[Array.getD,hi]
  rw[e,j];exact kH _
 exact kH _
variable {J L:Bq}{es0:AA (BD×D)}{j:Nat}{kd:IntKind}{v:BD}{x y:Bz}
section
variable {P:Ch} {o:Oper} {es:AA Bc} {K V:Type} [BEq K]
def SE (q:R ok w H (.mp k) v)(u:H[k]? =some h):v=h.v:=by
 cases q with
 |mp _ _ s hl j=>
  rw[u]at j;cases j;rfl
def amn (u:o.op=.makeMap t none:=by exact rfl):CB P o [] es (.mp es.length) (es++[.map []]):=
 .eff λC ok H a w hm J=>by
  have q:FQ ok (w.alloc (.map #[] 0)) (H++[⟨.map (some w.heap.size),0⟩]) ⟨.map (some w.heap.size),0⟩ (.map []):=
   ⟨w.heap.size, #[],0,rfl,(aDp w _).1,⟨rfl,λi e m z=>Sub,λi j m n _ hm=>by simp at hm⟩⟩
  obtain⟨h2,h3⟩:=hm.push (.map #[] 0) ⟨.map (some w.heap.size),0⟩ _ (λb q=>aD8) q;refine⟨.map (some w.heap.size),_,ok,_,.inl ?_,h3,Gy _ _,h2,.mp _ _ 0 rfl PS⟩;have I:(newObj (.map #[] 0)).run P w=.ok w.heap.size (w.alloc (.map #[] 0)):=rfl;simp[execOp,u,Instr.makeMap,I]
def aRr {k e:Bq}{n:Int}(z:P.underlying t=some (.map k e))(I:o.op=.makeMap t (some x):=by exact rfl):CB P o [(x,.d (.lit (.int kd n)))] es (.mp es.length) (es++[.map []]):=
 .eff λC ok H a w hm J=>by
  have q:FQ ok (w.alloc (.map #[] 0)) (H++[⟨.map (some w.heap.size),0⟩]) ⟨.map (some w.heap.size),0⟩ (.map []):=
   ⟨w.heap.size, #[],0,rfl,(aDp w _).1,⟨rfl,λi e m L=>zl,λi j m n _ hm=>by simp at hm⟩⟩
  obtain⟨h2,h3⟩:=hm.push (.map #[] 0) ⟨.map (some w.heap.size),0⟩ _ (λb q=>aD8) q;have u:=(L9 J).lit;simp only at u;refine⟨.map (some w.heap.size),_,ok,_,.inl ?_,h3,Gy _ _,h2,.mp _ _ 0 rfl PS⟩;have M:(newObj (.map #[] 0)).run P w=.ok w.heap.size (w.alloc (.map #[] 0)):=rfl;simp[execOp,I,Instr.makeMap,M,u,asInt,asIntOf,underlying,z]
theorem a2M {O U:Bq}{ek:K->BD}(ev:V->D){I:V}{m:AA (K×V)}{key:K}(Y:P.underlying t=some (.map O U))(Z:KeyTy P O ek)(hz:(P.info? U).bind (·.zero)=some z)(hzv:Ym z=ev I)(J:z.cells.all (·.oneCell')=true)(hb:w.heap[b]? =some (.map ms clock))(hM:Jl ok w (m.map (CQ ek ev)) ms clock)(c:AV):
 ∃v,(Instr.lookup t (.map (some b)) (ek key) c).run P w=.ok (if c then .tuple #[v,.bool (DF m key).isSome]else v) w/\EF ok w (ev ((DF m key).getD I)) v:=by
 obtain⟨kd,q,hs⟩:=Z.same;have L:ms.toList.map (·.key)=m.map (λp=>ek p.1):=by rw[hM.keys];simp[CQ,aGV]
 have u:=Z.check;obtain⟨i,hi,M⟩:=mY.1 hz;rcases aA4 (i:=0) hs key I m ms.toList L with⟨h1,h2,_⟩|⟨j,e,p,h1,h2,h3,h4,_⟩
 ·refine⟨z,?_,?_⟩
  ·rw[h2];simp[Instr.lookup,underlying,Y,QU hb,u,Instr.findKey,q,h1,zeroValue,typeInfo,hi,M]
  rw[h2];have :=aX9 (ok:=ok) (w:=w) J
  grind
 refine⟨e.val,?_,?_⟩
 ·rw[h4];simp[Instr.lookup,underlying,Y,QU hb,u,Instr.findKey,q,h1]
 rw[h4];have h5:(m.map (CQ ek ev))[j]? =some (CQ ek ev p):=by rw[Jr,h3];rfl
 exact(hM.ent j _ e h5 LM).2.1
def gU {ek:K->BD}(ev:V->D)(M:V){m:AA (K×V)}{key:K}(Z:P.underlying t=some (.map J L))(hk:KeyTy P J ek)(hz:(P.info? L).bind (·.zero)=some z)(q:Ym z=ev M)(u:z.cells.all (·.oneCell')=true)(he:es[k]? =some (.map (m.map (CQ ek ev))))(ho:o.op=.lookup t x y false:=by exact rfl):CB P o [(x,.mp k),(y,.d (.lit (ek key)))] es (.d (ev ((DF m key).getD M))) es:=
 .pure λok H a w j hl O=>by
  obtain⟨hd,hh,I⟩:=Gp j hl he;obtain⟨b,ms,clock,h1,h2,h3⟩:=I;have U:=SE (FC O).1 hh;have Y:=(FC O).2.lit;simp only at U Y;obtain⟨v,hr,hv⟩:=a2M (key:=key) ev Z hk hz q u h2 h3 false;refine⟨v,?_,.d _ _ hv⟩;simp[execOp,ho,U,Y,h1,hr]
def mM {ek:K->BD}(ev:V->D)(M:V){m:AA (K×V)}{key:K}(Z:P.underlying t=some (.map J L))(hk:KeyTy P J ek)(hz:(P.info? L).bind (·.zero)=some z)(q:Ym z=ev M)(u:z.cells.all (·.oneCell')=true)(he:es[k]? =some (.map (m.map (CQ ek ev))))(ho:o.op=.lookup t x y true:=by exact rfl):CB P o [(x,.mp k),(y,.d (.lit (ek key)))] es (.eG [.d (ev ((DF m key).getD M)),.d (Dt (DF m key).isSome)]) es:=
 .pure λok H a w j hl O=>by
  obtain⟨hd,hh,I⟩:=Gp j hl he;obtain⟨b,ms,clock,h1,h2,h3⟩:=I;have U:=SE (FC O).1 hh;have Y:=(FC O).2.lit;simp only at U Y;obtain⟨v,hr,hv⟩:=a2M (key:=key) ev Z hk hz q u h2 h3 true;refine⟨.tuple #[v,.bool (DF m key).isSome],?_,.eG _ _ rfl λi hi=>?_⟩
  ·simp[execOp,ho,U,Y,h1,hr]
  match i,hi with
  |0,_=>exact .d _ _ hv
  |1,_=>exact .d _ _ (.lit _)
def sB (hm:Dq C ok H es w){u:AA (BD×D)}{q:Bg MapEntry}{hd:CG}(J:es[k]? =some (.map es0))(L:H[k]? =some hd)(z:hd.v=.map (some b))(I:w.heap[b]? =some (.map ms clock))(M:Jl ok w u q j):(setObj b (.map q j)).run P w=.ok () (w.putObj b (.map q j))/\Dq C ok H (es.set k (.map u)) (w.putObj b (.map q j))/\F9 ok w ok (w.putObj b (.map q j)):=by
 refine⟨by simp[setObj,Sem.run,I,World.putObj],hm.al8 J rfl L uS λO=>⟨b,q,j,z,Xg (IJ.1 I).1,M.mono O⟩⟩
def WT {kt vt:Bq}{u:Bz}{ek:K->BD}(ev:V->D){m:AA (K×V)}{key:K}{val:V}(ht:P.underlying t=some (.map kt vt))(J:KeyTy P kt ek)(L:es[k]? =some (.map (m.map (CQ ek ev))))(ho:o.op=.mapUpdate t x y u:=by exact rfl):
 CB P o [(x,.mp k),(y,.d (.lit (ek key))),(u,.d (ev val))] es .junk (es.set k (.map ((Dy m key val).map (CQ ek ev)))):=
 .eff λC ok H a w hm M=>by
  obtain⟨hd,O,U⟩:=Gp hm.ent hm.hlen L;obtain⟨b,ms,clock,h1,h2,h3⟩:=U;have Y:=SE (M (x,.mp k) BU) O;have Z:=(M (y,.d (.lit (ek key))) BU).lit;have hu:EF ok w (ev val) (a.eval u):=by have :=M (u,.d (ev val)) BU;cases this with |d _ _ h=>exact h
  simp only at Y Z;obtain⟨kd,q,hs⟩:=J.same;have hks:ms.toList.map (·.key)=m.map (λp=>ek p.1):=a4y
  have z:=J.check;rcases aA4 (i:=0) hs key val m ms.toList hks with⟨q1,_,q3⟩|⟨j,e,p,q1,q2,q3,_,q5,q6⟩
  ·have hM:=h3.push (k:=ek key) hu;obtain⟨r1,r2,r3⟩:=sB (P:=P) hm L O h1 h2 hM;refine⟨undef,_,ok,H,.inr ⟨rfl,?_⟩,r3,.refl _,?_,.junk _⟩
   ·simp[execOp,ho,Y,Z,h1,Instr.mapUpdate,underlying,ht,QU h2,z,Instr.findKey,q,q1,r1]
   rw[q3,J8];exact r2
  have hM:=h3.modify (k:=ek key) hu j;obtain⟨r1,r2,r3⟩:=sB (P:=P) hm L O h1 h2 hM
  have I:e.key=ek key:=by
   have h5:(m.map (CQ ek ev))[j]? =some (CQ ek ev p):=by rw[Jr,q3];rfl
   rw[(h3.ent j _ e h5 pY).1,J.eq _ _ q5];rfl
  have hst:∀w,(Instr.keyThatStays (ek key) (ek key)).run P w=.ok (ek key) w:=λw=>by simp[Instr.keyThatStays,J.bits]
  have hms:ms[j]? =some e:=pY
  refine⟨undef,_,ok,H,.inr ⟨rfl,?_⟩,r3,.refl _,?_,.junk _⟩
  ·simp[execOp,ho,Y,Z,h1,Instr.mapUpdate,underlying,ht,QU h2,z,Instr.findKey,q,q1,hms,I,hst,r1]
  rw[q6,a1D];exact r2
def ain (M:P.underlying t=some (.map J L))(q:es[k]? =some (.map es0))(O:o.op=.call { callee:=.builtin .clear,args:= #[x],argTypes:= #[t] }:=by exact rfl):
 CB P o [(x,.mp k)] es .junk (es.set k (.map [])):=
 .eff λC ok H a w hm U=>by
  obtain⟨hd,z,u⟩:=Gp hm.ent hm.hlen q;obtain⟨b,ms,clock,h1,h2,h3⟩:=u;have I:=SE (U (x,.mp k) BU) z;simp only at I;have Y:Jl ok w [] #[] clock:=⟨rfl,λi e m q=>by simp at q,λi j m n _ hm=>by simp at hm⟩
  obtain⟨Z,r2,r3⟩:=sB (P:=P) hm q z h1 h2 Y;refine⟨.tuple #[],_,ok,H,.inl ?_,r3,.refl _,r2,.junk _⟩;simp[execOp,O,resolve,invoke,builtin,Builtin.clear_,I,h1,underlying,M,QU h2,Z]
def aSG {z I:Bq}(hl:es0.length=n)(J:P.underlying t=some (.map z I))(L:es[k]? =some (.map es0))(M:o.op=.call { callee:=.builtin .len,args:= #[x],argTypes:= #[t] }:=by exact rfl):
 CB P o [(x,.mp k)] es (.d (Ad n)) es:=
 .pure λok H a w j hlen O=>by
  obtain⟨hd,U,q⟩:=Gp j hlen L;obtain⟨b,ms,clock,h1,h2,h3⟩:=q;have u:=SE (O (x,.mp k) BU) U;simp only at u;refine⟨goInt es0.length,?_,by rw[hl];exact .d _ _ (.lit _)⟩;simp[execOp,M,resolve,invoke,builtin,Builtin.len_,u,h1,underlying,J,QU h2,h3.len]
end
variable {vs:AA BD}
def aB3 {xs ys:AA Ah}{us:AA BD}(h:Gf ok w H xs vs)(k:Gf ok w H ys us):Gf ok w H (xs++ys) (vs++us):=by
 refine⟨by rw[Ed,Ed,h.1,k.1],λi hi=>?_⟩;by_cases j:i<xs.length
 ·have q:(xs++ys).getD i .junk=xs.getD i .junk:=by simp[List.getD,JR j]
  have u:(vs++us).getD i undef=vs.getD i undef:=by simp[List.getD,JR (by rw[h.1];exact j:i<vs.length)]
  rw[q,u];exact h.2 i j
 have z:i-xs.length<ys.length:=aIR
 have q:(xs++ys).getD i .junk=ys.getD (i-xs.length) .junk:=by simp[List.getD,P7 (WY j)]
 have u:(vs++us).getD i undef=us.getD (i-xs.length) undef:=by simp[List.getD,P7 (by rw[h.1];omega:vs.length<=i),h.1]
 rw[q,u];exact k.2 _ z
variable {size:Nat}{v':BD}
theorem Dq.aFy (hm:Dq C ok H es w){e:Bc}(q:w.grownBy w' none)(u:∀g,E5 v'=some g->w.heap.size<=g/\g<w'.heap.size)(he:F9 ok w ok w'->FQ ok w' (H++[⟨v',size⟩]) ⟨v',size⟩ e):Dq C ok (H++[⟨v',size⟩]) (es++[e]) w'/\F9 ok w ok w':=by
 have g0:F9 ok w ok w':=λb u=>⟨u,q.block b (hm.lg b u) BU⟩
 refine hm.change (λ_=>False) q.os q.tape q.output q.size (λb u _=>q.block b u BU) (λ_ h=>h.elim) (λ_ h=>h) (λ_ h=>.inl h) (Gy _ _) bP ?_;intro k e' h' J z;rcases Xl J with h1|⟨h1,h2⟩
 ·left;refine⟨h1,?_,λ_ _ _ h=>h⟩;have Z:k<H.length:=aHf
  grind
 subst h2;have Z:k=H.length:=aIY
 subst Z;simp at z;subst z;refine .inr ⟨he g0,λ_ b L=>?_⟩;obtain⟨q1,q2⟩:=u b L;refine⟨λh3=>absurd (hm.lg _ h3) AL,q2,.inl (EK hm.fr.size q1),λk' M O hne U hl j I=>?_⟩;rcases Xl U with h3|⟨h3,_⟩
 ·have Y:k'<H.length:=by rw[hm.hlen];exact(Gs.1 h3).1
  rw[JR Y]at j;exact absurd (hm.blk k' M O _ h3 hl j I).2.1 AL
 grind
variable {ad:AB Addr}{agg:AV}{base:Nat}{h:Int}{l m r:AA α}{ty:Bq}{u:AA BD}{xs ys:AA D}{z:Bz}
def CB.thaw {ns:AA (Bz×Ah)}{k e s:Nat}{xs:AA D}(h:CB P o ns es (.aQ k) es')(I:es'[k]? =some (.arr e s xs)):CB P o ns es (.d (.sl xs)) (es'.set k .dead):=by
 intro C ok H a w Q hm J;refine Oper.wp_mono ?_ (h C ok H a w Q hm J);rintro a' w' ⟨v,ok',H',rfl,L,q,j,M⟩
 have u:Holds (Ez.now w' ok' es' H') ok' H' ⟨[.aQ k],es',H'.length⟩ { tmps:= #[v],defers:=[] } w':=⟨j.inner,rfl,.nil _ _ _,rfl,λt O=>by
  match t,O with
  |0,_=>exact M⟩
 obtain⟨z,h2⟩:=IQ k I _ _ _ _ _ u;obtain⟨U,_,Y⟩:=j.outer h2.mem;refine⟨v,z,H',rfl,L.trans U,q,Y,?_⟩;have :=h2.slot 0 (by simp[BP.thaw]);simpa[BP.thaw,Ah.thaw]using this
def EF.aJl (h:EF ok w (.sl xs) (.slice ad n cap))(I:xs.length<=j):EF ok w (.sl xs) (.slice ad n j):=by
 cases h with
 |sl0 _ _=>exact .sl0 _ _
 |sl _ b off _ size z u hs J L q=>exact .sl xs b off j size I u hs J L q
def aQw {e:Bq}{m:Nat}(j:P.underlying t=some (.slice e))(q:Eb P e agg size)(h1:m<=cap):
 (Instr.slice t (.slice ad n cap) none (some (.int .i64 m)) (some (.int .i64 m))).run P w=.ok (.slice (if m=0 then ad else ad.map (·.add 0)) m m) w:=by
 have u:(underlying t).run P w=.ok (.slice e) w:=aEI
 have z:((m:Int)<=(cap:Int)):=Int.ofNat_le.2 h1;simp[Instr.slice,u,Instr.sliceBounds,Instr.sliceBound,asIntOf,z,h1,q.size]
theorem aHu {e:Bq}(enc:α->D){xs:AA α}(hr:Hq xs 0 h=some r)(ht:P.underlying t=some (.slice e))(hT:Eb P e agg size)(hc:∀a,(enc a).cells.length=size)(ho:o.op=.slice t x none (some y) (some z):=by exact rfl):CB P o [(x,.d (BQ enc xs)),(y,.d (Ad h)),(z,.d (Ad h))] es (.clip (r.map enc)) es:=
 .pure λok H a w _ _ O=>by
  obtain⟨⟨_,h1,h2⟩,rfl⟩:=aV4 hr;have U:=O (x,.d (BQ enc xs)) BU;have M:=(O (y,.d (Ad h)) BU).lit;have hz:=(O (z,.d (Ad h)) BU).lit;simp only at U M hz;generalize hv:a.eval x=v at U;have I:EF ok w (.sl (xs.map enc)) v:=by cases U with |d _ _ h=>exact h
  have J:∃ad cap,v=.slice ad (xs.map enc).length cap/\(xs.map enc).length<=cap:=by
   generalize hys:xs.map enc=ys at I;cases I with
   |sl0 ad cap=>
    grind
   |sl _ b off cap size q=>
    grind
  obtain⟨ad,cap,rfl,q⟩:=J
  have hlen:(List.map enc ((xs.drop 0).take (h.toNat-0))).length=h.toNat:=by
   grind
  have u:=aQw (P:=P) (n:=xs.length) (ad:=ad) (w:=w) ht hT (m:=h.toNat) (cap:=cap) (by rw[Di]at q;omega);have Y:((h.toNat:Nat):Int)=h:=AL
  rw[Y]at u;refine⟨.slice (if h.toNat=0 then ad else ad.map (·.add 0)) h.toNat h.toNat,?_,?_⟩
  ·rw[Di]at hv;simp only[execOp,ho,Option.map_none,JV,hv,M,hz,Instr.sliceAt];have hu:(underlying t).run P w=.ok (.slice e) w:=aFw
   simp only[Fg,a0I,Gl,hu,u,Fv]
  have hD:EF ok w (.sl (List.map enc ((xs.drop 0).take (h.toNat-0)))) (.slice (if h.toNat=0 then ad else ad.map (·.add 0)) (List.map enc ((xs.drop 0).take (h.toNat-0))).length (List.map enc ((xs.drop 0).take (h.toNat-0))).length):=by
   by_cases L:h.toNat=0
   ·have e0:List.map enc ((xs.drop 0).take (h.toNat-0))=[]:=Hd (by rw[hlen,L]);rw[e0];exact .sl0 _ _
   have j:=aRE (l:=0) (h:=h.toNat) I (size:=size) (λy M=>by obtain⟨b,_,rfl⟩:=Hl.1 M;exact hc b) (Ef _) EY;have Z:cap≠0:=by rw[Di]at q;omega
   rw[EZ Z]at j;rw[EZ L,hlen];rw[←fP,←YM]at j;simp only[Nat.zero_mul,Nat.sub_zero]at j ⊢;exact j.aJl (by rw[Di,Gz,a1Z];omega)
  have :=R.clip (H:=H) _ _ hD
  grind
theorem aSJ {e e':Bq}(Z:h=(xs.length:Int))(hk:es[k]? =some (.arr e' s xs))(O:P.underlying t=some (.slice e))(hT:Eb P e agg size)(ho:o.op=.slice t x none (some y) (some z):=by exact rfl):CB P o [(x,.aQ k),(y,.d (Ad h)),(z,.d (Ad h))] es (.xP k) es:=
 .pure λok H a w u hl J=>by
  obtain⟨hd,I,L⟩:=Gp u hl hk;have M:=Ph (J (x,.aQ k) BU) I;have U:=(J (y,.d (Ad h)) BU).lit;have Y:=(J (z,.d (Ad h)) BU).lit;simp only at M U Y;obtain⟨_,_,EO,⟨_,j⟩,_⟩:=L;obtain⟨v,Ci⟩:=hd;simp only at j M;subst Z
  have key:∃ad cap,v=.slice ad xs.length cap/\xs.length<=cap/\ad.map (·.add 0)=ad:=by
   rcases j with⟨rfl,h1⟩|⟨g,cap,_,rfl,_,_,h1,_⟩
   ·grind
   exact⟨_,cap,rfl,h1,by simp[Addr.add]⟩
  obtain⟨ad,cap,rfl,h1,h2⟩:=key;have q:=aQw (P:=P) (n:=xs.length) (ad:=ad) (w:=w) O hT (m:=xs.length) (cap:=cap) h1;have hi:(if xs.length=0 then ad else ad.map (·.add 0))=ad:=by split<;>simp[h2]
  rw[hi]at q;refine⟨.slice ad xs.length xs.length,?_,.xP k ad _ cap Ci I⟩;simp only[execOp,ho,Option.map_none,JV,M,U,Y,Instr.sliceAt];have hu:(underlying t).run P w=.ok (.slice e) w:=by simp[underlying,O]
  simp only[Fg,a0I,Gl,hu,q,Fv]
def amQ (hm:Dq C ok H es w){e:Bq}(hE:G6 P t e size q)(hk:es[k]? =some (.arr e size xs)){x:BD}(hv:R ok w H (.xP k) v)(L:XW w x ys.length size u)(I:Gf ok w H (flat ys) u)(hys:∀y∈ys,y.cells.length=size)(hb:(xs.length+ys.length)*q<=140737488355328)(hn:xs.length+ys.length<=maxLen):
 ∃v' w' H',(Builtin.append_ #[t,t] ty #[v,x]).run P w=.ok v' w'/\F9 ok w ok w'/\Names H H'/\Dq C ok H' (es.set k .dead++[.arr e size (xs++ys)]) w'/\R ok w' H' (.aQ es.length) v':=by
 obtain⟨h,hh,hok⟩:=Gp hm.ent hm.hlen hk;obtain⟨h1,h2,EO,j,hrs⟩:=hok
 have key:ny w e size v xs.length EO/\E5 v=E5 h.v:=by
  cases hv with
  |xP _ ad n cap s M=>
   rw[hh]at M;obtain rfl:=Dv M;rcases j.2 with⟨O,q2⟩|⟨g,cap',cur,O,q2,q3,q4,q5,q6,q7⟩
   ·simp only[oN]at O;obtain⟨rfl,rfl,rfl⟩:=O;exact⟨⟨j.1,.inl ⟨rfl,q2⟩⟩,rfl⟩
   simp only[oN]at O;obtain⟨rfl,rfl,rfl⟩:=O;exact⟨⟨j.1,.inr ⟨g,xs.length,cur,rfl,q2,q3,Ec _,EK q4 q5,EK (KR _ q4) q6,q7⟩⟩,rfl⟩
 obtain⟨z,U⟩:=key;obtain⟨v',w',hr,J,Y,Z⟩:=aKj (P:=P) (ty:=ty) hE z L hb hn
 obtain⟨h3,h4⟩:=hm.turn (h':=⟨v',size⟩) (e:=.arr e size (xs++ys)) hk rfl hh Y.os Y.tape Y.output Y.size (λc hc hne=>Y.block c hc (by rw[aKO z,U];exact λe=>hne e.symm)) (λg hg'=>⟨sK J hg',(Z g hg').imp (λh=>U▸h) id⟩) (λhgr=>by
  refine⟨rfl,λy hy=>?_,EO++u,a0Y,?_⟩
  ·rcases Je.1 hy with h|h
   ·exact h2 y h
   exact hys y h
  have a1:=hrs.mono hgr (Gy H [⟨v',size⟩]);have a2:=I.mono hgr (Gy H [⟨v',size⟩]);rw[qI]
  exact aB3 a1 a2)
 refine⟨v',w',_,hr,h4,Gy _ _,h3,?_⟩;have M:(H++[(⟨v',size⟩:CG)])[es.length]? =some ⟨v',size⟩:=PS
 rcases J.2 with⟨rfl,_⟩|⟨g',c',_,rfl,_⟩
 ·exact .aQ _ _ _ _ size M
 exact .aQ _ _ _ _ size M
def aW4 {s:Bz}{e:Bq}(enc:α->D)(h:DC j l m=some r)(hE:G6 P t e size j)(O:es[k]? =some (.arr e size (l.map enc)))(U:∀a,(enc a).cells.length=size)(Y:0<j)(Z:o.op=.call { callee:=.builtin .append,args:= #[s,x],argTypes:= #[t,t] }:=by exact rfl):
 CB P o [(s,.xP k),(x,.d (BQ enc m))] es (.aQ es.length) (es.set k .dead++[.arr e size (r.map enc)]):=by
 obtain⟨rfl,h2⟩:=wK h;refine .eff λC ok H a w hm q=>?_;have h1:=(FC q).1;have h3:=(FC q).2;simp only at h1 h3;have I:EF ok w (.sl (m.map enc)) (a.eval x):=by cases h3 with |d _ _ h=>exact h
 have u:∀y∈m.map enc,y.cells.length=size:=λy hy=>by obtain⟨a,_,rfl⟩:=Hl.1 hy;exact U a
 obtain⟨L,z,J⟩:=dF H I u;obtain⟨v',w',H',hr,r1,r2,M,r4⟩:=amQ (ty:=o.type) hm hE O h1 z J u LM (by simpa using a3p Y h2);rw[←J8]at M;refine⟨v',w',ok,H',.inl ?_,r1,r2,M,r4⟩;simp[execOp,Z,resolve,invoke,builtin,hr]
def aNI {e:Bq}(hE:G6 P t e size q){x:BD}(hv:R ok w H (.clip xs) v)(Y:∀y∈xs,y.cells.length=size)(I:XW w x ys.length size u)(hpos:0<ys.length)(Z:(xs.length+ys.length)*q<=140737488355328)(hn:xs.length+ys.length<=maxLen):
 ∃j v' w',Gf ok w H (flat xs) j/\(Builtin.append_ #[t,t] ty #[v,x]).run P w=.ok v' w'/\w'.ownsRow w.heap.size e size v' (xs.length+ys.length) (j++u)/\w.grownBy w' none:=by
 obtain⟨i,z,hi,hz,hs,L,M⟩:=hE.info;cases hv with
 |clip _ ad hD=>
  obtain⟨j,ho,O⟩:=dF H hD Y;rcases I.at_ with⟨U,c,rfl,J⟩|⟨c,rfl,h0⟩
  ·rcases ho.at_ with⟨ad2,c2,h1,h2⟩|⟨c2,h1,h2⟩
   ·simp only[oN]at h1;obtain⟨rfl,_,rfl⟩:=h1;obtain⟨v',w',r1,r2,r3⟩:=run_append_arg_grows (P:=P) w t ty e i z size q hE.und hi hz hs L M hE.pos ad2 xs.length xs.length j ho.len h2 U ys.length c u I.len J AL hn Z;exact⟨j,v',w',O,r1,r2,r3⟩
   simp only[oN]at h1;obtain⟨rfl,_,_⟩:=h1;have hx:j=[]:=Hd (by rw[ho.len,h2];simp);subst hx;rw[h2]at hn Z ⊢;obtain⟨v',w',r1,r2,r3,_⟩:=run_append_own (P:=P) w w.heap.size t ty e i z size q hE.und hi hz hs L M hE.pos _ 0 [] (a7b w w.heap.size e size) U ys.length c u I.len J I.one hn Z (Ec _);exact⟨[],v',w',O,r1,r2,r3⟩
  omega
theorem aS1 {e:Nat}{j q:AA BD}(h:w'.ownsRow base e size v' (xs.length+ys.length) (j++q))(h1:Gf ok w' H (flat xs) j)(h2:Gf ok w' H (flat ys) q)(u:∀y∈xs,y.cells.length=size)(z:∀y∈ys,y.cells.length=size):
 FQ ok w' H ⟨v',size⟩ (.arr e size (xs++ys)):=by
 refine⟨rfl,λy I=>?_,j++q,?_,?_⟩
 ·grind
 ·have :=ny.of h;simpa using this
 rw[qI];exact aB3 h1 h2
def aS9 {e:Nat}{EO:AA BD}(h:w'.ownsRow base e size v' n EO):∀g,E5 v'=some g->base<=g/\g<w'.heap.size:=by
 intro g j;rcases h.2 with⟨rfl,_⟩|⟨q,_,_,rfl,h1,h2,_⟩
 ·simp[E5]at j
 simp[E5]at j;subst j;exact⟨h1,(IJ.1 h2).1⟩
def aW8 {s:Bz}{e:Bq}(enc:α->D)(h:DC j l m=some r)(hE:G6 P t e size j)(hc:∀a,(enc a).cells.length=size)(J:0<j)(L:o.op=.call { callee:=.builtin .append,args:= #[s,x],argTypes:= #[t,t] }:=by exact rfl):
 CB P o [(s,.clip (l.map enc)),(x,.d (BQ enc m))] es (.d (BQ enc r)) es:=by
 obtain⟨rfl,h2⟩:=wK h;refine .eff λC ok H a w hm M=>?_;have h1:=(FC M).1;have h3:=(FC M).2;simp only at h1 h3;have h3':EF ok w (.sl (m.map enc)) (a.eval x):=by cases h3 with |d _ _ h=>exact h
 have O:∀y∈l.map enc,y.cells.length=size:=λy hy=>aUh
 have U:∀y∈m.map enc,y.cells.length=size:=λy hy=>aUh
 obtain⟨Y,q,hrs⟩:=dF H h3' U;by_cases Z:m=[]
 ·subst Z;obtain⟨i,z,hi,hz,hs,hby,hzs⟩:=hE.info;have I:Y=[]:=Hd (by rw[q.len];simp);subst I;generalize hv:a.eval s=v at h1;generalize hu:a.eval x=u at q;cases h1 with
  |clip _ ad hD=>
   refine⟨_,w,ok,H,.inl ?_,.refl _ _,.refl _,hm,.d _ _ (by rw[Rs];exact hD)⟩;have hL:∀w:BX,((underlying t).run P w=.ok (.slice e) w):=λw=>aI7
   rcases q.at_ with⟨ad',c,rfl,_⟩|⟨c,rfl,_⟩
   ·cases ad with
    |none=>simp[execOp,L,resolve,invoke,builtin,hv,hu,Builtin.append_,hL,sizeOf,typeInfo,hi,Builtin.lenOf,Builtin.firstCells,loadCells,loadCellsFrom]
    |some ad=>simp[execOp,L,resolve,invoke,builtin,hv,hu,Builtin.append_,hL,sizeOf,typeInfo,hi,Builtin.lenOf,Builtin.firstCells,loadCells,loadCellsFrom,storeCells]
   cases ad with
   |none=>simp[execOp,L,resolve,invoke,builtin,hv,hu,Builtin.append_,hL,sizeOf,typeInfo,hi,Builtin.lenOf,Builtin.firstCells]
   |some ad=>simp[execOp,L,resolve,invoke,builtin,hv,hu,Builtin.append_,hL,sizeOf,typeInfo,hi,Builtin.lenOf,Builtin.firstCells,storeCells]
 obtain⟨olds,v',w',r0,r1,r2,r3⟩:=aNI (P:=P) (ty:=o.type) hE h1 O q (by simpa using oU.2 Z) LM (by simpa using a3p J h2);have hblk:=aS9 r2;obtain⟨m1,g1⟩:=hm.change (ok':=λb=>ok b\/E5 v'=some b) (H':=H) (es':=es) (w':=w') (λ_=>False) r3.os r3.tape r3.output r3.size (λb J _=>r3.block b J BU) (λ_ h=>h.elim) (λ_ h=>.inl h) (λb h=>h.imp id λh=>hblk b h) (.refl _) hm.hlen (λk e h he hh=>.inl ⟨he,hh,λ_ _ _ h=>h⟩);have g0:F9 ok w ok w':=λb J=>⟨J,(g1 b J).2⟩
 have hE':=aS1 r2 (r0.mono g0 (.refl _)) (hrs.mono g0 (.refl _)) O U;refine⟨v',w',_,H,.inl (by simp[execOp,L,resolve,invoke,builtin,r1]),g1,.refl _,m1,.d _ _ ?_⟩;have :=oP hE' (ok':=λb=>ok b\/E5 v'=some b) (λ_ h=>.inl h) (λ_ h=>.inr h)
 rwa [←J8]at this
def akg {s:Bz}{e:Bq}(enc:α->D)(h:DC j l m=some r)(J:m≠[])(hE:G6 P t e size j)(Y:∀a,(enc a).cells.length=size)(hb:0<j)(ho:o.op=.call { callee:=.builtin .append,args:= #[s,x],argTypes:= #[t,t] }:=by exact rfl):
 CB P o [(s,.clip (l.map enc)),(x,.d (BQ enc m))] es (.aQ es.length) (es++[.arr e size (r.map enc)]):=by
 obtain⟨rfl,h2⟩:=wK h;refine .eff λC ok H a w hm q=>?_;have h1:=(FC q).1;have h3:=(FC q).2;simp only at h1 h3;have L:EF ok w (.sl (m.map enc)) (a.eval x):=by cases h3 with |d _ _ h=>exact h
 have u:∀y∈l.map enc,y.cells.length=size:=λy M=>by obtain⟨a,_,rfl⟩:=Hl.1 M;exact Y a
 have z:∀y∈m.map enc,y.cells.length=size:=λy M=>by obtain⟨a,_,rfl⟩:=Hl.1 M;exact Y a
 obtain⟨Z,I,O⟩:=dF H L z;obtain⟨olds,v',w',r0,r1,U,r3⟩:=aNI (P:=P) (ty:=o.type) hE h1 u I (by simpa using oU.2 J) LM (by simpa using a3p hb h2)
 obtain⟨m1,g1⟩:=hm.aFy (v':=v') (size:=size) (e:=.arr e size ((l++m).map enc)) r3 (aS9 U) (λg0=>by
  have :=aS1 U (r0.mono g0 (Gy H [⟨v',size⟩])) (O.mono g0 (Gy H [⟨v',size⟩])) u z
  rwa [←J8]at this)
 refine⟨v',w',ok,_,.inl (by simp[execOp,ho,resolve,invoke,builtin,r1]),g1,Gy _ _,m1,?_⟩;have hH:(H++[(⟨v',size⟩:CG)])[es.length]? =some ⟨v',size⟩:=PS
 rcases U.2 with⟨rfl,_⟩|⟨g',c',_,rfl,_⟩
 ·exact .aQ _ _ _ _ size hH
 exact .aQ _ _ _ _ size hH
def D.plain:D->AV
 | .lit _=>true
 | .agg cs=>cs.all λc=>match c with | .lit _=>true|_=>false
 |_=>false
def aaC (hp:∀x∈xs,x.plain=true)(h:Gf ok w H (flat xs) vs):Gf ok' w' H' (flat xs) vs:=by
 refine⟨h.1,λi hi=>⟨(h.2 i hi).1,?_⟩⟩;have I:=(h.2 i hi).2;have hm:(flat xs).getD i .junk∈flat xs:=NY
 generalize(flat xs).getD i .junk=y at I hm;unfold flat at hm;simp only[Vy,Hl]at hm;obtain⟨x,J,c,z,rfl⟩:=hm;have j:=hp x J
 have q:∃u,c=.lit u:=by
  cases x with
  |lit u=>simp[D.cells]at z;exact⟨u,z⟩
  |agg cs=>
   simp only[D.cells]at z;simp only[D.plain,Fq]at j;have :=j c z;cases c with
   |lit u=>exact⟨u,rfl⟩
   |_=>simp at this
  |_=>cases j
 obtain⟨u,rfl⟩:=q;rw[I.lit];exact .d _ _ (.lit u)
variable {fE:AA Ah}{ops:Bg Bz}
def aVE {o:Oper}{f:FuncId}{e:Nat}(hr:EW P f fE [] (.aQ 0) [.arr e s xs])(hp:∀x∈xs,x.plain=true)(ha:fD es dY fE)(hl:ops.toList.length=dY.length){a:Act}(hm:Dq C ok H es w)(hn:∀n∈Fh ops.toList dY,R ok w H n.2 (a.eval n.1)):
 Calls P f (ops.toList.map a.eval).toArray w λe' w'=>∃v,e'=.returned v/\w.grownBy w' none/\(∀g,E5 v=some g->w.heap.size<=g/\g<w'.heap.size)/\Value.isSlice v=true/\∀M H2,FQ M w' H2 ⟨v,s⟩ (.arr e s xs):=by
 let I:Nat->Prop:=λb=>b<w.heap.size
 have Z:Dq ⟨w,I,[],[]⟩ I [] [] w:=
  ⟨.refl _ _,λ_ h=>h,λ_ h=>.inl h,λ_ h=>h,.refl _,rfl,λk e h O _=>by simp at O,λk e h b O=>by simp at O,λk k' e e' h h' b O=>by simp at O⟩
 refine(hr I [] [] w _ Z (by simp[hl,aCO ha]) (λi hi=>?_)).mono ?_
 ·obtain⟨op,x,ho',U,q⟩:=aUj hl ha i hi;have L:=hn _ U
  have e1:(ops.toList.map a.eval).toArray.getD i undef=a.eval op:=by
   obtain⟨h1,h2⟩:=Gs.1 ho';have h3:i<ops.size:=Zh
   have h4:ops[i]=op:=LM
   simp[Array.getD,h3,h4]
  rw[e1];simp only at L;generalize fE.getD i .junk=y at q;generalize a.eval op=u at L;cases x with
  |d x=>
   obtain rfl:=q;cases L with |d _ _ h=>exact .d _ _ (h.mono (λb z=>⟨hm.lg b z,rfl⟩))
  |aQ k=>
   obtain⟨e',s,xs,hk,rfl⟩:=q;obtain⟨h,hh,J⟩:=Gp hm.ent hm.hlen hk;obtain rfl:=Ph L hh;exact .d _ _ (oP J (λb z=>hm.lg b z) (λb z=>(hm.blk k _ h b hk rfl hh z).2.1))
  |_=>exact q.elim
 rintro e' w' ⟨v,ok',H',rfl,j,L⟩;have hg:w.grownBy w' none:=⟨j.fr.os,j.fr.tape,j.fr.output,j.fr.size,λb z _=>j.fr.block b z BU⟩
 have hl':H'.length=1:=j.hlen
 match H',hl' with
 | [hd],_=>
   obtain rfl:=Ph L (h:=hd) rfl;have J:=j.ent 0 _ hd rfl rfl;have z:=λb z=>j.blk 0 _ hd b rfl rfl rfl z;obtain⟨q1,q2,EO,q3,q4⟩:=J;obtain⟨v,Ci⟩:=hd;simp only at q1 z q3;subst q1;refine⟨v,rfl,hg,λg hg'=>?_,?_,λM H2=>⟨rfl,q2,EO,q3,aaC hp q4⟩⟩
   ·obtain⟨_,r2,Y⟩:=z g hg';rcases Y with Y|Y
    ·exact⟨Y,r2⟩
    simp at Y
   rcases q3.2 with⟨rfl,_⟩|⟨g',c',_,rfl,_⟩<;>rfl
variable {ats:Bg Bq}
def JB {f:FuncId}{e:Nat}(j:EW P f fE [] (.aQ 0) [.arr e s xs])(hp:∀x∈xs,x.plain=true)(q:Gw P f=true)(ha:fD es dY fE)(hl:ops.toList.length=dY.length)(u:o.op=.call { callee:=.value (.func f),args:=ops,argTypes:=ats }:=by exact rfl):CB P o (Fh ops.toList dY) es (.aQ es.length) (es++[.arr e s xs]):=by
 intro C ok H a w Q hm z;unfold Oper.wp;rw[yg u,UC q,ak];have I:ops.map a.eval=(ops.toList.map a.eval).toArray:=a4e
 rw[I];refine(aVE (o:=o) j hp ha hl hm z).mono ?_;rintro e' w' ⟨v,rfl,J,L,hsl,hE⟩;obtain⟨M,O⟩:=hm.aFy (v':=v) (size:=s) (e:=.arr e s xs) J L (λ_=>hE _ _);refine⟨v,ok,_,rfl,O,Gy _ _,M,?_⟩;have U:(H++[(⟨v,s⟩:CG)])[es.length]? =some ⟨v,s⟩:=PS
 cases v with
 |slice ad n c=>exact .aQ _ _ _ _ s U
 |_=>cases hsl
def aA8 {f:FuncId}{e:Nat}(u:EW P f fE [] (.aQ 0) [.arr e s xs])(hp:∀x∈xs,x.plain=true)(z:Gw P f=true)(ha:fD es dY fE)(hl:ops.toList.length=dY.length)(I:o.op=.call { callee:=.value (.func f),args:=ops,argTypes:=ats }:=by exact rfl):CB P o (Fh ops.toList dY) es (.d (.sl xs)) es:=by
 intro C ok H a w Q hm J;unfold Oper.wp;rw[yg I,UC z,ak];have L:ops.map a.eval=(ops.toList.map a.eval).toArray:=a4e
 rw[L];refine(aVE (o:=o) u hp ha hl hm J).mono ?_;rintro e' w' ⟨v,rfl,j,M,hsl,hE⟩;obtain⟨O,U⟩:=hm.change (ok':=λb=>ok b\/E5 v=some b) (H':=H) (es':=es) (w':=w') (λ_=>False) j.os j.tape j.output j.size (λb q _=>j.block b q BU) (λ_ h=>h.elim) (λ_ h=>.inl h) (λb h=>h.imp id λh=>M b h) (.refl _) hm.hlen (λk e h Y Z=>.inl ⟨Y,Z,λ_ _ _ h=>h⟩);exact⟨v,_,H,rfl,U,.refl _,O,.d _ _ (oP (hE ok H) (λ_ h=>.inl h) (λ_ h=>.inr h))⟩
variable {F:Fence}
def aAs {Q:Exit->Act->BX->Prop}{a:Act}{c:Code}(h:c.wpIn F n P (Exit.noGoto Q) a w):(Code.scope c).wpIn F n P Q a w:=by
 intro b k cs J L M;have j:(lone (b.atR a (.code (.scope c)::k)) cs w).fenced P F:=fenced_calm L M rfl;have q:step P (lone (b.atR a (.code (.scope c)::k)) cs w)=.next (lone (b.atR a (.code c::.inScope c::k)) cs w):=step_lone_go aSa;obtain⟨e,z,I,u,harr⟩:=h b (.inScope c::k) cs J L M;cases e with
 |normal=>exact⟨.normal,z,I,u,.head j q (StepsIn.trans harr (.one (fenced_calm L M rfl) (step_lone_go aSa)))⟩
 |exit id=>
  have Y:exitTo id (.inScope c::k)=exitTo id k:=by simp[exitTo]
  exact⟨.exit id,z,I,u,λk' O=>.head j q (harr.1 k' (by rw[Y];exact O)),λU O=>let⟨Z,h1,h2⟩:=harr.2 U (by rw[Y];exact O);⟨Z,h1,.head j q h2⟩⟩
 |goto l=>exact u.elim
 |ret=>exact⟨_,z,I,u,.of_steps (.one j q) harr⟩
 |panic ch=>exact⟨_,z,I,u,.of_steps (.one j q) harr⟩
 |outgrown=>exact⟨_,z,I,u,.of_steps (.one j q) harr⟩
def adS (Q:Exit->BP->Prop):Exit->BP->Prop
 | .goto _,_=>False
 |e,σ=>Q e σ
def Bh.scope {c:Code}(h:Bh P c σ (adS Q)):Bh P (.scope c) σ Q:=⟨λro j C ok H a w q=>
 aAs (UD (h.run ro (j.imp id λh=>h) C ok H a w q) (by
  rintro e a' w' ⟨ok',H',σ',h1,h2⟩;cases e with
  |goto l=>exact h2.elim
  |_=>exact⟨ok',H',σ',h1,h2⟩))⟩
def aVo (P:Ch)(f:FuncId)(args:AA Ah)(u:BD):Prop:=
 ∀(ok:Nat->Prop) (X:AA Nat) (H:AA CG) (w:BX) (j:Bg BD),Dq ⟨w,ok,X,H⟩ ok H [] w->j.size=args.length->(∀i,i<args.length->R ok w H (args.getD i .junk) (j.getD i undef))->
  Calls P f j w λe w'=>∃ok' H',e=.panicked [{ v:=u,recovered:=false }]/\Dq ⟨w,ok,X,H⟩ ok' H' [] w'
variable {Rr:Type}
def QH (P:Ch)(f:FuncId)(args:AA Ah)(r:Except BD Rr)(j:Rr->Ah):Prop:=(∀x,r=.ok x->EW P f args [] (j x) [])/\∀u,r=.error u->aVo P f args u
def ajE (P:Ch)(fn:Func)(r:Except BD Rr)(j:Rr->Ah)(e:Exit)(σ:BP):Prop:=
 (∃x,r=.ok x/\bC P fn (j x) [] e σ)\/∃u,r=.error u/\e=qy u/\σ.base=0
def aT7 {P:Ch}{fn:Func}{Rr:Ending->BX->Prop}{C:Ez}{ch:AA PanicEntry}(u:∀b,C.ok0 b->b<C.w0.heap.size){H:AA CG}{σ:BP}(z:∀ok a w,Holds C ok H σ a w->Rr (.panicked ch) w){tmps:Bg BD}:∀(Ds:AA Nat) {ok:Nat->Prop} {a:Act} {w:BX},Holds C ok H σ a w->(∀d∈Ds,ok d/\C.w0.heap.size<=d/\w.heap[d]? =some (.deferred (some [])))->Ds.Nodup->
  LeavesInM (JE none) 0 P fn tmps Rr (Ds.map λD=>{ target:=.collected D,args:= #[] }) (.panicking ch) w
 | [],ok,a,w,h,_,_=>z ok a w h
 |D::Ds,ok,a,w,h,hd,I=>by
  obtain⟨ok',h',j⟩:=h.take u (λd q=>hd d (Ii _ q)) (hd D (I8 ..)) I;have h2:=aT7 (P:=P) (fn:=fn) (tmps:=tmps) u z Ds h' j (LC.1 I).2;exact⟨BU,.inl ⟨D,_,rfl,run_takeDeferred (hd D (I8 ..)).2.2,h2⟩⟩
def Dq.none (hm:Dq C ok H es w)(q:C.H0=[]):Dq C ok [] [] w:=
 ⟨hm.fr,hm.CU,hm.CV,hm.lg,by rw[q];exact .refl _,rfl,λk e h j=>a0f,λk e h b j=>a0f,λk k' e e' h h' b j=>a0f⟩
def QH.dO {f:FuncId}{c:Code}{args:AA Ah}{r:Except BD Rr}{q:Rr->Ah}(O:P.funcs[f]? =some fn)(U:fn.body=some c)(h:Bh P c (.enter args fn.ntmps []) (ajE P fn r q)):QH P f args r q:=by
 refine⟨λx Y=>ER O U (h.mono λe σ hq=>?_),λu Z=>?_⟩
 ·rcases hq with⟨x',h1,h2⟩|⟨u,h1,_⟩
  ·rw[Y]at h1;cases h1;exact h2
  rw[Y]at h1;cases h1
 intro ok X H w j hm hs ha;have hH:H=[]:=Hd hm.hlen;refine(a1k (ro:=none) (n:=0)).1 (aH6 O U trivial (UD (h.run none (.inl rfl) ⟨w,ok,X,H⟩ ok H _ w ?_) ?_) rfl)
 ·refine⟨hm,by simp[BP.enter,hs],.nil _ _ _,hm.hlen,λt ht=>?_⟩;simp only[BP.enter];by_cases e:t<args.length
  ·have z:(args++List.replicate (fn.ntmps-args.length) Ah.junk).getD t .junk=args.getD t .junk:=aIO
   have e2:(j++Array.replicate (fn.ntmps-j.size) undef).getD t undef=j.getD t undef:=by
    simp[JJ,Zc (show t<j.size by omega)]
   rw[z,e2];exact ha t e
  have z:(args++List.replicate (fn.ntmps-args.length) Ah.junk).getD t .junk=.junk:=by
   simp only[List.getD,P7 (WY e),List.getElem?_replicate];split<;>rfl
  rw[z];exact .junk _
 rintro e a' w' ⟨ok',H',σ',h1,h2⟩;rcases h2 with⟨x,h3,_⟩|⟨u',h3,rfl,_⟩
 ·rw[Z]at h3;cases h3
 rw[Z]at h3;cases h3;obtain⟨Ds,I,J,L⟩:=h1.defers;show LeavesInM (JE none) 0 P fn a'.tmps _ a'.defers (.panicking _) w';rw[I];exact aT7 (P:=P) (C:=⟨w,ok,X,H⟩) hm.lg (λM a2 w2 h4=>⟨M,[],rfl,h4.mem.none hH⟩) Ds h1 L J
section
variable {ops:Bg Oper}{l:AA Oper}
def Dj.panic {x:Bz}{t:Bq}{u:BD}(q:o.op=.panic x)(z:σ.get x=.d (.lit (.iface t u)))(I:Ju ops σ o.guard=some true)(h:K (qy (.iface t u)) σ):Dj P ops (o::rest) σ K:=by
 refine⟨λro l2 Q C ok H a w j J=>?_⟩;show wpListIn (JE ro) 0 P ops Q (o::(rest++l2)) a w;unfold wpListIn;rw[ES (Uh j (PO I))];have L:=(z▸j.get x).lit;unfold Oper.wpIn;rw[jE _ _ _ (by rw[q];intro c h;cases h)];have M:(execOp a.eval o).run P w=.halt (.panic (.iface t u)) w:=by simp[execOp,q,L,Instr.panic,goPanic]
 rw[M];exact⟨λ_ _=>trivial,J.2 _ _ _ _ _ _ h j⟩
end
section
variable {ops:Bg Oper}
def aOF:J4 o j=true↔∃e∈o.after,e.on=j/\Region.binds .any e=true:=by
 simp only[J4,KX,Array.mem_toList_iff,ED,Iu]
theorem aYz {N:Nat}{Q:Exit->Act->BX->Prop}(hN:N+1=ops.size)(hg:∀(i:Nat) (o:Oper),ops[i]? =some o->∀j b,o.guard=some (j,b)->j<N)(u:Ud ops=true)(hb:WG ops (List.replicate N false++[true])=true):∀(Am:Nat) (l:Bg AV) (a:Act) (w:BX),l.size=N->(∀(j:Nat) (o:Oper),ops[j]? =some o->l.getD j false=true->∀i,J4 o i=true->l.getD i false=true)->
 wpAnyIn F n P .any ⟨ops.toList.take N⟩ (λe a w=>match e with | .normal=>wpOpIn F n P ops Q N (Q .normal) a w|e=>Q e a w) Am l a w->wpAnyIn F n P .any ops Q (Am+1) (l.push false) a w:=by
 have z:∀i,i<N->(⟨ops.toList.take N⟩:Bg Oper)[i]? =ops[i]? :=λi hi=>Ur
 have I:∀(l:Bg AV),l.size=N->∀i,i<N->∀d,(l.push false).getD i d=l.getD i d:=λl hl i hi d=>by
  simp only[JJ,jd,show i≠l.size by omega,KA]
 have hgN:∀(l:Bg AV),l.size=N->∀d,(l.push false).getD N d=false:=λl hl d=>by
  simp only[JJ,jd,hl,JK,NQ]
 have hrd:∀(l:Bg AV),l.size=N->∀i,i<N->(i∈Region.ready .any ops (l.push false)↔i∈Region.ready .any ⟨ops.toList.take N⟩ l):=λl hl i hi=>by
  rw[Vt,Vt,z i hi,I l hl i hi];refine and_congr_right λ_=>exists_congr λo=>and_congr_right λq=>forall_congr' λe=>forall_congr' λhm=>forall_congr' λJ=>?_;rw[I l hl _ (Nat.lt_trans (sI u i o q e a5e J) hi)]
 have hrN:∀(l:Bg AV),l.size=N->(∀(j:Nat) (o:Oper),ops[j]? =some o->l.getD j false=true->∀i,J4 o i=true->l.getD i false=true)->N∈Region.ready .any ops (l.push false)->∀j,j<N->l.getD j false=true:=λl hl O U j hj=>by
  obtain⟨_,o,q,h⟩:=Vt.1 U;refine amr hb (show N<ops.size by omega) (by simp[List.getD]) (D:=λj=>l.getD j false=true) O (λo' L m hm=>?_) j hj;rw[q]at L;obtain rfl:=Dv L;obtain⟨e,e1,rfl,e3⟩:=aOF.1 hm;have :=h e e1 e3
  rwa [I l hl _ (sI u N o q e (by simpa using e1) e3)]at this
 have hwp:∀(i:Nat),i<N->∀(K:Act->BX->Prop) (a:Act) (w:BX),wpOpIn F n P ⟨ops.toList.take N⟩ (λe a w=>match e with | .normal=>wpOpIn F n P ops Q N (Q .normal) a w|e=>Q e a w) i K a w->wpOpIn F n P ops Q i K a w:=λi hi K a w h=>by
  unfold wpOpIn at h ⊢;rw[z i hi]at h;split
  ·rename_i q;rw[q]at h;exact h
  rename_i o q;rw[q]at h
  have hw:Region.wanted o (yielded ⟨ops.toList.take N⟩ a.tmps)=Region.wanted o (yielded ops a.tmps):=by
   unfold Region.wanted;cases hgo:o.guard with
   |none=>rfl
   |some g=>simp only[yielded,z g.1 (hg i o q g.1 g.2 hgo)]
  simp only[hw]at h;split
  rotate_left
  ·rename_i hn;simp only[hn]at h;exact h
  rename_i hy;simp only[hy,JK]at h;unfold Oper.wpIn at h ⊢;refine⟨h.1,?_⟩;have h:=h.2;generalize(o.semAt F.round a.eval).run P w=r at h ⊢;cases r with
  |ok x w'=>
   cases x<;>simp only[Oper.uponIn]at h ⊢ <;>
    first
     |exact h
     |exact⟨h.1,CallsIn.mono h.2 (λe w'' u=>by cases e<;>exact u)⟩
     |exact⟨h.1,RoundIn.mono h.2 (λe w'' u=>by cases e<;>exact u)⟩
  |halt x w'=>cases x<;>simp only[Oper.uponIn]at h ⊢ <;>exact h
 have hall:∀(l:Bg AV),l.size=N->(∀j,j<N->l.getD j false=true)->Region.ready .any ⟨ops.toList.take N⟩ l=[]:=λl hl h=>by
  rw[aLb];intro i hi;obtain⟨h1,o,q,_⟩:=Vt.1 hi
  have Y:i<N:=by
   have :=(IJ.1 q).1;simp at this;omega
  have :=h i Y;have hil:i<l.size:=AL
  simp[Array.getD,hil]at h1 this;rw[h1]at this;cases this
 have hlt:∀(l:Bg AV) i,i∈Region.ready .any ops (l.push false)->i<N\/i=N:=λl i hi=>by
  obtain⟨_,o,q,_⟩:=Vt.1 hi;have :=(IJ.1 q).1;omega
 have hend:∀(l:Bg AV),l.size=N->(∀j,j<N->l.getD j false=true)->∀Am a w,wpOpIn F n P ops Q N (Q .normal) a w->wpOpIn F n P ops Q N (wpAnyIn F n P .any ops Q Am ((l.push false).setIfInBounds N true)) a w:=λl hl h Am a w hw=>by
  refine wpOpIn_mono (λa' w' hq=>wpAnyIn_done ?_ hq Am) hw;rw[aLb];intro i hi;obtain⟨h1,o,q,_⟩:=Vt.1 hi;have Y:=(IJ.1 q).1;rw[JJ,aF3]at h1;by_cases e:N=i
  ·simp[e,hl]at h1
  rw[EZ e,←JJ,I l hl i AL]at h1;have :=h i AL;have hil:i<l.size:=AL
  simp[Array.getD,hil]at h1 this;rw[h1]at this;cases this
 have M:∀(l:Bg AV),l.size=N->(∀(j:Nat) (o:Oper),ops[j]? =some o->l.getD j false=true->∀i,J4 o i=true->l.getD i false=true)->∀Am a w,(Region.ready .any ⟨ops.toList.take N⟩ l=[]->wpOpIn F n P ops Q N (Q .normal) a w)->Region.ready .any ⟨ops.toList.take N⟩ l=[]->(Region.ready .any ops (l.push false)=[]->Q .normal a w)/\∀i∈Region.ready .any ops (l.push false),wpOpIn F n P ops Q i (wpAnyIn F n P .any ops Q Am ((l.push false).setIfInBounds i true)) a w:=λl hl O Am a w h U=>by
  refine⟨λh0=>?_,λi hi=>?_⟩
  ·exfalso
   have key:∀j,j<N->l.getD j false=true:=λj=>by
    induction j using Nat.strongRecOn with
    |ind j ih=>
     intro hj;refine aB5 λhn=>?_;have hjl:j<l.size:=AL
     have :j∈Region.ready .any ⟨ops.toList.take N⟩ l:=by
      refine Vt.2 ⟨by simpa[Array.getD,hjl]using hn,ops[j],by rw[z j hj];simp[show j<ops.size by omega],λe hm J=>?_⟩;have :=sI u j ops[j] (by simp[show j<ops.size by omega]) e a5e J;exact ih e.on this AL
     rw[U]at this;cases this
   have :N∈Region.ready .any ops (l.push false):=by
    refine Vt.2 ⟨hgN l hl true,ops[N],by simp[show N<ops.size by omega],λe hm J=>?_⟩;have :=sI u N ops[N] (by simp[show N<ops.size by omega]) e a5e J;rw[I l hl _ this];exact key _ this
   rw[h0]at this;cases this
  rcases hlt l i hi with h1|rfl
  ·rw[hrd l hl i h1,U]at hi;cases hi
  exact hend l hl (hrN l hl O hi) Am a w (h U)
 intro Am
 induction Am with
 |zero=>exact λl a w hl O h=>M l hl O 0 a w (λ_=>h.2) h.1
 |succ Am ih=>
  intro l a w hl O h;obtain⟨h0,h1⟩:=h;by_cases U:Region.ready .any ⟨ops.toList.take N⟩ l=[]
  ·exact M l hl O (Am+1) a w h0 U
  refine⟨λh2=>?_,λi hi=>?_⟩
  ·exfalso;obtain⟨i,hi⟩:=List.exists_mem_of_ne_nil _ U
   have Y:i<N:=by
    obtain⟨_,o,q,_⟩:=Vt.1 hi;have :=(IJ.1 q).1;simp at this;omega
   rw[←hrd l hl i Y,h2]at hi;cases hi
  rcases hlt l i hi with h3|rfl
  ·have hm:=(hrd l hl i h3).1 hi;refine wpOpIn_mono (λa' w' hk=>?_) (hwp i h3 _ a w (h1 i hm))
   have hp:(l.push false).setIfInBounds i true=(l.setIfInBounds i true).push false:=by
    refine Array.ext_getElem? λk=>?_;simp only[aF3,jd,Array.size_push,Array.size_setIfInBounds]
    grind
   rw[hp];refine ih _ a' w' Lu (λj o q hj k u=>?_) hk;have Z:∀m,m≠i->(l.setIfInBounds i true).getD m false=l.getD m false:=λm hm=>by simp[JJ,Uk (Ne.symm hm)]
   by_cases hki:k=i
   ·subst hki;simp[Array.getD,show k<l.size by omega]
   rw[Z k hki];by_cases hji:j=i
   ·subst hji;obtain⟨_,o',L,h4⟩:=Vt.1 hm;rw[z j h3,q]at L;obtain rfl:=Dv L;obtain⟨e,e1,rfl,e3⟩:=aOF.1 u;exact h4 e e1 e3
   rw[Z j hji]at hj;exact O j o q hj k u
  exact absurd (hall l hl (hrN l hl O hi)) U
def Bh.aFA {id:Nat}(N:Nat)(h:FT P ⟨ops.toList.take N⟩ (ops.toList.take N) σ rs ess bs σ')(hl:Dj P ops (ops.toList.drop N) σ' Q)(I:N+1=ops.size:=by kernel_rfl)(hm:P.follows .mixedOrders=true:=by kernel_rfl)(q:(Ud ⟨ops.toList.take N⟩&&X9 ⟨ops.toList.take N⟩&&YC ⟨ops.toList.take N⟩ σ.slots.length&&XF ⟨ops.toList.take N⟩)=true:=by kernel_rfl)(u:WG ⟨ops.toList.take N⟩ bs=true:=by kernel_rfl)(J:(Ud ops&&ops.toList.all (λo=>(o.guard.map (·.1)).all (decide<| · <N))&&WG ops (List.replicate N false++[true]))=true:=by kernel_rfl):Bh P (.region id ops true) σ Q:=by
 simp only[ED,Fq]at J;refine⟨λro _ C ok H a w Y=>wpIn_region_any hm ?_⟩;have O:N<ops.size:=AL
 have Z:=Bh.azm q [] (aN8 u) h (λ_ hi=>absurd hi Gh) ro C ok H a w Y (λe a w=>match e with | .normal=>wpOpIn (JE ro) 0 P ops (λe a' w'=>∃ok' H' σ',Holds C ok' H' σ' a' w'/\Q e σ') N (λa' w'=>∃ok' H' σ',Holds C ok' H' σ' a' w'/\Q .normal σ') a w|e=>∃ok' H' σ',Holds C ok' H' σ' a w/\Q e σ') λok' H' a' w' h'=>?_
 ·have h1:=aYz I (λi o ho j b L=>by have :=J.1.2 o (by simpa using Array.mem_of_getElem? ho);rw[L]at this;simpa using this) J.1.1 J.2 _ _ a _ EY (λj o _ hj=>by simp[Array.getD]at hj) Z;have U:(⟨ops.toList.take N⟩:Bg Oper).size+1=ops.size:=EY
  rw[U]at h1;have e2:(Array.replicate (⟨ops.toList.take N⟩:Bg Oper).size false).push false=Array.replicate ops.size false:=by rw[←U,Array.replicate_succ]
  rw[e2]at h1;exact h1
 have hd:ops.toList.drop N=[ops[N]]:=by
  rw[MW Z5];simp[←I]
 rw[hd]at hl;have h1:=hl.run ro [] (λe a' w'=>∃ok' H' σ',Holds C ok' H' σ' a' w'/\Q e σ') C ok' H' a' w' h' ⟨λσ' ok' H' a' w' M z=>⟨ok',H',σ',z,M⟩,λv σ' ok' H' a' w' M z=>⟨ok',H',σ',z,M⟩⟩;show wpOpIn _ _ _ _ _ _ _ _ _;unfold wpOpIn;rw[show ops[N]? =some ops[N] by simp[O]];simp only[YT,IE,wpListIn]at h1;exact h1
end
theorem a4k (e s:Nat)(u:(P.info? t).bind (·.zero)=some (.slice none 0 0))(z:o.op=.alloc t:=by exact rfl):CB P o [] es (.ptr (es.length+1) 0) (es++[.arr e s [],.box [.aQ es.length]]):=
 .eff λC ok H a w hm U=>by
  obtain⟨h1,h2⟩:=a03 hm e s;have I:(H++[(⟨.slice none 0 0,s⟩:CG)]).length=(es++[Bc.arr e s []]).length:=h1.hlen;have J:(H++[(⟨.slice none 0 0,s⟩:CG)])[es.length]? =some ⟨.slice none 0 0,s⟩:=PS
  have L:FQ ok (w.alloc (.cells #[.slice none 0 0] t)) ((H++[⟨.slice none 0 0,s⟩])++[⟨.pointer (some ⟨w.heap.size,0,none⟩),0⟩]) ⟨.pointer (some ⟨w.heap.size,0,none⟩),0⟩ (.box [.aQ es.length]):=by
   refine⟨w.heap.size, #[.slice none 0 0],t,rfl,Uo w _,rfl,λi hi=>?_⟩
   match i,hi with
   |0,_=>
    exact⟨rfl,.aQ _ none 0 0 s (by rw[JR bP];exact J)⟩
  obtain⟨h3,M⟩:=h1.push (.cells #[.slice none 0 0] t) ⟨.pointer (some ⟨w.heap.size,0,none⟩),0⟩ _ (a3H w) L;have j:Dq C ok ((H++[⟨.slice none 0 0,s⟩])++[⟨.pointer (some ⟨w.heap.size,0,none⟩),0⟩]) (es++[.arr e s [],.box [.aQ es.length]]) (w.alloc (.cells #[.slice none 0 0] t)):=by simpa[Il]using h3
  refine⟨.pointer (some ⟨w.heap.size,0,none⟩),_,ok,_,.inl ?_,M,(Gy _ _).trans (Gy _ _),j,.ptr _ _ w.heap.size 0 ?_⟩
  ·obtain⟨i,hi,q⟩:=mY.1 u;have O:Value.cells (.slice none 0 0)= #[.slice none 0 0]:=rfl;simp[execOp,z,Instr.alloc,zeroValue,typeInfo,hi,q,newVar,newRow,O]
  grind
def aBg {e:Bq}(enc:α->D){a:α}(h:Aj l i=some a)(hl:l.length=n)(L:P.underlying t=some (.array n e))(M:Eb P e false 1)(O:es[k]? =some (.box (BI (NT enc l))))(U:o.op=.indexAddr t x y:=by exact rfl):
 CB P o [(x,.ptr k 0),(y,.d (.lit (.int kd i)))] es (.ptr k i.toNat) es:=
 .pure λok H Y w j u I=>by
  obtain⟨Z,h1⟩:=GZ h;obtain⟨hd,hh,_⟩:=Gp j u O;have z:=(FC I).1;have J:=(FC I).2.lit;simp only at z J;have hlt:=(Gs.1 h1).1;have hu:(underlying t).run P w=.ok (.array n e) w:=by simp[underlying,L]
  generalize hv:Y.eval x=v at z;cases z with
  |ptr _ _ b s hH=>
   have hb:0<=i/\i<n:=⟨Z,AL⟩
   refine⟨.pointer (some ⟨b,i.toNat,none⟩),?_,.ptr k _ b s hH⟩;have q:(⟨b,0,none⟩:Addr).add i.toNat=⟨b,i.toNat,none⟩:=by rw[addr_add,Js]
   simp[execOp,U,hv,J,Instr.indexAt,asIntOf,hu,Instr.sureAddr,hb,M.size w,q]
def aj9 {enc:α->D}{a:α}(h:Aj l i=some a):(BI (NT enc l))[i.toNat]? =some (.d (enc a)):=by
 have h1:=(GZ h).2;simp[BI,NT,D.cells,h1]
def a3h (enc:α->D){a:α}(h:Aj l i=some a)(j:es[k]? =some (.box (BI (NT enc l))))(q:Eb P t false 1)(u:o.op=.load t x:=by exact rfl):CB P o [(x,.ptr k i.toNat)] es (.d (enc a)) es:=aTT j (aj9 h) q u
theorem aNw {y:D}(j:match P.underlying t with |some (.interface _)=>false|some _=>true|none=>false)(u:o.op=.makeInterface t x:=by exact rfl):CB P o [(x,.d y)] es (.d (.RV t y)) es:=
 .pure λok H a w _ _ z=>by
  have h1:EF ok w y (a.eval x):=by have :=z (x,.d y) BU;cases this with |d _ _ h=>exact h
  refine⟨.iface t (a.eval x),?_,.d _ _ (.RV t y _ h1)⟩;cases q:P.underlying t with
  |none=>
   grind
  |some d=>
   rw[q]at j;have I:(underlying t).run P w=.ok d w:=aJt
   cases d<;>first|(cases j;done)|simp[execOp,u,Instr.makeInterface,I]
theorem aP0 (us:AA BD)(j:match P.underlying t with |some (.interface _)=>false|some _=>true|none=>false)(u:o.op=.makeInterface t x:=by exact rfl):CB P o [(x,.d (.agg (us.map .lit)))] es (.d (.lit (.iface t (.agg us.toArray)))) es:=
 .pure λok H a w _ _ z=>by
  have h1:=(z (x,.d (.agg (us.map .lit))) BU).ajO;simp only at h1;refine⟨.iface t (.agg us.toArray),?_,.d _ _ (.lit _)⟩;cases q:P.underlying t with
  |none=>
   grind
  |some d=>
   rw[q]at j;have I:(underlying t).run P w=.ok d w:=aJt
   cases d<;>first|(cases j;done)|simp[execOp,u,Instr.makeInterface,I,h1]
def vZ (P:Ch)(t:Bq)(j:String)(f:FuncId):AV:=
 match P.info? t with
 |some i=>(match i.methods.find? (·.name==j)with
  |some m=>m.path.toList.isEmpty&&(match m.func with |some (g,p)=>g=f&& !p|none=>false)
  |none=>false)&&(match P.underlying t with |some (.pointer _)=>false|some _=>true|none=>false)
 |none=>false
theorem ala {j:String}{f:FuncId}(h:vZ P t j f=true)(n:Nat)(v:BD)(w:BX):(method (n+1) t v j).run P w=.ok (f,v) w:=by
 unfold vZ at h;split at h
 ·rename_i i hi;rw[ED]at h;obtain⟨h1,h2⟩:=h;split at h1
  ·rename_i m hm;rw[ED]at h1;obtain⟨h3,q⟩:=h1;split at q
   ·rename_i g p z;simp only[ED,Iu,Vg]at q;obtain⟨rfl,rfl⟩:=q;have hp:m.path.toList=[]:=List.isEmpty_iff.1 h3;cases u:P.underlying t with
    |none=>
     grind
    |some d=>
     rw[u]at h2;have I:∀w,(underlying t).run P w=.ok d w:=λw=>by simp[underlying,u]
     cases d<;>first|(cases h2;done)|simp[method,typeInfo,hi,hm,hp,follow,z,receiverAt,I,Place.get]
   cases q
  cases h1
 cases h
theorem aPr {f:FuncId}{j:Bz}{I:String}(x:D)(q:AA D){z:Ah}(hr:EW P f ((x::q).map .d) [] z [])(hf:Gw P f=true)(J:vZ P t I f=true)(hl:ops.toList.length=q.length)(M:z.up [] es.length=z)(ho:o.op=.call { callee:=.invoke j I,args:=ops,argTypes:=ats }:=by exact rfl):CB P o ((j,.d (.RV t x))::Fh ops.toList (q.map .d)) es z es:=by
 intro C ok H a w Q hm hn;have Y:=hn (j,.d (.RV t x)) BU;simp only at Y;have L:=yj (xs:=ops.toList) (vs:=q.map .d) Lu (λn Z=>hn n (Ii _ Z));generalize hv:a.eval j=v at Y;cases Y with
 |d _ _ h=>
  cases h with
  |RV _ _ u h1=>
   unfold Oper.wp
   have he:(execOp a.eval o).run P w=.ok (.enter f (#[u]++ops.map a.eval)) w:=by
    have h2:=UC hf (#[u]++ops.map a.eval) w;have h3:=ala J (P.types.size+99) u w;have h4:(#[Value.iface t u]++ops.map a.eval)[0]? =some (.iface t u):=by rw[Zc BU];rfl
    have h5:(#[Value.iface t u]++ops.map a.eval).extract 1 (#[Value.iface t u]++ops.map a.eval).size=ops.map a.eval:=by
     grind
    simp only[execOp,ho,resolve,hv,Fg,Gl,Fv,invoke,h4,h5,callMethod];have h6:(program).run P w=.ok P w:=rfl;simp only[h6,Fv];have h7:P.types.size+Made.depth=P.types.size+99+1:=rfl;rw[h7,h3];exact h2
   rw[he,ak];have O:(ops.map a.eval).size=q.length:=Lu
   refine(aWd hm hr _ (by simp at O;simp[O];omega) (λi hi=>?_) M).mono ?_
   ·cases i with
    |zero=>
     have e0:(#[u]++ops.map a.eval).getD 0 undef=u:=by simp[JJ,Zc]
     rw[e0];exact h1
    |succ i=>
     have U:i<q.length:=Hf
     have h3:=L i (by simpa using U);have e1:(q.map Ah.d).getD i .junk=.d (q.getD i EJ):=by simp[List.getD,U]
     have hi2:i<ops.size:=aPb
     have e2:(#[u]++ops.map a.eval).getD (i+1) undef=(ops.toList.map a.eval).getD i undef:=by
      simp only[JJ,List.getD];rw[aPa BU];simp[hi2]
     rw[e2];rw[e1]at h3;have e3:(x::q).getD (i+1) EJ=q.getD i EJ:=BU
     rw[e3];cases h3 with |d _ _ h=>exact h
   rintro e w' ⟨v,ok',H',rfl,h3,h4,h5,h6⟩;exact⟨v,ok',H',rfl,h3,h4,h5,h6⟩
section
variable {P:Ch} {ops:Bg Oper} {o:Oper} {rest l:AA Oper} {σ:BP} {K:Exit->BP->Prop}
def Dj.EP {f:FuncId}{dY:AA Ah}{u:BD}(Y:aVo P f dY u)(Z:Gw P f=true)(h:K (qy u) σ)(J:Uw σ o=some (f,dY):=by kernel_rfl)(hd:dY.all Ah.C9=true:=by kernel_rfl)(hg:Ju ops σ o.guard=some true:=by kernel_rfl):Dj P ops (o::rest) σ K:=by
 refine⟨λro l2 Q C ok H a w j hk=>?_⟩;show wpListIn (JE ro) 0 P ops Q (o::(rest++l2)) a w;unfold wpListIn;rw[ES (Uh j (PO hg))];unfold Uw at J;split at J
 ·rename_i c O;split at J
  ·rename_i f' I;cases J;obtain⟨callee,args,ats⟩:=c;simp only at I;subst I;have z:(execOp a.eval o).run P w=.ok (.enter f (args.map a.eval)) w:=by rw[yg O,UC Z]
   unfold Oper.wpIn;rw[jE _ _ _ (by rw[O];intro c h;cases h),z]
   have M:Dq ⟨w,ok,[],[]⟩ ok [] [] w:=
    ⟨.refl _ _,λ_ h=>h,λ_ h=>.inl h,j.mem.lg,.refl _,rfl,λk e h z=>Sub,λk e h b z=>Sub,λk k' e e' h h' b z=>Sub⟩
   have key:Calls P f (args.map a.eval) w λe w'=>e=.panicked [{ v:=u,recovered:=false }]/\∃ok',Holds C ok' H σ a w':=by
    refine(Y ok [] [] w _ M BU (λi hi=>?_)).mono ?_
    ·have L:i<args.size:=Hf
     have e1:(args.toList.map σ.get).getD i .junk=σ.get args[i]:=by simp[List.getD,L]
     have e2:(args.map a.eval).getD i undef=a.eval args[i]:=by simp[Array.getD,L]
     have h3:Ah.C9 (σ.get args[i])=true:=by
      rw[Fq]at hd;exact hd _ (Hl.2 ⟨args[i],BU,rfl⟩)
     have U:=j.get args[i];rw[e1,e2];generalize σ.get args[i]=y at h3 U;cases y with
     |d y=>cases U with |d _ _ h=>exact .d _ _ h
     |_=>cases h3
    rintro e w' ⟨ok',H',rfl,q⟩;obtain⟨h1,h2⟩:=j.mem.change (ok':=ok) (H':=H) (es':=σ.ents) (w':=w') (λ_=>False) q.fr.os q.fr.tape q.fr.output q.fr.size (λb hb _=>q.fr.block b hb BU) (λ_ h=>h.elim) (λ_ h=>h) (λ_ h=>.inl h) (.refl _) j.mem.hlen (λk e h z j=>.inl ⟨z,j,λ_ _ _ h=>h⟩);exact⟨rfl,ok,h1,j.size,j.defers.mono h2,j.base,λt ht=>(j.slot t ht).mono h2 (.refl _)⟩
   refine⟨λ_ _=>trivial,λh=>IK,a1k.2 (key.mono ?_)⟩;rintro e w' ⟨rfl,ok',h5⟩;exact hk.2 _ _ _ _ _ _ h h5
  cases J
 cases J
def OM:=@Dj.EP
end
def Le {β:Type}(r:Except BD α)(f:α->AB (Except BD β)):AB (Except BD β):=
 match r with
 | .ok a=>f a
 | .error u=>some (.error u)
def setCell_eq {x y:BD}(j:w.heap[b]? =some (.cells #[x] t (0,0))):w.setCell ⟨b,0,none⟩ y=w.putObj b (.cells #[y] t (0,0)):=by
 simp only[World.setCell,World.putObj];congr 1;apply Array.ext_getElem?;intro i;rw[YE,aF3];by_cases e:b=i
 ·subst e;rw[ES rfl,ES rfl,j,ES (IJ.1 j).1];rfl
 rw[EZ e,EZ e]
def ahb (p:Addr)(w:BX):
 CallsD Ak 279 #[.pointer (some p)] .returning w λe j w'=>e=.returned (.tuple #[])/\j=.returning/\w'=w:=by
 refine a1A func279 rfl λq cs u=>?_;apply QN;apply Q9;simp[wpOpsS,go_sem,recoverD,u,Tryz.ntmps279,Exit.thenS];apply QN;apply Q9;simp[wpOpsS,go_sem,Exit.thenS];refine oI (t:=false) nT ?_;simp only[TM,KA];refine wpS_of_wp (wp_skip ?_);cases q
 simp_all [bodyPostS,results,Tryz.results279]
def afz (b:Nat)(x:BD)(n:Int)(w:BX)(L:w.heap[b]? =some (.cells #[x] 64 (0,0))):
 CallsD Ak 279 #[.pointer (some ⟨b,0,none⟩)] (.panicking [{ v:=.iface 263 (.agg #[.int .i64 n]),recovered:=false }]) w λe M w'=>
  e=.returned (.tuple #[])/\M=.panicking [{ v:=.iface 263 (.agg #[.int .i64 n]),recovered:=true }]/\w.grownBy w' (some b)/\w'.heap[b]? =some (.cells #[.int .i64 n] 64 (0,0)):=by
 have q:∀(O:Bq) (w:BX),(Instr.typeAssert (.iface 263 (.agg #[.int .i64 n])) O 263 true).run Ak w=.ok (.tuple #[.agg #[.int .i64 n],.bool true]) w:=λ_ _=>A8
 have U:∀w:BX,(Instr.alloc 263 true (.tuple #[])).run Ak w=.ok (.pointer (some ⟨w.heap.size,0,none⟩)) (w.alloc (.cells #[.int .i64 0] 263)):=λw=>by
  simp[Instr.alloc,go_sem]
 have hst:∀w:BX,(Instr.storeAt 263 (.pointer (some ⟨w.heap.size,0,none⟩)) (.agg #[.int .i64 n])).run Ak (w.alloc (.cells #[.int .i64 0] 263))=.ok () (w.alloc (.cells #[.int .i64 n] 263)):=λw=>by
  simp[Instr.storeAt,go_sem]
 refine a1A func279 rfl λc₀ cs Y=>?_;apply QN;apply Q9;simp[wpOpsS,go_sem,recoverD,Y,Tryz.ntmps279,Exit.thenS];apply QN;apply Q9;simp[wpOpsS,go_sem,Exit.thenS];refine oI (t:=true) nT ?_;simp only[JK];apply QN;apply Q9;simp[wpOpsS,execOp,q,U,hst,go_sem,Exit.thenS];apply QN;apply QN;apply Q9;simp[wpOpsS,go_sem,Exit.thenS];refine oI (t:=false) nT ?_;simp only[TM,KA];refine wpS_of_wp (wp_skip ?_);simp only[Exit.thenS];have u:b<w.heap.size:=(IJ.1 L).1;have j:(w.alloc (.cells #[.int .i64 n] 263)).heap[b]? =some (.cells #[x] 64 (0,0)):=(KD _ _ _ u).trans L;have Z:(w.alloc (.cells #[.int .i64 n] 263)).cell? ⟨b,0,none⟩=some x:=a4E
 have z:(w.alloc (.cells #[.int .i64 n] 263)).frozen? ⟨b,0,none⟩=false:=by simp[World.frozen?,j]
 apply Q9;simp[wpOpsS,go_sem,Exit.thenS,Z,z,bodyPostS,results,Tryz.results279];rw[setCell_eq j];have I:b<(w.alloc (.cells #[.int .i64 n] 263)).heap.size:=(IJ.1 j).1;refine⟨⟨rfl,rfl,rfl,BU,λi hi J=>?_⟩,Xg I⟩;rw[aB (λe=>J (by rw[e]))];exact KD _ _ _ hi
variable {T:Type}
def WM:Except BD T->AB Int
 | .ok _=>some 0
 | .error (.iface t (.agg cs))=>bif t==263 then(match cs.toList with | [.int .i64 n]=>some n|_=>none)else none
 | .error _=>none
def aWY (b:Nat)(n:Int)(w:BX)(j:w.heap[b]? =some (.cells #[.int .i64 n] 64 (0,0)))(tmps:Bg BD)(q:tmps.getD 2 undef=.pointer (some ⟨b,0,none⟩)):(results Tryz.f221 tmps).run Ak w=.ok (.int .i64 n) w:=by
 have u:w.cell? ⟨b,0,none⟩=some (.int .i64 n):=a4E
 have e:results Tryz.f221 tmps=(do let v ←loadVar 64 (←asAddr (tmps.getD 2 undef));pure v):=by simp[results,Tryz.results221]
 rw[e,q];simp[go_sem,u]
def ajZ {g:FuncId}{us:Bg BD}{n:Int}(he:∀(vs:Bg BD) (w:BX),(callFunc g vs).run Ak w=.ok (.enter g vs) w)(I:Calls Ak g us (w.alloc (.cells #[.int .i64 0] 64 (0,0))) λe u=>(w.alloc (.cells #[.int .i64 0] 64 (0,0))).grownBy u none/\((∃v,e=.returned v/\n=0)\/e=.panicked [{ v:=.iface 263 (.agg #[.int .i64 n]),recovered:=false }])):
 Calls Ak 221 #[.func (.func g) #[] us] w λe w'=>e=.returned (.int .i64 n)/\w.grownBy w' none:=by
 have O:∀(fn:Fn) (first cap:Bg BD) (w:BX),(Instr.makeFunc fn first cap).run Ak w=.ok (.func fn first cap) w:=λ_ _ _ _=>rfl;have q:w.grownBy (w.alloc (.cells #[.int .i64 0] 64 (0,0))) none:=⟨rfl,rfl,rfl,BU,λi hi _=>KD _ _ _ hi⟩
 go_enter_defers func221,Tryz.ntmps221
 apply wp_seq;apply bK;refine .inl ?_;simp[Oper.wp,go_sem,wpList,Exit.then];apply wp_seq;apply bK;refine .inl ?_;simp[Oper.wp,go_sem,O,wpList,Exit.then];refine .inl ?_;apply wp_seq;apply bK;refine .inl ?_;simp[Oper.wp,go_sem,he,wpList,Exit.then];refine .inl (I.mono ?_);rintro e u ⟨J,h⟩;have L:u.heap[w.heap.size]? =some (.cells #[.int .i64 0] 64 (0,0)):=(J.block w.heap.size BU BU).trans (jQ _ _);have U:w.heap.size<u.heap.size:=(IJ.1 L).1;have j:w.grownBy u none:=⟨J.os.trans q.os,J.tape.trans q.tape,J.output.trans q.output,EK q.size J.size,λi hi M=>(J.block i EY M).trans (q.block i hi M)⟩
 have z:∀(Y:BX) (m:Int),u.grownBy Y (some w.heap.size)->w.grownBy Y none:=λY m h3=>⟨h3.os.trans j.os,h3.tape.trans j.tape,h3.output.trans j.output,EK j.size h3.size,λi hi M=>(h3.block i (by have :=j.size;omega) EY).trans (j.block i hi M)⟩
 rcases h with⟨v,rfl,rfl⟩|rfl
 ·have hc:u.cell? ⟨w.heap.size,0,none⟩=some (.int .i64 0):=by rw[World.cell?,L];rfl
  have Z:u.frozen? ⟨w.heap.size,0,none⟩=false:=by simp[World.frozen?,L]
  apply wp_seq;apply bK;refine .inl ?_;simp[Oper.wp,go_sem,hc,Z,wpList,Exit.then];apply wp_ret;rw[setCell_eq L];refine leaves_cons (f:=279) (args:= #[.pointer (some ⟨w.heap.size,0,none⟩)]) BU a1G ?_;refine(ahb ⟨w.heap.size,0,none⟩ _).mono ?_;rintro e u' w'' ⟨rfl,rfl,rfl⟩;refine⟨.int .i64 0,aWY w.heap.size 0 _ (Xg U) _ rfl,rfl,z _ 0 ⟨rfl,rfl,rfl,BU,λi hi hne=>aB (λe=>hne (by rw[e]))⟩⟩
 refine leaves_cons (f:=279) (args:= #[.pointer (some ⟨w.heap.size,0,none⟩)]) BU a1G ?_;refine(afz w.heap.size (.int .i64 0) n u L).mono ?_;rintro e u' w'' ⟨rfl,rfl,h3,h4⟩;exact⟨.int .i64 n,aWY w.heap.size n _ h4 _ rfl,rfl,z _ n h3⟩
noncomputable abbrev Aw:=Gw Ak
def aTu {res:T->Ah}(g:FuncId)(j:AA D)(r:Except BD T)(hr:QH Ak g (j.map .d) r res)(M:Aw g=true)(n:Int)(z:WM r=some n):
 Dw 221 [.d (.fn (.func g) [] j)] [] (.d (Ad n)) []:=by
 intro ok X H w J hm hs ha;obtain rfl:H=[]:=Hd hm.hlen;have h0:=ha 0 BU
 obtain⟨fv,rfl⟩:∃fv,J= #[fv]:=by
  have h1:J.size=1:=hs;exact⟨J[0],by apply fU mD;intro i h1 h2;simp at h2;subst h2;rfl⟩
 have h0:R ok w [] (.d (.fn (.func g) [] j)) fv:=h0;cases h0 with
 |d _ _ h0=>
 cases h0 with
 |fn _ _ _ vs us hl1 hl2 h1 h2=>
 obtain rfl:vs= #[]:=jF (by simpa using hl1);obtain⟨I,Y⟩:∃I,I=w.alloc (.cells #[.int .i64 0] 64 (0,0)):=⟨_,rfl⟩
 have hg1:F9 ok w ok I:=λb U=>⟨U,by rw[Y];exact KD _ _ _ (hm.lg b U)⟩
 have hmc:Dq ⟨I,ok,[],[]⟩ ok [] [] I:=
  ⟨.refl _ _,λ_ h=>h,λ_ h=>.inl h,λb U=>by rw[Y];simp;exact Nat.lt_succ_of_lt (hm.lg b U),.refl _,rfl,λk e h M=>by simp at M,λk e h b M=>by simp at M,λk k' e e' h h' b M=>by simp at M⟩
 have L:∀i,i<(j.map Ah.d).length->R ok I [] ((j.map Ah.d).getD i .junk) (us.getD i undef):=λi hi=>by
  rw[Di]at hi;have e1:(j.map Ah.d).getD i .junk=.d (j.getD i EJ):=NY
  rw[e1];exact .d _ _ ((h2 i hi).mono hg1)
 have hgr:∀{Z:Nat->Prop} {H2:AA CG} {w2:BX},Dq ⟨I,ok,[],[]⟩ Z H2 [] w2->I.grownBy w2 none:=λq=>⟨q.fr.os,q.fr.tape,q.fr.output,q.fr.size,λb U _=>q.fr.block b U BU⟩
 have hcall:Calls Ak g us I λe w2=>I.grownBy w2 none/\((∃v,e=.returned v/\n=0)\/e=.panicked [{ v:=.iface 263 (.agg #[.int .i64 n]),recovered:=false }]):=by
  cases O:r with
  |ok x=>
   rw[O]at z;refine(hr.1 x O ok [] [] I us hmc (by simpa using hl2) L).mono ?_;rintro e w2 ⟨v,Z,H2,rfl,q,_⟩;exact⟨hgr q,.inl ⟨v,rfl,(Dv z).symm⟩⟩
  |error u=>
   rw[O]at z
   have hu:u=.iface 263 (.agg #[.int .i64 n]):=by
    unfold WM at z;split at z
    ·rename_i h;cases h
    ·rename_i t cs h;cases h;cases ht:(t==263)with
     |false=>rw[ht]at z;cases z
     |true=>
      rw[ht]at z;simp only[Bj]at z;obtain rfl:t=263:=by simpa using ht
      split at z
      ·rename_i m hcs;obtain rfl:=Dv z;rw[←iY (xs:=cs),hcs]
      cases z
    cases z
   refine(hr.2 u O ok [] [] I us hmc (by simpa using hl2) L).mono ?_;rintro e w2 ⟨Z,H2,rfl,q⟩;exact⟨hgr q,.inr (by rw[hu])⟩
 subst Y;refine(ajZ (λvs w=>UC M vs w) hcall).mono ?_;rintro e w' ⟨rfl,hg⟩;obtain⟨m1,_⟩:=hm.change (ok':=ok) (H':=[]) (es':=[]) (w':=w') (λ_=>False) hg.os hg.tape hg.output hg.size (λb U _=>hg.block b U BU) (λ_ h=>h.elim) (λ_ h=>h) (λ_ h=>.inl h) (.refl _) rfl (λk e h M=>by simp at M);exact⟨_,ok,[],rfl,m1,.d _ _ (.lit _)⟩
def ai2 (p q:Addr)(w:BX):
 CallsD Ak 453 #[.pointer (some p),.pointer (some q)] .returning w λe j w'=>e=.returned (.tuple #[])/\j=.returning/\w'=w:=by
 refine a1A func453 rfl λu cs z=>?_;apply QN;apply Q9;simp[wpOpsS,go_sem,recoverD,z,Tryz.ntmps453,Exit.thenS];apply QN;apply Q9;simp[wpOpsS,go_sem,Exit.thenS];refine oI (t:=false) nT ?_;simp only[TM,KA];refine wpS_of_wp (wp_skip ?_);cases u
 simp_all [bodyPostS,results,Tryz.results453]
def aYB (b c:Nat)(ad:AB Addr)(n cap:Nat)(x:BD)(w:BX)(Y:w.heap[b]? =some (.cells #[.slice ad n cap] 41 (0,0)))(Z:w.heap[c]? =some (.cells #[x] 41 (0,0))):
 CallsD Ak 453 #[.pointer (some ⟨b,0,none⟩),.pointer (some ⟨c,0,none⟩)] (.panicking [{ v:=.iface 378 (.agg #[]),recovered:=false }]) w λe u' w'=>
  e=.returned (.tuple #[])/\u'=.panicking [{ v:=.iface 378 (.agg #[]),recovered:=true }]/\w.grownBy w' (some c)/\w'.heap[c]? =some (.cells #[.slice ad n cap] 41 (0,0)):=by
 have q:∀(t0:Bq) (w:BX),(Instr.typeAssert (.iface 378 (.agg #[])) t0 378 true).run Ak w=.ok (.tuple #[.agg #[],.bool true]) w:=λ_ _=>A8
 refine a1A func453 rfl λc₀ cs hu=>?_;apply QN;apply Q9;simp[wpOpsS,go_sem,recoverD,hu,Tryz.ntmps453,Exit.thenS];apply QN;apply Q9;simp[wpOpsS,go_sem,Exit.thenS];refine oI (t:=true) nT ?_;simp only[JK];apply QN;apply QN;apply Q9;simp[wpOpsS,execOp,q,go_sem,Exit.thenS];apply QN;apply Q9;simp[wpOpsS,go_sem,Exit.thenS];refine oI (t:=false) nT ?_;simp only[TM,KA];refine wpS_of_wp (wp_skip ?_);simp only[Exit.thenS];have u:b<w.heap.size:=(IJ.1 Y).1;have z:c<w.heap.size:=(IJ.1 Z).1;have I:(w.alloc (.cells #[] 378)).heap[b]? =some (.cells #[.slice ad n cap] 41 (0,0)):=(KD _ _ _ u).trans Y;have j:(w.alloc (.cells #[] 378)).heap[c]? =some (.cells #[x] 41 (0,0)):=(KD _ _ _ z).trans Z;have J:(w.alloc (.cells #[] 378)).cell? ⟨b,0,none⟩=some (.slice ad n cap):=by rw[World.cell?,I];rfl
 have L:(w.alloc (.cells #[] 378)).cell? ⟨c,0,none⟩=some x:=a4E
 have M:(w.alloc (.cells #[] 378)).frozen? ⟨c,0,none⟩=false:=by simp[World.frozen?,j]
 apply Q9;simp[wpOpsS,go_sem,Exit.thenS,J,L,M,bodyPostS,results,Tryz.results453];rw[setCell_eq j];have O:c<(w.alloc (.cells #[] 378)).heap.size:=(IJ.1 j).1;refine⟨⟨rfl,rfl,rfl,BU,λi hi U=>?_⟩,Xg O⟩;rw[aB (λe=>U (by rw[e]))];exact KD _ _ _ hi
def step_fin (b:Nat)(v:BD)(w:BX)(j:w.heap[b]? =some (.cells #[v] 41 (0,0)))(tmps:Bg BD)(q:tmps.getD 6 undef=.pointer (some ⟨b,0,none⟩)):(results Tryz.f438 tmps).run Ak w=.ok v w:=by
 have u:w.cell? ⟨b,0,none⟩=some v:=a4E
 have e:results Tryz.f438 tmps=(do let v ←loadVar 41 (←asAddr (tmps.getD 6 undef));pure v):=by simp[results,Tryz.results438]
 rw[e,q];simp[go_sem,u]
def amo {l id:BD}{Rv:BD->BX->Prop}{bad:Prop}(I:Calls Ak 454 #[l,.slice ad n cap,id] ((w.alloc (.cells #[.slice ad n cap] 41 (0,0))).alloc (.cells #[.slice none 0 0] 41 (0,0))) λe j=>((w.alloc (.cells #[.slice ad n cap] 41 (0,0))).alloc (.cells #[.slice none 0 0] 41 (0,0))).grownBy j none/\((∃L n' q,e=.returned (.slice L n' q)/\Rv (.slice L n' q) j)\/(e=.panicked [{ v:=.iface 378 (.agg #[]),recovered:=false }]/\bad))):
 Calls Ak 438 #[l,.slice ad n cap,id] w λe w'=>w.grownBy w' none/\((∃v j,e=.returned v/\Rv v j/\w.grownBy j none/\w.heap.size+1<j.heap.size/\j.grownBy w' (some (w.heap.size+1)))\/(e=.returned (.slice ad n cap)/\bad)):=by
 have hmf:∀(fn:Fn) (first cap:Bg BD) (w:BX),(Instr.makeFunc fn first cap).run Ak w=.ok (.func fn first cap) w:=λ_ _ _ _=>rfl;obtain⟨O,u⟩:∃O,O=(w.alloc (.cells #[.slice ad n cap] 41 (0,0))).alloc (.cells #[.slice none 0 0] 41 (0,0)):=⟨_,rfl⟩
 have hs1:O.heap.size=w.heap.size+2:=by rw[u];simp
 have Y:O.heap[w.heap.size]? =some (.cells #[.slice ad n cap] 41 (0,0)):=by rw[u];exact(KD _ _ _ BU).trans (jQ w _)
 have h1c:O.heap[w.heap.size+1]? =some (.cells #[.slice none 0 0] 41 (0,0)):=by
  have :=jQ (w.alloc (.cells #[.slice ad n cap] 41 (0,0))) (.cells #[.slice none 0 0] 41 (0,0));rw[aJH]at this;rw[u];exact this
 have J:w.grownBy O none:=by
  rw[u];exact⟨rfl,rfl,rfl,EY,λi hi _=>(KD _ _ _ EY).trans (KD _ _ _ hi)⟩
 have hcb:O.cell? ⟨w.heap.size,0,none⟩=some (.slice ad n cap):=by rw[World.cell?,Y];rfl
 rw[←u]at I
 go_enter_defers func438,Tryz.ntmps438
 apply wp_seq;apply bK;refine .inl ?_;simp[Oper.wp,go_sem,wpList,Exit.then];rw[←u];have he:∀(vs:Bg BD) (w:BX),(callFunc 454 vs).run Ak w=.ok (.enter 454 vs) w:=λvs w=>UC (P:=Ak) (f:=454) A8 vs w;refine .inl ?_;apply wp_seq;apply bK;refine .inl ?_;simp[Oper.wp,go_sem,hmf,wpList,Exit.then];refine .inl ?_;apply wp_seq;apply bK;refine .inl ?_;simp[Oper.wp,go_sem,wpList,Exit.then,hcb,he];refine .inl (.inl (.inl (I.mono ?_)));rintro e j ⟨U,h⟩;have hb:j.heap[w.heap.size]? =some (.cells #[.slice ad n cap] 41 (0,0)):=(U.block _ AL BU).trans Y;have Z:j.heap[w.heap.size+1]? =some (.cells #[.slice none 0 0] 41 (0,0)):=(U.block _ AL BU).trans h1c;have hcl:w.heap.size+1<j.heap.size:=(IJ.1 Z).1;have z:w.grownBy j none:=⟨U.os.trans J.os,U.tape.trans J.tape,U.output.trans J.output,EK J.size U.size,λi hi hn=>(U.block i AL hn).trans (J.block i hi hn)⟩
 have M:∀(w3:BX),j.grownBy w3 (some (w.heap.size+1))->w.grownBy w3 none:=λw3 h3=>⟨h3.os.trans z.os,h3.tape.trans z.tape,h3.output.trans z.output,EK z.size h3.size,λi hi hn=>(h3.block i AL EY).trans (z.block i hi hn)⟩
 rcases h with⟨L,n',q,rfl,hv⟩|⟨rfl,hbad⟩
 ·have hcc:j.cell? ⟨w.heap.size+1,0,none⟩=some (.slice none 0 0):=by rw[World.cell?,Z];rfl
  have hfz:j.frozen? ⟨w.heap.size+1,0,none⟩=false:=by simp[World.frozen?,Z]
  simp[hcc,hfz,go_sem,wpList,Exit.then];refine .inl (wp_ret ?_);rw[setCell_eq Z];refine leaves_cons (f:=453) (args:= #[.pointer (some ⟨w.heap.size,0,none⟩),.pointer (some ⟨w.heap.size+1,0,none⟩)]) BU a1G ?_;refine(ai2 ⟨w.heap.size,0,none⟩ ⟨w.heap.size+1,0,none⟩ _).mono ?_;rintro e u' w'' ⟨rfl,rfl,rfl⟩;have h3:j.grownBy (j.putObj (w.heap.size+1) (.cells #[.slice L n' q] 41 (0,0))) (some (w.heap.size+1)):=⟨rfl,rfl,rfl,BU,λi hi hne=>aB (λe=>hne (by rw[e]))⟩
  exact⟨.slice L n' q,step_fin (w.heap.size+1) _ _ (Xg hcl) _ rfl,M _ h3,.inl ⟨_,rfl,j,hv,z,hcl,h3⟩⟩
 refine leaves_cons (f:=453) (args:= #[.pointer (some ⟨w.heap.size,0,none⟩),.pointer (some ⟨w.heap.size+1,0,none⟩)]) BU a1G ?_;refine(aYB w.heap.size (w.heap.size+1) ad n cap (.slice none 0 0) j hb Z).mono ?_;rintro e u' w'' ⟨rfl,rfl,h3,h4⟩;exact⟨.slice ad n cap,step_fin (w.heap.size+1) _ _ h4 _ rfl,M _ h3,.inr ⟨rfl,hbad⟩⟩
def a4m (s:T):Except BD T->AB T
 | .ok x=>some x
 | .error (.iface t (.agg cs))=>bif t==378&&cs.toList.isEmpty then some s else none
 | .error _=>none
def adT (enc:T->AA D)(dl di:D)(s:T)(r:Except BD T)(hr:QH Ak 454 [.d dl,.d (.sl (enc s)),.d di] r (λx=>.d (.sl (enc x))))(O:T)(Z:a4m s r=some O):
 Dw 438 [.d dl,.d (.sl (enc s)),.d di] [] (.d (.sl (enc O))) []:=by
 intro ok X H w I hm hs ha;obtain rfl:H=[]:=Hd hm.hlen;have hsz:I.size=3:=hs
 obtain⟨l,sv,id,rfl⟩:∃l sv id,I= #[l,sv,id]:=⟨I[0],I[1],I[2],by
  apply fU (by simp[hsz]);intro i h1 h2
  match i,h2 with
  |0,_=>rfl
  |1,_=>rfl
  |2,_=>rfl⟩
 have a0:R ok w [] (.d dl) l:=ha 0 BU;have a1:R ok w [] (.d (.sl (enc s))) sv:=ha 1 BU;have a2:R ok w [] (.d di) id:=ha 2 BU
 have slv:∀{ok:Nat->Prop} {w:BX} {H:AA CG} {xs:AA D} {v:BD},R ok w H (.d (.sl xs)) v->∃ad n cap,v=.slice ad n cap:=λh=>by
  cases h with
  |d _ _ h=>cases h with
   |sl0 ad cap=>exact⟨_,_,_,rfl⟩
   |sl=>exact⟨_,_,_,rfl⟩
 obtain⟨ad,n,cap,rfl⟩:=slv a1;obtain⟨J,hw1⟩:∃J,J=(w.alloc (.cells #[.slice ad n cap] 41 (0,0))).alloc (.cells #[.slice none 0 0] 41 (0,0)):=⟨_,rfl⟩
 have hs1:J.heap.size=w.heap.size+2:=by rw[hw1];simp
 have hg1:F9 ok w ok J:=λb z=>⟨z,by rw[hw1];exact(KD _ _ _ (by have h:=hm.lg b z;rw[aJH];omega)).trans (KD _ _ _ (hm.lg b z))⟩
 have hmc:Dq ⟨J,ok,[],[]⟩ ok [] [] J:=
  ⟨.refl _ _,λ_ h=>h,λ_ h=>.inl h,λb z=>by have h:=hm.lg b z;rw[hs1];omega,.refl _,rfl,λk e h he=>by simp at he,λk e h b he=>by simp at he,λk k' e e' h h' b he=>by simp at he⟩
 have U:∀i,i<3->R ok J [] ([Ah.d dl,.d (.sl (enc s)),.d di].getD i .junk) ((#[l,.slice ad n cap,id]:Bg BD).getD i undef):=λi hi=>by
  match i,hi with
  |0,_=>exact a0.mono hg1 (.refl _)
  |1,_=>exact a1.mono hg1 (.refl _)
  |2,_=>exact a2.mono hg1 (.refl _)
 have hgr:∀{j:Nat->Prop} {H2:AA CG} {M:BX},Dq ⟨J,ok,[],[]⟩ j H2 [] M->J.grownBy M none:=λq=>⟨q.fr.os,q.fr.tape,q.fr.output,q.fr.size,λb z _=>q.fr.block b z BU⟩
 have Y:Calls Ak 454 #[l,.slice ad n cap,id] J λe M=>J.grownBy M none/\((∃ad' n' L,e=.returned (.slice ad' n' L)/\∃x j,r=.ok x/\Dq ⟨J,ok,[],[]⟩ j [] [] M/\EF j M (.sl (enc x)) (.slice ad' n' L))\/(e=.panicked [{ v:=.iface 378 (.agg #[]),recovered:=false }]/\O=s)):=by
  cases hrr:r with
  |ok x=>
   refine(hr.1 x hrr ok [] [] J _ hmc rfl U).mono ?_;rintro e M ⟨v,j,H2,rfl,q,hR⟩;obtain⟨ad',n',L,rfl⟩:=slv hR;obtain rfl:H2=[]:=Hd q.hlen;exact⟨hgr q,.inl ⟨ad',n',L,rfl,x,j,rfl,q,by cases hR with |d _ _ h=>exact h⟩⟩
  |error u=>
   rw[hrr]at Z
   have hu:u=.iface 378 (.agg #[])/\O=s:=by
    unfold a4m at Z;split at Z
    ·rename_i h;cases h
    ·rename_i t cs h;cases h;cases ht:(t==378&&cs.toList.isEmpty)with
     |false=>rw[ht]at Z;cases Z
     |true=>
      rw[ht]at Z;simp only[ED]at ht;obtain rfl:t=378:=by simpa using ht.1
      have :cs= #[]:=by rw[←iY (xs:=cs),List.isEmpty_iff.1 ht.2]
      subst this;exact⟨rfl,(Dv Z).symm⟩
    cases Z
   refine(hr.2 u hrr ok [] [] J _ hmc rfl U).mono ?_;rintro e M ⟨j,H2,rfl,q⟩;exact⟨hgr q,.inr ⟨by rw[hu.1],hu.2⟩⟩
 rw[hw1]at Y;refine(amo Y (Rv:=λv M=>∃x j,r=.ok x/\Dq ⟨_,ok,[],[]⟩ j [] [] M/\EF j M (.sl (enc x)) v) (bad:=O=s)).mono ?_;rw[←hw1];rintro e w' ⟨hg,h⟩
 have mk:∀(j:Nat->Prop),(∀b,ok b->j b)->(∀b,j b->ok b\/(w.heap.size<=b/\b<w'.heap.size))->Dq ⟨w,ok,X,[]⟩ j [] [] w':=λj h1 h2=>
  (hm.change (ok':=j) (H':=[]) (es':=[]) (w':=w') (λ_=>False) hg.os hg.tape hg.output hg.size (λb z _=>hg.block b z BU) (λ_ h=>h.elim) h1 h2 (.refl _) rfl (λk e h he=>by simp at he)).1
 rcases h with⟨v,M,rfl,⟨x,j,hx,q,hD⟩,hg2,hlt,h3⟩|⟨rfl,rfl⟩
 ·rw[hx]at Z;obtain rfl:=Dv Z
  have hgg:F9 j M j w':=λb z=>⟨z,h3.block b (q.lg b z) (λe=>by
   obtain rfl:=Dv e;rcases q.CV _ z with h|h|h
   ·have :=hm.lg _ h;omega
   ·simp only at h;omega
   simp at h)⟩
  refine⟨v,j,[],rfl,mk j q.CU (λb z=>?_),.d _ _ (hD.mono hgg)⟩;rcases q.CV b z with h|h|h
  ·exact .inl h
  ·simp only at h;exact .inr ⟨AL,Wn (q.lg b z) h3.size⟩
  simp at h
 have hgg:F9 ok w ok w':=λb z=>⟨z,hg.block b (hm.lg b z) BU⟩
 exact⟨_,ok,[],rfl,mk ok (λ_ h=>h) (λ_ h=>.inl h),a1.mono hgg (.refl _)⟩
end Go.Proofs.YtfmoknlmaldmlaaGreat
namespace Go.Proofs
open Go.Proofs.YtfmoknlmaldmlaaGreat
open Go.Shelf
def Tryz.abk:Go.Shelf.Ren:=⟨λ|6=>483|15=>267|14=>487|28=>339|29=>340|20=>488|21=>489|22=>490|23=>491|24=>492|25=>493|26=>494|27=>495|46=>496|47=>408|48=>409|49=>497|50=>498|57=>499|n=>n,λ|22=>413|24=>415|25=>417|3=>3|39=>203|0=>0|53=>306|55=>202|4=>4|46=>300|45=>299|50=>150|5=>5|9=>9|66=>350|70=>354|76=>367|77=>368|n=>n,λ|n=>n⟩
def Tryz.avt:SlLaysF0.n6 Ak Tryz.abk:={
 mixed:=A8
 f6:=⟨Tryz.f483.name,Bd,Tryz.func483.trans (Au some A8)⟩
 f14:=⟨Tryz.f487.name,Bd,Tryz.func487.trans (Au some A8)⟩
 f15:=Tryz.func267.trans (Au some A8)
 f20:=⟨Tryz.f488.name,Bd,Tryz.func488.trans (Au some A8)⟩
 f21:=⟨Tryz.f489.name,Bd,Tryz.func489.trans (Au some A8)⟩
 f22:=⟨Tryz.f490.name,Bd,Tryz.func490.trans (Au some A8)⟩
 f23:=⟨Tryz.f491.name,Bd,Tryz.func491.trans (Au some A8)⟩
 f24:=⟨Tryz.f492.name,Bd,Tryz.func492.trans (Au some A8)⟩
 f25:=⟨Tryz.f493.name,Bd,Tryz.func493.trans (Au some A8)⟩
 f26:=⟨Tryz.f494.name,Bd,Tryz.func494.trans (Au some A8)⟩
 f27:=⟨Tryz.f495.name,Bd,Tryz.func495.trans (Au some A8)⟩
 f28:=Tryz.func339.trans (Au some A8)
 f29:=Tryz.func340.trans (Au some A8)
 f46:=⟨Tryz.f496.name,Bd,Tryz.func496.trans (Au some A8)⟩
 f47:=Tryz.func408.trans (Au some A8)
 f48:=Tryz.func409.trans (Au some A8)
 f49:=⟨Tryz.f497.name,Bd,Tryz.func497.trans (Au some A8)⟩
 f50:=⟨Tryz.f498.name,Bd,Tryz.func498.trans (Au some A8)⟩
 f57:=⟨Tryz.f499.name,Bd,Tryz.func499.trans (Au some A8)⟩
 t0:=Tryz.underlying0
 a0:=Tryz.isAgg0
 z0:=Tryz.sizeOf0
 v0:=Tryz.zeroValue0
 t3:=Ho
 a3:=a0U
 z3:=a0c
 v3:=wQ
 t4:=Zt
 a4:=Tryz.isAgg4
 z4:=Tryz.sizeOf4
 v4:=a5X
 t5:=a5Y
 a5:=Tryz.isAgg5
 z5:=Tryz.sizeOf5
 v5:=a2B
 t9:=MN
 a9:=Tryz.isAgg9
 z9:=Tryz.sizeOf9
 v9:=a2g
 t22:=Tryz.underlying413
 a22:=Tryz.isAgg413
 z22:=Tryz.sizeOf413
 v22:=Tryz.zeroValue413
 t25:=Tryz.underlying417
 a25:=Tryz.isAgg417
 z25:=Tryz.sizeOf417
 v25:=Tryz.zeroValue417
 t39:=Tryz.underlying203
 a39:=Tryz.isAgg203
 z39:=Tryz.sizeOf203
 v39:=Tryz.zeroValue203
 t45:=Tryz.underlying299
 a45:=Tryz.isAgg299
 z45:=Tryz.sizeOf299
 v45:=Tryz.zeroValue299
 t46:=Tryz.underlying300
 a46:=Tryz.isAgg300
 z46:=Tryz.sizeOf300
 v46:=Tryz.zeroValue300
 t50:=Tryz.underlying150
 a50:=Tryz.isAgg150
 z50:=Tryz.sizeOf150
 v50:=Tryz.zeroValue150
 t53:=Tryz.underlying306
 a53:=Tryz.isAgg306
 z53:=Tryz.sizeOf306
 v53:=Tryz.zeroValue306
 t55:=Tryz.underlying202
 a55:=Tryz.isAgg202
 z55:=Tryz.sizeOf202
 v55:=Tryz.zeroValue202
 t66:=Tryz.underlying350
 a66:=Tryz.isAgg350
 z66:=Tryz.sizeOf350
 v66:=Tryz.zeroValue350
 t70:=Tryz.underlying354
 a70:=Tryz.isAgg354
 z70:=Tryz.sizeOf354
 v70:=Tryz.zeroValue354
 t76:=Tryz.underlying367
 a76:=Tryz.isAgg367
 z76:=Tryz.sizeOf367
 v76:=Tryz.zeroValue367
 t77:=Tryz.underlying368
 a77:=Tryz.isAgg368
 z77:=Tryz.sizeOf368
 v77:=Tryz.zeroValue368 }
end Go.Proofs
namespace Go.Proofs.YtfmoknlmaldmlaaGreat
open Go.Proofs.Tryz
variable {H:AA CG}{P:Ch}{T:Bq}{k:Nat}{ok:Nat->Prop}{w:BX}
section
open Go.RowKit Go.Sort
section
variable {α:Type}
def cO (le:α->α->AV)(x:α):AA α->AA α
 | []=>[x]
 |y::l=>bif le x y then x::y::l else y::cO le x l
def RX (le:α->α->AV)(l:AA α):AA α:=l.foldr (cO le) []
def aIb (le:α->α->AV)(x:α):∀l,(cO le x l).Perm (x::l)
 | []=>.refl _
 |y::l=>by
  unfold cO;cases h:le x y with
  |true=>exact .refl _
  |false=>exact((aIb le x l).cons y).trans (.swap x y l)
def kM (le:α->α->AV):∀l,(RX le l).Perm l
 | []=>.refl _
 |x::l=>(aIb le x (RX le l)).trans ((kM le l).cons x)
def aXD {le:α->α->AV}(u:∀x y z,le x y=true->le y z=true->le x z=true)(I:∀x y,le x y=false->le y x=true)(x:α):∀l,l.Pairwise (λa b=>le a b=true)->(cO le x l).Pairwise (λa b=>le a b=true)
 | [],_=>by simp[cO]
 |y::l,h=>by
  have h':=QI.1 h;unfold cO;cases q:le x y with
  |true=>
   refine QI.2 ⟨λz j=>?_,h⟩;rcases FI.1 j with rfl|j
   ·exact q
   exact u x y z q (h'.1 z j)
  |false=>
   refine QI.2 ⟨λz j=>?_,aXD u I x l h'.2⟩;rcases FI.1 ((aIb le x l).mem_iff.1 j)with rfl|j
   ·exact I _ _ q
   exact h'.1 z j
def aQB {le:α->α->AV}(j:∀x y z,le x y=true->le y z=true->le x z=true)(q:∀x y,le x y=false->le y x=true):∀l:AA α,(RX le l).Pairwise (λa b=>le a b=true)
 | []=>.nil
 |x::l=>aXD j q x _ (aQB j q l)
def aMw {le:α->α->AV}(j:∀x y z,le x y=true->le y z=true->le x z=true)(q:∀x y,le x y=false->le y x=true)(ha:∀x y,le x y=true->le y x=true->x=y){l m:AA α}(hp:m.Perm l)(hs:m.Pairwise (λa b=>le a b=true)):m=RX le l:=
 (hp.trans (kM le l).symm).eq_of_pairwise (λa b _ _ h1 h2=>ha a b h1 h2) hs (aQB j q l)
def aFM {e:α->D}{enc:α->AA BD}(j:∀x,(e x).cells=(enc x).map .lit):∀l:AA α,flat (l.map e)=(l.flatMap enc).map λv=>.d (.lit v)
 | []=>rfl
 |x::l=>by rw[Gg,XH,aFM j l,j,OZ,J8,gY];rfl
def a5R {enc:α->AA BD}{k:Nat}(j:∀x,(enc x).length=k):∀l:AA α,(l.flatMap enc).length=l.length*k
 | []=>BU
 |x::l=>by rw[OZ,Ed,j,a5R j l,GN,bM,aAn,Vk]
def aVi {e:α->D}{enc:α->AA BD}(q:∀x,(e x).cells=(enc x).map .lit)(J:∀x,(enc x).length=k)(h1:∀x,∀v∈enc x,v.oneCell'=true){h:CG}{l:AA α}:
 FQ ok w H h (.arr T k (l.map e))↔h.size=k/\ny w T k h.v l.length (l.flatMap enc):=by
 have hl:=a5R J l;constructor
 ·rintro⟨u,_,xs,h3,z,L⟩;refine⟨u,?_⟩;rw[Di]at h3
  have :xs=l.flatMap enc:=by
   rw[aFM q]at z L;rw[Di]at z;refine lJ z λi hi M=>?_;have O:=(L i (by simpa using M)).2;simp only[List.getD,Jr,EM M,JV,NQ,EM hi]at O;cases O with |d _ _ h=>rw[EF.Sv h]
  rw[←this];exact h3
 rintro⟨u,h3⟩;refine⟨u,λx I=>?_,l.flatMap enc,by rw[Di];exact h3,?_⟩
 ·obtain⟨n,_,rfl⟩:=Hl.1 I;rw[q,Di,J]
 rw[aFM q];refine⟨BU,λi hi=>?_⟩;have j:i<(l.flatMap enc).length:=Hf
 simp only[List.getD,Jr,EM j,JV,NQ];refine⟨?_,.d _ _ (.lit _)⟩;obtain⟨x,_,I⟩:=Vy.1 (Et j);exact h1 x _ I
def aLr {j:Bg BD}(hs:j.size=2):j= #[j.getD 0 undef,j.getD 1 undef]:=by
 refine fU (by simp[hs]) λi h1 h2=>?_;simp at h2;have :i=0\/i=1:=AL
 rcases this with rfl|rfl<;>simp[Array.getD,hs]
def EW.aD4 {f g:FuncId}{e:α->D}{enc:α->AA BD}(M:∀x,(e x).cells=(enc x).map .lit)(hk:∀x,(enc x).length=k)(h1:∀x,∀v∈enc x,v.oneCell'=true){l r:AA α}(h:∀(v:BD) (w:BX),ny w T k v l.length (l.flatMap enc)->Calls P f #[v,.func (.func g) #[] #[]] w λx w'=>x=.returned (.tuple #[])/\ny w' T k v r.length (r.flatMap enc)/\Turns v w w'):
 EW P f [.aQ 0,.d (.fn (.func g) [] [])] [.arr T k (l.map e)] (.eG []) [.arr T k (r.map e)]:=by
 intro ok X H w I hm hs ha;have h0:=ha 0 BU;have O:=ha 1 BU;rw[aLr hs];obtain⟨hd,hh,hok⟩:=Gp hm.ent hm.hlen (k:=0) rfl;obtain hv:=Ph h0 hh
 have hf:I.getD 1 undef=.func (.func g) #[] #[]:=by
  simp only[List.getD,jV,dw,NQ]at O;generalize I.getD 1 undef=u at O;cases O with
  |d _ _ O=>
   cases O with
   |fn _ _ _ vs us hl hm'=>
    have e1:vs= #[]:=jF Lu;have e2:us= #[]:=jF (by simpa using hm');rw[e1,e2]
 rw[hv,hf];obtain⟨hz,how⟩:=(aVi M hk h1).1 hok;refine(h hd.v w how).mono ?_;rintro x w' ⟨rfl,U,L⟩;have z:=λb Y=>hm.blk 0 _ hd b rfl rfl hh Y
 have hg:=hm.change (ok':=ok) (H':=H) (w':=w') (es':=[.arr T k (r.map e)]) (λc=>E5 hd.v=some c) L.os L.tape L.output L.size L.block (λc M _=>⟨(z c M).1,(z c M).2.2⟩) (λ_ h=>h) (λ_ h=>.inl h) (.refl _) hm.hlen (by
  intro j e' h' q Z
  match j,q with
  |0,q=>
   simp at q;subst q;rw[hh]at Z;obtain rfl:=Dv Z;refine .inr ⟨(aVi M hk h1).2 ⟨hz,U⟩,λ_ b Y=>⟨(z b Y).1,Wn (z b Y).2.1 L.size,(z b Y).2.2,λk' e'' h'' hne J=>?_⟩⟩
   match k',J with
   |0,_=>exact absurd rfl hne
   |k'+1,J=>simp at J
  |k+1,q=>simp at q)
 exact⟨_,ok,H,rfl,hg.1,.eG [] #[] rfl (λi hi=>TR)⟩
end
section
variable {α:Type} [Inhabited α]
def aPj {enc:α->AA BD}(q:∀x,(enc x).length=k)(l:AA α):(flatK enc k l.toArray).toList=l.flatMap enc:=by
 have key:∀(l:AA α) (t:Nat),t<l.length*k->(enc (l[t/k]?.getD default))[t % k]? =(l.flatMap enc)[t]? :=by
  intro l
  induction l with
  |nil=>intro t j;simp at j
  |cons x l z=>
   intro t j;rw[GN,bM,aAn]at j;rw[OZ];by_cases h:t<k
   ·rw[Nat.div_eq_of_lt h,Nat.mod_eq_of_lt h,JR (by rw[q];exact h)];rfl
   have h':k<=t:=WY h;rcases X0 k with u|u
   ·subst u;simp at j
   have I:t/k=(t-k)/k+1:=Nat.div_eq_sub_div u h';rw[I,Nat.mod_eq_sub_mod h',P7 (by rw[q];exact h'),q,←z (t-k) AL,jV]
 refine lJ (by simp[a5R q]) λt h1 h2=>?_;have j:t<l.length*k:=Zh
 have :=key l t j;rw[EM h2]at this;have h3:=get_flatK enc k l.toArray t VI;rw[a5U _ _ VI]at h3;rw[Array.getElem_toList,h3];have J:(l.toArray)[t/k]! =l[t/k]?.getD default:=BU
 rw[J];simp[List.getElem!_eq_getElem?_getD,this]
end
def UA (a b:Int):Int:=if a<b then -1 else if a>b then 1 else 0
def Yd (p q:Int×Int×Int):Int:=if p.2.1=q.2.1 then(if p.2.2=q.2.2 then UA p.1 q.1 else UA p.2.2 q.2.2)else UA q.2.1 p.2.1
def aEP (a b:Int):UA a b<0↔a<b:=by
 unfold UA;split
 ·omega
 split<;>omega
def aeU (p q:Int×Int×Int):Yd p q<0↔q.2.1<p.2.1\/p.2.1=q.2.1/\(p.2.2<q.2.2\/p.2.2=q.2.2/\p.1<q.1):=by
 unfold Yd;split
 ·split
  ·rw[aEP];omega
  rw[aEP];omega
 rw[aEP];omega
def ae0 (a b:Int)(W:BX):Calls Ak 485 #[.int .i64 a,.int .i64 b] W λe w'=>e=.returned (.int .i64 (UA a b))/\w'=W:=by
 unfold UA
 go_enter func485,Tryz.ntmps485
 go_wp2
 all_goals (go_ret;exact⟨rfl,rfl⟩)
set_option maxHeartbeats 1000000 in
def aXi (r p1 p2 p3 q1 q2 q3:Int)(hr:r=if p2=q2 then(if p3=q3 then UA p1 q1 else UA p3 q3)else UA q2 p2)(W:BX):Calls Ak 484 #[.agg #[.int .i64 p1,.int .i64 p2,.int .i64 p3],.agg #[.int .i64 q1,.int .i64 q2,.int .i64 q3]] W λe w'=>e=.returned (.int .i64 r)/\∃q u,w'=grow (W.drewN q) u:=by
 have j:=ae0;generalize UA=c at j hr;have z:p2≠q2->c q2 p2=r:=λh=>by rw[hr,EZ h]
 have I:p2=q2->p3≠q3->c p3 q3=r:=λh k=>by rw[hr,ES h,EZ k]
 have J:p2=q2->p3=q3->c p1 q1=r:=λh k=>by rw[hr,ES h,ES k]
 clear hr
 go_enter func484,Tryz.ntmps484
 go_wp2_with (go_at_call 485;refine(j _ _ _).mono ?_;rintro e w' ⟨rfl,rfl⟩)
 all_goals go_ret
 ·rename_i h;rw[z O5];exact⟨rfl,0,_,aKh⟩
 ·rename_i h k;rw[I O5 (by simpa using k)];exact⟨rfl,0,_,aKh⟩
 rename_i h k;rw[J O5 (by simpa using k)];exact⟨rfl,0,_,aKh⟩
def LG (p q:Int×Int×Int):AV:= !decide (Yd q p<0)
def vk (p q:Int×Int×Int):LG p q=true↔¬(p.2.1<q.2.1\/q.2.1=p.2.1/\(q.2.2<p.2.2\/q.2.2=p.2.2/\q.1<p.1)):=by
 unfold LG;rw[Vg,yH,aeU]
def aH0 (x y z:Int×Int×Int)(h:LG x y=true)(k:LG y z=true):LG x z=true:=by
 rw[vk]at *;omega
def aSc (x y:Int×Int×Int)(h:LG x y=false):LG y x=true:=by
 have h:¬LG x y=true:=by rw[h];decide
 rw[vk]at *;omega
def aXL (x y:Int×Int×Int)(h:LG x y=true)(k:LG y x=true):x=y:=by
 rw[vk]at *;obtain⟨j,q,u⟩:=x;obtain⟨z,I,J⟩:=y;simp only[Uu]at *;omega
def aPo (p q:Int×Int×Int):LG p q=false↔(p.2.1<q.2.1\/q.2.1=p.2.1/\(q.2.2<p.2.2\/q.2.2=p.2.2/\q.1<p.1)):=by
 rw[←Zz,vk,Decidable.not_not]
def akb (x y z:Int×Int×Int)(h:LG y x=false)(k:LG z y=false):LG z x=false:=by
 rw[aPo]at *;omega
section
variable {α:Type}
def a3Z (f:α->Int×Int×Int)(l:AA α):AB (AA α):=if l.length<=1099511627776 then some (RX (λx y=>LG (f x) (f y)) l)else none
def Pg (f:α->Int×Int×Int)(x:α):AA BD:=[.int .i64 (f x).1,.int .i64 (f x).2.1,.int .i64 (f x).2.2]
def aZS (f:α->Int×Int×Int)(x:α):(Pg f x).length=3:=rfl
def aPO (f:α->Int×Int×Int)(x:α):∀v∈Pg f x,v.oneCell'=true:=λv j=>by
 simp[Pg]at j;rcases j with rfl|rfl|rfl<;>rfl
def a2Q (f:α->Int×Int×Int)(x y:α):ltOf (λx y=>Yd (f x) (f y)) x y= !LG (f y) (f x):=by simp[ltOf,LG]
def am3 (f:α->Int×Int×Int):SWO (ltOf λx y:α=>Yd (f x) (f y)):=by
 refine⟨λx=>?_,λx y z h k=>?_,λx y z h k=>?_⟩
 ·rw[a2Q,(vk (f x) (f x)).2 AL];rfl
 ·rw[a2Q,Vg]at *;exact akb _ _ _ h k
 rw[a2Q,Bool.not_eq_false']at *;exact aH0 _ _ _ k h
variable [Inhabited α]
def agS (f:α->Int×Int×Int)(blk off size:Nat)(w:BX):CmpLays Ak 484 #[] (Pg f) 3 (λx y=>Yd (f x) (f y)) blk off size w:=
 λm os j _ x y=>aXi (Yd (f x) (f y)) (f x).1 (f x).2.1 (f x).2.2 (f y).1 (f y).2.1 (f y).2.2 rfl (sortWorldK (Pg f) 3 w blk off m j os)
set_option maxHeartbeats 2000000 in
def avy (f:α->Int×Int×Int)(hf:∀x y,f x=f y->x=y)(e:α->D)(he:∀x,e x=.agg [Ad (f x).1,Ad (f x).2.1,Ad (f x).2.2])(l r:AA α)(h:a3Z f l=some r):
 Dw 483 [.aQ 0,.d (.fn (.func 484) [] [])] [.arr 415 3 (l.map e)] (.eG []) [.arr 415 3 (r.map e)]:=by
 unfold a3Z at h;split at h
 ·rename_i hn;obtain rfl:=Dv h;have Y:=aZS f;refine EW.aD4 (enc:=Pg f) (λx=>by rw[he];rfl) Y (aPO f) λv w how=>?_;generalize hr:RX (λx y=>LG (f x) (f y)) l=r;have I:r.length=l.length:=by rw[←hr];exact(kM _ l).length_eq
  rcases how.2 with⟨rfl,h0⟩|⟨g,cap,J,rfl,hbase,hg,hnc,hcm,hcs,L⟩
  ·have hl:l=[]:=Hd h0;have hl':r=[]:=Hd (by rw[I,h0]);subst hl;subst hl';refine(AnyF.slices_SortFunc_none (P:=Ak) (ρ:=Tryz.abk) { Tryz.avt with } none 0 _ w).mono ?_;rintro e w' ⟨rfl,h⟩;subst h;exact⟨rfl,ny.nil _ _ _,Turns.refl _ _⟩
  have Z:g<w.heap.size:=(IJ.1 hg).1;have q:=aPj (enc:=Pg f) Y l
  have hH:HoldsK (Pg f) 3 w g 0 l.toArray:=by
   unfold HoldsK;have M:(flatK (Pg f) 3 l.toArray).size=l.length*3:=BU
   generalize flatK (Pg f) 3 l.toArray=F at q M;intro j O;refine⟨?_,by simp[World.frozen?,hg]⟩;have e0:(J.toList.take (l.length*3))[j]? =(l.flatMap (Pg f))[j]? :=by rw[L]
   rw[TP AL,←q]at e0;simp only[World.cell?,hg,Js];simp only[Option.isSome_none,TM,KA];rw[←a0h,e0,a0h,a5U F j O,qA O];rfl
  have eg:∀args w,(callFunc 484 args).run Ak w=.ok (.enter 484 args) w:=enters_of func484 A8 rfl;have :=AnyQ.slices_SortFunc (P:=Ak) (ρ:=Tryz.abk) Tryz.avt 3 Tryz.isAgg415 Tryz.sizeOf415 (Pg f) Y (aPO f) (λx y=>Yd (f x) (f y)) (am3 f) 484 #[] g 0 cap l.toArray w eg (agS f _ _ _ _) hH Z EY;refine this.mono ?_;rintro e' w' ⟨rfl,U,n,os,hp,hs,rfl⟩;obtain⟨hsz,_,u⟩:=hp;have hsz':U.size=l.length:=by simpa using hsz
  have e1:U.extract 0 l.toArray.size=U:=by rw[←hsz];exact Array.extract_size
  rw[e1,Array.extract_size]at u
  have hm:U.toList=r:=by
   rw[←hr];refine aMw (le:=λx y=>LG (f x) (f y)) (λx y z=>aH0 (f x) (f y) (f z)) (λx y=>aSc (f x) (f y)) (λx y h k=>hf _ _ (aXL (f x) (f y) h k)) u ?_;refine KJ.2 λi j hi O hij=>?_;have :=hs i j (Ef _) hij (by simpa[hsz']using O);rw[a2Q,a5U U i Hf,a5U U j Z5]at this;simpa using this
  obtain rfl:U=r.toArray:=by rw[←hm]
  have hF:=aPj (enc:=Pg f) Y r;have M:(flatK (Pg f) 3 r.toArray).size=l.length*3:=by simp[I]
  generalize hFF:flatK (Pg f) 3 r.toArray=F at hF M;refine⟨rfl,⟨by rw[a5R Y],.inr ⟨g,cap,putCells id 0 F J,by rw[I],Ef _,?_,AL,hcm,by simpa[putCells]using hcs,?_⟩⟩,⟨rfl,rfl,rfl,by simp[sortWorldK,putRowK],λc hc hne=>?_⟩⟩
  ·unfold sortWorldK putRowK;rw[hFF,heap_grow_old _ _ (by simpa using Z)];simp[putRow,mapBlock,Sort.ahead,YE,hg,onCells]
  ·rw[←hF,I];apply kW;intro j;by_cases O:j<l.length*3
   ·have hjc:j<J.size:=by have :=KR 3 hnc;omega
    rw[TP O,a0h,a0h];have hjF:j<F.size:=AL
    simp[putCells,hjF,hjc]
   rw[List.getElem?_take_eq_none AL,Ns EY]
  unfold sortWorldK putRowK;rw[heap_grow_old _ _ (by simpa using hc)];have :g≠c:=λe=>hne zT;simp[putRow,mapBlock,Sort.ahead,YE,this]
 cases h
end
end
variable {C:Ez}{es:AA Bc}{hd:CG}
theorem Dq.freeze (hm:Dq C ok H es w){e:Bc}(hk:es[k]? =some e)(hl:e.live=true)(M:H[k]? =some hd):Dq C (λb=>ok b\/E5 hd.v=some b) H (es.set k .dead) w:=by
 have z:k<es.length:=(Gs.1 hk).1;have hblk:=λb q=>hm.blk k _ hd b hk hl M q;have hg:F9 ok w (λb=>ok b\/E5 hd.v=some b) w:=λb q=>⟨.inl q,rfl⟩
 refine⟨hm.fr,λb q=>.inl (hm.CU b q),?_,?_,hm.names,bP,?_,?_,?_⟩
 ·rintro b (q|q)
  ·exact hm.CV b q
  grind
 ·rintro b (q|q)
  ·exact hm.lg b q
  grind
 ·intro j e' h' he I;rcases N9 z he with⟨rfl,rfl⟩|⟨_,J⟩
  ·trivial
  exact(hm.ent j e' h' J I).mono hg (.refl _) (λ_ _ _=>rfl)
 ·intro j e' h' b he L I q;rcases N9 z he with⟨rfl,rfl⟩|⟨hne,J⟩
  ·cases L
  have h3:=hm.blk j e' h' b J L I q;refine⟨λu=>?_,h3.2⟩;rcases u with u|u
  ·exact h3.1 u
  exact hne (hm.Jy j k e' _ h' hd b J hk L hl I M q u)
 intro i j e1 e2 h1 h2 b he1 he2 O U hh1 hh2 hb1 hb2;rcases N9 z he1 with⟨rfl,rfl⟩|⟨_,Y⟩
 ·cases O
 rcases N9 z he2 with⟨rfl,rfl⟩|⟨_,Z⟩
 ·cases U
 exact hm.Jy i j e1 e2 h1 h2 b Y Z O U hh1 hh2 hb1 hb2
variable {K V:Type}{J L t:Bq}{clock i n:Nat}{ms:Bg MapEntry}{o:Oper}{x:Bz}
def aMS {m:AA (BD×D)}(ht:P.underlying t=some (.map J L))(M:es[k]? =some (.map m))(ho:o.op=.range t x:=by exact rfl):CB P o [(x,.mp k)] es (.ptr es.length 0) (es.set k .dead++[.iter m []]):=
 .eff λC ok H a w hm hn=>by
  obtain⟨hd,O,u⟩:=Gp hm.ent hm.hlen M;obtain⟨b,ms,clock,h1,h2,h3⟩:=u;have U:=SE (hn (x,.mp k) BU) O;simp only at U;have hb:b<w.heap.size:=(IJ.1 h2).1;have Y:=hm.freeze M rfl O;have Z:F9 ok w (λc=>ok c\/E5 hd.v=some c) w:=λc q=>⟨.inl q,rfl⟩
  have z:E5 hd.v=some b:=aLW
  have g1:F9 (λc=>ok c\/E5 hd.v=some c) w (λc=>ok c\/E5 hd.v=some c) (w.alloc (.mapIter (some b) clock #[] clock)):=λc q=>⟨q,KD _ _ _ (Y.lg c q)⟩
  have I:FQ (λc=>ok c\/E5 hd.v=some c) (w.alloc (.mapIter (some b) clock #[] clock)) (H++[⟨.pointer (some ⟨w.heap.size,0,none⟩),0⟩]) ⟨.pointer (some ⟨w.heap.size,0,none⟩),0⟩ (.iter m []):=
   ⟨w.heap.size,b,ms,clock, #[],rfl,jQ _ _,.inr z,(KD _ _ _ hb).trans h2,(h3.mono Z).mono g1,rfl,λj i hj=>by simp at hj⟩
  obtain⟨m1,g2⟩:=Y.push (.mapIter (some b) clock #[] clock) ⟨.pointer (some ⟨w.heap.size,0,none⟩),0⟩ _ (a3H w) I;refine⟨.pointer (some ⟨w.heap.size,0,none⟩),_,_,_,.inl ?_,Z.trans g2,Gy _ _,m1,.ptr _ _ w.heap.size 0 PS⟩;have hr:=run_range_map (P:=P) w t J L b ms clock ht h2;simp[execOp,ho,U,h1,hr]
def born_inj {es:AA (BD×D)}(h:Jl ok w es ms clock){j:Nat}{m n:MapEntry}(hi:ms[i]? =some m)(q:ms[j]? =some n)(u:m.born=n.born):i=j:=by
 rcases aB2 i j with h1|h1|h1
 ·have :=h.inc i j m n h1 hi q;omega
 ·exact h1
 have :=h.inc j i n m h1 q hi;omega
def af8 {es:AA (BD×D)}(h:Jl ok w es ms clock):(ms.toList.map (·.born)).Nodup:=by
 unfold List.Nodup;rw[KJ];intro i j hi q u;simp only[Di,Tn]at hi q;have z:ms[i]? =some ms[i]:=Ur
 have I:ms[j]? =some ms[j]:=by simp[q]
 simp only[TF,Array.getElem_toList];intro e;have :=born_inj h z I e;omega
theorem aPs {ek:K->BD}{ev:V->D}{m:AA (K×V)}{vis:AA Nat}{p:K×V}(hp:m[i]? =some p)(Y:es[n]? =some (.iter (m.map (CQ ek ev)) (vis++[i])))(Z:o.op=.entry x:=by exact rfl):
 CB P o [(x,.ptr n 0)] es (.eG [.d (.lit (ek p.1)),.d (ev p.2)]) es:=
 .pure λok H a w u hl hn=>by
  obtain⟨hd,hh,I⟩:=Gp u hl Y;obtain⟨bi,M,ms,clock,seen,h1,h2,h3,h4,O,h6,h7⟩:=I;have J:=hn (x,.ptr n 0) BU;simp only at J;generalize hv:a.eval x=v at J;cases J with
  |ptr _ _ b' s U=>
   rw[hh]at U;obtain rfl:=Dv U;simp only[Value.pointer.injEq,Nk,Addr.mk.injEq]at h1;obtain⟨rfl,_⟩:=h1;obtain⟨e,q1,q2⟩:=h7 vis.length i BU;have L:(m.map (CQ ek ev))[i]? =some (CQ ek ev p):=by rw[Jr,hp];rfl
   obtain⟨r1,r2,_⟩:=O.ent i _ e L q1;refine⟨.tuple #[e.key,e.val],?_,.eG _ _ rfl λj hj=>?_⟩
   ·have q:seen.back?=some e.born:=by
     grind
    have z:e∈ms.toList:=by
     grind
    have hf:ms.find? (·.born==e.born)=some e:=by rw[←Array.find?_toList];exact find_born e ms.toList (af8 O) z
    have g1:(getObj b').run P w=.ok (.mapIter (some M) clock seen clock) w:=by simp[getObj,Sem.run,h2]
    have g2:(getObj M).run P w=.ok (.map ms clock) w:=QU h4;simp[execOp,Z,hv,Instr.entry,g1,g2,q,hf]
   match j,hj with
   |0,_=>
    rw[show([Ah.d (.lit (ek p.1)),.d (ev p.2)]:AA Ah).getD 0 .junk=.d (.lit (ek p.1))from rfl,show(#[e.key,e.val]:Bg BD).getD 0 undef=e.key from rfl,r1];exact .d _ _ (.lit _)
   |1,_=>
    exact .d _ _ r2
variable {seen:Bg Nat}
theorem anH {ty:Bq}{bi Y:Nat}{es:AA (BD×D)}(hi:w.heap[bi]? =some (.mapIter (some Y) clock seen clock))(hb:w.heap[Y]? =some (.map ms clock))(hM:Jl ok w es ms clock):
 ((leftOf ms seen).size=0/\(Instr.next (.pointer (some ⟨bi,0,none⟩)) false ty).run P w=.ok (.tuple #[.bool false]) w)\/
 ∃e∈(leftOf ms seen).toList,∃q:BX,(q=w\/q=w.drew)/\(Instr.next (.pointer (some ⟨bi,0,none⟩)) false ty).run P w=.ok (.tuple #[.bool true,e.key,e.val]) (q.putObj bi (.mapIter (some Y) clock (seen.push e.born) clock)):=by
 have u:∀x∈ms.toList,x.born<clock:=λx I=>by
  obtain⟨i,hi,rfl⟩:=Ih I;have J:i<ms.size:=Hf
  have Z:i<es.length:=by rw[←hM.len];exact J
  have :=(hM.ent i es[i] ms[i] (by simp[Z]) (by simp[J])).2.2;simpa using this
 simp only[Instr.next,getObj,Fg,Sem.run,hi,hb,Result.andThen,next_test_false seen ms clock clock u (Ec _),TM,KA];unfold leftOf;have z:∀x∈(Array.filter (λe=> !seen.contains e.born) ms).toList,x.born<clock:=λx I=>u x (by simp at I ⊢;exact I.1);generalize Array.filter (λe=> !seen.contains e.born) ms=L at z ⊢;have e1:L.filter (λx=>x.born<clock)=L:=Array.filter_eq_self.2 (λx I=>by simpa using z x xw)
 have e2:L.filter (λx=>x.born>=clock)= #[]:=by
  rw[Array.filter_eq_empty_iff]
  grind
 simp only[e1,e2,Array.append_empty];by_cases h0:L.size=0
 ·left;have :L= #[]:=jF h0;subst this;refine⟨rfl,?_⟩;simp[choose,Sem.run,Question.forced]
 right;have hne:L.isEmpty=false:=by simp[Array.isEmpty,h0]
 simp only[hne,TM,KA,Array.empty_append,Array.size_map]
 have hch:∃(j:Nat) (q:BX),j<L.size/\(q=w\/q=w.drew)/\(choose (Question.mapNext L.size)).run P w=.ok j q:=by
  by_cases hf:L.size<=1
  ·exact⟨0,w,AL,.inl rfl,by simp[choose,Sem.run,Question.forced,hf]⟩
  exact⟨_,w.drew,nI _ AL,.inr rfl,by
   simp only[choose,Sem.run,Question.forced,Iu,hf,KA,Question.cut]
   rfl⟩
 obtain⟨j,q,hj,M,O⟩:=hch;refine⟨L[j],BU,q,M,?_⟩;have hi1:q.heap[bi]? =some (.mapIter (some Y) clock seen clock):=by rcases M with rfl|rfl<;>exact hi
 have U:∀(o':Obj),(setObj bi o').run P q=.ok () (q.putObj bi o'):=λo'=>by simp[setObj,Sem.run,hi1,World.putObj]
 simp only[O,Array.getElem?_map,qA hj,JV,Fg,U,Result.andThen];rfl
variable {A Rr:Type}{Q:Exit->BP->Prop}{l rest:AA Oper}{ops:Bg Oper}{σ:BP}
theorem amy {e:MapEntry}(h:e∈(leftOf ms seen).toList):e∈ms.toList/\e.born∉seen:=by
 unfold leftOf at h;simp at h
 grind
theorem Dj.next {ek:K->BD}{ev:V->D}{ty:AV}(n:Nat)(m:AA (K×V))(vis:AA Nat)(hn:σ.ents[n]? =some (.iter (m.map (CQ ek ev)) vis))(ho:o.op=.next x false)(hx:σ.get x=.ptr n 0)(hg:Ju ops σ o.guard=some true)(h0:(∀i,i<m.length->i∈vis)->Dj P ops rest (σ.tX o.dst (.eG [.d (Dt false)])) Q)(h1:∀i p,m[i]? =some p->i∉vis->Dj P ops rest (σ.put o.dst (.eG [.d (Dt true),.d (.lit (ek p.1)),.d (ev p.2)]) (σ.ents.set n (.iter (m.map (CQ ek ev)) (vis++[i])))) Q):Dj P ops (o::rest) σ Q:=by
 refine⟨λro l2 Q' C ok H a w z hk=>?_⟩;show wpListIn (JE ro) 0 P ops Q' (o::(rest++l2)) a w;unfold wpListIn;rw[ES (Uh z (PO hg))];have hv:=hx▸z.get x;obtain⟨hd,Y,Z⟩:=Gp z.mem.ent z.mem.hlen hn;obtain⟨bi,L,ms,clock,seen,q1,q2,q3,q4,q5,q6,q7⟩:=Z
 have J:a.eval x=.pointer (some ⟨bi,0,none⟩):=by
  generalize a.eval x=v at hv;cases hv with
  |ptr _ _ b' s hH=>
   rw[Y]at hH;obtain rfl:=Dv hH;simp only[Value.pointer.injEq,Nk,Addr.mk.injEq]at q1;obtain⟨rfl,_⟩:=q1;rfl
 have hlen:ms.size=m.length:=by rw[q5.len,Di]
 unfold Oper.wpIn;rw[jE _ _ _ (by rw[ho];intro c h;cases h)];rcases anH (P:=P) (ty:=o.type) q2 q4 q5 with⟨hs,hr⟩|⟨e,M,w1,hw1,hr⟩
 ·have he:(execOp a.eval o).run P w=.ok (.value (.tuple #[.bool false])) w:=by simp[execOp,ho,J,hr]
  rw[he];refine⟨λ_ _=>trivial,?_⟩
  refine(h0 λi hi=>?_).run ro l2 Q' C ok H _ w (z.put o.dst (.refl _ _) (.refl _) z.mem (.eG _ _ rfl λj q=>by
   match j,q with
   |0,_=>exact .d _ _ (.lit _))) hk
  have O:i<ms.size:=AL
  have hnot:ms[i]∉(leftOf ms seen).toList:=by
   grind
  have hin:ms[i].born∈seen:=by
   apply aB5;intro hc;refine hnot ?_;unfold leftOf;simp[hc]
  obtain⟨j,q,hje⟩:=Array.getElem_of_mem hin;have hjv:j<vis.length:=AL
  obtain⟨e,r1,r2⟩:=q7 j vis[j] (by simp[hjv])
  have hb:e.born=ms[i].born:=by
   grind
  have :=born_inj q5 r1 (show ms[i]? =some ms[i] by simp[O]) hb;rw[←this];simp
 have he:(execOp a.eval o).run P w=.ok (.value (.tuple #[.bool true,e.key,e.val])) (w1.putObj bi (.mapIter (some L) clock (seen.push e.born) clock)):=by simp[execOp,ho,J,hr]
 rw[he];refine⟨λ_ _=>trivial,?_⟩;obtain⟨aKv,hes⟩:=amy M;obtain⟨i,hi,hie⟩:=Ih aKv;have O:i<ms.size:=Hf
 have U:ms[i]? =some e:=by rw[←hie];simp[O]
 have him:i<m.length:=AL
 have hpe:(m.map (CQ ek ev))[i]? =some (CQ ek ev m[i]):=by simp[him]
 obtain⟨r1,r2,_⟩:=q5.ent i _ e hpe U
 have aKw:i∉vis:=λhc=>by
  obtain⟨j,q,hje⟩:=Ih hc;obtain⟨e2,s1,s2⟩:=q7 j i (by simp[←hje,q]);rw[U]at s1;obtain rfl:=Dv s1
  grind
 have I:Dq C ok H σ.ents w1/\F9 ok w ok w1:=by
  rcases hw1 with rfl|rfl
  ·exact⟨z.mem,.refl _ _⟩
  exact z.mem.drew
 have hi1:w1.heap[bi]? =some (.mapIter (some L) clock seen clock):=by rcases hw1 with rfl|rfl<;>exact q2
 have u:w1.heap[L]? =some (.map ms clock):=(I.2 L q3).2.trans q4;have hne:L≠bi:=λe=>by rw[e,hi1]at u;cases u
 obtain⟨m2,g2⟩:=I.1.al8 (o:=.mapIter (some L) clock (seen.push e.born) clock) (e':=.iter (m.map (CQ ek ev)) (vis++[i])) hn rfl Y (by rw[q1];rfl)
  (λg=>⟨bi,L,ms,clock,seen.push e.born,q1,Xg (IJ.1 hi1).1,q3,(aB hne).trans u,(q5.mono I.2).mono g,by simp[q6],λj i' q=>by
   by_cases hjl:j<vis.length
   ·rw[JR hjl]at q;obtain⟨e2,s1,s2⟩:=q7 j i' q;exact⟨e2,s1,by rw[Array.getElem?_push_lt AL];simpa[qA (show j<seen.size by omega)]using s2⟩
   have hj2:j=vis.length:=by
    have :=(Gs.1 q).1;simp at this;omega
   subst hj2;simp at q;subst q
   exact⟨e,U,by rw[←q6];simp⟩⟩)
 have g3:=I.2.trans g2
 have hp:=(h1 i m[i] (by simp[him]) aKw).run ro l2 Q' C ok H (a.put o.dst (.tuple #[.bool true,e.key,e.val])) _ (z.put o.dst (x:=.eG [.d (Dt true),.d (.lit (ek m[i].1)),.d (ev m[i].2)]) g3 (.refl _) m2 (.eG _ _ rfl λj q=>by
  match j,q with
  |0,_=>exact .d _ _ (.lit _)
  |1,_=>
   show R ok _ H (.d (.lit (ek m[i].1))) e.key;rw[r1];exact .d _ _ (.lit _)
  |2,_=>exact .d _ _ (r2.mono g3))) hk
 exact hp
def Bh.azB {cd:Code}(S:AA Nat->A->BP)(m:AA (K×V))(step:A->K×V->AB A)(Kf:A->AB Rr)(r:Rr)(a0:A)(hs:CO σ (S [] a0))(L:∀vis:AA Nat,vis.Nodup->(∀i,i∈vis↔i<m.length)->((vis.filterMap λ(i:Nat)=>m[i]?).foldlM step a0).bind Kf=some r)(round:∀(J:BP->Prop) (vis:AA Nat) (a:A),((∀i,i<m.length->i∈vis)->Kf a=some r)->(∀i p,m[i]? =some p->i∉vis->∃a',step a p=some a'/\∀s,CO s (S (vis++[i]) a')->J s)->Bh P cd (S vis a) (JG J Q)):Bh P (.loop cd) σ Q:=by
 have U:∀vis:AA Nat,vis.Nodup->(∀i∈vis,i<m.length)->∃rest,(vis++rest).Nodup/\(∀i,i∈vis++rest↔i<m.length):=λvis q u=>by
  refine⟨(List.range m.length).filter λi=> !vis.contains i,?_,λi=>?_⟩
  ·refine a3u.2 ⟨q,List.Pairwise.filter _ List.nodup_range,λa ha b Y e=>?_⟩;subst e;rw[Ji]at Y;simp[ha]at Y
  rw[Je,Ji];constructor
  ·rintro(h|h)
   ·exact u i h
   simpa using h.1
  intro h;by_cases hc:i∈vis
  ·exact .inl hc
  exact .inr ⟨O5,by simp[hc]⟩
 refine Bh.loop (λn s=>∃vis a,n=m.length-vis.length/\vis.Nodup/\(∀i∈vis,i<m.length)/\(vis.filterMap λ(i:Nat)=>m[i]?).foldlM step a0=some a/\CO s (S vis a)) (m.length) ⟨[],a0,BU,WZ,λi h=>IV,rfl,hs⟩ ?_;rintro n s ⟨vis,a,rfl,q,u,hf,M⟩;refine DJ M (round _ vis a (λhc=>?_) (λi p hp hi=>?_))
 ·have :=L vis q (λi=>⟨u i,hc i⟩);rw[hf]at this;exact this
 have him:i<m.length:=(Gs.1 hp).1;have z:(vis++[i]).Nodup:=a3u.2 ⟨q,BU,λa ha b Y e=>by simp at Y;subst Y;subst e;exact hi ha⟩
 have I:∀j∈vis++[i],j<m.length:=λj Z=>by
  rcases Je.1 Z with h|h
  ·exact u j h
  simp at h;subst h;exact him
 obtain⟨rest,h1,h2⟩:=U (vis++[i]) z I;have h3:=L _ h1 h2;rw[bU,bU]at h3;simp only[Vx,List.filterMap_nil,hp,List.foldlM_append,U7,List.foldlM_nil,hf,bind,pure,Ac]at h3;cases hst:step a p with
 |none=>rw[hst]at h3;simp at h3
 |some a'=>
  refine⟨a',rfl,λs hs=>⟨m.length-(vis++[i]).length,?_,vis++[i],a',rfl,z,I,?_,hs⟩⟩
  ·have :vis.length<m.length:=by
    have M:vis.length<=(List.range m.length).length:=by
     refine aPG q ?_;intro j Z;simpa using u j Z
    have O:(vis++[i]).length<=(List.range m.length).length:=by
     refine aPG z ?_;intro j Z;simpa using I j Z
    simp at O;omega
   simp;omega
  rw[bU,List.foldlM_append,hf];simp[hp,hst]
variable {α:Type}
theorem aT3:∀(m:AA α) (vis:AA Nat),vis.Nodup->(∀i,i∈vis↔i<m.length)->(vis.filterMap λ(i:Nat)=>m[i]?).Perm m:=λm vis j q=>by
 have h1:vis.Perm (List.range m.length):=by
  grind
 have h2:((List.range m.length).filterMap λ(i:Nat)=>m[i]?)=m:=by
  apply kW;intro i
  have :∀(n:Nat),n<=m.length->((List.range n).filterMap λ(i:Nat)=>m[i]?)=m.take n:=by
   intro n
   induction n with
   |zero=>
    intro _;simp
   |succ n u=>
    intro z;rw[a7a,bU,u AL];have hl:n<m.length:=AL
    simp[hl]
  rw[this m.length (Ec _),Gn]
 have h3:=h1.filterMap (λ(i:Nat)=>m[i]?)
 rwa [h2]at h3
def aIW {α β:Type}{c:α->AV}{f:α->β}{b:Nat}:∀(l:AA α) (v:AA β),
 l.foldlM (λv p=>bif c p then(DC b v [f p]).bind λx=>some x else some v) v=if(v.length+(l.filter c).length)*b<=140737488355328\/l.filter c=[]then some (v++(l.filter c).map f)else none
 | [],v=>BU
 |p::l,v=>by
  rw[U7];cases u:c p with
  |false=>
   have q:=aIW (c:=c) (f:=f) (b:=b) l v;simp only[BN,bind,Ac,q,U4,u,TM,KA]
  |true=>
   simp only[Bj,U4,u,JK];have I:DC b v [f p]=if(v.length+[f p].length)*b<=140737488355328 then some (v++[f p])else none:=rfl
   rw[I];by_cases j:(v.length+[f p].length)*b<=140737488355328
   ·rw[ES j];have q:=aIW (c:=c) (f:=f) (b:=b) l (v++[f p]);simp only[Ac,bind,q];have z:(v++[f p]).length+(l.filter c).length=v.length+(p::l.filter c).length:=EY
    rw[z];by_cases hl:l.filter c=[]
    ·rw[hl]at z ⊢;simp only[GN,QX]at j ⊢;simp[j]
    simp[hl]
   rw[EZ j];simp only[Option.bind_none,bind];rw[EZ];rintro(h|h)
   ·refine j (EK (KR _ ?_) h);simp
   cases h
variable {β:Type}{b:Nat}
theorem aLy {c:α->AV}{f:α->β}{l1 l2:AA α}{v:AA β}{Kf:AA β->AB Rr}{r:Rr}(hp:l1.Perm l2)(u:∀x y,x.Perm y->Kf x=Kf y)(h:(l2.foldlM (λv p=>bif c p then(DC b v [f p]).bind λx=>some x else some v) v).bind Kf=some r):
 (l1.foldlM (λv p=>bif c p then(DC b v [f p]).bind λx=>some x else some v) v).bind Kf=some r:=by
 rw[aIW]at h ⊢;have j:=hp.filter c
 have e:((v.length+(l1.filter c).length)*b<=140737488355328\/l1.filter c=[])↔((v.length+(l2.filter c).length)*b<=140737488355328\/l2.filter c=[]):=by
  rw[j.length_eq];constructor
  ·grind
  rintro(h|h)
  ·exact .inl h
  exact .inr (by rw[h]at j;exact j.eq_nil)
 by_cases q:((v.length+(l2.filter c).length)*b<=140737488355328\/l2.filter c=[])
 ·rw[ES q]at h;rw[ES (e.2 q)];simp only[Ac]at h ⊢;rw[←h];exact u _ _ ((j.map f).append_left v)
 rw[EZ q]at h;cases h
section
variable {K V:Type} [BEq K]
def G9 :AA (K×V)->K->Nat
 | [],_=>0
 |p::m,k=>bif k==p.1 then 0 else G9 m k+1
def aOm {ek:K->BD}{kd:TypeDesc}(hs:∀a b,Instr.sameNow kd (ek a) (ek b)=some (a==b))(k:K)(v:V):∀(m:AA (K×V)) (l:AA MapEntry) (i:Nat),l.map (·.key)=m.map (λp=>ek p.1)->
 (Instr.findNow kd (ek k) l i=some none/\DF m k=none/\Dy m k v=m++[(k,v)]/\G9 m k=m.length)\/
 ∃e p,Instr.findNow kd (ek k) l i=some (some (i+G9 m k,e.val))/\l[G9 m k]? =some e/\m[G9 m k]? =some p/\DF m k=some p.2/\(k==p.1)=true/\Dy m k v=m.set (G9 m k) (k,v)
 | [],[],_,_=>.inl ⟨rfl,rfl,rfl,rfl⟩
 | [],_::_,_,h=>IV
 |_::_,[],_,h=>IV
 |p::m,e::l,i,h=>by
  simp only[Gg,aBI]at h;cases j:(k==p.1)with
  |true=>
   refine .inr ⟨e,p,?_,?_,?_,?_,j,?_⟩
   ·simp[Instr.findNow,h.1,hs,j,G9]
   ·simp[G9,j]
   ·simp[G9,j]
   ·simp[DF,j]
   simp[Dy,G9,j]
  |false=>
   rcases aOm hs k v m l (i+1) h.2 with⟨h1,h2,h3,q⟩|⟨e',u,h1,h2,h3,q,z,I⟩
   ·refine .inl ⟨?_,?_,?_,?_⟩
    ·simp[Instr.findNow,h.1,hs,j,h1]
    ·simp[DF,j,h2]
    ·simp[Dy,j,h3]
    simp[G9,j,q]
   refine .inr ⟨e',u,?_,by simpa[G9,j]using h2,by simpa[G9,j]using h3,?_,z,?_⟩
   ·simp[Instr.findNow,h.1,hs,j,h1,G9];omega
   ·simp[DF,j,q]
   simp[Dy,j,I,G9]
def aS7 (k:K)(v:V):∀m:AA (K×V),(Dy m k v)[G9 m k]? =some (k,v)
 | []=>rfl
 |p::m=>by
  cases j:(k==p.1)with
  |true=>simp[Dy,G9,j]
  |false=>simp[Dy,G9,j,aS7 k v m]
def aWg (k:K)(v u:V):∀m:AA (K×V),(Dy m k v).set (G9 m k) (k,u)=Dy m k u
 | []=>rfl
 |p::m=>by
  cases j:(k==p.1)with
  |true=>simp[Dy,G9,j]
  |false=>simp[Dy,G9,j,aWg k v u m]
end
section
variable {es:AA (BD×D)}
def SN.nil:SN #[] 0:=⟨rfl,λi e h=>IV⟩
def SN.push (h:SN ms clock){k v:BD}:SN (ms.push { key:=k,val:=v,born:=clock }) (clock+1):=by
 refine⟨by simp[h.1],λi e j=>?_⟩;rw[jd]at j;split at j
 ·rename_i q;obtain rfl:=Dv j;rw[q];exact h.1
 exact h.2 i e j
def SN.modify (h:SN ms clock)(j:Nat)(f:MapEntry->MapEntry)(u:∀e,(f e).born=e.born):SN (ms.modify j f) clock:=by
 refine⟨by simp[h.1],λi e q=>?_⟩;rw[YE]at q;split at q
 ·rw[ay]at q;obtain⟨z,h1,rfl⟩:=q;rw[u];exact h.2 i z h1
 exact h.2 i e q
def SN.find (h:SN ms clock)(q:n<ms.size):ms.findIdx? (λe=>(e.born:Int)==(n:Int))=some n:=by
 rw[Array.findIdx?_eq_some_iff_getElem];refine⟨q,?_,λj u=>?_⟩
 ·have :=h.2 n ms[n] (by simp[q]);simp[this]
 have :=h.2 j ms[j] (by simp[Nat.lt_trans u q]);simp[this];omega
theorem akp (ms:Bg MapEntry)(j:Nat)(k v:BD)(q:∀e,ms[j]? =some e->e.key=k):(ms.modify j λe=>{ e with val:=v })=ms.modify j λe=>{ e with key:=k,val:=v }:=by
 grind
theorem agh (ms:Bg MapEntry)(j:Nat)(k v:BD)(q:∀e,ms[j]? =some e->e.val=v):(ms.modify j λe=>{ e with key:=k })=ms.modify j λe=>{ e with key:=k,val:=v }:=by
 grind
end
variable {j:Bg (Nat×Bz)}{kt vt:Bq}{u y:Bz}{z:BD}
section
variable {P:Ch} {o:Oper} {es:AA Bc} {K V:Type} [BEq K]
def ac6 {q:AA (Nat×Nat)}{cs:AA Ah}(u:Iw P t q z)(vs:AA Ah)(I:KL (λ(i:Nat)=>q[i]?) (Fz z) j.toList vs=cs)(hp:Nw (λ(i:Nat)=>q[i]?) (Fz z).length j.toList vs=true)(J:o.op=.build t j:=by exact rfl):
 CB P o (OA j.toList vs) es (.ag cs) es:=I▸akt u vs hp J
def XT (x y:Int):Int:=bif y>x then y else x
def aYA {ats:Bg Bq}{kd:IntKind}{a b:Int}(q:o.op=.call { callee:=.builtin .max,args:= #[x,y],argTypes:=ats }:=by exact rfl):
 CB P o [(x,.d (.lit (.int kd a))),(y,.d (.lit (.int kd b)))] es (.d (.lit (.int kd (XT a b)))) es:=
 .pure λok H c w _ _ j=>by
  have h1:=(FC j).1.lit;have h2:=(FC j).2.lit;simp only at h1 h2;have e:XT a b=if b>a then b else a:=by unfold XT;by_cases h:b>a<;>simp[h]
  refine⟨.int kd (XT a b),?_,.d _ _ (.lit _)⟩;rw[e];simp[execOp,q,resolve,invoke,builtin,h1,h2,Go.run_max_int2]
def aCI (u:o.op=.makeMap t none:=by exact rfl):CB P o [] es (.mp es.length) (es++[.fG []]):=
 .eff λC ok H a w hm J=>by
  have q:FQ ok (w.alloc (.map #[] 0)) (H++[⟨.map (some w.heap.size),0⟩]) ⟨.map (some w.heap.size),0⟩ (.fG []):=
   ⟨w.heap.size, #[],0,rfl,(aDp w _).1,⟨rfl,λi e m z=>Sub,λi j m n _ hm=>by simp at hm⟩,.nil⟩
  obtain⟨h2,h3⟩:=hm.push (.map #[] 0) ⟨.map (some w.heap.size),0⟩ _ (λb q=>aD8) q;refine⟨.map (some w.heap.size),_,ok,_,.inl ?_,h3,Gy _ _,h2,.mp _ _ 0 rfl PS⟩;have I:(newObj (.map #[] 0)).run P w=.ok w.heap.size (w.alloc (.map #[] 0)):=rfl;simp[execOp,u,Instr.makeMap,I]
def mF {ek:K->BD}(ev:V->D)(M:V){m:AA (K×V)}{key:K}(Z:P.underlying t=some (.map J L))(hk:KeyTy P J ek)(hz:(P.info? L).bind (·.zero)=some z)(q:Ym z=ev M)(u:z.cells.all (·.oneCell')=true)(he:es[k]? =some (.fG (m.map (CQ ek ev))))(ho:o.op=.lookup t x y false:=by exact rfl):CB P o [(x,.mp k),(y,.d (.lit (ek key)))] es (.d (ev ((DF m key).getD M))) es:=
 .pure λok H a w j hl O=>by
  obtain⟨hd,hh,I⟩:=Gp j hl he;obtain⟨b,ms,clock,h1,h2,h3,_⟩:=I;have U:=SE (FC O).1 hh;have Y:=(FC O).2.lit;simp only at U Y;obtain⟨v,hr,hv⟩:=a2M (key:=key) ev Z hk hz q u h2 h3 false;refine⟨v,?_,.d _ _ hv⟩;simp[execOp,ho,U,Y,h1,hr]
def abQ {ek:K->BD}(ev:V->D)(M:V){m:AA (K×V)}{key:K}(Z:P.underlying t=some (.map J L))(hk:KeyTy P J ek)(hz:(P.info? L).bind (·.zero)=some z)(q:Ym z=ev M)(u:z.cells.all (·.oneCell')=true)(he:es[k]? =some (.fG (m.map (CQ ek ev))))(ho:o.op=.lookup t x y true:=by exact rfl):CB P o [(x,.mp k),(y,.d (.lit (ek key)))] es (.eG [.d (ev ((DF m key).getD M)),.d (Dt (DF m key).isSome)]) es:=
 .pure λok H a w j hl O=>by
  obtain⟨hd,hh,I⟩:=Gp j hl he;obtain⟨b,ms,clock,h1,h2,h3,_⟩:=I;have U:=SE (FC O).1 hh;have Y:=(FC O).2.lit;simp only at U Y;obtain⟨v,hr,hv⟩:=a2M (key:=key) ev Z hk hz q u h2 h3 true;refine⟨.tuple #[v,.bool (DF m key).isSome],?_,.eG _ _ rfl λi hi=>?_⟩
  ·simp[execOp,ho,U,Y,h1,hr]
  match i,hi with
  |0,_=>exact .d _ _ hv
  |1,_=>exact .d _ _ (.lit _)
def rG (hm:Dq C ok H es w){es0 u:AA (BD×D)}{j:Nat}{q:Bg MapEntry}(J:es[k]? =some (.fG es0))(L:H[k]? =some hd)(z:hd.v=.map (some b))(I:w.heap[b]? =some (.map ms clock))(M:Jl ok w u q j)(O:SN q j):(setObj b (.map q j)).run P w=.ok () (w.putObj b (.map q j))/\Dq C ok H (es.set k (.fG u)) (w.putObj b (.map q j))/\F9 ok w ok (w.putObj b (.map q j)):=by
 refine⟨by simp[setObj,Sem.run,I,World.putObj],hm.al8 J rfl L uS λU=>⟨b,q,j,z,Xg (IJ.1 I).1,M.mono U,O⟩⟩
def ael {ek:K->BD}(ev:V->D){m:AA (K×V)}{key:K}{val:V}(ht:P.underlying t=some (.map kt vt))(J:KeyTy P kt ek)(L:es[k]? =some (.fG (m.map (CQ ek ev))))(ho:o.op=.mapUpdate t x y u:=by exact rfl):
 CB P o [(x,.mp k),(y,.d (.lit (ek key))),(u,.d (ev val))] es .junk (es.set k (.fG ((Dy m key val).map (CQ ek ev)))):=
 .eff λC ok H a w hm M=>by
  obtain⟨hd,O,U⟩:=Gp hm.ent hm.hlen L;obtain⟨b,ms,clock,h1,h2,h3,h4⟩:=U;have Y:=SE (M (x,.mp k) BU) O;have Z:=(M (y,.d (.lit (ek key))) BU).lit;have hu:EF ok w (ev val) (a.eval u):=by have :=M (u,.d (ev val)) BU;cases this with |d _ _ h=>exact h
  simp only at Y Z;obtain⟨kd,q,hs⟩:=J.same;have hks:ms.toList.map (·.key)=m.map (λp=>ek p.1):=a4y
  have z:=J.check;rcases aA4 (i:=0) hs key val m ms.toList hks with⟨q1,_,q3⟩|⟨j,e,p,q1,q2,q3,_,q5,q6⟩
  ·have hM:=h3.push (k:=ek key) hu;obtain⟨r1,r2,r3⟩:=rG (P:=P) hm L O h1 h2 hM h4.push;refine⟨undef,_,ok,H,.inr ⟨rfl,?_⟩,r3,.refl _,?_,.junk _⟩
   ·simp[execOp,ho,Y,Z,h1,Instr.mapUpdate,underlying,ht,QU h2,z,Instr.findKey,q,q1,r1]
   rw[q3,J8];exact r2
  have hM:=h3.modify (k:=ek key) hu j;obtain⟨r1,r2,r3⟩:=rG (P:=P) hm L O h1 h2 hM (h4.modify j _ λ_=>rfl)
  have I:e.key=ek key:=by
   have h5:(m.map (CQ ek ev))[j]? =some (CQ ek ev p):=by rw[Jr,q3];rfl
   rw[(h3.ent j _ e h5 pY).1,J.eq _ _ q5];rfl
  have hst:∀w,(Instr.keyThatStays (ek key) (ek key)).run P w=.ok (ek key) w:=λw=>by simp[Instr.keyThatStays,J.bits]
  have hms:ms[j]? =some e:=pY
  refine⟨undef,_,ok,H,.inr ⟨rfl,?_⟩,r3,.refl _,?_,.junk _⟩
  ·simp[execOp,ho,Y,Z,h1,Instr.mapUpdate,underlying,ht,QU h2,z,Instr.findKey,q,q1,hms,I,hst,r1]
  rw[q6,a1D];exact r2
theorem aI6 {ek:K->BD}(ev:V->D)(J:V){m:AA (K×V)}{key:K}(ht:P.underlying t=some (.map kt vt))(hk:KeyTy P kt ek)(hz:(P.info? vt).bind (·.zero)=some z)(hzv:Ym z=ev J)(hzl:z.cells.all (·.oneCell')=true)(he:es[k]? =some (.fG (m.map (CQ ek ev))))(ho:o.op=.mapEntry t x y:=by exact rfl):
 CB P o [(x,.mp k),(y,.d (.lit (ek key)))] es (.eG [.d (ev ((DF m key).getD J)),.d (Ad (G9 m key:Nat))]) (es.set k (.fG ((Dy m key ((DF m key).getD J)).map (CQ ek ev)))):=
 .eff λC ok H a w hm hn=>by
  obtain⟨hd,hh,hok⟩:=Gp hm.ent hm.hlen he;obtain⟨b,ms,clock,h1,h2,h3,h4⟩:=hok;have hx:=SE (FC hn).1 hh;have hy:=(FC hn).2.lit;simp only at hx hy;obtain⟨kd,L,hs⟩:=hk.same;have hks:ms.toList.map (·.key)=m.map (λp=>ek p.1):=a4y
  have M:=hk.check;have hml:ms.size=m.length:=by have :=h3.len;simpa using this
  obtain⟨i0,hi0,hz'⟩:=mY.1 hz;rcases aOm (i:=0) hs key ((DF m key).getD J) m ms.toList hks with⟨q1,q2,q3,q4⟩|⟨e,p,q1,q2,q3,q4,q5,q6⟩
  ·have O:EF ok w (ev ((DF m key).getD J)) z:=by
    rw[q2];have :=aX9 (ok:=ok) (w:=w) hzl
    grind
   have hM:=h3.push (k:=ek key) O;obtain⟨r1,r2,U⟩:=rG (P:=P) hm he hh h1 h2 hM h4.push;refine⟨.tuple #[z,goInt clock],_,ok,H,.inl ?_,U,.refl _,?_,.eG _ _ rfl λi hi=>?_⟩
   ·simp[execOp,ho,hx,hy,h1,Instr.mapEntry,underlying,ht,QU h2,M,Instr.findKey,L,q1,r1,zeroValue,typeInfo,hi0,hz']
   ·rw[q3,J8];exact r2
   match i,hi with
   |0,_=>
    have u:=O.mono U;exact .d _ _ u
   |1,_=>
    have :goInt (clock:Nat)=.int .i64 (G9 m key:Nat):=by rw[q4,←hml,←h4.1];rfl
    show R ok _ H (.d (Ad (G9 m key:Nat))) (goInt clock);rw[this];exact .d _ _ (.lit _)
  have h5:(m.map (CQ ek ev))[G9 m key]? =some (CQ ek ev p):=by rw[Jr,q3];rfl
  have j:ms[G9 m key]? =some e:=pY
  have q:=h3.ent _ _ e h5 j;have O:EF ok w (ev ((DF m key).getD J)) e.val:=by rw[q4];exact q.2.1
  have hM:=h3.modify (k:=ek key) O (G9 m key);have hmk:=agh ms (G9 m key) (ek key) e.val (λe' Y=>by rw[j]at Y;rw[←Dv Y]);rw[←hmk]at hM;have Z:e.key=ek key:=by rw[q.1,hk.eq _ _ q5];rfl
  obtain⟨r1,r2,U⟩:=rG (P:=P) hm he hh h1 h2 hM (h4.modify _ _ λ_=>rfl);have hst:∀w,(Instr.keyThatStays (ek key) (ek key)).run P w=.ok (ek key) w:=λw=>by simp[Instr.keyThatStays,hk.bits]
  have I:e.born=G9 m key:=h4.2 _ e j;refine⟨.tuple #[e.val,goInt (G9 m key:Nat)],_,ok,H,.inl ?_,U,.refl _,?_,.eG _ _ rfl λi hi=>?_⟩
  ·simp[execOp,ho,hx,hy,h1,Instr.mapEntry,underlying,ht,QU h2,M,Instr.findKey,L,q1,j,Z,hst,r1,I]
  ·rw[q6,a1D];exact r2
  match i,hi with
  |0,_=>
   have u:=O.mono U;exact .d _ _ u
  |1,_=>
   exact .d _ _ (.lit _)
theorem aLL {s:Bz}{ek:K->BD}(ev:V->D){m:AA (K×V)}{key:K}{z0 val:V}(hk:KeyTy P kt ek)(U:es[k]? =some (.fG ((Dy m key z0).map (CQ ek ev))))(ho:o.op=.entryStore t x s u:=by exact rfl):
 CB P o [(x,.mp k),(s,.d (Ad (G9 m key:Nat))),(u,.d (ev val))] es .junk (es.set k (.fG ((Dy m key val).map (CQ ek ev)))):=
 .eff λC ok H a w hm L=>by
  obtain⟨hd,Y,M⟩:=Gp hm.ent hm.hlen U;obtain⟨b,ms,clock,h1,h2,h3,Z⟩:=M;have hx:=SE (L (x,.mp k) BU) Y;have hy:a.eval s=.int .i64 (G9 m key:Nat):=(L (s,.d (Ad (G9 m key:Nat))) BU).lit;have hu:EF ok w (ev val) (a.eval u):=by have :=L (u,.d (ev val)) BU;cases this with |d _ _ h=>exact h
  simp only at hx;have j:=aS7 key z0 m;have h5:((Dy m key z0).map (CQ ek ev))[G9 m key]? =some (CQ ek ev (key,z0)):=by rw[Jr,j];rfl
  have q:G9 m key<ms.size:=by
   have h6:=(Gs.1 j).1;have :=h3.len
   grind
  have z:ms[G9 m key]? =some ms[G9 m key]:=by simp[q]
  have I:=h3.ent _ _ _ h5 z;have hM:=h3.modify (k:=ek key) hu (G9 m key);have O:=akp ms (G9 m key) (ek key) (a.eval u) (λe' J=>by rw[z]at J;rw[←Dv J];exact I.1);rw[←O]at hM;obtain⟨r1,r2,r3⟩:=rG (P:=P) hm U Y h1 h2 hM (Z.modify _ _ λ_=>rfl);refine⟨undef,_,ok,H,.inr ⟨rfl,?_⟩,r3,.refl _,?_,.junk _⟩
  ·simp[execOp,ho,hx,hy,h1,Instr.entryStore,QU h2,asInt,asIntOf,Z.find q,r1]
  have e1:((Dy m key z0).map (CQ ek ev)).set (G9 m key) (ek key,ev val)=(Dy m key val).map (CQ ek ev):=by
   rw[←aWg key z0 val m,a1D];rfl
  rw[←e1];exact r2
end
variable {b:AV}{u v z:A}
section
variable {c:Bz}{x y:Code}
def DX (h:(cond b u v)=z)(j:u=z->Bh P x σ Q)(q:v=z->Bh P y σ Q)(I:σ.get c=.d (.lit (.bool b)):=by kernel_rfl):Bh P (.cond c x y) σ Q:=
 Bh.cond b I (λe=>j (Oy e h)) (λe=>q (Oe e h))
def Bl (h:(cond b u v)=z)(j:u=z->Q .normal σ)(q:v=z->Bh P y σ Q)(I:σ.get c=.d (.lit (.bool b)):=by kernel_rfl):Bh P (.cond c .skip y) σ Q:=DX h (λe=>Ew (j e)) q I
def BG (h:(cond b u v)=z)(j:u=z->Bh P x σ Q)(q:v=z->Q .normal σ)(I:σ.get c=.d (.lit (.bool b)):=by kernel_rfl):Bh P (.cond c x .skip) σ Q:=DX h j (λe=>Ew (q e)) I
end
variable {K:Exit->BP->Prop}
section
variable {σ':BP}{ns:AA (Bz×Ah)}{x:Ah}{es':AA Bc}
def Dj.f (h:CB P o ns σ.ents x es')(k:Dj P ops rest (σ.put o.dst x es') K)(j:(ns.map λn=>σ.get n.1)=ns.map (·.2):=by kernel_rfl)(q:Ju ops σ o.guard=some true:=by kernel_rfl)(u:(OG ns).all (tmpsOf o).contains=true:=by kernel_rfl):Dj P ops (o::rest) σ K:=Dj.e es' h k rfl j q u
def FT.f {rs:AA Ah}{ess:AA (AA Bc)}{bs:AA AV}(h:CB P o ns σ.ents x es')(k:FT P ops rest (σ.put o.dst x es') rs ess bs σ')(j:(ns.map λn=>σ.get n.1)=ns.map (·.2):=by kernel_rfl)(q:Ju ops σ o.guard=some true:=by kernel_rfl)(u:(OG ns).all (tmpsOf o).contains=true:=by kernel_rfl):FT P ops (o::rest) σ (x::rs) (es'::ess) (true::bs) σ':=FT.e es' h k rfl j q u
end
theorem ZR (h:(cond b u v)=z):(b=true/\u=z)\/(b=false/\v=z):=by
 grind
def CP {a b:A}(h:some a=some b):a=b:=Dv h
variable {γ:Type}{x:AB α}{y:α->AB β}{z:γ}
theorem er {f:α->β->AB γ}(h:(x.bind λa=>(y a).bind (f a))=some z):∃a,x=some a/\∃b,y a=some b/\f a b=some z:=by
 obtain⟨a,h1,h⟩:=Dn h;obtain⟨b,h2,h⟩:=Dn h
 grind
variable {δ:Type}{w:α->β->AB δ}
theorem a4o {f:α->β->δ->AB γ}(h:(x.bind λa=>(y a).bind λb=>(w a b).bind (f a b))=some z):∃a,x=some a/\∃b,y a=some b/\∃d,w a b=some d/\f a b d=some z:=by
 obtain⟨a,h1,b,h2,h⟩:=er h;obtain⟨d,h3,h⟩:=Dn h
 grind
variable {G:Prop}
def AO {f:α->AB β}{z:β}(h:x.bind f=some z)(k:∀a,x=some a->f a=some z->G):G:=by
 obtain⟨a,h1,h⟩:=Dn h;exact k a h1 h
def Bo {f:α->β->AB γ}(h:(x.bind λa=>(y a).bind (f a))=some z)(k:∀a,x=some a->∀b,y a=some b->f a b=some z->G):G:=by
 obtain⟨a,h1,b,h2,h⟩:=er h;exact k a h1 b h2 h
theorem Gt {f:α->β->δ->AB γ}(h:(x.bind λa=>(y a).bind λb=>(w a b).bind (f a b))=some z)(k:∀a,x=some a->∀b,y a=some b->∀d,w a b=some d->f a b d=some z->G):G:=by
 obtain⟨a,h1,b,h2,d,h3,h⟩:=a4o h
 grind
variable {len q size:Nat}{x y:Bz}{z:BD}
def aXN {P:Ch}(T:Kn P)(t n:Nat):AV:=match Oa t T.sl with
 |some e=>match Oa e T.ty with
  |some (_,m)=>Nat.beq m n
  |none=>false
 |none=>false
def BF [T:Kn P]{i:Int}(enc:α->D){l:AA α}{a:α}(h:Aj l i=some a)(j:o.op=.indexAddr t x y:=by exact rfl)(hs:aXN T t (enc a).cells.length=true:=by kernel_rfl):
 CB P o [(x,.d (BQ enc l)),(y,.d (.lit (.int .i64 i)))] es (.d (.ref (enc a).cells 0)) es:=by
 unfold aXN at hs;split at hs
 ·rename_i e h1;split at hs
  ·rename_i agg m h2;exact ZF enc h (T.hsl.mem _ (MH h1)) (T.hty.mem _ (MH h2)) (a1N hs).symm j
  cases hs
 cases hs
def BJ [T:Kn P](enc:α->D)(l:AA α)(j:o.op=.call { callee:=.builtin .len,args:= #[x],argTypes:= #[t] }:=by exact rfl)(q:(Oa t T.sl).isSome=true:=by kernel_rfl):
 CB P o [(x,.d (BQ enc l))] es (.d (Ad l.length)) es:=by
 obtain⟨e,h1⟩:=Qi.1 q;exact aXj enc l (T.hsl.mem _ (MH h1)) j
def Dx {e:Bq}(hE:G6 P t e size q)(J:(P.info? e).bind (·.zero)=some z)(ys:AA D)(L:o.op=.buildSlice t len j:=by exact rfl)(h1:z.cells.all (·.oneCell')=true:=by kernel_rfl)(u:z.cells.size=size:=by kernel_rfl)(hlen:Nat.ble (len*size) 16777216=true:=by kernel_rfl)(hp:Nw (λi=>some (i*size,size)) (len*size) j.toList (ys.map .d)=true:=by kernel_rfl)(M:KL (λi=>some (i*size,size)) (RU z (len*size)) j.toList (ys.map .d)=flat ys:=by kernel_rfl)(hl:ys.length=len:=by kernel_rfl)(I:ys.all (λy=>y.cells.length=size)=true:=by kernel_rfl):
 CB P o (OA j.toList (ys.map .d)) es (.d (.sl ys)) es:=aIA hE J h1 u (Dl hlen) (ys.map .d) ys hp M hl I L
def GY {e:Bq}(hE:G6 P t e size q)(J:(P.info? e).bind (·.zero)=some z)(ys:AA D)(L:o.op=.buildSlice t len j:=by exact rfl)(h1:z.cells.all (·.oneCell')=true:=by kernel_rfl)(u:z.cells.size=size:=by kernel_rfl)(hlen:Nat.ble (len*size) 16777216=true:=by kernel_rfl)(hp:Nw (λi=>some (i*size,size)) (len*size) j.toList (ys.map .d)=true:=by kernel_rfl)(M:KL (λi=>some (i*size,size)) (RU z (len*size)) j.toList (ys.map .d)=flat ys:=by kernel_rfl)(hl:ys.length=len:=by kernel_rfl)(I:ys.all (λy=>y.cells.length=size)=true:=by kernel_rfl):
 CB P o (OA j.toList (ys.map .d)) es (.aQ es.length) (es++[.arr e size ys]):=aEG hE J h1 u (Dl hlen) (ys.map .d) ys hp M hl I L
def Dj.aM [T:Kn P]{M:BP->Prop}(n:Nat)(k:M (Nh (GI T ops n l σ)))(hl:l.length=n:=by kernel_rfl)(h:(GI T ops n l σ).isSome=true:=by kernel_rfl):Dj P ops l σ (JG M K):=
 .a n (by rw[a3X (P6 hl)];exact .aU k) h
theorem EI {z:A}(h:(cond b u v)=z)(j:b=true->u=z->G)(k2:b=false->v=z->G):G:=by
 grind
section
variable {S:BP}
def Dj.aN [T:Kn P](k:K .normal (Nh (GI T ops l.length l σ)))(h:(GI T ops l.length l σ).isSome=true:=by kernel_rfl):Dj P ops l σ K:=.a l.length (by rw[Ox];exact .nil k) h
def DI [T:Kn P]{id:Nat}(k:K .normal (Nh (GI T ops ops.toList.length ops.toList σ)))(h:(GI T ops ops.toList.length ops.toList σ).isSome=true:=by kernel_rfl):Bh P (.region id ops false) σ K:=CS (Dj.aN k h)
def aPP :Ah->AV
 | .junk=>false
 |_=>true
def Ae (π:AA (Nat×AV))(h1:Vw σ.base σ.ents π=true:=by kernel_rfl)(h2:S=⟨Lr π (S.slots.map aPP) σ.slots,SS σ.ents π,σ.base⟩:=by kernel_rfl):CO σ S:=aYU (S.slots.map aPP) π h1 h2
end
section
variable {f:FuncId}{fn:Func}{c:Code}{ε:Type}
def EW.h1 (j:P.funcs[f]? =some fn) (q:fn.body=some c) (F:α->AB ε) (a:α->Ah) (R:ε->Ah) (k:∀x r,F x=some r->Bh P c (.enter [a x] fn.ntmps []) (bC P fn (R r) [])) ⦃x:α⦄ ⦃r:ε⦄ (h:F x=some r):EW P f [a x] [] (R r) []:=.dO j q (k x r h)
def Dc:=@EW.h1
def EW.h2 (j:P.funcs[f]? =some fn) (q:fn.body=some c) (F:α->β->AB ε) (a:α->Ah) (b:β->Ah) (R:ε->Ah) (k:∀x y r,F x y=some r->Bh P c (.enter [a x,b y] fn.ntmps []) (bC P fn (R r) [])) ⦃x:α⦄ ⦃y:β⦄ ⦃r:ε⦄ (h:F x y=some r):EW P f [a x,b y] [] (R r) []:=.dO j q (k x y r h)
def DR:=@EW.h2
def EW.h3 (j:P.funcs[f]? =some fn) (q:fn.body=some c) (F:α->β->γ->AB ε) (a:α->Ah) (b:β->Ah) (d:γ->Ah) (R:ε->Ah) (k:∀x y z r,F x y z=some r->Bh P c (.enter [a x,b y,d z] fn.ntmps []) (bC P fn (R r) [])) ⦃x:α⦄ ⦃y:β⦄ ⦃z:γ⦄ ⦃r:ε⦄ (h:F x y z=some r):EW P f [a x,b y,d z] [] (R r) []:=.dO j q (k x y z r h)
def MR:=@EW.h3
def EW.o1 (j:P.funcs[f]? =some fn) (q:fn.body=some c) (F:α->AB ε) (a:α->Ah) (R:ε->Bc) (k:∀x r,F x=some r->Bh P c (.enter [a x] fn.ntmps []) (bC P fn (.aQ 0) [R r])) ⦃x:α⦄ ⦃r:ε⦄ (h:F x=some r):EW P f [a x] [] (.aQ 0) [R r]:=.dO j q (k x r h)
def Jv:=@EW.o1
def EW.o2 (j:P.funcs[f]? =some fn) (q:fn.body=some c) (F:α->β->AB ε) (a:α->Ah) (b:β->Ah) (R:ε->Bc) (k:∀x y r,F x y=some r->Bh P c (.enter [a x,b y] fn.ntmps []) (bC P fn (.aQ 0) [R r])) ⦃x:α⦄ ⦃y:β⦄ ⦃r:ε⦄ (h:F x y=some r):EW P f [a x,b y] [] (.aQ 0) [R r]:=.dO j q (k x y r h)
def G8:=@EW.o2
end
def aYx (o:AB A)(f:A->Ah):Ah:=match o with
 |none=>.d (.lit (.pointer none))
 |some a=>f a
def ae5 (o:AB A)(f:A->AA Bc):AA Bc:=match o with
 |none=>[]
 |some a=>f a
variable {B:Type}
def kD (o:AB A)(x:AB B)(f:A->AB B):AB B:=match o with
 |none=>x
 |some a=>f a
variable {z:AB B}
def a4v {x:AB B}{f:A->AB B}(h:kD none x f=z):x=z:=h
def a2h {x:AB B}{a:A}{f:A->AB B}(h:kD (some a) x f=z):f a=z:=h
variable {t':Bq}
def aAJ {off:Nat}(q:P.underlying t=some (.pointer (P.pointee t)))(z:o.op=.binOp .eql t x y t':=by exact rfl):CB P o [(x,.ptr k off),(y,.d (.lit (.pointer none)))] es (.d (Dt false)) es:=
 .pure λ_ _ a w _ _ j=>⟨.bool false,by
  have h1:=(FC j).1;have h2:=(FC j).2.lit;simp only at h1 h2;generalize I:a.eval x=u at h1;cases h1 with
  |ptr _ _ b s L=>
   have J:(eqGuard .eql t x y (Value.pointer (some ⟨b,off,none⟩)) (.pointer none)).run P w=.ok () w:=by
    unfold eqGuard;simp[pure,Sem.run_pure']
   simp only[execOp,z,I,h2,Fg,J,Fv,run_eql_pointer_nil w t _ q,Gl]
   rfl,.d _ _ (.lit _)⟩
def a1J (q:P.underlying t=some (.pointer (P.pointee t)))(u:o.op=.binOp .eql t x y t':=by exact rfl):CB P o [(x,.d (.lit (.pointer none))),(y,.d (.lit (.pointer none)))] es (.d (Dt true)) es:=
 .pure λ_ _ a w _ _ j=>⟨.bool true,by
  have h1:=(FC j).1.lit;have h2:=(FC j).2.lit;simp only at h1 h2
  have z:(eqGuard .eql t x y (Value.pointer none) (.pointer none)).run P w=.ok () w:=by
   unfold eqGuard;simp[pure,Sem.run_pure']
  simp only[execOp,u,h1,h2,Fg,z,Fv,run_eql_pointer_nil w t _ q,Gl]
  rfl,.d _ _ (.lit _)⟩
def aK9 :AA ResultVar->AV
 | []=>true
 | .tmp _::rs=>aK9 rs
 |_::_=>false
def aA7 (σ:BP):AA ResultVar->AA Ah
 | []=>[]
 | .tmp t::rs=>σ.slots.getD t .junk::aA7 σ rs
 |_::rs=>.junk::aA7 σ rs
def aS0 {P:Ch}{σ:BP}:∀{rs:AA ResultVar},aK9 rs=true->YR P σ rs (aA7 σ rs)
 | [],_=>trivial
 | .tmp _::_,h=>⟨rfl,aS0 h⟩
def Ei {rs:AA ResultVar}{j:Ah}{E':AA Bc}(π:AA (Nat×AV))(ha:aK9 rs=true:=by kernel_rfl)(q:Vw σ.base σ.ents π=true:=by kernel_rfl)(u:j=(nK (aA7 σ rs)).back π:=by kernel_rfl)(z:E'=SS σ.ents π:=by kernel_rfl):
 ∃xs π,YR P σ rs xs/\Vw σ.base σ.ents π=true/\j=(nK xs).back π/\E'=SS σ.ents π:=⟨_,π,aS0 ha,q,u,z⟩
def abf (o:Oper):Nat:=o.after.toList.foldl (λm e=>bif Region.binds .any e then Nat.lor m (2^e.on)else m) 0
def aio (o:Oper):AV:=match o.op with
 | .alloc _=>true
 | .box .. =>true
 |_=>false
def aUy :AA Oper->Nat->AA (Nat×Nat×AV)
 | [],_=>[]
 |o::l,i=>(2^i,abf o,aio o)::aUy l (i+1)
def aT9 (m a:Nat):AA (Nat×Nat)->Nat->AB Nat
 | [],_=>none
 |s::S,j=>bif Nat.beq s.1 m&&Nat.beq s.2 a then some j else aT9 m a S (j+1)
def a5V (m a k:Nat):AA (Nat×Nat×AV)->Nat->AA (Nat×Nat)->AA (Nat×Nat×Nat)->AA (Nat×Nat)×AA (Nat×Nat×Nat)
 | [],_,S,T=>(S,T)
 |(b,e,w)::l,i,S,T=>bif Nat.beq (Nat.land m b) 0&&Nat.beq (Nat.land m e) e then
    (match aT9 (m+b) (cond w (64*a+i+1) a) S 0 with
    |some j=>a5V m a k l (i+1) S ((k,i,j)::T)
    |none=>a5V m a k l (i+1) (S++[(m+b,bif w then 64*a+i+1 else a)]) ((k,i,S.length)::T))
  else a5V m a k l (i+1) S T
def aVg (E:AA (Nat×Nat×AV)):Nat->Nat->AA (Nat×Nat)->AA (Nat×Nat×Nat)->AA (Nat×Nat×Nat)
 |0,_,_,T=>T.reverse
 |n+1,k,S,T=>match S[k]? with
  |some (m,a)=>match a5V m a k E 0 S T with
   |(S,T)=>aVg E n (k+1) S T
  |none=>T.reverse
def V3 (ops:Bg Oper):AA (Nat×Nat×Nat):=aVg (aUy ops.toList 0) 2000 0 [(0,0)] []
def aE2 :AA (Nat×Nat×Nat)->AA (AA Nat)->Nat->AA (AA Nat)
 | [],N,_=>N
 |t::Tr,N,n=>bif Nat.beq t.2.2 n then aE2 Tr (N++[t.2.1::N.getD t.1 []]) (n+1)else aE2 Tr N n
def PN (ops:Bg Oper):AA (AA Nat):=aE2 (V3 ops) [[]] 1
section
variable {P:Ch} [T:Kn P] {id:Nat} {ops:Bg Oper} {σ:BP} {Q:Exit->BP->Prop} {y:Code}
def Bh.aHO (L:AA (LK P))(j:Nat)(q:Q .normal (Jm T L ops σ ((PN ops).getD j [])))(hm:P.follows .mixedOrders=true:=by kernel_rfl)(u:gq ops (PN ops) (V3 ops) [j]=true:=by kernel_rfl)(z:((V3 ops).map λt=>U3 T L ops (Jm T L ops σ ((PN ops).getD t.1 [])) t.2.1)=(V3 ops).map λt=>some (Jm T L ops σ ((PN ops).getD t.2.2 []),V5 L t.2.1):=by kernel_rfl)(I:(PN ops).getD 0 [0]=[]:=by kernel_rfl):Bh P (.region id ops true) σ Q:=
 Bh.node1 L _ _ j q hm u I z
def dM (L:AA (LK P))(j:Nat)(q:Bh P y (Jm T L ops σ ((PN ops).getD j [])) Q)(hm:P.follows .mixedOrders=true:=by kernel_rfl)(u:gq ops (PN ops) (V3 ops) [j]=true:=by kernel_rfl)(z:((V3 ops).map λt=>U3 T L ops (Jm T L ops σ ((PN ops).getD t.1 [])) t.2.1)=(V3 ops).map λt=>some (Jm T L ops σ ((PN ops).getD t.2.2 []),V5 L t.2.1):=by kernel_rfl)(I:(PN ops).getD 0 [0]=[]:=by kernel_rfl):Bh P (.seq (.region id ops true) y) σ Q:=
 Bh.aJi L _ _ j q hm u I z
def Fn2 (L:AA (LK P))(F:AA Nat)(j:BP)(q:QT (λk=>vI (Jm T L ops σ ((PN ops).getD k [])) j) F)(u:Bh P y j Q)(hm:P.follows .mixedOrders=true:=by kernel_rfl)(z:gq ops (PN ops) (V3 ops) F=true:=by kernel_rfl)(I:((V3 ops).map λt=>U3 T L ops (Jm T L ops σ ((PN ops).getD t.1 [])) t.2.1)=(V3 ops).map λt=>some (Jm T L ops σ ((PN ops).getD t.2.2 []),V5 L t.2.1):=by kernel_rfl)(J:(PN ops).getD 0 [0]=[]:=by kernel_rfl):Bh P (.seq (.region id ops true) y) σ Q:=
 Bh.aJj L _ _ F j q u hm z J I
end
end Go.Proofs.YtfmoknlmaldmlaaGreat
namespace Go
open Go.Proofs.YtfmoknlmaldmlaaGreat
variable {P:Ch}
def a2H (w:BX)(U Y ty q:Bq)(b o u I:Nat)(a:Addr)(z J k n:Nat)(cs:AA BD)(Z:P.underlying U=some (.slice q))(hs:(P.info? q).map (·.size)=some k)(hn:n=Nat.min z u)(hl:cs.length=n*k)(L:∀j v,cs[j]? =some v->w.cell? (a.add j)=some v)(hc:∀j,j<cs.length->(w.cell? ⟨b,o+j,none⟩).isSome=true)(hf:∀j,j<cs.length->w.frozen? ⟨b,o+j,none⟩=false)(h1:∀v∈cs,v.oneCell'=true):
 (Builtin.copy_ #[U,Y] ty #[.slice (some ⟨b,o,none⟩) u I,.slice (some a) z J]).run P w=.ok (goInt n) (w.setCells b o cs):=by
 have M:=aUP (P:=P) w a cs L;have hst:=run_storeCells_cells (P:=P) b o cs 0 w (by simpa using hc) (by simpa using hf) h1;rw[hl]at M;cases O:P.info? q with
 |none=>simp[O]at hs
 |some i=>
  have hi:i.size=k:=by simpa[O]using hs
  simp[Builtin.copy_,aAT Z,Builtin.lenOf,Builtin.firstCells,sizeOf,typeInfo,O,hi,←hn,M,hst]
end Go
namespace Go.Proofs.YtfmoknlmaldmlaaGreat
open Go.Proofs.Tryz
open Go.Shelf Go.RowKit Go.Lib
variable {es:AA Bc}{k:Nat}{ok:Nat->Prop}{w:BX}
section
variable {K V:Type} [BEq K]
def aS4 {α β:Type}(f:α->β):∀(l:AA α) (j:Nat),(l.map f).eraseIdx j=(l.eraseIdx j).map f
 | [],_=>rfl
 |_::_,0=>rfl
 |x::l,j+1=>Au (f x:: ·) (aS4 f l j)
def KP :AA (K×V)->K->AA (K×V)
 | [],_=>[]
 |p::l,k=>bif k==p.1 then l else p::KP l k
def aQg {ek:K->BD}{kd:TypeDesc}(hs:∀a b,Instr.sameNow kd (ek a) (ek b)=some (a==b))(k:K):∀(m:AA (K×V)) (l:AA MapEntry) (i:Nat),l.map (·.key)=m.map (λp=>ek p.1)->
 (Instr.findNow kd (ek k) l i=some none/\KP m k=m)\/∃(j:Nat) (e:MapEntry),Instr.findNow kd (ek k) l i=some (some (i+j,e.val))/\j<l.length/\KP m k=m.eraseIdx j
 | [],[],_,_=>.inl ⟨rfl,rfl⟩
 | [],_::_,_,h=>IV
 |_::_,[],_,h=>IV
 |p::m,e::l,i,h=>by
  simp only[Gg,aBI]at h;cases q:(k==p.1)with
  |true=>
   refine .inr ⟨0,e,?_,BU,?_⟩
   ·simp[Instr.findNow,h.1,hs,q]
   simp[KP,q]
  |false=>
   rcases aQg hs k m l (i+1) h.2 with⟨h1,h2⟩|⟨j,e',h1,h2,h3⟩
   ·refine .inl ⟨?_,?_⟩
    ·simp[Instr.findNow,h.1,hs,q,h1]
    simp[KP,q,h2]
   refine .inr ⟨j+1,e',?_,LM,?_⟩
   ·simp[Instr.findNow,h.1,hs,q,h1];omega
   simp[KP,q,h3]
def Jl.erase {es:AA (BD×D)}{ms:Bg MapEntry}{clock:Nat}(h:Jl ok w es ms clock){j:Nat}(z:j<ms.size):Jl ok w (es.eraseIdx j) (ms.eraseIdxIfInBounds j) clock:=by
 have hE:ms.eraseIdxIfInBounds j=ms.eraseIdx j z:=by simp[Array.eraseIdxIfInBounds,z]
 have hl:=h.len
 have key:∀(i:Nat) (m:MapEntry),(ms.eraseIdx j z)[i]? =some m->∃q,(∀e,(es.eraseIdx j)[i]? =some e->es[q]? =some e)/\ms[q]? =some m/\q=(if i<j then i else i+1):=λi m hm=>by
  rw[Array.getElem?_eraseIdx]at hm;refine⟨if i<j then i else i+1,λe u=>?_,?_,rfl⟩
  ·rw[List.getElem?_eraseIdx]at u;split at u<;>rename_i c
   ·rw[ES c];exact u
   rw[EZ c];exact u
  split at hm<;>rename_i c
  ·rw[ES c];exact hm
  rw[EZ c];exact hm
 rw[hE];refine⟨by rw[Array.size_eraseIdx,List.length_eraseIdx];split<;>omega,λi e m u hm=>?_,λi k m n I hm J=>?_⟩
 ·obtain⟨q,h1,h2,_⟩:=key i m hm;exact h.ent q e m (h1 e u) h2
 obtain⟨q,_,h2,L⟩:=key i m hm;obtain⟨k',_,M,O⟩:=key k n J;exact h.inc q k' m n (by rw[L,O];split<;>split<;>omega) h2 M
def ady {P:Ch}{o:Oper}{t kt vt u:Bq}{x y:Bz}{ek:K->BD}(ev:V->D){m:AA (K×V)}{key:K}(ht:P.underlying t=some (.map kt vt))(hk:KeyTy P kt ek)(I:es[k]? =some (.map (m.map (CQ ek ev))))(ho:o.op=.call { callee:=.builtin .delete,args:= #[x,y],argTypes:= #[t,u] }:=by exact rfl):
 CB P o [(x,.mp k),(y,.d (.lit (ek key)))] es .junk (es.set k (.map ((KP m key).map (CQ ek ev)))):=
 .eff λC ok H a w hm hn=>by
  obtain⟨hd,J,L⟩:=Gp hm.ent hm.hlen I;obtain⟨b,ms,clock,h1,h2,h3⟩:=L;have M:=SE (hn (x,.mp k) BU) J;have O:=(hn (y,.d (.lit (ek key))) BU).lit;simp only at M O;obtain⟨kd,q,hs⟩:=hk.same;have U:ms.toList.map (·.key)=m.map (λp=>ek p.1):=a4y
  have z:=hk.check;rcases aQg (i:=0) hs key m ms.toList U with⟨Y,Z⟩|⟨j,e,Y,q2,Z⟩
  ·obtain⟨r1,r2,r3⟩:=sB (P:=P) hm I J h1 h2 h3;refine⟨.tuple #[],_,ok,H,.inl ?_,r3,.refl _,?_,.junk _⟩
   ·simp[execOp,ho,resolve,invoke,builtin,Builtin.delete_,M,O,h1,underlying,ht,QU h2,z,Instr.findKey,q,Y,r1]
   rw[Z];exact r2
  have hM:=h3.erase (j:=j) pY;obtain⟨r1,r2,r3⟩:=sB (P:=P) hm I J h1 h2 hM;refine⟨.tuple #[],_,ok,H,.inl ?_,r3,.refl _,?_,.junk _⟩
  ·simp[execOp,ho,resolve,invoke,builtin,Builtin.delete_,M,O,h1,underlying,ht,QU h2,z,Instr.findKey,q,Y,r1]
  rw[Z,←aS4];exact r2
end
set_option linter.unusedVariables false
set_option linter.unusedSimpArgs false
set_option maxHeartbeats 4000000 in
set_option maxRecDepth 100000 in
def amI (b n c i vb vc:Nat)(cs vs:AA BD)(w:BX)(hi:i<n)(hroom:n+1<=c)(hc63:c<=9223372036854775807)(hvb:vb≠b)(hcl:cs.length=n*29)(hvl:vs.length=29)(hcs:∀j v,cs[j]? =some v->w.cell? ⟨b,j,none⟩=some v)(hsp:∀j,j<(n+1)*29->(w.cell? ⟨b,j,none⟩).isSome=true)(hfz:∀j,j<(n+1)*29->w.frozen? ⟨b,j,none⟩=false)(hvs:∀j v,vs[j]? =some v->w.cell? ⟨vb,j,none⟩=some v)(h1c:∀v∈cs,v.oneCell'=true)(h1v:∀v∈vs,v.oneCell'=true)(tA tB:Bq)(kA kB:Nat)(hsa:w.shape? vb=some (tA,kA))(hsb:w.shape? b=some (tB,kB))(hkB:kB≠0)(hfa:w.frozen? ⟨vb,0,none⟩=false)(hfe:w.frozen? ⟨vb,kA,none⟩=false):
 Calls Ak 140 #[.slice (some ⟨b,0,none⟩) n c,.int .i64 i,.slice (some ⟨vb,0,none⟩) 1 vc] w λe w'=>
  e=.returned (.slice (some ⟨b,0,none⟩) (n+1) c)/\w'=(w.drew.setCells b ((i+1)*29) (cs.drop (i*29))).setCells b (i*29) vs:=by
 have hz2:¬((i:Int)=(n:Int)):=AL
 have hw1:Az ((i:Int)+1)=(i:Int)+1:=OH
 have hw2:Az ((n:Int)+1)=(n:Int)+1:=OH
 have hb1:(0:Int)<=(i:Int)+1:=AL
 have hin:i<=n:=AL
 have htn:((i:Int)+1).toNat=i+1:=AL
 have aQK:((n:Int)+1).toNat=n+1:=AL
 have hb2:¬(c=i+1):=AL
 have hb3:(i:Int)<=(n:Int)+1:=AL
 have hb4:¬(c=i):=AL
 have hb5:¬((c:Int)<(n:Int)+1):=AL
 have z:(Ak.info? 38).map (·.size)=some 29:=A8
 have U:∀w,(Go.sizeOf 38).run Ak w=.ok 29 w:=λw=>by
  cases Y:Ak.info? 38 with
  |none=>simp[Y]at z
  |some i=>
   have h0:i.size=29:=by simpa[Y]using z
   simp[sizeOf,typeInfo,Y,h0]
 have Z:∀lb cb,(callFunc 218 #[.slice (some ⟨vb,0,none⟩) 1 vc,.slice (some ⟨b,(i+1)*29,none⟩) lb cb]).run Ak w=.ok (.value (.bool false)) w:=λlb cb=>by
  rw[run_callFunc_extern func218 A8 A8 A8 (e:=Extern.SlicesOverlaps.overlaps #[22,22] #[4]) A8,
   Lib.run_overlaps_apart w 22 4 38 uq 29 U ⟨vb,0,none⟩ ⟨b,(i+1)*29,none⟩ 1 vc lb cb hvb tA tB kA kB hsa hsb hkB hfa hfe]
  rfl
 have I:(cs.drop (i*29)).length=(n-i)*29:=by rw[NP,hcl,Nat.sub_mul]
 have J:∀ty BI sc,(Builtin.copy_ #[22,22] ty #[.slice (some ⟨b,(i+1)*29,none⟩) (n-i) BI,.slice (some ⟨b,i*29,none⟩) (n+1-i) sc]).run Ak w.drew=.ok (goInt (n-i:Nat)) (w.drew.setCells b ((i+1)*29) (cs.drop (i*29))):=λty BI sc=>
  a2H w.drew _ _ ty 38 b ((i+1)*29) (n-i) BI ⟨b,i*29,none⟩ (n+1-i) sc 29 (n-i) (cs.drop (i*29)) uq z aAL I
   (λj v q=>by rw[nC];exact hcs (i*29+j) v (by rwa [Ul]at q))
   (λj q=>hsp _ aIo) (λj q=>hfz _ aIo) (λv hv=>h1c v (List.mem_of_mem_drop hv))
 obtain⟨W1,u⟩:∃W1,W1=w.drew.setCells b ((i+1)*29) (cs.drop (i*29)):=⟨_,rfl⟩
 have L:∀k,k<(n+1)*29->(W1.cell? ⟨b,k,none⟩).isSome=true:=λk hk=>by
  rw[u];exact isSome_setCells b (cs.drop (i*29)) ((i+1)*29) w.drew (λj q=>hsp _ aIo) _ (hsp k hk)
 have M:∀(W:BX),(∀x,W.cell? x=W1.cell? x)->(∀x,W.frozen? x=W1.frozen? x)->∀ty BI,(Builtin.copy_ #[22,22] ty #[.slice (some ⟨b,i*29,none⟩) (n+1-i) BI,.slice (some ⟨vb,0,none⟩) 1 vc]).run Ak W=.ok (goInt (1:Nat)) (W.setCells b (i*29) vs):=λW O hWf ty BI=>
  a2H W _ _ ty 38 b (i*29) (n+1-i) BI ⟨vb,0,none⟩ 1 vc 29 1 vs uq z aAL (by rw[hvl])
   (λj v q=>by
    rw[nC,O,u,World.cell?_setCells_out b _ _ _ _ (λh _=>absurd h hvb),Js]
    exact hvs j v q)
   (λj q=>by rw[O];exact L _ AL) (λj q=>by rw[hWf,u,World.frozen?_setCells];exact hfz _ AL) h1v
 rw[←u]at J;have mixed:Ak.follows .mixedOrders=true:=A8
 go_enter func140,Tryz.ntmps140
 go_wp2_with (simp only[Z])
 go_region_law_o (refine step_copy_runI rfl _ _ 22 22 rfl _ _ a6S a6S (J _ _ _) ?_)
 go_wp2_with (at_builtin;refine wpList_copy_runI _ rfl _ _ 22 22 rfl _ _ rfl rfl (M _ (λ_=>rfl) (λ_=>rfl) _ _) ?_)
 go_ret
 first|exact⟨rfl,rfl⟩|exact⟨rfl,by rw[u]⟩
set_option maxHeartbeats 4000000 in
set_option maxRecDepth 100000 in
def amL (b n c i vb vc:Nat)(cs vs:AA BD)(w:BX)(hi:i<n)(hnc:n<=c)(hroom:c<n+1)(hbig:(n+1)*376<=140737488355328)(hcl:cs.length=n*29)(hvl:vs.length=29)(hcs:∀j v,cs[j]? =some v->w.cell? ⟨b,j,none⟩=some v)(hvs:∀j v,vs[j]? =some v->w.cell? ⟨vb,j,none⟩=some v)(h1c:∀v∈cs,v.oneCell'=true)(h1v:∀v∈vs,v.oneCell'=true):
 Calls Ak 140 #[.slice (some ⟨b,0,none⟩) n c,.int .i64 i,.slice (some ⟨vb,0,none⟩) 1 vc] w λe w'=>∃G ROW,e=.returned (.slice (some ⟨w.heap.size,0,none⟩) (n+1) G)/\n+1<=G/\G<=maxLen/\G*29<=ROW.size/\ROW.toList.take (i*29)=cs.take (i*29)/\
  w'=(((w.alloc (.cells ROW 38)).drew.setCells w.heap.size (i*29) vs).drew).setCells w.heap.size ((i+1)*29) (cs.drop (i*29)):=by
 have hE:G6 Ak 22 38 29 376:=JU A8;obtain⟨i0,z0,hi0,hz0,hzs,hzb,hzc⟩:=hE.info;have hsz:(Ak.info? 38).map (·.size)=some 29:=by rw[hi0];simp[hzs]
 have mixed:Ak.follows .mixedOrders=true:=A8
 have hz2:¬((i:Int)=(n:Int)):=AL
 have hz3:(c:Int)<(n:Int)+1:=AL
 have hil:i*29<cs.length:=AL
 have hbw:b<w.heap.size:=block_lt_of_cell (hcs 0 _ (EM AL));have hvw:vb<w.heap.size:=block_lt_of_cell (hvs 0 _ (EM AL));have hkk:(n:Int)+1-(i:Int)=((n+1-i:Nat):Int):=AL
 have O:i+(n+1-i)=n+1:=AL
 have U:(cs.take (i*29)).length=i*29:=nV
 have L:(Builtin.firstCells i0.size i (.slice (some ⟨b,0,none⟩) i c)).run Ak w.drew=.ok (cs.take (i*29)).toArray w.drew:=by
  rw[hzs]
  exact run_firstCells_some w.drew 29 i ⟨b,0,none⟩ i c (cs.take (i*29)) (by rw[U]) (λj v q=>by
   rw[nC,Js];rw[a2p]at q;split at q
   ·exact hcs j v q
   cases q)
 have J:∀ty,(Builtin.append_ #[22,3] ty #[.slice (some ⟨b,0,none⟩) i c,.int .i64 ((n:Int)+1-(i:Int))]).run Ak w=
  .ok (.slice (some ⟨w.heap.size,0,none⟩) (n+1) (grownCap w (n+1) c 38)) (w.drew.alloc (.cells ((cs.take (i*29)).toArray++Builtin.zeroCells z0.cells (n+1-i)++Builtin.zeroCells z0.cells (grownCap w (n+1) c 38-(n+1))) 38)):=λty=>by
  have h:=Lib.run_append_grow_zeros w 22 3 ty 38 i0 z0 .i64 .i64 hE.und A8 hi0 hz0 (some ⟨b,0,none⟩) i c (cs.take (i*29)) L (n+1-i) AL AL AL AL (by rw[hzb];omega) (by rw[hzb,O];exact growslice_fits AL AL);rw[O]at h;rw[hkk];exact h
 have hGn:n+1<=grownCap w (n+1) c 38:=uO w _ _ _;have Y:=a4M w (n+1) c 38 ji;obtain⟨G,hG⟩:∃G,G=grownCap w (n+1) c 38:=⟨_,rfl⟩
 obtain⟨ROW,u⟩:∃ROW:Bg BD,ROW=(cs.take (i*29)).toArray++Builtin.zeroCells z0.cells (n+1-i)++Builtin.zeroCells z0.cells (G-(n+1)):=⟨_,rfl⟩
 rw[←hG]at J hGn Y;rw[←u]at J
 have hRl:ROW.size=G*29:=by
  rw[u];simp[Builtin.zeroCells,hzc];omega
 have hRt:ROW.toList.take (i*29)=cs.take (i*29):=by
  rw[u];simp[Il];rw[zh U]
 obtain⟨W1,z⟩:∃W1,W1=w.drew.alloc (.cells ROW 38):=⟨_,rfl⟩
 rw[←z]at J
 have hN:∀j,j<(n+1)*29->(W1.cell? ⟨w.heap.size,j,none⟩).isSome=true:=λj q=>by
  rw[z,World.cell?_alloc_at (w:=w.drew) ROW _ w.heap.size j rfl,qA AL];rfl
 have hNf:∀j,W1.frozen? ⟨w.heap.size,j,none⟩=false:=λj=>by rw[z];exact World.frozen?_alloc_at (w:=w.drew) ROW _ w.heap.size j rfl
 have hOb:∀j v,w.cell? ⟨b,j,none⟩=some v->W1.cell? ⟨b,j,none⟩=some v:=λj v h=>by rw[z,World.cell?_alloc_past (w:=w.drew) _ b j hbw];exact h
 have hOv:∀j v,w.cell? ⟨vb,j,none⟩=some v->W1.cell? ⟨vb,j,none⟩=some v:=λj v h=>by rw[z,World.cell?_alloc_past (w:=w.drew) _ vb j hvw];exact h
 have hcpA:∀(W:BX),(∀x,W.cell? x=W1.cell? x)->(∀x,W.frozen? x=W1.frozen? x)->∀ty BI,(Builtin.copy_ #[22,22] ty #[.slice (some ⟨w.heap.size,i*29,none⟩) (n+1-i) BI,.slice (some ⟨vb,0,none⟩) 1 vc]).run Ak W=.ok (goInt (1:Nat)) (W.setCells w.heap.size (i*29) vs):=λW I Z ty BI=>
  a2H W _ _ ty 38 w.heap.size (i*29) (n+1-i) BI ⟨vb,0,none⟩ 1 vc 29 1 vs hE.und hsz aAL (by rw[hvl])
   (λj v q=>by rw[nC,I,Js];exact hOv _ v (hvs j v q))
   (λj q=>by rw[I];exact hN _ AL) (λj q=>by rw[Z];exact hNf _) h1v
 have hG63:G<=9223372036854775807:=by unfold maxLen at Y;omega
 have hGi:¬(G=i):=AL
 have hGim:¬(G=i+1):=AL
 have hci:¬(c=i):=AL
 have hbN:b≠w.heap.size:=AL
 have hdl:(cs.drop (i*29)).length=(n-i)*29:=by rw[NP,hcl,Nat.sub_mul]
 have M:∀(W:BX),(∀x,W.cell? x=(W1.setCells w.heap.size (i*29) vs).cell? x)->(∀x,W.frozen? x=(W1.setCells w.heap.size (i*29) vs).frozen? x)->∀ty BI sc,(Builtin.copy_ #[22,22] ty #[.slice (some ⟨w.heap.size,(i+1)*29,none⟩) (n-i) BI,.slice (some ⟨b,i*29,none⟩) (n-i) sc]).run Ak W=.ok (goInt (n-i:Nat)) (W.setCells w.heap.size ((i+1)*29) (cs.drop (i*29))):=λW I Z ty BI sc=>
  a2H W _ _ ty 38 w.heap.size ((i+1)*29) (n-i) BI ⟨b,i*29,none⟩ (n-i) sc 29 (n-i) (cs.drop (i*29)) hE.und hsz aAL hdl
   (λj v q=>by
    rw[nC,I,World.cell?_setCells_out _ _ _ _ _ (λh _=>absurd h hbN)]
    exact hOb _ v (hcs (i*29+j) v (by rwa [Ul]at q)))
   (λj q=>by rw[I];exact isSome_setCells _ vs (i*29) W1 (λt ht=>hN _ AL) _ (hN _ (by rw[hdl]at q;omega)))
   (λj q=>by rw[Z,World.frozen?_setCells];exact hNf _) (λv hv=>h1c v (List.mem_of_mem_drop hv))
 subst z;have hE1:∀x,((w.alloc (.cells ROW 38)).drew).cell? x=(w.drew.alloc (.cells ROW 38)).cell? x:=λx=>rfl;have hE2:∀x,((w.alloc (.cells ROW 38)).drew).frozen? x=(w.drew.alloc (.cells ROW 38)).frozen? x:=λx=>rfl;have hF1:∀x,(((w.alloc (.cells ROW 38)).drew.setCells w.heap.size (i*29) vs).drew).cell? x=((w.drew.alloc (.cells ROW 38)).setCells w.heap.size (i*29) vs).cell? x:=λx=>rfl;have hF2:∀x,(((w.alloc (.cells ROW 38)).drew.setCells w.heap.size (i*29) vs).drew).frozen? x=((w.drew.alloc (.cells ROW 38)).setCells w.heap.size (i*29) vs).frozen? x:=λx=>rfl;have hw1:Az ((i:Int)+1)=(i:Int)+1:=OH
 have hw2:Az ((n:Int)+1)=(n:Int)+1:=OH
 have hw3:Az ((n:Int)+1-(i:Int))=(n:Int)+1-(i:Int):=OH
 have hb1:(0:Int)<=(i:Int)+1:=AL
 have hin:i<=n:=AL
 have htn:((i:Int)+1).toNat=i+1:=AL
 have hb3:(i:Int)<=(n:Int):=AL
 clear hkk O L u hG hil U
 go_enter func140,Tryz.ntmps140
 go_wp2_with (first
  |(at_builtin;refine y8 _ rfl _ _ _ _ rfl _ _ rfl rfl _ _ (J _) ?_)
  |(at_builtin;refine wpList_copy_runI _ rfl _ _ 22 22 rfl _ _ rfl rfl (hcpA _ hE1 hE2 _ _) ?_)
  |(at_builtin;refine wpList_copy_runI _ rfl _ _ 22 22 rfl _ _ rfl rfl (M _ (λ_=>rfl) (λ_=>rfl) _ _ _) ?_))
 go_region_law_o (refine step_copy_runI rfl _ _ 22 22 rfl (.slice (some ⟨w.heap.size,(i+1)*29,none⟩) (n-i) (G-(i+1))) (.slice (some ⟨b,i*29,none⟩) (n-i) (c-i)) a6S a6S (M _ hF1 hF2 3 (G-(i+1)) (c-i)) ?_)
 go_wp2
 go_ret
 exact⟨G,ROW,rfl,hGn,Y,P6 hRl.symm,hRt,rfl⟩
def putAt (j:Bg BD):Nat->AA BD->Bg BD
 |_,[]=>j
 |o,v::r=>putAt (j.setIfInBounds o v) (o+1) r
def aY :∀(vs:AA BD) (o:Nat) (j:Bg BD),(putAt j o vs).size=j.size
 | [],_,_=>rfl
 |v::r,o,j=>by rw[putAt,aY r];simp
theorem tC :∀(vs:AA BD) (o:Nat) (q:Bg BD),o+vs.length<=q.size->(putAt q o vs).toList=q.toList.take o++vs++q.toList.drop (o+vs.length)
 | [],o,q,_=>by simp[putAt]
 |v::r,o,q,h=>by
  simp only[GN]at h;rw[putAt,tC r (o+1) _ EY,aEb];refine kW λj=>?_;simp only[Il,List.getElem?_append,Gz,qH,Tn,a2p,List.getElem?_set,Ul,GN,YT,aLv]
  grind
def vH (b:Nat):∀(vs:AA BD) (o:Nat) (w:BX) (j:Bg BD) (e:Bq) (fr:Nat×Nat),w.heap[b]? =some (.cells j e fr)->(w.setCells b o vs).heap[b]? =some (.cells (putAt j o vs) e fr)
 | [],_,_,_,_,_,h=>h
 |v::r,o,w,j,e,fr,h=>by
  rw[World.setCells,putAt];refine vH b r (o+1) _ _ e fr ?_;simp[World.setCell,YE,h]
variable {n vb vc:Nat}{v:BD}{xs:AA BD}
set_option maxHeartbeats 4000000 in
set_option maxRecDepth 100000 in
def amg {news:AA BD}(hown:ny w 38 29 v n xs)(hsrc:XW w (.slice (some ⟨vb,0,none⟩) 1 vc) 1 29 news)(hb:(n+1)*376<=140737488355328):
 Calls Ak 140 #[v,.int .i64 n,.slice (some ⟨vb,0,none⟩) 1 vc] w λe w'=>∃v',e=.returned v'/\ny w' 38 29 v' (n+1) (xs++news)/\w.grownBy w' v.ownBlock/\∀g,E5 v'=some g->E5 v=some g\/w.heap.size<=g:=by
 have hE:G6 Ak 22 38 29 376:=JU A8;obtain⟨v',w',u,h2,h3,z⟩:=aKj (ty:=22) hE hown hsrc hb ji;have mixed:Ak.follows .mixedOrders=true:=A8
 rcases hown.2 with⟨rfl,J⟩|⟨g,cap,L,rfl,_,U,M,j,O,q⟩
 ·subst J
  go_enter func140,Tryz.ntmps140
  go_wp2_with (at_builtin;refine y8 _ rfl _ _ _ _ rfl _ _ rfl rfl _ _ u ?_)
  go_ret
  exact⟨v',rfl,h2,h3,z⟩
 have I:cap<=9223372036854775807:=by unfold maxLen at j;omega
 go_enter func140,Tryz.ntmps140
 go_wp2_with (at_builtin;refine y8 _ rfl _ _ _ _ rfl _ _ rfl rfl _ _ u ?_)
 all_goals (go_ret;exact⟨v',rfl,h2,h3,z⟩)
def zH (b:Nat):∀(vs:AA BD) (o:Nat) (w:BX),(w.setCells b o vs).os=w.os/\(w.setCells b o vs).tape=w.tape/\(w.setCells b o vs).output=w.output/\(w.setCells b o vs).heap.size=w.heap.size/\∀i,i≠b->(w.setCells b o vs).heap[i]? =w.heap[i]?
 | [],_,_=>⟨rfl,rfl,rfl,rfl,λ_ _=>rfl⟩
 |v::r,o,w=>by
  obtain⟨h1,h2,h3,j,q⟩:=zH b r (o+1) (w.setCell ⟨b,o,none⟩ v);rw[World.setCells];refine⟨h1,h2,h3,by rw[j];simp[World.setCell],λi hi=>?_⟩;rw[q i hi];simp[World.setCell,YE,Ne.symm hi]
variable {N:Nat}{j:Bg BD}{vs:AA BD}
def ajH {a:Nat}(u:j.toList.take N=xs)(hl:xs.length=N)(q:vs.length=k)(ha:a<=N)(hs:N+k<=j.size):
 (putAt (putAt j (a+k) (xs.drop a)) a vs).toList.take (N+k)=xs.take a++vs++xs.drop a:=by
 have hd:(xs.drop a).length=N-a:=by rw[NP,hl]
 rw[tC vs a _ (by rw[aY];omega),tC (xs.drop a) (a+k) j AL,q,hd]
 have z:(j.toList.take (a+k)++xs.drop a++j.toList.drop (a+k+(N-a))).take a=xs.take a:=by
  rw[Il,List.take_append_of_le_length EY,aEw,←u,aEw,zU AL,zU ha]
 have I:(j.toList.take (a+k)++xs.drop a++j.toList.drop (a+k+(N-a))).drop (a+k)=xs.drop a++j.toList.drop (a+k+(N-a)):=by
  rw[Il,List.drop_left' EY]
 rw[z,I,←Il,zh (by simp[hd,q,hl];omega)]
def aiw {a:Nat}(u:j.toList.take a=xs.take a)(hl:xs.length=N)(q:vs.length=k)(ha:a<=N)(hs:N+k<=j.size):
 (putAt (putAt j a vs) (a+k) (xs.drop a)).toList.take (N+k)=xs.take a++vs++xs.drop a:=by
 have hd:(xs.drop a).length=N-a:=by rw[NP,hl]
 rw[tC (xs.drop a) (a+k) _ (by rw[aY];omega),tC vs a j AL,q,hd,u];have z:(xs.take a++vs++j.toList.drop (a+k)).take (a+k)=xs.take a++vs:=zh (by simp[q,hl];omega);rw[z,zh (by simp[hd,q,hl];omega)]
variable {T:Bq}{fr:Nat×Nat}{g:Nat}{q:Bg BD}
def wR (u:w.heap[g]? =some (.cells q T fr))(z:q.toList.take n=xs)(j:Nat)(v:BD)(h:xs[j]? =some v):w.cell? ⟨g,j,none⟩=some v:=by
 unfold World.cell?;simp only[u];rw[←z,a2p]at h;split at h
 ·simpa using h
 cases h
def aZ3 (u:w.heap[g]? =some (.cells q T fr))(j:Nat)(h:j<q.size):(w.cell? ⟨g,j,none⟩).isSome=true:=by
 unfold World.cell?;simp[u,h]
def aEo (u:w.heap[g]? =some (.cells q T (0,0)))(j:Nat):w.frozen? ⟨g,j,none⟩=false:=by
 unfold World.frozen?;simp[u]
def alB {i:Nat}{q:AA BD}(hi:i<=n)(J:ny w 38 29 v n xs)(h1:∀u∈xs,u.oneCell'=true)(hx:ny w 38 29 (.slice (some ⟨vb,0,none⟩) 1 vc) 1 q)(Z:∀u∈q,u.oneCell'=true)(hne:E5 v≠some vb)(hb:(n+1)*376<=140737488355328):
 Calls Ak 140 #[v,.int .i64 i,.slice (some ⟨vb,0,none⟩) 1 vc] w λe w'=>∃v',e=.returned v'/\ny w' 38 29 v' (n+1) (xs.take (i*29)++q++xs.drop (i*29))/\Turns v w w'/\∀g,E5 v'=some g->E5 v=some g\/w.heap.size<=g:=by
 have L:=J.1;have M:q.length=29:=by have :=hx.1;omega
 rcases hx.2 with⟨e0,_⟩|⟨vb',aQL,aKz,e0,_,O,hvn,_,hvs,hvt⟩
 ·cases e0
 injection e0 with e1 _ e3
 injection e1 with e1
 injection e1 with e1
 subst e1 e3;rcases vW i n with hin|hin
 ·rcases J.2 with⟨_,h0⟩|⟨g,cap,Y,rfl,_,hg,hnc,hcm,hcs,I⟩
  ·omega
  have hgv:vb≠g:=λe=>hne zT;have hil:i*29<=n*29:=KR _ hi;rcases vW n cap with z|z
  ·have hfit:(n+1)*29<=Y.size:=EK (KR _ z) hcs;refine(amI g n cap i vb vc xs q w hin z (by unfold maxLen at hcm;omega) hgv L M (wR hg I) (λj hj=>aZ3 hg j AL) (λj _=>aEo hg j) (wR O hvt) h1 Z 38 38 aKz.size Y.size (by simp[World.shape?,O]) (by simp[World.shape?,hg]) AL (aEo O 0) (aEo O _)).mono ?_;rintro e w' ⟨rfl,rfl⟩;have hh:=vH g q (i*29) _ _ _ _ (vH g (xs.drop (i*29)) ((i+1)*29) w.drew Y 38 (0,0) hg);obtain⟨a1,a2,a3,a4,a5⟩:=zH g (xs.drop (i*29)) ((i+1)*29) w.drew;obtain⟨b1,b2,b3,b4,b5⟩:=zH g q (i*29) (w.drew.setCells g ((i+1)*29) (xs.drop (i*29)));refine⟨_,rfl,⟨?_,.inr ⟨g,cap,_,rfl,Ef _,hh,z,hcm,by rw[aY,aY];exact hcs,?_⟩⟩,⟨b1.trans a1,b2.trans a2,b3.trans a3,by rw[b4,a4];exact Ec _,λc hc hcb=>?_⟩,λg' hg'=>.inl hg'⟩
   ·simp[M,L];omega
   ·have :=ajH (a:=i*29) (k:=29) I L M hil AL;rw[show(i+1)*29=i*29+29 by omega,show(n+1)*29=n*29+29 by omega];exact this
   have U:c≠g:=λe=>hcb zT;rw[b5 c U,a5 c U];rfl
  refine(amL g n cap i vb vc xs q w hin hnc AL hb L M (wR hg I) (wR O hvt) h1 Z).mono ?_;rintro e w' ⟨G,ROW,rfl,hGn,hGm,hGs,hRt,rfl⟩
  have hal:((w.alloc (.cells ROW 38)).drew).heap[w.heap.size]? =some (.cells ROW 38 (0,0)):=by
   show(w.heap.push (.cells ROW 38 (0,0)))[w.heap.size]? =_;simp
  have hh:=vH w.heap.size (xs.drop (i*29)) ((i+1)*29) _ _ _ _ (show(((w.alloc (.cells ROW 38)).drew.setCells w.heap.size (i*29) q).drew).heap[w.heap.size]? =_ from vH w.heap.size q (i*29) _ ROW 38 (0,0) hal);obtain⟨a1,a2,a3,a4,a5⟩:=zH w.heap.size q (i*29) (w.alloc (.cells ROW 38)).drew;obtain⟨b1,b2,b3,b4,b5⟩:=zH w.heap.size (xs.drop (i*29)) ((i+1)*29) ((w.alloc (.cells ROW 38)).drew.setCells w.heap.size (i*29) q).drew;refine⟨_,rfl,⟨?_,.inr ⟨w.heap.size,G,_,rfl,Ef _,hh,hGn,hGm,by rw[aY,aY];exact hGs,?_⟩⟩,⟨b1.trans a1,b2.trans a2,b3.trans a3,?_,λc hc hcb=>?_⟩,λg' hg'=>.inr (by simp[E5]at hg';omega)⟩
  ·simp[M,L];omega
  ·have :=aiw (a:=i*29) (k:=29) hRt L M hil (by have :=KR 29 hGn;omega);rw[show(i+1)*29=i*29+29 by omega,show(n+1)*29=n*29+29 by omega];exact this
  ·rw[b4];show w.heap.size<=((w.alloc (.cells ROW 38)).drew.setCells w.heap.size (i*29) q).heap.size;rw[a4];show w.heap.size<=(w.heap.push (.cells ROW 38 (0,0))).size;simp
  have U:c≠w.heap.size:=AL
  rw[b5 c U];show((w.alloc (.cells ROW 38)).drew.setCells w.heap.size (i*29) q).heap[c]? =_;rw[a5 c U];show(w.heap.push (.cells ROW 38 (0,0)))[c]? =_;simp[jd,U]
 have hni:i=n:=AL
 subst hni;refine(amg J ⟨AL,Z,.inl ⟨_,_,rfl,λj u hj=>by rw[nC,Js];exact wR O hvt j u hj⟩⟩ hb).mono ?_;rintro e w' ⟨v',rfl,h2,h3,h4⟩;refine⟨v',rfl,?_,⟨h3.os,h3.tape,h3.output,h3.size,λk hk hne'=>h3.block k hk ?_⟩,h4⟩
 ·rw[Qa AL,a3X AL,Rs];exact h2
 rcases J.2 with⟨rfl,_⟩|⟨g,cap,Y,rfl,_⟩
 ·simp[Value.ownBlock]
 intro e;exact hne' e.symm
def ac9 (hs:j.size=3):j= #[j.getD 0 undef,j.getD 1 undef,j.getD 2 undef]:=by
 refine fU (by simp[hs]) λi h1 h2=>?_;simp at h2;have :i=0\/i=1\/i=2:=AL
 rcases this with rfl|rfl|rfl<;>simp[Array.getD,hs]
variable {H:AA CG}{xs:AA Ah}
def aiA (h:Gf ok w H xs vs)(n:Nat):Gf ok w H (xs.take n) (vs.take n):=by
 refine⟨by rw[Gz,Gz,h.1],λi hi=>?_⟩;rw[Gz]at hi;have :=h.2 i AL;rw[xJ,xJ]at this ⊢;rw[TP AL,TP AL];exact this
def aXw (h:Gf ok w H xs vs)(n:Nat):Gf ok w H (xs.drop n) (vs.drop n):=by
 refine⟨by rw[NP,NP,h.1],λi hi=>?_⟩;rw[NP]at hi;have :=h.2 (n+i) AL;rw[xJ,xJ]at this ⊢;rw[Ul,Ul];exact this
def aMq (h:Gf ok w H xs vs):∀u∈vs,u.oneCell'=true:=λu j=>by
 obtain⟨i,hi,rfl⟩:=Ih j;have h2:=h.2 i (by rw[←h.1];exact hi);have :=h2.2.leaf h2.1
 rwa [xJ,EM hi]at this
def aVZ {size:Nat}:∀{es:AA D} (i:Nat),(∀x∈es,x.cells.length=size)->flat (es.take i)=(flat es).take (i*size)
 | [],i,_=>U9
 |x::l,0,_=>U9
 |x::l,i+1,h=>by
  have j:(x.cells.map Ah.d).length=size:=by rw[Di];exact h x (I8 ..)
  rw[List.take_succ_cons,XH,XH,aVZ i λy q=>h y (Ii _ q),bM,aAn,Vk,←j,List.take_length_add_append]
def aSV {size:Nat}:∀{es:AA D} (i:Nat),(∀x∈es,x.cells.length=size)->flat (es.drop i)=(flat es).drop (i*size)
 | [],i,_=>U9
 |x::l,0,_=>U9
 |x::l,i+1,h=>by
  have j:(x.cells.map Ah.d).length=size:=by rw[Di];exact h x (I8 ..)
  rw[List.drop_succ_cons,XH,aSV i λy q=>h y (Ii _ q),bM,aAn,Vk,←j,List.drop_length_add_append]
def Dq.kill {C:Ez}(hm:Dq C ok H es w)(k:Nat):Dq C ok H (es.set k .dead) w:=
 (hm.change (ok':=ok) (H':=H) (w':=w) (es':=es.set k .dead) (λ_=>False) rfl rfl rfl (Ec _) (λ_ _ _=>rfl) (λ_ h=>h.elim) (λ_ h=>h) (λ_ h=>.inl h) (.refl _) (by simpa using hm.hlen) (by
  intro j e' h' q u;by_cases z:k=j
  ·subst z;rw[List.getElem?_set]at q;simp only[JK]at q;split at q
   ·cases q;exact .inr ⟨trivial,λh=>IK⟩
   cases q
  rw[eL z]at q
  exact .inl ⟨q,u,λ_ _ _ h=>h⟩)).1
variable {α:Type}
def aEm (l:AA α)(i:Int)(m:AA α):AB (AA α):=match m with
 | [x]=>if(0<=i/\i<=(l.length:Int))/\l.length<=34359738368 then some (l.take i.toNat++x::l.drop i.toNat)else none
 |_=>none
def ax6 {e:α->D}(hk:∀x,(e x).cells.length=29)(l:AA α)(q:Int)(m r:AA α)(h:aEm l q m=some r):
 Dw 140 [.aQ 0,.d (Ad q),.aQ 1] [.arr 38 29 (l.map e),.arr 38 29 (m.map e)] (.aQ 2) [.dead,.dead,.arr 38 29 (r.map e)]:=by
 unfold aEm at h;split at h
 case h_2=>cases h
 rename_i x;split at h
 case isFalse=>cases h
 rename_i hc;obtain⟨⟨hq0,hql⟩,hb⟩:=hc;obtain rfl:=Dv h;obtain⟨i,rfl⟩:∃i:Nat,q=i:=⟨q.toNat,AL⟩
 have hi:i<=l.length:=AL
 rw[dP];intro ok X H w L hm hs ha;have h0:=ha 0 BU;have hq:=ha 1 BU;have h2:=ha 2 BU;rw[ac9 hs];obtain⟨hd,hh,hok⟩:=Gp hm.ent hm.hlen (k:=0) rfl;obtain⟨M,O,U⟩:=Gp hm.ent hm.hlen (k:=1) rfl;obtain hv:=Ph h0 hh;obtain hv1:=Ph h2 O
 have hq':L.getD 1 undef=.int .i64 i:=by
  simp only[List.getD,jV,dw,NQ]at hq;cases hq with |d _ _ hq=>exact EF.Sv hq
 rw[hv,hv1,hq'];obtain⟨hz,Y,xs,Z,J⟩:=hok;obtain⟨hz1,aQM,news,u,I⟩:=U;rw[Di]at Z
 obtain⟨g1,c1,hg1⟩:∃g1 c1,M.v=.slice (some ⟨g1,0,none⟩) 1 c1:=by
  rcases u.2 with⟨_,h⟩|⟨g,cap,cur,h,_⟩
  ·cases h
  exact⟨g,cap,h⟩
 have hne:E5 hd.v≠some g1:=λhb=>by
  have :=hm.Jy 0 1 _ _ hd M g1 rfl rfl rfl rfl hh O hb (by rw[hg1];rfl);cases this
 rw[hg1]at u ⊢;refine(alB hi Z (aMq J) u (aMq I) hne AL).mono ?_;rintro y w' ⟨v',rfl,j,ht,hblk⟩;have hlen:l.length+1=((l.take i++x::l.drop i).map e).length:=EY
 rw[hlen]at j
 have hfl:flat ((l.take i++x::l.drop i).map e)=(flat (l.map e)).take (i*29)++flat ([x].map e)++(flat (l.map e)).drop (i*29):=by
  rw[←aVZ i Y,←aSV i Y,←qI,←qI,J8,Gg,YM,fP,Il];rfl
 have hg:=hm.turn (e:=.arr 38 29 ((l.take i++x::l.drop i).map e)) (h':=⟨v',29⟩) (w':=w') (k:=0) rfl rfl hh ht.os ht.tape ht.output ht.size ht.block (λg hg=>⟨sK j hg,hblk g hg⟩) (λhgr=>⟨rfl,λy hy=>by
  obtain⟨z,_,rfl⟩:=Hl.1 hy
  exact hk z,_,j,by rw[hfl];exact(aB3 (aB3 (aiA J _) I) (aXw J _)).mono hgr (.push _ _)⟩)
 refine⟨v',ok,H++[⟨v',29⟩],rfl,hg.1.kill 1,?_⟩;have hl:H.length=2:=hm.hlen;have hr:(H++[(⟨v',29⟩:CG)])[2]? =some ⟨v',29⟩:=by rw[←hl];simp
 rcases j.2 with⟨rfl,_⟩|⟨g,cap,cur,rfl,_⟩
 ·exact .aQ 2 _ _ _ 29 hr
 exact .aQ 2 _ _ _ 29 hr
end Go.Proofs.YtfmoknlmaldmlaaGreat
namespace Go.Proofs.YtfmoknlmaldmlaaGreat
open Go.RowKit Go.Proofs.Tryz
variable {α:Type}
def cD (j:Nat)(n:Int):AB (AA α):=if 0<=n/\n*j<=140737488355328 then some []else none
def ad8 (w:BX)(n:Nat)(hb:n*376<=140737488355328):
 Calls Ak 230 #[.slice none 0 0,.int .i64 n] w λe w'=>(e=.returned (.slice none 0 0)/\w'=w)\/∃G ROW,e=.returned (.slice (some ⟨w.heap.size,0,none⟩) 0 G)/\G<=maxLen/\ROW.size=G*29/\w'=w.drew.alloc (.cells ROW 38):=by
 have hE:G6 Ak 22 38 29 376:=JU A8;obtain⟨Z,z0,I,J,hzs,L,M⟩:=hE.info;have mixed:Ak.follows .mixedOrders=true:=A8
 rcases X0 n with O|O
 ·subst O;refine Calls.mono ?_ (λe w' h=>Or.inl h)
  go_enter func230,Tryz.ntmps230
  go_wp2
  go_ret
  exact⟨rfl,rfl⟩
 refine Calls.mono ?_ (λe w' h=>Or.inr h);have U:n<=grownCap w n 0 38:=uO w _ _ _;have u:=a4M w n 0 38 ji
 have q:∀ty,(Builtin.append_ #[22,3] ty #[.slice none 0 0,.int .i64 (n:Int)]).run Ak w=.ok (.slice (some ⟨w.heap.size,0,none⟩) n (grownCap w n 0 38)) (w.drew.alloc (.cells (Builtin.zeroCells z0.cells n++Builtin.zeroCells z0.cells (grownCap w n 0 38-n)) 38)):=λty=>
  Lib.run_append_nil_zeros w 22 3 ty 38 Z z0 .i64 .i64 hE.und A8 I J n O AL AL (by rw[L];omega)
 obtain⟨G,Y⟩:∃G,G=grownCap w n 0 38:=⟨_,rfl⟩
 obtain⟨ROW,j⟩:∃ROW:Bg BD,ROW=Builtin.zeroCells z0.cells n++Builtin.zeroCells z0.cells (G-n):=⟨_,rfl⟩
 rw[←Y]at q U u;rw[←j]at q
 have z:ROW.size=G*29:=by
  rw[j];simp[Builtin.zeroCells,M];omega
 have hp1:¬((n:Int)<0):=AL
 have hp2:(n:Int)>0:=AL
 have hw1:Az ((n:Int)-0)=(n:Int):=OH
 have hw2:Az (n:Int)=(n:Int):=OH
 have hc0:(0:Int)<=(G:Int):=AL
 clear Y j
 go_enter func230,Tryz.ntmps230
 go_wp2_with (first
  |(at_builtin;refine y8 _ rfl _ _ _ _ rfl _ _ rfl rfl _ _ (q _) ?_))
 go_ret
 exact⟨G,rfl,u,ROW,by first|exact z|simpa using z,rfl⟩
def aiJ (e:α->D)(q:Int)(r:AA α)(h:cD 376 q=some r):Dw 230 [.d (.lit (.slice none 0 0)),.d (Ad q)] [] (.aQ 0) [.arr 38 29 (r.map e)]:=by
 unfold cD at h;split at h
 case isFalse=>cases h
 rename_i Z;obtain rfl:=Dv h;obtain⟨n,rfl⟩:∃n:Nat,q=n:=⟨q.toNat,AL⟩
 intro ok X H w j hm hs ha;have z:=ha 0 BU;have h1:=ha 1 BU
 have I:j.getD 0 undef=.slice none 0 0:=by
  simp only[List.getD,dw,NQ]at z;cases z with |d _ _ u=>exact EF.Sv u
 have J:j.getD 1 undef=.int .i64 n:=by
  simp only[List.getD,jV,dw,NQ]at h1;cases h1 with |d _ _ u=>exact EF.Sv u
 have L:j= #[.slice none 0 0,.int .i64 n]:=by
  rw[←I,←J];exact aLr hs
 rw[L];have M:H.length=0:=hm.hlen;obtain rfl:H=[]:=Hd M;refine(ad8 w n AL).mono ?_;rintro y w' (⟨rfl,rfl⟩|⟨G,ROW,rfl,hG,hR,rfl⟩)
 ·obtain⟨h2,h3⟩:=a03 hm 38 29;exact⟨_,ok,[]++[⟨.slice none 0 0,29⟩],rfl,h2,.aQ 0 none 0 0 29 rfl⟩
 obtain⟨O,d2⟩:=hm.drew
 have h2:=O.push (.cells ROW 38) ⟨.slice (some ⟨w.heap.size,0,none⟩) 0 G,29⟩ (.arr 38 29 []) (λb U=>by
  have :w.heap.size=b:=Dv U
  exact this.symm) ⟨rfl,λx Y=>absurd Y Gh,[],⟨rfl,.inr ⟨w.heap.size,G,ROW,rfl,Ef _,Uo w.drew _,Ef _,hG,P6 hR.symm,rfl⟩⟩,rfl,λi hi=>absurd hi (aC _)⟩
 exact⟨_,ok,[]++[⟨.slice (some ⟨w.heap.size,0,none⟩) 0 G,29⟩],rfl,h2.1,.aQ 0 _ 0 _ 29 rfl⟩
def ajR (w:BX)(n:Nat)(hb:n*8<=140737488355328):
 Calls Ak 256 #[.slice none 0 0,.int .i64 n] w λe w'=>(e=.returned (.slice none 0 0)/\w'=w)\/∃G ROW,e=.returned (.slice (some ⟨w.heap.size,0,none⟩) 0 G)/\G<=maxLen/\ROW.size=G*1/\w'=w.drew.alloc (.cells ROW 3):=by
 have hE:G6 Ak 27 3 1 8:=JU A8;obtain⟨Z,z0,I,J,hzs,L,M⟩:=hE.info;have mixed:Ak.follows .mixedOrders=true:=A8
 rcases X0 n with O|O
 ·subst O;refine Calls.mono ?_ (λe w' h=>Or.inl h)
  go_enter func256,Tryz.ntmps256
  go_wp2
  go_ret
  exact⟨rfl,rfl⟩
 refine Calls.mono ?_ (λe w' h=>Or.inr h);have U:n<=grownCap w n 0 3:=uO w _ _ _;have u:=a4M w n 0 3 ji
 have q:∀ty,(Builtin.append_ #[27,3] ty #[.slice none 0 0,.int .i64 (n:Int)]).run Ak w=.ok (.slice (some ⟨w.heap.size,0,none⟩) n (grownCap w n 0 3)) (w.drew.alloc (.cells (Builtin.zeroCells z0.cells n++Builtin.zeroCells z0.cells (grownCap w n 0 3-n)) 3)):=λty=>
  Lib.run_append_nil_zeros w 27 3 ty 3 Z z0 .i64 .i64 hE.und A8 I J n O AL AL (by rw[L];omega)
 obtain⟨G,Y⟩:∃G,G=grownCap w n 0 3:=⟨_,rfl⟩
 obtain⟨ROW,j⟩:∃ROW:Bg BD,ROW=Builtin.zeroCells z0.cells n++Builtin.zeroCells z0.cells (G-n):=⟨_,rfl⟩
 rw[←Y]at q U u;rw[←j]at q
 have z:ROW.size=G*1:=by
  rw[j];simp[Builtin.zeroCells,M];omega
 have hp1:¬((n:Int)<0):=AL
 have hp2:(n:Int)>0:=AL
 have hw1:Az ((n:Int)-0)=(n:Int):=OH
 have hw2:Az (n:Int)=(n:Int):=OH
 have hc0:(0:Int)<=(G:Int):=AL
 clear Y j
 go_enter func256,Tryz.ntmps256
 go_wp2_with (first
  |(at_builtin;refine y8 _ rfl _ _ _ _ rfl _ _ rfl rfl _ _ (q _) ?_))
 go_ret
 exact⟨G,rfl,u,ROW,by first|exact z|simpa using z,rfl⟩
def adW (e:α->D)(q:Int)(r:AA α)(h:cD 8 q=some r):Dw 256 [.d (.lit (.slice none 0 0)),.d (Ad q)] [] (.aQ 0) [.arr 3 1 (r.map e)]:=by
 unfold cD at h;split at h
 case isFalse=>cases h
 rename_i Z;obtain rfl:=Dv h;obtain⟨n,rfl⟩:∃n:Nat,q=n:=⟨q.toNat,AL⟩
 intro ok X H w j hm hs ha;have z:=ha 0 BU;have h1:=ha 1 BU
 have I:j.getD 0 undef=.slice none 0 0:=by
  simp only[List.getD,dw,NQ]at z;cases z with |d _ _ u=>exact EF.Sv u
 have J:j.getD 1 undef=.int .i64 n:=by
  simp only[List.getD,jV,dw,NQ]at h1;cases h1 with |d _ _ u=>exact EF.Sv u
 have L:j= #[.slice none 0 0,.int .i64 n]:=by
  rw[←I,←J];exact aLr hs
 rw[L];have M:H.length=0:=hm.hlen;obtain rfl:H=[]:=Hd M;refine(ajR w n AL).mono ?_;rintro y w' (⟨rfl,rfl⟩|⟨G,ROW,rfl,hG,hR,rfl⟩)
 ·obtain⟨h2,h3⟩:=a03 hm 3 1;exact⟨_,ok,[]++[⟨.slice none 0 0,1⟩],rfl,h2,.aQ 0 none 0 0 1 rfl⟩
 obtain⟨O,d2⟩:=hm.drew
 have h2:=O.push (.cells ROW 3) ⟨.slice (some ⟨w.heap.size,0,none⟩) 0 G,1⟩ (.arr 3 1 []) (λb U=>by
  have :w.heap.size=b:=Dv U
  exact this.symm) ⟨rfl,λx Y=>absurd Y Gh,[],⟨rfl,.inr ⟨w.heap.size,G,ROW,rfl,Ef _,Uo w.drew _,Ef _,hG,P6 hR.symm,rfl⟩⟩,rfl,λi hi=>absurd hi (aC _)⟩
 exact⟨_,ok,[]++[⟨.slice (some ⟨w.heap.size,0,none⟩) 0 G,1⟩],rfl,h2.1,.aQ 0 _ 0 _ 1 rfl⟩
variable {P:Ch}
def aa5 (ops:Bg Oper)(σ:BP)(i:Nat):BP:=match ops[i]? with
 |some o=>match o.op with
  | .move x=>σ.tX o.dst (σ.get x)
  | .assign x=>σ.tX o.dst (σ.get x)
  |_=>σ
 |none=>σ
def atc (ops:Bg Oper)(σ:BP)(sl:AA Nat):BP:=sl.foldl (aa5 ops) σ
def pW {o:Oper}{es:AA Bc}{t:Bq}{k:Nat}(j:o.op=.makeMap t none:=by exact rfl)(q:es.length=k:=by kernel_rfl):CB P o [] es (.mp k) (es++[.map []]):=q▸amn j
def aAH (P:Ch)(c:Code)(Q:Exit->BP->Prop):Nat->BP->Prop
 |0,_=>False
 |m+1,σ=>Bh P c σ (JG (aAH P c Q m) Q)
variable {Q:Exit->BP->Prop}{σ:BP}
def Bh.round {c:Code}{m:Nat}(h:Bh P c σ (JG (aAH P c Q m) Q)):aAH P c Q (m+1) σ:=h
def Bh.rounds {c:Code}(m:Nat)(h:aAH P c Q m σ):Bh P (.loop c) σ Q:=by
 refine⟨λro j C ok H a w q=>wpIn_loop_rounds m ?_⟩
 induction m generalizing σ ok H a w with
 |zero=>exact h.elim
 |succ m u=>
  rw[roundsIn_succ];refine UD (h.run ro j C ok H a w q) ?_;rintro e a' w' ⟨ok',H',σ',h1,h2⟩;cases e with
  |normal=>exact u h2 ok' H' a' w' h1
  |_=>exact⟨ok',H',σ',h1,h2⟩
end Go.Proofs.YtfmoknlmaldmlaaGreat
