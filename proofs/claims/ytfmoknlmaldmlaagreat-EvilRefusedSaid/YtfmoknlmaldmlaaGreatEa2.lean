/- Part 2 of the laws' proofs (short forms by wip/shrink2.py). -/
import Derived.Test.YtfmoknlmaldmlaaGreatEa1
set_option linter.defProp false
set_option linter.unnecessarySimpa false
set_option linter.unusedSectionVars false
set_option linter.unusedVariables false
set_option linter.unusedSimpArgs false
namespace Go.Proofs.YtfmoknlmaldmlaaGreat
open Go.RowKit Go.Proofs.Tryz
section
def JB {α:Type} (p:α->Prop):AA α->Prop
 | []=>True
 |x::l=>p x/\JB p l
def JB.mem {α:Type} {p:α->Prop}:∀{l:AA α},JB p l->∀x∈l,p x
 | [],_,x,h=>FQ
 |y::l,j,x,h=>by
  rcases Hz.1 h with rfl|h
  ·exact j.1
  exact j.2.mem x h
class Kn (P:Program) where
 und:List (Nat×TypeDesc)
 Ky:JB (fun p:Nat×TypeDesc=>P.underlying p.1=some p.2) und
 ty:List (Nat×Bool×Nat)
 hty:JB (fun p:Nat×Bool×Nat=>DF P p.1 p.2.1 p.2.2) ty
 ZA:List ((Nat×Nat)×Nat)
 hfld:JB (fun p:(Nat×Nat)×Nat=>CQ P p.1.1 p.1.2 p.2) ZA
 part:List ((Nat×Nat)×Nat×Bool×Nat)
 hpart:JB (fun p:(Nat×Nat)×Nat×Bool×Nat=>Xw P p.1.1 p.1.2 p.2.1 p.2.2.1 p.2.2.2=true) part
 zero:List (Nat×Value)
 hzero:JB (fun p:Nat×Value=>(P.info? p.1).bind (·.zero)=some p.2/\p.2.cells.all (·.oneCell')=true) zero
 st:List (Nat×List (Nat×Nat)×Value)
 hst:JB (fun p:Nat×List (Nat×Nat)×Value=>JR P p.1 p.2.1 p.2.2) st
 arr:List (Nat×Nat×Value)
 harr:JB (fun p:Nat×Nat×Value=>Ye P p.1 p.2.1 p.2.2) arr
def JF {β:Type} (t:Nat):AA (Nat×β)->AB β
 | []=>none
 |(u,b)::l=>match Nat.beq t u with |true=>some b|false=>JF t l
def Hq {β:Type} {t:Nat} {b:β}:∀{l:AA (Nat×β)},JF t l=some b->(t,b)∈l
 | [],h=>Ed
 |(u,c)::l,h=>by
  unfold JF at h;split at h
  ·rename_i e;cases h;rw[ZT e];exact OE
  exact Ku _ (Hq h)
def U0 {β:Type} (t f:Nat):AA ((Nat×Nat)×β)->AB β
 | []=>none
 |((u,g),b)::l=>match Nat.beq t u&&Nat.beq f g with |true=>some b|false=>U0 t f l
def UE {β:Type} {t f:Nat} {b:β}:∀{l:AA ((Nat×Nat)×β)},U0 t f l=some b->((t,f),b)∈l
 | [],h=>Ed
 |((u,g),c)::l,h=>by
  unfold U0 at h;split at h
  ·rename_i e;cases h;rw[CS]at e;rw[ZT e.1,ZT e.2];exact OE
  exact Ku _ (UE h)
structure Iu where
 ns:List (Operand×AP)
 x:AP
 E:List Ad
 bar:Bool
def jU (op:BinOp) (k:IntKind) (a b:Int):AB Af:=
 match op with
 | .add=>some (.int k (k.wrap (a+b)))
 | .sub=>some (.int k (k.wrap (a-b)))
 | .mul=>some (.int k (k.wrap (a*b)))
 | .eql=>some (.bool (a==b))
 | .neq=>some (.bool (a != b))
 | .lss=>some (.bool (decide (a<b)))
 | .leq=>some (.bool (decide (a<=b)))
 | .gtr=>some (.bool (decide (a>b)))
 | .geq=>some (.bool (decide (a>=b)))
 |_=>none
def zG {op:BinOp} {k:IntKind} {a b:Int} {r:Af} {t:BA} {P:BU} (h:jU op k a b=some r) (w:Ai):(binOp op t (.int k a) (.int k b)).run P w=.ok r w:=by
 unfold jU at h;cases op<;>first|(cases h;done)|(cases h;simp[binOp,Op.intArith,Op.intCmp];done)|(cases h;cases k<;>rfl)
def iK (op:BinOp) (a b:AY):AB Af:=
 match op with
 | .eql=>some (.bool (a.toList==b.toList))
 | .neq=>some (.bool (!(a.toList==b.toList)))
 | .lss=>some (.bool (Op.bytesLess a.toList b.toList))
 | .leq=>some (.bool (Op.bytesLess a.toList b.toList||a.toList==b.toList))
 | .gtr=>some (.bool (!(Op.bytesLess a.toList b.toList||a.toList==b.toList)))
 | .geq=>some (.bool (!Op.bytesLess a.toList b.toList))
 |_=>none
def agM {op:BinOp} {a b:AY} {r:Af} {t:BA} {P:BU} (h:iK op a b=some r) (w:Ai):(binOp op t (.string a) (.string b)).run P w=.ok r w:=by
 unfold iK at h;cases op<;>first|(cases h;done)|(cases h;rfl)
def BJ.ZB {P:BU} {o:Oper} {ns j:AA (BD×AP)} {es es':AA Ad} {x:AP} (h:BJ P o ns es x es') (m:∀n∈ns,n∈j\/n=(.const (.slice none 0 0),.d (.sl []))):BJ P o j es x es':=by
 intro C ok H a w Q r s;refine h C ok H a w Q r (fun n q=>?_);rcases m n q with u|rfl
 ·exact s n u
 exact .d _ _ (.sl0 none 0)
def AP.adO:AP->AB Af
 | .d (.lit v)=>some v
 |_=>none
def kK {P:BU} (K:Kn P) (σ:Ac) (o:Oper):AB Iu:=
 match o.op with
 | .move x=>match x with
   | .const (.slice none 0 0)=>some ⟨[],.d (.sl []),σ.ents,false⟩
   |x=>some ⟨[(x,σ.get x)],σ.get x,σ.ents,false⟩
 | .assign x=>match x with
   | .const (.slice none 0 0)=>some ⟨[],.d (.sl []),σ.ents,false⟩
   |x=>some ⟨[(x,σ.get x)],σ.get x,σ.ents,false⟩
 | .pick c x y=>match σ.get c with
   | .d (.lit (.bool true))=>some ⟨[(c,.d (.lit (.bool true))),(x,σ.get x)],σ.get x,σ.ents,false⟩
   | .d (.lit (.bool false))=>some ⟨[(c,.d (.lit (.bool false))),(y,σ.get y)],σ.get y,σ.ents,false⟩
   |_=>none
 | .binOp op t x y _=>match σ.get x,σ.get y with
   | .d (.lit (.int k a)),.d (.lit (.int k' b))=>if k=k' then(jU op k a b).map fun r=>⟨[(x,.d (.lit (.int k a))),(y,.d (.lit (.int k b)))],.d (.lit r),σ.ents,false⟩else none
   | .d (.lit (.string a)),.d (.lit (.string b))=>(iK op a b).map fun r=>⟨[(x,.d (.lit (.string a))),(y,.d (.lit (.string b)))],.d (.lit r),σ.ents,false⟩
   | .d (.lit (.bool a)),.d (.lit (.bool b))=>match JF t K.und with
     |some .bool=>match op with
      | .eql=>some ⟨[(x,.d (EG a)),(y,.d (EG b))],.d (EG (a==b)),σ.ents,false⟩
      | .neq=>some ⟨[(x,.d (EG a)),(y,.d (EG b))],.d (EG (!(a==b))),σ.ents,false⟩
      |_=>none
     |_=>none
   |_,_=>none
 | .unOp op _ x=>match σ.get x with
   | .d (.lit (.bool b))=>match op with
     | .not=>some ⟨[(x,.d (.lit (.bool b)))],.d (.lit (.bool !b)),σ.ents,false⟩
     |_=>none
   | .d (.lit (.int k n))=>match op with
     | .neg=>some ⟨[(x,.d (.lit (.int k n)))],.d (.lit (.int k (k.wrap (0-n)))),σ.ents,false⟩
     |_=>none
   |_=>none
 | .convert s t x=>match JF s K.und,JF t K.und,σ.get x with
   |some (.int q),some (.int k),.d (.lit (.int I n))=>if q=I then some ⟨[(x,.d (.lit (.int q n)))],.d (.lit (.int k (k.wrap n))),σ.ents,false⟩else none
   |some .string,some .string,.d (.lit (.string u))=>some ⟨[(x,.d (BZ u))],.d (BZ u),σ.ents,false⟩
   |_,_,_=>none
 | .extract x i=>match σ.get x with
   | .gV xs=>match xs[i]? with
     |some v=>some ⟨[(x,.gV xs)],v,σ.ents,false⟩
     |none=>none
   |_=>none
 | .fieldAddr t x f=>match U0 t f K.ZA,σ.get x with
   |some off,.ptr k m=>some ⟨[(x,.ptr k m)],.ptr k (m+off),σ.ents,false⟩
   |some off,.iG k i m=>some ⟨[(x,.iG k i m)],.iG k i (m+off),σ.ents,false⟩
   |some off,.d (.ref cs m)=>some ⟨[(x,.d (.ref cs m))],.d (.ref cs (m+off)),σ.ents,false⟩
   |_,_=>none
 | .nilCheck x=>match σ.get x with
   | .ptr k m=>some ⟨[(x,.ptr k m)],.ptr k m,σ.ents,false⟩
   | .iG k i m=>some ⟨[(x,.iG k i m)],.iG k i m,σ.ents,false⟩
   | .d (.ref cs m)=>some ⟨[(x,.d (.ref cs m))],.d (.ref cs m),σ.ents,false⟩
   |_=>none
 | .field t x f=>match U0 t f K.part,σ.get x with
   |some (off,agg,n),.d (.agg cs)=>if off+n<=cs.length/\(agg=false->n=1)then some ⟨[(x,.d (.agg cs))],.d (J9 agg cs off n),σ.ents,false⟩else none
   |_,_=>none
 | .load t x=>match JF t K.ty,σ.get x with
   |some (agg,n),.d (.ref cs off)=>if off+n<=cs.length/\(agg=false->n=1)then some ⟨[(x,.d (.ref cs off))],.d (J9 agg cs off n),σ.ents,false⟩else none
   |some (agg,n),.ptr k off=>match σ.ents[k]? with
    |some (.box cs)=>if(off+n<=cs.length/\(agg=false->n=1))/\cs.all AP.oZ=true then some ⟨[(x,.ptr k off)],.d (J9 agg (FN cs) off n),σ.ents,false⟩else match agg,n,cs[off]? with
     |false,1,some v=>some ⟨[(x,.ptr k off)],v,σ.ents,false⟩
     |_,_,_=>none
    |_=>none
   |_,_=>none
 | .box _ x=>if(σ.get x).cells.all AP.leaf=true then some ⟨[(x,σ.get x)],.ptr σ.ents.length 0,σ.ents++[.box (σ.get x).cells],true⟩else none
 | .alloc t=>match JF t K.zero with
   |some z=>some ⟨[],.ptr σ.ents.length 0,σ.ents++[.box (DY z)],true⟩
   |none=>none
 | .store t x y=>match JF t K.ty,σ.get x with
   |some (_,n),.ptr k off=>match σ.ents[k]? with
    |some (.box cs)=>match y with
     | .const (.slice none 0 0)=>if n=1/\off+1<=cs.length then some ⟨[(x,.ptr k off)],.junk,σ.ents.set k (.box (setAt cs off [.d (.sl [])])),true⟩else none
     |y=>if((σ.get y).cells.all AP.leaf=true/\(σ.get y).cells.length=n)/\off+n<=cs.length then some ⟨[(x,.ptr k off),(y,σ.get y)],.junk,σ.ents.set k (.box (setAt cs off (σ.get y).cells)),true⟩else none
    |_=>none
   |_,_=>none
 | .build t h=>match JF t K.st with
   |some (j,z)=>
    if JA (fun(i:Nat)=>j[i]?) (DY z).length h.toList (h.toList.map fun p=>σ.get p.2)=true/\(Gh (fun(i:Nat)=>j[i]?) (DY z) h.toList (h.toList.map fun p=>σ.get p.2)).all AP.oZ=true
    then some ⟨JQ h.toList (h.toList.map fun p=>σ.get p.2),.d (.agg (FN (Gh (fun(i:Nat)=>j[i]?) (DY z) h.toList (h.toList.map fun p=>σ.get p.2)))),σ.ents,false⟩
    else none
   |none=>match JF t K.arr with
    |some (s,z)=>
     if JA (fun i=>some (i*s,s)) (DY z).length h.toList (h.toList.map fun p=>σ.get p.2)=true/\(Gh (fun i=>some (i*s,s)) (DY z) h.toList (h.toList.map fun p=>σ.get p.2)).all AP.oZ=true
     then some ⟨JQ h.toList (h.toList.map fun p=>σ.get p.2),.d (.agg (FN (Gh (fun i=>some (i*s,s)) (DY z) h.toList (h.toList.map fun p=>σ.get p.2)))),σ.ents,false⟩
     else none
    |none=>none
 | .call c=>match c.callee,c.args.toList,c.argTypes.toList with
   | .builtin .len,[x],[t]=>match JF t K.und,σ.get x with
     |some .string,.d (.lit (.string s))=>some ⟨[(x,.d (BZ s))],.d (Aq s.size),σ.ents,false⟩
     |_,_=>none
   |_,_,_=>none
 |_=>none
def aY (σ:Ac):∀(l:AA (Nat×BD)),needs σ (JQ l (l.map fun p=>σ.get p.2))
 | []=>trivial
 |(_,x)::l=>⟨rfl,aY σ l⟩
def afs {P:BU} (K:Kn P) {σ:Ac} {o:Oper} {r:Iu} (h:kK K σ o=some r):BJ P o r.ns σ.ents r.x r.E/\needs σ r.ns/\(r.bar=false->r.E=σ.ents):=by
 unfold kK at h;split at h
 ·rename_i x j;split at h
  ·cases h;exact⟨abm j,trivial,fun _=>rfl⟩
  cases h;exact⟨aeh j,⟨rfl,trivial⟩,fun _=>rfl⟩
 ·rename_i x j;split at h
  ·cases h;exact⟨adD j,trivial,fun _=>rfl⟩
  cases h;exact⟨aaC j,⟨rfl,trivial⟩,fun _=>rfl⟩
 ·rename_i c x y j;split at h
  ·rename_i e;cases h;exact⟨ac5 true rfl j,⟨e,rfl,trivial⟩,fun _=>rfl⟩
  ·rename_i e;cases h;exact⟨acX false rfl j,⟨e,rfl,trivial⟩,fun _=>rfl⟩
  cases h
 ·rename_i op t x y t' j;split at h
  ·rename_i k a k' b O S;split at h
   ·rename_i I;subst I;rw[Oh]at h;obtain⟨v,L,rfl⟩:=h;exact⟨rQ j (zG L) ⟨rfl,rfl⟩,⟨O,S,trivial⟩,fun _=>rfl⟩
   cases h
  ·rename_i a b O S;rw[Oh]at h;obtain⟨v,L,rfl⟩:=h;exact⟨rQ j (agM L) ⟨rfl,rfl⟩,⟨O,S,trivial⟩,fun _=>rfl⟩
  ·rename_i a b O S;split at h
   ·rename_i U;have U:=K.Ky.mem _ (Hq U);split at h
    ·cases h;exact⟨ag0 U j,⟨O,S,trivial⟩,fun _=>rfl⟩
    ·cases h;exact⟨afm U j,⟨O,S,trivial⟩,fun _=>rfl⟩
    cases h
   cases h
  cases h
 ·rename_i op t x j;split at h
  ·rename_i b e;split at h
   ·cases h;exact⟨aU j (fun _=>rfl),⟨e,trivial⟩,fun _=>rfl⟩
   cases h
  ·rename_i k n e;split at h
   ·cases h;exact⟨aU j (fun _=>rfl),⟨e,trivial⟩,fun _=>rfl⟩
   cases h
  cases h
 ·rename_i s t x j;split at h
  ·rename_i k0 k k1 n q Z e;split at h
   ·rename_i I;subst I;cases h;exact⟨aeQ (K.Ky.mem _ (Hq q)) (K.Ky.mem _ (Hq Z)) j,⟨e,trivial⟩,fun _=>rfl⟩
   cases h
  ·rename_i u q Z e;cases h;exact⟨agF (K.Ky.mem _ (Hq q)) (K.Ky.mem _ (Hq Z)) j,⟨e,trivial⟩,fun _=>rfl⟩
  cases h
 ·rename_i x i j;split at h
  ·rename_i xs e;split at h
   ·rename_i v L;cases h;exact⟨aeU j L,⟨e,trivial⟩,fun _=>rfl⟩
   cases h
  cases h
 ·rename_i t x f j;split at h
  ·rename_i off k o' q e;cases h;exact⟨abU (K.hfld.mem _ (UE q)) j,⟨e,trivial⟩,fun _=>rfl⟩
  ·rename_i off k i o' q e;cases h;exact⟨adl (K.hfld.mem _ (UE q)) j,⟨e,trivial⟩,fun _=>rfl⟩
  ·rename_i off cs o' q e;cases h;exact⟨afJ (K.hfld.mem _ (UE q)) j,⟨e,trivial⟩,fun _=>rfl⟩
  cases h
 ·rename_i x j;split at h
  ·rename_i e;cases h;exact⟨abd j,⟨e,trivial⟩,fun _=>rfl⟩
  ·rename_i e;cases h;exact⟨yj j,⟨e,trivial⟩,fun _=>rfl⟩
  ·rename_i e;cases h;exact⟨abf j,⟨e,trivial⟩,fun _=>rfl⟩
  cases h
 ·rename_i t x f j;split at h
  ·rename_i off agg n cs q e;split at h
   ·rename_i m;cases h;exact⟨zX rfl (K.hpart.mem _ (UE q)) m.1 m.2 j,⟨e,trivial⟩,fun _=>rfl⟩
   cases h
  cases h
 ·rename_i t x j;split at h
  ·rename_i agg n cs off q e;split at h
   ·rename_i m;cases h;exact⟨abS rfl (K.hty.mem _ (Hq q)) m.1 m.2 j,⟨e,trivial⟩,fun _=>rfl⟩
   cases h
  ·rename_i agg n k off q e;split at h
   ·rename_i cs I;split at h
    ·rename_i m;cases h;exact⟨ac2 rfl I m.2 (K.hty.mem _ (Hq q)) m.1.1 m.1.2 j,⟨e,trivial⟩,fun _=>rfl⟩
    split at h
    ·rename_i v L _;cases h;exact⟨zx I L (K.hty.mem _ (Hq q)) j,⟨e,trivial⟩,fun _=>rfl⟩
    cases h
   cases h
  cases h
 ·rename_i t x j;split at h
  ·rename_i m;cases h;exact⟨ab3 m j,⟨rfl,trivial⟩,fun M=>by cases M⟩
  cases h
 ·rename_i t j;split at h
  ·rename_i z hz;cases h;exact⟨acC (K.hzero.mem _ (Hq hz)).1 (K.hzero.mem _ (Hq hz)).2 j,trivial,fun M=>by cases M⟩
  cases h
 ·rename_i t x y j;split at h
  ·rename_i agg n k off q e;split at h
   ·rename_i cs I;split at h
    ·split at h
     ·rename_i m;cases h;refine⟨BJ.ZB (rG (v:=.d (.sl [])) I rfl (by have h9:=(K.hty.mem _ (Hq q)).size;rw[m.1]at h9;exact h9) rfl m.2 j) (fun n hn=>?_),⟨e,trivial⟩,fun M=>by cases M⟩;simp only[Hz,LW,ND]at hn;rcases hn with rfl|rfl
      ·exact .inl Bf
      exact .inr rfl
     cases h
    split at h
    ·rename_i m;cases h;exact⟨rG I m.1.1 (K.hty.mem _ (Hq q)).size m.1.2 m.2 j,⟨e,rfl,trivial⟩,fun M=>by cases M⟩
    cases h
   cases h
  cases h
 ·rename_i t parts j;split at h
  ·rename_i Y z hs;split at h
   ·rename_i m;cases h;exact⟨aeH (K.hst.mem _ (Hq hs)) _ j rfl m.1 m.2,aY σ _,fun _=>rfl⟩
   cases h
  split at h
  ·rename_i s z hs;split at h
   ·rename_i m;cases h;exact⟨yQ (K.harr.mem _ (Hq hs)) _ m.1 m.2 j,aY σ _,fun _=>rfl⟩
   cases h
  cases h
 ·rename_i c j;split at h
  ·rename_i x t J ha ht
   have j:o.op=.call { callee:=.builtin .len,args:= #[x],argTypes:= #[t] }:=by
    obtain⟨cal,adQ,ts⟩:=c;simp only at J ha ht;rw[j,J,show adQ= #[x]from by rw[←XL (xs:=adQ),ha],show ts= #[t]from by rw[←XL (xs:=ts),ht]]
   split at h
   ·rename_i s q e;cases h;exact⟨acp s (K.Ky.mem _ (Hq q)) j,⟨e,trivial⟩,fun _=>rfl⟩
   cases h
  cases h
 cases h
def FK (ops:Aw Oper) (σ:Ac):AB (Nat×AO)->AB AO
 |none=>some true
 |some (j,h)=>match(ops[j]?).bind (·.dst)with
  |some d=>match σ.slots.getD d .junk with
   | .d (.lit (.bool b))=>some (b==h)
   | .d (.lit (.tuple a))=>match a.toList with
     | []=>some false
     |_=>none
   |_=>none
  |none=>none
def Iz {ops:Aw Oper} {σ:Ac} {g:AB (Nat×AO)} (h:FK ops σ g=some true):N7 ops σ g:=by
 unfold FK at h;split at h
 ·exact .inl rfl
 rename_i j m;split at h
 ·rename_i d hd;split at h
  ·rename_i b n;refine .inr ⟨j,m,d,b,rfl,hd,n,?_⟩;simpa using h
  ·split at h<;>cases h
  cases h
 cases h
def SPr {ops:Aw Oper} {σ:Ac} {g:AB (Nat×AO)} (h:FK ops σ g=some false):OB ops σ g:=by
 unfold FK at h;split at h
 ·cases h
 rename_i j m;split at h
 ·rename_i d hd;split at h
  ·rename_i b n;refine afq j m d b rfl hd n ?_;have :(b==m)=false:=DU h;cases b<;>cases m<;>first|rfl|cases this
  ·rename_i a n;split at h
   ·rename_i ha;have ha:a= #[]:=by rw[←XL (xs:=a),ha]
    subst ha;exact yF j m d rfl hd n
   cases h
  cases h
 cases h
def Nb {P:BU} (K:Kn P) (ops:Aw Oper) (σ:Ac) (o:Oper):AB Iu:=
 match FK ops σ o.guard with
 |some true=>match kK K σ o with
  |some r=>if(Hg r.ns).all (tmpsOf o).contains=true then some r else none
  |none=>none
 |some false=>some ⟨[],.d (.lit undef),σ.ents,false⟩
 |none=>none
def Pe {P:BU} (K:Kn P) {ops:Aw Oper} {σ:Ac} {o:Oper} {r:Iu} (h:Nb K ops σ o=some r):KO P ops σ r.x r.E r.bar o:=by
 unfold Nb at h;split at h
 ·rename_i j;split at h
  ·rename_i z m;split at h
   ·rename_i n;cases h;obtain⟨q,s,u⟩:=afs K m;exact⟨.inl ⟨_,q,s,n,Iz j⟩,u⟩
   cases h
  cases h
 ·rename_i j;cases h;exact⟨.inr ⟨rfl,rfl,SPr j⟩,fun _=>rfl⟩
 cases h
def DX {P:BU} (K:Kn P) (ops:Aw Oper):Nat->AA Oper->Ac->AB (Ac×AA Iu)
 |0,_,σ=>some (σ,[])
 |n+1,l,σ=>match l with
  |o::l=>match Nb K ops σ o with
   |some r=>match DX K ops n l (σ.put o.dst r.x r.E)with
    |some (σ',rs)=>some (σ',r::rs)
    |none=>none
   |none=>none
  | []=>none
def I9 :AB (Ac×AA Iu)->Ac
 |some (σ,_)=>σ
 |none=>⟨[],[],0⟩
def Q7 :AB (Ac×AA Iu)->AA Iu
 |some (_,rs)=>rs
 |none=>[]
def Chain.auto {P:BU} (K:Kn P) {ops:Aw Oper}:∀(n:Nat) {l:AA Oper} {σ σ':Ac},(DX K ops n l σ).isSome=true->Chain P ops (l.drop n) (I9 (DX K ops n l σ)) σ'->Chain P ops l σ σ'
 |0,l,σ,σ',_,k=>by simpa[DX,I9]using k
 |n+1,l,σ,σ',h,k=>by
  unfold DX at h k;split at h
  ·rename_i o q;split at h
   ·rename_i r m;split at h
    ·rename_i s rs j;simp only[m,j]at k;refine .J8 o.dst (Pe K m) rfl (Chain.auto K n FX ?_);rw[j];exact k
    cases h
   cases h
  cases h
def DL.auto {P:BU} (K:Kn P) {ops:Aw Oper}:∀(n:Nat) {l:AA Oper} {σ σ':Ac} {rs:AA AP} {ess:AA (AA Ad)} {bs:AA AO},(DX K ops n l σ).isSome=true->DL P ops (l.drop n) (I9 (DX K ops n l σ)) rs ess bs σ'->
 DL P ops l σ ((Q7 (DX K ops n l σ)).map Iu.x++rs) ((Q7 (DX K ops n l σ)).map Iu.E++ess) ((Q7 (DX K ops n l σ)).map Iu.bar++bs) σ'
 |0,l,σ,σ',rs,ess,bs,_,k=>by simpa[DX,I9,Q7]using k
 |n+1,l,σ,σ',rs,ess,bs,h,k=>by
  unfold DX at h k ⊢;split at h
  ·rename_i o q;split at h
   ·rename_i r m;split at h
    ·rename_i u s j;simp only[m,j]at k ⊢;refine .J8 o.dst (Pe K m) rfl ?_;have :=DL.auto K n (l:=q) (σ:=σ.put o.dst r.x r.E) (σ':=σ') (rs:=rs) (ess:=ess) (bs:=bs) FX (by rw[j];exact k);rw[j]at this;exact this
    cases h
   cases h
  cases h
def Chain.a {P:BU} [T:Kn P] {ops:Aw Oper} {l:AA Oper} {σ σ':Ac} (n:Nat) (k:Chain P ops (l.drop n) (I9 (DX T ops n l σ)) σ') (h:(DX T ops n l σ).isSome=true:=by kernel_rfl):Chain P ops l σ σ':=Chain.auto T n h k
def DL.a {P:BU} [T:Kn P] {ops:Aw Oper} {l:AA Oper} {σ σ':Ac} {rs:AA AP} {ess:AA (AA Ad)} {bs:AA AO} (n:Nat) (k:DL P ops (l.drop n) (I9 (DX T ops n l σ)) rs ess bs σ') (h:(DX T ops n l σ).isSome=true:=by kernel_rfl):
 DL P ops l σ ((Q7 (DX T ops n l σ)).map Iu.x++rs) ((Q7 (DX T ops n l σ)).map Iu.E++ess) ((Q7 (DX T ops n l σ)).map Iu.bar++bs) σ':=DL.auto T n h k
def Chain.c {P:BU} [T:Kn P] {ops:Aw Oper} {o:Oper} {rest:AA Oper} {σ σ':Ac} {e c:AO} (h:some e=some c) (k:Chain P ops rest (σ.kW o.dst (.d (.lit (.bool c)))) σ') (m:(Nb T ops σ o).map (fun r=>(r.x,r.E,r.bar))=some (.d (.lit (.bool e)),σ.ents,false):=by kernel_rfl):Chain P ops (o::rest) σ σ':=by
 rw[Oh]at m;obtain⟨r,q,j⟩:=m;have n:=Pe T q;simp only[Md]at j;rw[j.1,j.2.1,j.2.2,DU h]at n;exact .J8 o.dst n rfl k
def DL.c {P:BU} [T:Kn P] {ops:Aw Oper} {o:Oper} {rest:AA Oper} {σ σ':Ac} {rs:AA AP} {ess:AA (AA Ad)} {bs:AA AO} {e c:AO} (h:some e=some c) (k:DL P ops rest (σ.kW o.dst (.d (.lit (.bool c)))) rs ess bs σ') (m:(Nb T ops σ o).map (fun r=>(r.x,r.E,r.bar))=some (.d (.lit (.bool e)),σ.ents,false):=by kernel_rfl):
 DL P ops (o::rest) σ (.d (.lit (.bool c))::rs) (σ.ents::ess) (false::bs) σ':=by
 rw[Oh]at m;obtain⟨r,q,j⟩:=m;have n:=Pe T q;simp only[Md]at j;rw[j.1,j.2.1,j.2.2,DU h]at n;exact .J8 o.dst n rfl k
def oH (σ:Ac) (ns:AA (BD×AP)):Prop:=(ns.map fun n=>σ.get n.1)=ns.map (·.2)
def L9 {σ:Ac}:∀{ns:AA (BD×AP)},oH σ ns->needs σ ns
 | [],_=>trivial
 |n::ns,h=>by
  simp only[oH,Oi,List.cons.injEq]at h;exact⟨h.1,L9 h.2⟩
def Chain.p {P:BU} {ops:Aw Oper} {o:Oper} {rest:AA Oper} {σ σ':Ac} {ns:AA (BD×AP)} {x:AP} (h:BJ P o ns σ.ents x σ.ents) (k:Chain P ops rest (σ.kW o.dst x) σ') (j:(ns.map fun n=>σ.get n.1)=ns.map (·.2):=by kernel_rfl) (m:FK ops σ o.guard=some true:=by kernel_rfl):Chain P ops (o::rest) σ σ':=
 .op o.dst h (L9 j) (Iz m) rfl k
def DL.p {P:BU} {ops:Aw Oper} {o:Oper} {rest:AA Oper} {σ σ':Ac} {ns:AA (BD×AP)} {x:AP} {rs:AA AP} {ess:AA (AA Ad)} {bs:AA AO} (h:BJ P o ns σ.ents x σ.ents) (k:DL P ops rest (σ.kW o.dst x) rs ess bs σ') (j:(ns.map fun n=>σ.get n.1)=ns.map (·.2):=by kernel_rfl) (m:FK ops σ o.guard=some true:=by kernel_rfl)
 (q:(Hg ns).all (tmpsOf o).contains=true:=by kernel_rfl):DL P ops (o::rest) σ (x::rs) (σ.ents::ess) (false::bs) σ':=
 .op o.dst h (L9 j) (Iz m) rfl q k
def Chain.e {P:BU} {ops:Aw Oper} {o:Oper} {rest:AA Oper} {σ σ':Ac} {ns:AA (BD×AP)} {x:AP} {es':AA Ad} (E:AA Ad) (h:BJ P o ns σ.ents x es') (k:Chain P ops rest (σ.put o.dst x E) σ') (j:es'=E:=by kernel_rfl) (m:(ns.map fun n=>σ.get n.1)=ns.map (·.2):=by kernel_rfl) (q:FK ops σ o.guard=some true:=by kernel_rfl):Chain P ops (o::rest) σ σ':=
 .oe o.dst E h j (L9 m) (Iz q) rfl k
def DL.e {P:BU} {ops:Aw Oper} {o:Oper} {rest:AA Oper} {σ σ':Ac} {ns:AA (BD×AP)} {x:AP} {es':AA Ad} {rs:AA AP} {ess:AA (AA Ad)} {bs:AA AO} (E:AA Ad) (h:BJ P o ns σ.ents x es') (k:DL P ops rest (σ.put o.dst x E) rs ess bs σ') (j:es'=E:=by kernel_rfl) (m:(ns.map fun n=>σ.get n.1)=ns.map (·.2):=by kernel_rfl) (q:FK ops σ o.guard=some true:=by kernel_rfl)
 (r:(Hg ns).all (tmpsOf o).contains=true:=by kernel_rfl):DL P ops (o::rest) σ (x::rs) (E::ess) (true::bs) σ':=
 .oe o.dst E h j (L9 m) (Iz q) rfl r k
def MZ (σ:Ac) (o:Oper):AB (FuncId×AA AP):=
 match o.op with
 | .call c=>match c.callee with
   | .value (.func f)=>some (f,c.args.toList.map σ.get)
   |_=>none
 |_=>none
def lD {srcs:AA Bv}:∀{l:AA AP},l.all AP.oZ=true->Gn srcs l l
 | [],_=>trivial
 |x::l,h=>by
  simp only[List.all_cons,CS]at h;refine⟨?_,lD h.2⟩;cases x with
  |d x=>exact .inl rfl
  |_=>cases h.1
def ku (σ:Ac):∀(l:AA BD),needs σ (Di l (l.map σ.get))
 | []=>trivial
 |_::l=>⟨rfl,ku σ l⟩
def XA {P:BU} {σ:Ac} {o:Oper} {f:FuncId} {dF:AA AP} {q:AP} (I:DN P f dF [] q []) (J:Eb P f=true) (m:MZ σ o=some (f,dF)) (hd:dF.all AP.oZ=true):∃ns,BJ P o ns σ.ents (q.up [] σ.ents.length) σ.ents/\needs σ ns/\(Hg ns).all (tmpsOf o).contains=true:=by
 unfold MZ at m;split at m
 ·rename_i c z;split at m
  ·rename_i O j;cases m;obtain⟨callee,args,ats⟩:=c;simp only at j;subst j;refine⟨_,uN I J (lD hd) Bf rfl z,ku σ _,?_⟩;rw[Dz];intro t s;unfold Hg at s;rw[Pn]at s;obtain⟨n,L,u⟩:=s
   have r:n.1∈args.toList:=by
    have :∀(l:AA BD) (vs:AA AP),n∈Di l vs->n.1∈l:=by
     intro l
     induction l with
     |nil=>intro vs h;cases vs<;>simp[Di]at h
     |cons x l M=>
      intro vs h;cases vs with
      |nil=>simp[Di]at h
      |cons v vs=>
       simp only[Di,Hz]at h;rcases h with rfl|h
       ·exact OE
       exact Ku _ (M vs h)
    exact this _ _ L
   unfold tmpsOf;simp only[List.contains_iff_mem,Pn];refine⟨n.1,?_,u⟩;rw[z];show n.1∈(#[Operand.func f]++args).toList;simp[r]
  cases m
 cases m
def Chain.call {P:BU} {ops:Aw Oper} {o:Oper} {rest:AA Oper} {σ σ':Ac} {f:FuncId} {dF:AA AP} {h:AP} (j:DN P f dF [] h []) (m:Eb P f=true) (k:Chain P ops rest (σ.kW o.dst (h.up [] σ.ents.length)) σ') (n:MZ σ o=some (f,dF):=by kernel_rfl)
 (hd:dF.all AP.oZ=true:=by kernel_rfl) (q:FK ops σ o.guard=some true:=by kernel_rfl):Chain P ops (o::rest) σ σ':=by
 obtain⟨ns,r,s,_⟩:=XA j m n hd;exact .op o.dst r s (Iz q) rfl k
def DL.call {P:BU} {ops:Aw Oper} {o:Oper} {rest:AA Oper} {σ σ':Ac} {f:FuncId} {dF:AA AP} {h:AP} {rs:AA AP} {ess:AA (AA Ad)} {bs:AA AO} (j:DN P f dF [] h []) (m:Eb P f=true) (k:DL P ops rest (σ.kW o.dst (h.up [] σ.ents.length)) rs ess bs σ') (n:MZ σ o=some (f,dF):=by kernel_rfl)
 (hd:dF.all AP.oZ=true:=by kernel_rfl) (q:FK ops σ o.guard=some true:=by kernel_rfl):DL P ops (o::rest) σ (h.up [] σ.ents.length::rs) (σ.ents::ess) (false::bs) σ':=by
 obtain⟨ns,r,s,u⟩:=XA j m n hd;exact .op o.dst r s (Iz q) rfl u k
def jZ (v:Af):Exit:=.panic [{ v,recovered:=false }]
structure CB (P:Program) (ops:Array Oper) (l:List Oper) (σ:Ac) (K:Exit->Ac->Prop):Prop where
 run:∀(ro:Option Nat) (l2:List Oper) (Q:Exit->Act->World->Prop) (C:DZ) (ok:Nat->Prop) (H:List BG) (a:Act) (w:World),Holds C ok H σ a w->
  ((∀σ' ok' H' a' w',K .normal σ'->Holds C ok' H' σ' a' w'->wpListIn (IJ ro) 0 P ops Q l2 a' w')/\(∀v σ' ok' H' a' w',K (jZ v) σ'->Holds C ok' H' σ' a' w'->Q (jZ v) a' w'))->wpListIn (IJ ro) 0 P ops Q (l++l2) a w
section
variable {P:BU} {ops:Aw Oper} {o:Oper} {rest l:AA Oper} {σ:Ac} {K:Exit->Ac->Prop}
def CB.nil (h:K .normal σ):CB P ops [] σ K:=⟨fun _ _ _ _ _ _ _ _ j m=>m.1 _ _ _ _ _ h j⟩
def CB.dQ {M:Ac->Prop} (h:M σ):CB P ops [] σ (Gv M K):=.nil h
def CB.step {x:AP} {E:AA Ad} {bar:AO} (z:KO P ops σ x E bar o) (k:CB P ops rest (σ.put o.dst x E) K):CB P ops (o::rest) σ K:=by
 refine⟨fun ro j Q C ok H a w h u=>?_⟩;show wpListIn (IJ ro) 0 P ops Q (o::(rest++j)) a w;unfold wpListIn;rcases z.1 with⟨ns,I,J,_,m⟩|⟨rfl,rfl,m⟩
 ·rw[EX (RH h m)];refine PU ?_ (I.P7 ro C ok H a w Q h.mem (fun n q=>OC J n q▸h.get n.1));rintro O w' ⟨v,ok',H',rfl,r,s,L,M⟩;exact k.run ro j Q C _ _ _ _ (h.put o.dst r s L M) u
 rw[EW (by rw[eP h m];simp)];exact⟨fun _ _=>trivial,k.run ro j Q C _ _ _ _ (h.put o.dst (.refl _ _) (.refl _) h.mem (.d _ _ (.lit _))) u⟩
def CB.conv (m:Ac) (h:∀C ok H a w,Holds C ok H σ a w->∃ok',Holds C ok' H m a w) (k:CB P ops l m K):CB P ops l σ K:=⟨fun ro n Q C ok H a w q r=>by
 obtain⟨ok',j⟩:=h C ok H a w q
 exact k.run ro n Q C _ _ _ _ j r⟩
def CB.auto (T:Kn P):∀(n:Nat) {l:AA Oper} {σ:Ac},(DX T ops n l σ).isSome=true->CB P ops (l.drop n) (I9 (DX T ops n l σ)) K->CB P ops l σ K
 |0,l,σ,_,k=>by simpa[DX,I9]using k
 |n+1,l,σ,h,k=>by
  unfold DX at h k;split at h
  ·rename_i o q;split at h
   ·rename_i r m;split at h
    ·rename_i s rs j;simp only[m,j]at k;refine .step (Pe T m) (CB.auto T n FX ?_);rw[j];exact k
    cases h
   cases h
  cases h
def CB.a [T:Kn P] (n:Nat) (k:CB P ops (l.drop n) (I9 (DX T ops n l σ)) K) (h:(DX T ops n l σ).isSome=true:=by kernel_rfl):CB P ops l σ K:=CB.auto T n h k
def CB.p {ns:AA (BD×AP)} {x:AP} (h:BJ P o ns σ.ents x σ.ents) (k:CB P ops rest (σ.kW o.dst x) K) (j:(ns.map fun n=>σ.get n.1)=ns.map (·.2):=by kernel_rfl) (m:FK ops σ o.guard=some true:=by kernel_rfl) (q:(Hg ns).all (tmpsOf o).contains=true:=by kernel_rfl):CB P ops (o::rest) σ K:=
 .step (rW h (L9 j) (Iz m) q) k
def CB.e {ns:AA (BD×AP)} {x:AP} {es':AA Ad} (E:AA Ad) (h:BJ P o ns σ.ents x es') (k:CB P ops rest (σ.put o.dst x E) K) (j:es'=E:=by kernel_rfl) (m:(ns.map fun n=>σ.get n.1)=ns.map (·.2):=by kernel_rfl) (q:FK ops σ o.guard=some true:=by kernel_rfl) (r:(Hg ns).all (tmpsOf o).contains=true:=by kernel_rfl):CB P ops (o::rest) σ K:=
 .step (bar:=true) ⟨.inl ⟨ns,j▸h,L9 m,r,Iz q⟩,fun h=>Ed⟩ k
def CB.call {f:FuncId} {dF:AA AP} {h:AP} (j:DN P f dF [] h []) (m:Eb P f=true) (k:CB P ops rest (σ.kW o.dst (h.up [] σ.ents.length)) K) (n:MZ σ o=some (f,dF):=by kernel_rfl)
 (hd:dF.all AP.oZ=true:=by kernel_rfl) (q:FK ops σ o.guard=some true:=by kernel_rfl):CB P ops (o::rest) σ K:=by
 obtain⟨ns,r,s,u⟩:=XA j m n hd;exact .step (rW r s (Iz q) u) k
def CB.c [T:Kn P] {e c:AO} (h:some e=some c) (k:CB P ops rest (σ.kW o.dst (.d (.lit (.bool c)))) K) (m:(Nb T ops σ o).map (fun r=>(r.x,r.E,r.bar))=some (.d (.lit (.bool e)),σ.ents,false):=by kernel_rfl):CB P ops (o::rest) σ K:=by
 rw[Oh]at m;obtain⟨r,q,j⟩:=m;have n:=Pe T q;simp only[Md]at j;rw[j.1,j.2.1,j.2.2,DU h]at n;exact .step n k
def Ac.wipe (h:AA Nat) (σ:Ac):Ac:=⟨h.foldl (fun l d=>l.set d .junk) σ.slots,σ.ents,σ.base⟩
def Holds.wipe {C:DZ} {ok:Nat->Prop} {H:AA BG} {a:Act} {w:Ai}:∀(j:AA Nat) {σ:Ac},Holds C ok H σ a w->Holds C ok H (σ.wipe j) a w
 | [],σ,h=>h
 |d::j,σ,h=>by
  refine Holds.wipe j (σ:=⟨σ.slots.set d .junk,σ.ents,σ.base⟩) ⟨h.mem,by simpa using h.size,h.defers,h.base,fun t m=>?_⟩;simp only[dL]at m;by_cases e:d=t
  ·subst e;have n:(σ.slots.set d .junk).getD d .junk=.junk:=UM
   rw[n];exact .junk _
  have n:(σ.slots.set d .junk).getD t .junk=σ.slots.getD t .junk:=by simp[List.getD,Qm e]
  rw[n];exact h.slot t m
def acE (n:Nat) (l h:AA Oper):l++h=l.take n++(l.drop n++h):=by
 rw[←HY,dz]
def CB.join (n:Nat) (M:Ac->Prop) (q:∀s,M s->CB P ops (l.drop n) s K) (r:CB P ops (l.take n) σ (Gv M K)):CB P ops l σ K:=⟨fun ro j Q C ok H a w u m=>by
 rw[acE n l j]
 exact r.run ro _ Q C ok H a w u ⟨fun σ' ok' H' z w' I h=>(q σ' I).run ro j Q C ok' H' z w' h m,m.2⟩⟩
def CB.merge (n:Nat) (h:AA Nat) (d:Nat) (x:AP) (m:CB P ops (l.take n) σ (Gv (fun s=>s.wipe h=(σ.wipe h).kW (some d) x) K)) (q:CB P ops (l.drop n) ((σ.wipe h).kW (some d) x) K):CB P ops l σ K:=
 .join n _ (fun s r=>⟨fun ro u Q C ok H a w z I=>by
  have e:s.wipe h=(σ.wipe h).kW (some d) x:=r;have j:=z.wipe h;rw[e]at j
  exact q.run ro u Q C ok H a w j I⟩) m
def Bg {id:Nat} {Q:Exit->Ac->Prop} (h:CB P ops ops.toList σ Q):BK P (.region id ops false) σ Q:=⟨fun ro _ C ok H a w q=>by
 refine wpIn_region_list ?_;have :=h.run ro [] (fun e m w'=>∃ok' H' σ',Holds C ok' H' σ' m w'/\Q e σ') C ok H a w q ⟨fun σ' ok' H' m w' n j=>⟨ok',H',σ',j,n⟩,fun v σ' ok' H' m w' n j=>⟨ok',H',σ',j,n⟩⟩
 rwa [Zj]at this⟩
def EM {id:Nat} {y:Code} {Q:Exit->Ac->Prop} (h:CB P ops ops.toList σ (Gv (fun s=>BK P y s Q) Q)):BK P (.seq (.region id ops false) y) σ Q:=
 BK.seq (fun s=>BK P y s Q) (Bg h) (fun _ h=>h)
def AV [T:Kn P] {id:Nat} {y:Code} {Q:Exit->Ac->Prop} (n:Nat) (k:CB P ops (ops.toList.drop n) (I9 (DX T ops n ops.toList σ)) (Gv (fun s=>BK P y s Q) Q)) (h:(DX T ops n ops.toList σ).isSome=true:=by kernel_rfl):BK P (.seq (.region id ops false) y) σ Q:=EM (CB.a n k h)
end
def Bo (n:Nat) (l:AA (Nat×AP)):AA AP:=(List.range n).map fun i=>(JF i l).getD .junk
def mk (n w:Nat):AA AO:=(List.range n).map fun i=>Nat.testBit w i
def acO {σ S:Ac} (m:AA AO) (π:AA (Nat×AO)) (h:Lj σ.base σ.ents π=true:=by kernel_rfl) (j:S=⟨Fv π m σ.slots,Ju σ.ents π,σ.base⟩:=by kernel_rfl):DI σ S:=YR.sub ⟨m,π,h,j⟩
inductive Ho (P:Program) where
 |call (i:Nat) (f:FuncId) (dF:List AP) (res:AP) (run:DN P f dF [] res []) (ent:Eb P f=true) (dat:dF.all AP.oZ=true)
 |dat (i:Nat) (op:Op) (ns:List (Operand×AP)) (x:AP) (h:∀(o:Oper) (es:List Ad),o.op=op->BJ P o ns es x es)
 |at_ (i:Nat) (op:Op) (ns:List (Operand×AP)) (k:Nat) (e:Ad) (x:AP) (h:∀(o:Oper) (es:List Ad),es[k]? =some e->o.op=op->BJ P o ns es x es)
 |fix (i:Nat) (op:Op) (ns:List (Operand×AP)) (es:List Ad) (x:AP) (E:List Ad) (h:∀(o:Oper),o.op=op->BJ P o ns es x E)
def Ho.ix {P:BU}:Ho P->Nat
 | .call i .. =>i
 | .dat i .. =>i
 | .at_ i .. =>i
 | .fix i .. =>i
inductive NZ where
 |call (c:Option (FuncId×List AP))
 |dat (op:Op) (vs:List AP)
 |at_ (op:Op) (vs:List AP) (e:Option Ad)
 |fix (op:Op) (vs:List AP) (es:List Ad)
def aH {P:BU} (i:Nat):AA (Ho P)->AB (Ho P)
 | []=>none
 |c::l=>match Nat.beq i c.ix with |true=>some c|false=>aH i l
section
variable {P:BU}
def U2 (σ:Ac) (o:Oper):Ho P->Ac×AB NZ
 | .call _ _ _ h _ _ _=>(σ.kW o.dst (h.up [] σ.ents.length),some (.call (MZ σ o)))
 | .dat _ _ ns x _=>(σ.kW o.dst x,some (.dat o.op (ns.map fun n=>σ.get n.1)))
 | .at_ _ _ ns k _ x _=>(σ.kW o.dst x,some (.at_ o.op (ns.map fun n=>σ.get n.1) σ.ents[k]?))
 | .fix _ _ ns _ x E _=>(σ.put o.dst x E,some (.fix o.op (ns.map fun n=>σ.get n.1) σ.ents))
def UO :Ho P->NZ
 | .call _ f dF _ _ _ _=>.call (some (f,dF))
 | .dat _ op ns _ _=>.dat op (ns.map (·.2))
 | .at_ _ op ns _ e _ _=>.at_ op (ns.map (·.2)) (some e)
 | .fix _ op ns es _ _ _=>.fix op (ns.map (·.2)) es
def N9 (T:Kn P) (L:AA (Ho P)) (ops:Aw Oper) (σ:Ac) (i:Nat):AB (Ac×AB NZ):=
 match ops[i]? with
 |none=>none
 |some o=>match aH i L with
  |some c=>match FK ops σ o.guard with
   |some true=>some (U2 σ o c)
   |_=>none
  |none=>match Nb T ops σ o with
   |some r=>some (σ.put o.dst r.x r.E,none)
   |none=>none
def Gm (T:Kn P) (L:AA (Ho P)) (ops:Aw Oper) (σ:Ac):AA Nat->Ac
 | []=>σ
 |i::l=>match N9 T L ops (Gm T L ops σ l) i with
  |some (σ',_)=>σ'
  |none=>σ
def Og (ops:Aw Oper) (m:AA Nat) (i:Nat):AO:=match ops[i]? with
 |some o=>o.after.toList.all fun e=> !Region.binds .any e||(m.contains e.on&&(e.on<ops.size))
 |none=>false
def ZL (ops:Aw Oper) (N:AA (AA Nat)) (F:AA Nat) (k:Nat) (m:AA Nat) (T:AA (Nat×Nat×Nat)):AO:=
 ((List.range ops.size).all fun i=>m.contains i|| !Og ops m i||
   T.any fun t=>t.2.1==i&&(t.2.2<N.length)&&(fun q=>(List.range ops.size).all fun j=>q.contains j==(m.contains j||j==i)) (N.getD t.2.2 []))&&
 (F.contains k||(List.range ops.size).any fun i=> !m.contains i&&Og ops m i)
def Vo (ops:Aw Oper) (N:AA (AA Nat)) (F:AA Nat):Nat->AA (AA Nat)->AA (Nat×Nat×Nat)->AO
 |_,[],_=>true
 |k,m::M,Tr=>ZL ops N F k m (Tr.takeWhile fun t=>t.1==k)&&Vo ops N F (k+1) M (Tr.dropWhile fun t=>t.1==k)
def UH (ops:Aw Oper) (N:AA (AA Nat)) (Tr:AA (Nat×Nat×Nat)) (F:AA Nat):AO:=Vo ops N F 0 N Tr
def wR {α:Type} {p:α->AO}:∀{l:AA α} {x:α},x∈l.takeWhile p->p x=true
 | [],_,h=>FQ
 |y::l,x,h=>by
  rw[List.takeWhile_cons]at h;cases j:p y with
  |true=>
   rw[j]at h;rcases Hz.1 h with rfl|h
   ·exact j
   exact wR h
  |false=>rw[j]at h;simp at h
def pY {ops:Aw Oper} {N:AA (AA Nat)} {F:AA Nat}:∀(M:AA (AA Nat)) (k:Nat) (Tr:AA (Nat×Nat×Nat)),Vo ops N F k M Tr=true->∀j,j<M.length->
 ∃T,ZL ops N F (k+j) (M.getD j []) T=true/\∀t∈T,t∈Tr/\t.1=k+j
 | [],_,_,_,j,q=>by simp at q
 |m::M,k,Tr,h,j,q=>by
  unfold Vo at h;rw[CS]at h;cases j with
  |zero=>exact⟨_,h.1,fun t n=>⟨(List.takeWhile_sublist _).subset n,by have :=wR n;simpa using this⟩⟩
  |succ j=>
   obtain⟨T,s,r⟩:=pY M (k+1) _ h.2 j JL;refine⟨T,?_,fun t n=>⟨(List.dropWhile_sublist _).subset (r t n).1,?_⟩⟩
   ·rw[show k+(j+1)=k+1+j by omega];simpa using s
   rw[(r t n).2];omega
def O7 (L:AA (Ho P)) (i:Nat):AB NZ:=(aH i L).map UO
def adJ (T:Kn P) {L:AA (Ho P)} {ops:Aw Oper} {σ σ':Ac} {i:Nat} {o:Oper} (s:ops[i]? =some o) (h:N9 T L ops σ i=some (σ',O7 L i)):
 ∃x E,((∃ns,BJ P o ns σ.ents x E/\needs σ ns/\N7 ops σ o.guard)\/(x=.d (.lit undef)/\E=σ.ents/\OB ops σ o.guard))/\σ'=σ.put o.dst x E:=by
 unfold N9 O7 at h;rw[s]at h;simp only at h;split at h
 ·rename_i c u;split at h
  ·rename_i m;simp only[u,Ic,JG]at h;cases c with
   |call i f dF z run ent dat=>
    simp only[U2,UO,Md,JG,NZ.call.injEq]at h;obtain⟨ns,n,q,J⟩:=XA run ent h.2 dat;exact⟨_,_,.inl ⟨ns,n,q,Iz m⟩,h.1.symm⟩
   |dat i op ns x j=>
    simp only[U2,UO,Md,JG,NZ.dat.injEq]at h;exact⟨_,_,.inl ⟨ns,j o _ h.2.1,L9 h.2.2,Iz m⟩,h.1.symm⟩
   |at_ i op ns k e x j=>
    simp only[U2,UO,Md,JG,NZ.at_.injEq]at h;exact⟨_,_,.inl ⟨ns,j o _ h.2.2.2 h.2.1,L9 h.2.2.1,Iz m⟩,h.1.symm⟩
   |fix i op ns es x E j=>
    simp only[U2,UO,Md,JG,NZ.fix.injEq]at h;exact⟨_,_,.inl ⟨ns,h.2.2.2▸j o h.2.1,L9 h.2.2.1,Iz m⟩,h.1.symm⟩
  cases h
 split at h
 ·rename_i r I;simp only[JG,Md]at h;obtain⟨n,q⟩:=Pe T I;refine⟨_,_,?_,h.1.symm⟩;rcases n with⟨ns,a,b,_,c⟩|⟨a,b,c⟩
  ·exact .inl ⟨ns,a,b,c⟩
  exact .inr ⟨a,b,c⟩
 cases h
def U3 (s t:Ac):Prop:=∀C ok H a w,Holds C ok H s a w->∃ok' H',Holds C ok' H' t a w
def zN (s:Ac):U3 s s:=fun _ ok H _ _ h=>⟨ok,H,h⟩
def uh {s t:Ac} (h:DI s t):U3 s t:=h
def BK.nodes (T:Kn P) {id:Nat} {ops:Aw Oper} {σ:Ac} {Q:Exit->Ac->Prop} (L:AA (Ho P)) (N:AA (AA Nat)) (Tr:AA (Nat×Nat×Nat)) (F:AA Nat) (fin:Ac) (hm:P.follows .mixedOrders=true) (hN:UH ops N Tr F=true) (h0:N.getD 0 [0]=[])
 (hT:(Tr.map fun t=>N9 T L ops (Gm T L ops σ (N.getD t.1 [])) t.2.1)=Tr.map fun t=>some (Gm T L ops σ (N.getD t.2.2 []),O7 L t.2.1))
 (hF:JB (fun k=>U3 (Gm T L ops σ (N.getD k [])) fin) F) (hQ:Q .normal fin):BK P (.region id ops true) σ Q:=by
 refine⟨fun ro _ C ok H a w m=>?_⟩;refine wpIn_region_any hm ?_
 let S:Nat->Ac:=fun k=>Gm T L ops σ (N.getD k [])
 let I:Aw AO->Act->Ai->Prop:=fun l a w=>l.size=ops.size/\∃k ok H,k<N.length/\(∀i,i<ops.size->l.getD i false=(N.getD k []).contains i)/\Holds C ok H (S k) a w
 have hNN:∀k,k<N.length->(((List.range ops.size).all fun i=>(N.getD k []).contains i|| !Og ops (N.getD k []) i||
  Tr.any fun t=>t.1==k&&t.2.1==i&&(t.2.2<N.length)&&(List.range ops.size).all fun j=>(N.getD t.2.2 []).contains j==((N.getD k []).contains j||j==i))&&
  (F.contains k||(List.range ops.size).any fun i=> !(N.getD k []).contains i&&Og ops (N.getD k []) i))=true:=fun k hk=>by
  obtain⟨T,u,J⟩:=pY N 0 Tr hN k hk;unfold ZL at u;rw[KP,CS,Dz]at u;rw[CS,Dz];refine⟨fun i s=>?_,u.2⟩;have q:=u.1 i s;rw[cG]at q ⊢;rcases q with q|q
  ·exact .inl q
  obtain⟨t,ht,h4⟩:=O4.1 q;obtain⟨U,M⟩:=J t ht;rw[KP]at M;refine .inr (O4.2 ⟨t,U,?_⟩);rw[show(t.1==k)=true by simpa using M,F8];exact h4
 refine mW I (fun l a w h=>h.1) ?_ ?_ ops.size _ _ _ ?_ ?_
 ·rintro l a w ⟨u,k,ok,H,hk,hl,m⟩ i s;unfold Region.ready at s;rw[Si]at s;obtain⟨hi1,hi2⟩:=s;have hi':i<ops.size:=by simpa using hi1
  have ho:ops[i]? =some ops[i]:=by simp[hi']
  simp only[CS]at hi2;have r:=hi2.2;rw[ho]at r;simp only[Ic,RF]at r;have O:=fun e he=>(NU.1 r) e he
  have hself:l.getD i false=false:=by
   have h8:=hi2.1;have hil:i<l.size:=AL
   simp[Array.getD,hil]at h8 ⊢;exact h8
  have hnc:(N.getD k []).contains i=false:=by rw[←hl i hi'];exact hself
  have hrd:Og ops (N.getD k []) i=true:=by
   unfold Og;rw[ho];simp only[Dz];intro e he;have h9:=O e (by simpa using he);cases hb:Region.binds .any e with
   |false=>simp
   |true=>
    simp only[hb,EU,LD]at h9 ⊢;by_cases hon:e.on<ops.size
    ·rw[←hl e.on hon,h9];simp[hon]
    have :l.getD e.on false=false:=by simp[Array.getD,show ¬e.on<l.size by omega]
    rw[this]at h9;cases h9
  have J:=hNN k hk;simp only[CS,Dz]at J;have q:=J.1 i (by simpa using hi');rw[hnc,hrd]at q;simp only[EU,Bool.or_self,LD,O4]at q;obtain⟨⟨k',z,t⟩,htm,h4⟩:=q;simp only[CS,beq_iff_eq,Gj,Dz]at h4;obtain⟨⟨⟨rfl,rfl⟩,ht⟩,U⟩:=h4;have M:N9 T L ops (S k') z=some (S t,O7 L z):=List.map_inj_left.1 hT (k',z,t) htm;obtain⟨x,E,hs,he⟩:=adJ T ho M
  have Y:∀(a':Act) (w':Ai) (ok':Nat->Prop) (H':AA BG),Holds C ok' H' ((S k').put ops[z].dst x E) a' w'->I (l.setIfInBounds z true) a' w':=by
   intro a' w' ok' H' hp;refine⟨Qj,t,ok',H',ht,fun j hj=>?_,he▸hp⟩;have h7:=U j (by simpa using hj);rw[h7,←hl j hj];by_cases hij:z=j
   ·subst hij;simp[Array.getD,u,hj]
   have :(j==z)=false:=Hy
   rw[this,Ib];simp only[IV,Ns hij]
  unfold wpOpIn;rw[ho];show if Region.wanted ops[z] (yielded ops a.tmps)=true then _ else _
  rcases hs with⟨ns,hop,TQ,hg⟩|⟨rfl,rfl,hg⟩
  ·rw[EX (RH m hg)];refine PU ?_ (hop.P7 ro C ok H a w _ m.mem (fun n hn'=>OC TQ n hn'▸m.get n.1));rintro a' w' ⟨v,ok',H',rfl,hgr,hnn,hm',hx⟩;exact Y _ _ _ _ (m.put ops[z].dst hgr hnn hm' hx)
  rw[EW (by rw[eP m hg];simp)];exact⟨fun _ _=>trivial,Y _ _ _ _ (m.put ops[z].dst (.refl _ _) (.refl _) m.mem (.d _ _ (.lit _)))⟩
 ·rintro l a w ⟨u,k,ok,H,hk,hl,m⟩ hr;have J:=hNN k hk;simp only[CS,cG]at J
  have hFk:k∈F:=by
   rcases J.2 with h|h
   ·simpa using h
   rw[O4]at h;obtain⟨i,s,q⟩:=h;simp only[iZ]at s;simp only[CS,RQ]at q;obtain⟨h4,U⟩:=q;have ho:ops[i]? =some ops[i]:=by simp[s]
   have Z:i∈Region.ready .any ops l:=by
    unfold Region.ready;rw[Si];refine⟨SG,?_⟩;have hf:l.getD i false=false:=by rw[hl i s];exact h4
    have hil:i<l.size:=AL
    have hf':l.getD i true=false:=uY
    rw[hf',ho];simp only[Rt,F8,Ic,RF];rw[NU];intro e he;unfold Og at U;rw[ho]at U;simp only[Dz]at U;have M:=U e (by simpa using he);cases hb:Region.binds .any e with
    |false=>simp
    |true=>
     simp only[hb,EU,LD]at M ⊢;rw[CS,Gj]at M;rw[hl e.on M.2];exact M.1
   rw[hr]at Z;simp at Z
  obtain⟨ok',H',q⟩:=hF.mem k hFk C ok H a w m;exact⟨ok',H',fin,q,hQ⟩
 ·unfold toCome;simp
 refine⟨Bf,0,ok,H,?_,fun i s=>?_,?_⟩
 ·cases N with
  |nil=>cases h0
  |cons x l=>simp
 ·have e:N.getD 0 []=[]:=by
   cases N with
   |nil=>rfl
   |cons x l=>simpa using h0
  rw[e];simp[Array.getD]
 have e:S 0=σ:=by
  show Gm T L ops σ (N.getD 0 [])=σ;cases N with
  |nil=>rfl
  |cons x l=>have :x=[]:=by simpa using h0
             subst this;rfl
 rw[e];refine⟨⟨⟨m.mem.fr.os,m.mem.fr.tape,m.mem.fr.output,m.mem.fr.size,m.mem.fr.block⟩,m.mem.vF,m.mem.vG,m.mem.oP,m.mem.names,m.mem.hlen,fun k e h u J=>(m.mem.ent k e h u J).drew,m.mem.blk,m.mem.Bz⟩,m.size,m.defers.mono (fun b hb=>⟨hb,rfl⟩),m.base,fun t ht=>R.mono (w:=w) (ok:=ok) (w':={ w with drawn:=w.drawn+1 }) (fun b hb=>⟨hb,rfl⟩) (.refl _) (m.slot t ht)⟩
def nU {f:FuncId} {dF:AA AP} {h:AP} (i:Nat) (run:DN P f dF [] h []) (ent:Eb P f=true) (dat:dF.all AP.oZ=true:=by kernel_rfl):Ho P:=.call i f dF h run ent dat
section
variable [T:Kn P] {id:Nat} {ops:Aw Oper} {σ:Ac} {Q:Exit->Ac->Prop} {y:Code}
def BK.aaz (L:AA (Ho P)) (N:AA (AA Nat)) (Tr:AA (Nat×Nat×Nat)) (h:Nat) (j:BK P y (Gm T L ops σ (N.getD h [])) Q) (m:P.follows .mixedOrders=true:=by kernel_rfl) (n:UH ops N Tr [h]=true:=by kernel_rfl) (q:N.getD 0 [0]=[]:=by kernel_rfl)
 (r:(Tr.map fun t=>N9 T L ops (Gm T L ops σ (N.getD t.1 [])) t.2.1)=Tr.map fun t=>some (Gm T L ops σ (N.getD t.2.2 []),O7 L t.2.1):=by kernel_rfl):BK P (.seq (.region id ops true) y) σ Q:=
 BK.seq1 _ (BK.nodes T L N Tr [h] _ m n q r ⟨zN _,trivial⟩ rfl) j
def BK.aaA (L:AA (Ho P)) (N:AA (AA Nat)) (Tr:AA (Nat×Nat×Nat)) (F:AA Nat) (h:Ac) (j:JB (fun k=>U3 (Gm T L ops σ (N.getD k [])) h) F) (m:BK P y h Q) (n:P.follows .mixedOrders=true:=by kernel_rfl) (q:UH ops N Tr F=true:=by kernel_rfl) (r:N.getD 0 [0]=[]:=by kernel_rfl)
 (s:(Tr.map fun t=>N9 T L ops (Gm T L ops σ (N.getD t.1 [])) t.2.1)=Tr.map fun t=>some (Gm T L ops σ (N.getD t.2.2 []),O7 L t.2.1):=by kernel_rfl):BK P (.seq (.region id ops true) y) σ Q:=
 BK.seq1 h (BK.nodes T L N Tr F h n q r s j rfl) m
end
end
section
variable {P:BU} {ops:Aw Oper} {es:AA Ad}
def BK.conv {c:Code} {σ m:Ac} {Q:Exit->Ac->Prop} (h:∀C ok H a w,Holds C ok H σ a w->∃ok',Holds C ok' H m a w) (k:BK P c m Q):BK P c σ Q:=⟨fun ro n C ok H a w q=>by
 obtain⟨ok',j⟩:=h C ok H a w q
 exact k.run ro n C ok' H a w j⟩
end
section
variable {K V:Type} [BEq K]
def ZI :AA (K×V)->K->AB V
 | [],_=>none
 |p::l,k=>bif k==p.1 then some p.2 else ZI l k
end
def yN (P:BU) (f:FuncId) (args:AA AP) (u:Af):Prop:=
 ∀(ok:Nat->Prop) (X:AA Nat) (H:AA BG) (w:Ai) (h:Aw Af),Cm ⟨w,ok,X,H⟩ ok H [] w->h.size=args.length->(∀i,i<args.length->R ok w H (args.getD i .junk) (h.getD i undef))->
  Calls P f h w fun e w'=>∃ok' H',e=.panicked [{ v:=u,recovered:=false }]/\Cm ⟨w,ok,X,H⟩ ok' H' [] w'
def pK {Rr:Type} (P:BU) (f:FuncId) (args:AA AP) (r:Except Af Rr) (h:Rr->AP):Prop:=(∀x,r=.ok x->DN P f args [] (h x) [])/\∀u,r=.error u->yN P f args u
def yD {Rr:Type} (P:BU) (fn:Func) (r:Except Af Rr) (h:Rr->AP) (e:Exit) (σ:Ac):Prop:=
 (∃x,r=.ok x/\nG P fn (h x) [] e σ)\/∃u,r=.error u/\e=jZ u/\σ.base=0
def pG {P:BU} {fn:Func} {Rr:Ending->Ai->Prop} {C:DZ} {n:AA PanicEntry} (q:∀b,C.ok0 b->b<C.w0.heap.size) {H:AA BG} {σ:Ac}
 (r:∀ok a w,Holds C ok H σ a w->Rr (.panicked n) w) {tmps:Aw Af}:∀(Ds:AA Nat) {ok:Nat->Prop} {a:Act} {w:Ai},Holds C ok H σ a w->(∀d∈Ds,ok d/\C.w0.heap.size<=d/\w.heap[d]? =some (.deferred (some [])))->Ds.Nodup->
  LeavesInM (IJ none) 0 P fn tmps Rr (Ds.map fun D=>{ target:=.collected D,args:= #[] }) (.panicking n) w
 | [],ok,a,w,h,_,_=>r ok a w h
 |D::Ds,ok,a,w,h,hd,s=>by
  obtain⟨ok',h',j⟩:=h.take q (fun d m=>hd d (Ku _ m)) (hd D (OE ..)) s;have u:=pG (P:=P) (fn:=fn) (tmps:=tmps) q r Ds h' j (LQ.1 s).2;exact⟨Bf,.inl ⟨D,_,rfl,run_takeDeferred (hd D (OE ..)).2.2,u⟩⟩
def Cm.none {C:DZ} {ok:Nat->Prop} {H:AA BG} {es:AA Ad} {w:Ai} (m:Cm C ok H es w) (n:C.H0=[]):Cm C ok [] [] w:=
 ⟨m.fr,m.vF,m.vG,m.oP,by rw[n];exact .refl _,rfl,fun k e h j=>NG,fun k e h b j=>NG,fun k k' e e' h h' b j=>NG⟩
def pK.aI {Rr:Type} {P:BU} {f:FuncId} {fn:Func} {c:Code} {args:AA AP} {r:Except Af Rr} {q:Rr->AP} (U:P.funcs[f]? =some fn) (Y:fn.body=some c)
 (h:BK P c (.enter args fn.ntmps []) (yD P fn r q)):pK P f args r q:=by
 refine⟨fun x Z=>BO U Y (h.mono fun e σ hq=>?_),fun u hu=>?_⟩
 ·rcases hq with⟨x',m,I⟩|⟨u,m,_⟩
  ·rw[Z]at m;cases m;exact I
  rw[Z]at m;cases m
 intro ok X H w j z hs ha;have hH:H=[]:=IG z.hlen;refine(ZO (ro:=none) (n:=0)).1 (callsIn_of_wp_marks U Y trivial (Rs (h.run none (.inl rfl) ⟨w,ok,X,H⟩ ok H _ w ?_) ?_) rfl)
 ·refine⟨z,by simp[Ac.enter,hs],.nil _ _ _,z.hlen,fun t ht=>?_⟩;simp only[Ac.enter];by_cases e:t<args.length
  ·have J:(args++List.replicate (fn.ntmps-args.length) AP.junk).getD t .junk=args.getD t .junk:=kZ
   have e2:(j++Array.replicate (fn.ntmps-j.size) undef).getD t undef=j.getD t undef:=by
    simp[IV,Zb (show t<j.size by omega)]
   rw[J,e2];exact ha t e
  have J:(args++List.replicate (fn.ntmps-args.length) AP.junk).getD t .junk=.junk:=by
   simp only[List.getD,H8 (NR e),List.getElem?_replicate];split<;>rfl
  rw[J];exact .junk _
 rintro e a' w' ⟨ok',H',σ',m,I⟩;rcases I with⟨x,s,_⟩|⟨u',s,rfl,_⟩
 ·rw[hu]at s;cases s
 rw[hu]at s;cases s;obtain⟨Ds,L,M,O⟩:=m.defers;show LeavesInM (IJ none) 0 P fn a'.tmps _ a'.defers (.panicking _) w';rw[L];exact pG (P:=P) (C:=⟨w,ok,X,H⟩) z.oP (fun S a2 w2 h4=>⟨S,[],rfl,h4.mem.none hH⟩) Ds m O M
section
variable {ok:Nat->Prop} {w:Ai} {es:AA (Af×D)} {ms:Aw MapEntry} {clock:Nat}
def dJ.nil:dJ #[] 0:=⟨rfl,fun i e h=>FQ⟩
end
section
variable {P:BU} {σ:Ac} {Q:Exit->Ac->Prop} {c:BD} {x y:Code}
def DW {A:Type} {b:AO} {u v z:A} (h:(bif b then u else v)=z) (j:u=z->BK P x σ Q) (m:v=z->BK P y σ Q) (n:σ.get c=.d (.lit (.bool b)):=by kernel_rfl):BK P (.cond c x y) σ Q:=
 BK.cond b n (fun e=>j (GU e h)) (fun e=>m (GI e h))
def CZ {A:Type} {b:AO} {u v z:A} (h:(bif b then u else v)=z) (j:u=z->Q .normal σ) (m:v=z->BK P y σ Q) (n:σ.get c=.d (.lit (.bool b)):=by kernel_rfl):BK P (.cond c .skip y) σ Q:=DW h (fun e=>BK.skip (j e)) m n
def BR {A:Type} {b:AO} {u v z:A} (h:(bif b then u else v)=z) (j:u=z->BK P x σ Q) (m:v=z->Q .normal σ) (n:σ.get c=.d (.lit (.bool b)):=by kernel_rfl):BK P (.cond c x .skip) σ Q:=DW h j (fun e=>BK.skip (m e)) n
end
section
variable {P:BU} {ops:Aw Oper} {o:Oper} {rest:AA Oper} {σ σ':Ac} {K:Exit->Ac->Prop} {ns:AA (BD×AP)} {x:AP} {es':AA Ad}
def CB.f (h:BJ P o ns σ.ents x es') (k:CB P ops rest (σ.put o.dst x es') K) (j:(ns.map fun n=>σ.get n.1)=ns.map (·.2):=by kernel_rfl) (m:FK ops σ o.guard=some true:=by kernel_rfl) (q:(Hg ns).all (tmpsOf o).contains=true:=by kernel_rfl):CB P ops (o::rest) σ K:=CB.e es' h k rfl j m q
def Chain.f (h:BJ P o ns σ.ents x es') (k:Chain P ops rest (σ.put o.dst x es') σ') (j:(ns.map fun n=>σ.get n.1)=ns.map (·.2):=by kernel_rfl) (m:FK ops σ o.guard=some true:=by kernel_rfl):Chain P ops (o::rest) σ σ':=Chain.e es' h k rfl j m
def DL.f {rs:AA AP} {ess:AA (AA Ad)} {bs:AA AO} (h:BJ P o ns σ.ents x es') (k:DL P ops rest (σ.put o.dst x es') rs ess bs σ') (j:(ns.map fun n=>σ.get n.1)=ns.map (·.2):=by kernel_rfl) (m:FK ops σ o.guard=some true:=by kernel_rfl)
 (q:(Hg ns).all (tmpsOf o).contains=true:=by kernel_rfl):DL P ops (o::rest) σ (x::rs) (es'::ess) (true::bs) σ':=DL.e es' h k rfl j m q
end
def zC {A:Type} {b:AO} {u v z:A} (h:(bif b then u else v)=z):(b=true/\u=z)\/(b=false/\v=z):=by
 cases b with
 |true=>exact .inl ⟨rfl,h⟩
 |false=>exact .inr ⟨rfl,h⟩
def IK {A:Type} {a b:A} (h:some a=some b):a=b:=DU h
def qE {α β γ:Type} {x:AB α} {y:α->AB β} {f:α->β->AB γ} {z:γ} (h:(x.bind fun a=>(y a).bind (f a))=some z):∃a,x=some a/\∃b,y a=some b/\f a b=some z:=by
 obtain⟨a,j,h⟩:=EF h;obtain⟨b,m,h⟩:=EF h;exact⟨a,j,b,m,h⟩
def ag4 {α β γ δ:Type} {x:AB α} {y:α->AB β} {w:α->β->AB δ} {f:α->β->δ->AB γ} {z:γ} (h:(x.bind fun a=>(y a).bind fun b=>(w a b).bind (f a b))=some z):∃a,x=some a/\∃b,y a=some b/\∃d,w a b=some d/\f a b d=some z:=by
 obtain⟨a,j,b,m,h⟩:=qE h;obtain⟨d,n,h⟩:=EF h;exact⟨a,j,b,m,d,n,h⟩
def AQ {α β:Type} {x:AB α} {f:α->AB β} {z:β} {G:Prop} (h:x.bind f=some z) (k:∀a,x=some a->f a=some z->G):G:=by
 obtain⟨a,j,h⟩:=EF h;exact k a j h
def D6 {α β γ:Type} {x:AB α} {y:α->AB β} {f:α->β->AB γ} {z:γ} {G:Prop} (h:(x.bind fun a=>(y a).bind (f a))=some z) (k:∀a,x=some a->∀b,y a=some b->f a b=some z->G):G:=by
 obtain⟨a,j,b,m,h⟩:=qE h;exact k a j b m h
def Qr {α β γ δ:Type} {x:AB α} {y:α->AB β} {w:α->β->AB δ} {f:α->β->δ->AB γ} {z:γ} {G:Prop} (h:(x.bind fun a=>(y a).bind fun b=>(w a b).bind (f a b))=some z) (k:∀a,x=some a->∀b,y a=some b->∀d,w a b=some d->f a b d=some z->G):G:=by
 obtain⟨a,j,b,m,d,n,h⟩:=ag4 h;exact k a j b m d n h
section
variable {P:BU} {o:Oper} {es:AA Ad} {α:Type}
def CG {x y:BD} {t e:BA} {i:Int} {agg:AO} {size:Nat} (enc:α->D) {l:AA α} {a:α} (h:BI l i=some a) (j:P.underlying t=some (.slice e)) (m:DF P e agg size) (n:o.op=.indexAddr t x y) (q:(enc a).cells.length=size:=by kernel_rfl):
 BJ P o [(x,.d (Bj enc l)),(y,.d (.lit (.int .i64 i)))] es (.d (.ref (enc a).cells 0)) es:=IC enc h j m q n
def Et {t e:BA} {size j len:Nat} {z:Af} (q:FW P t e size j) (r:(P.info? e).bind (·.zero)=some z) (ys:AA D) {h:Aw (Nat×BD)} (s:o.op=.buildSlice t len h) (u:z.cells.all (·.oneCell')=true:=by kernel_rfl) (m:z.cells.size=size:=by kernel_rfl) (hlen:Nat.ble (len*size) 16777216=true:=by kernel_rfl)
 (I:JA (fun i=>some (i*size,size)) (len*size) h.toList (ys.map .d)=true:=by kernel_rfl) (J:Gh (fun i=>some (i*size,size)) (KH z (len*size)) h.toList (ys.map .d)=Cj ys:=by kernel_rfl) (L:ys.length=len:=by kernel_rfl) (n:ys.all (fun y=>y.cells.length=size)=true:=by kernel_rfl):
 BJ P o (JQ h.toList (ys.map .d)) es (.d (.sl ys)) es:=acr q r u m (Ir hlen) (ys.map .d) ys I J L n s
def CB.aM {ops:Aw Oper} {l:AA Oper} {σ:Ac} {K:Exit->Ac->Prop} [T:Kn P] {M:Ac->Prop} (n:Nat) (k:M (I9 (DX T ops n l σ))) (j:l.length=n:=by kernel_rfl) (h:(DX T ops n l σ).isSome=true:=by kernel_rfl):CB P ops l σ (Gv M K):=
 .a n (by rw[dh (Vh j)];exact .dQ k) h
end
def JJ {A:Type} {b:AO} {u v z:A} {G:Prop} (h:(bif b then u else v)=z) (j:b=true->u=z->G) (k2:b=false->v=z->G):G:=by
 rcases zC h with⟨e,h⟩|⟨e,h⟩
 ·exact j e h
 exact k2 e h
def jK :AA ResultVar->AO
 | []=>true
 | .tmp _::rs=>jK rs
 |_::_=>false
def YM (σ:Ac):AA ResultVar->AA AP
 | []=>[]
 | .tmp t::rs=>σ.slots.getD t .junk::YM σ rs
 |_::rs=>.junk::YM σ rs
def rU {P:BU} {σ:Ac}:∀{rs:AA ResultVar},jK rs=true->OQ P σ rs (YM σ rs)
 | [],_=>trivial
 | .tmp _::_,h=>⟨rfl,rU h⟩
def QS {P:BU} {σ:Ac} {rs:AA ResultVar} {h:AP} {E':AA Ad} (π:AA (Nat×AO)) (ha:jK rs=true:=by kernel_rfl) (j:Lj σ.base σ.ents π=true:=by kernel_rfl) (m:h=(RP (YM σ rs)).back π:=by kernel_rfl) (n:E'=Ju σ.ents π:=by kernel_rfl):
 ∃xs π,OQ P σ rs xs/\Lj σ.base σ.ents π=true/\h=(RP xs).back π/\E'=Ju σ.ents π:=⟨_,π,rU ha,j,m,n⟩
def O1 :Nat->Nat->AA (Nat×Nat×Nat)
 |0,_=>[]
 |n+1,x=>(x % 2048,x/2048 % 64,x/131072 % 2048)::O1 n (x/268435456)
def kN :AA (Nat×Nat×Nat)->AA (AA Nat)->Nat->AA (AA Nat)
 | [],N,_=>N
 |t::Tr,N,n=>bif Nat.beq t.2.2 n then kN Tr (N++[t.2.1::N.getD t.1 []]) (n+1)else kN Tr N n
def LP (n x:Nat):AA (AA Nat):=kN (O1 n x) [[]] 1
section
variable {P:BU} [T:Kn P] {id:Nat} {ops:Aw Oper} {σ:Ac} {Q:Exit->Ac->Prop} {y:Code}
def BK.ZF (L:AA (Ho P)) (n x h:Nat) (j:BK P y (Gm T L ops σ ((LP n x).getD h [])) Q) (m:P.follows .mixedOrders=true:=by kernel_rfl) (q:UH ops (LP n x) (O1 n x) [h]=true:=by kernel_rfl)
 (r:((O1 n x).map fun t=>N9 T L ops (Gm T L ops σ ((LP n x).getD t.1 [])) t.2.1)=(O1 n x).map fun t=>some (Gm T L ops σ ((LP n x).getD t.2.2 []),O7 L t.2.1):=by kernel_rfl) (s:(LP n x).getD 0 [0]=[]:=by kernel_rfl):BK P (.seq (.region id ops true) y) σ Q:=
 BK.aaz L _ _ h j m q s r
def BK.ZG (L:AA (Ho P)) (n x:Nat) (F:AA Nat) (h:Ac) (j:JB (fun k=>U3 (Gm T L ops σ ((LP n x).getD k [])) h) F) (m:BK P y h Q) (q:P.follows .mixedOrders=true:=by kernel_rfl) (r:UH ops (LP n x) (O1 n x) F=true:=by kernel_rfl)
 (s:((O1 n x).map fun t=>N9 T L ops (Gm T L ops σ ((LP n x).getD t.1 [])) t.2.1)=(O1 n x).map fun t=>some (Gm T L ops σ ((LP n x).getD t.2.2 []),O7 L t.2.1):=by kernel_rfl) (u:(LP n x).getD 0 [0]=[]:=by kernel_rfl):BK P (.seq (.region id ops true) y) σ Q:=
 BK.aaA L _ _ F h j m q r u s
end
section
variable {P:BU} {o:Oper} {es:AA Ad}
def V8 {f:FuncId} {ops:Aw BD} {ats:Aw BA} (dF:AA AP) {gB:AA AP} {j h:AP} {E':AA Ad} (m:DN P f gB [] j E') (n:o.op=.call { callee:=.value (.func f),args:=ops,argTypes:=ats }) (q:Eb P f=true:=by kernel_rfl) (r:E'.all Ad.closed=true:=by kernel_rfl)
 (ha:Gn [] dF gB:=by repeat (first|exact trivial|refine⟨.inl rfl,?_⟩|refine⟨.inr (.inr ⟨rfl,rfl⟩),?_⟩)) (s:ops.toList.length=dF.length:=by kernel_rfl) (u:j.up [] es.length=h:=by kernel_rfl):BJ P o (Di ops.toList dF) es h (es++E'):=xW m q r ha s u n
def ad8 {f:FuncId} {ops:Aw BD} {ats:Aw BA} (dF:AA AP) {gB:AA AP} {j h:AP} (m:DN P f gB [] j []) (n:o.op=.call { callee:=.value (.func f),args:=ops,argTypes:=ats }) (q:Eb P f=true:=by kernel_rfl)
 (ha:Gn [] dF gB:=by repeat (first|exact trivial|refine⟨.inl rfl,?_⟩|refine⟨.inr (.inr ⟨rfl,rfl⟩),?_⟩)) (r:ops.toList.length=dF.length:=by kernel_rfl) (s:j.up [] es.length=h:=by kernel_rfl):BJ P o (Di ops.toList dF) es h es:=uN m q ha r s n
def Gq {f:FuncId} {ops:Aw BD} {ats:Aw BA} (srcs:AA Bv) (dF:AA AP) {gB:AA AP} {E E':AA Ad} {j h:AP} (m:DN P f gB E j E') (n:o.op=.call { callee:=.value (.func f),args:=ops,argTypes:=ats }) (q:Eb P f=true:=by kernel_rfl) (r:Je srcs es E E'=true:=by kernel_rfl)
 (s:KF srcs es srcs E:=by first|exact trivial|exact iH A8 trivial) (ha:Gn srcs dF gB:=by repeat (first|exact trivial|refine⟨.inl rfl,?_⟩|refine⟨⟨0,rfl,rfl⟩,?_⟩|refine⟨⟨1,rfl,rfl⟩,?_⟩|refine⟨⟨2,rfl,rfl⟩,?_⟩|refine⟨.inr (.inr ⟨rfl,rfl⟩),?_⟩)) (u:ops.toList.length=dF.length:=by kernel_rfl)
 (z:h=j.up srcs es.length:=by kernel_rfl):BJ P o (Di ops.toList dF) es h (GH srcs es E'):=acF srcs m q r s ha u z n
def WY {f:FuncId} {x:BD} {ops:Aw BD} {ats:Aw BA} (srcs:AA Bv) (fi ca dF:AA AP) {gB:AA AP} {E E':AA Ad} {j h:AP} (m:DN P f gB E j E') (n:o.op=.call { callee:=.value x,args:=ops,argTypes:=ats }) (q:Eb P f=true:=by kernel_rfl) (r:Je srcs es E E'=true:=by kernel_rfl)
 (s:KF srcs es srcs E:=by first|exact trivial|exact iH A8 trivial) (ha:Gn srcs (fi++dF++ca) gB:=by repeat (first|exact trivial|refine⟨.inl rfl,?_⟩|refine⟨⟨0,rfl,rfl⟩,?_⟩|refine⟨⟨1,rfl,rfl⟩,?_⟩|refine⟨⟨2,rfl,rfl⟩,?_⟩|refine⟨.inr (.inr ⟨rfl,rfl⟩),?_⟩)) (u:ops.toList.length=dF.length:=by kernel_rfl)
 (z:h=j.up srcs es.length:=by kernel_rfl):BJ P o ((x,.fn (.func f) fi ca)::Di ops.toList dF) es h (GH srcs es E'):=zK srcs fi ca m q r s ha u z n
def oh {f:FuncId} {x:BD} {ops:Aw BD} {ats:Aw BA} (srcs:AA Bv) (fi ca:AA D) (dF:AA AP) {gB:AA AP} {E E':AA Ad} {j h:AP} (m:DN P f gB E j E') (n:o.op=.call { callee:=.value x,args:=ops,argTypes:=ats }) (q:Eb P f=true:=by kernel_rfl) (r:Je srcs es E E'=true:=by kernel_rfl)
 (s:KF srcs es srcs E:=by first|exact trivial|exact iH A8 trivial) (ha:Gn srcs (fi.map .d++dF++ca.map .d) gB:=by repeat (first|exact trivial|refine⟨.inl rfl,?_⟩|refine⟨⟨0,rfl,rfl⟩,?_⟩|refine⟨⟨1,rfl,rfl⟩,?_⟩|refine⟨⟨2,rfl,rfl⟩,?_⟩|refine⟨.inr (.inr ⟨rfl,rfl⟩),?_⟩)) (u:ops.toList.length=dF.length:=by kernel_rfl)
 (z:h=j.up srcs es.length:=by kernel_rfl):BJ P o ((x,.d (.fn (.func f) fi ca))::Di ops.toList dF) es h (GH srcs es E'):=adS srcs fi ca m q r s ha u z n
end
section
variable {P:BU} {ops:Aw Oper} {o:Oper} {rest l:AA Oper} {σ:Ac} {K:Exit->Ac->Prop}
def CB.ca {f:FuncId} {dF:AA AP} {h:AP} (j:DN P f dF [] h []) (k:CB P ops rest (σ.kW o.dst (h.up [] σ.ents.length)) K) (m:Eb P f=true:=by kernel_rfl) (n:MZ σ o=some (f,dF):=by kernel_rfl)
 (hd:dF.all AP.oZ=true:=by kernel_rfl) (q:FK ops σ o.guard=some true:=by kernel_rfl):CB P ops (o::rest) σ K:=.call j m k n hd q
def DL.ca {σ':Ac} {f:FuncId} {dF:AA AP} {h:AP} {rs:AA AP} {ess:AA (AA Ad)} {bs:AA AO} (j:DN P f dF [] h []) (k:DL P ops rest (σ.kW o.dst (h.up [] σ.ents.length)) rs ess bs σ') (m:Eb P f=true:=by kernel_rfl) (n:MZ σ o=some (f,dF):=by kernel_rfl)
 (hd:dF.all AP.oZ=true:=by kernel_rfl) (q:FK ops σ o.guard=some true:=by kernel_rfl):DL P ops (o::rest) σ (h.up [] σ.ents.length::rs) (σ.ents::ess) (false::bs) σ':=.call j m k n hd q
end
section
variable {P:BU} {ops:Aw Oper} {o:Oper} {rest l:AA Oper} {σ:Ac} {K:Exit->Ac->Prop}
def CB.aW [T:Kn P] {M:Ac->Prop} (k:M (I9 (DX T ops l.length l σ))) (h:(DX T ops l.length l σ).isSome=true:=by kernel_rfl):CB P ops l σ (Gv M K):=.aM l.length k rfl h
def CB.Z [T:Kn P] {M:Ac->Prop} {ns:AA (BD×AP)} {x:AP} (h:BJ P o ns σ.ents x σ.ents) (k:M (I9 (DX T ops rest.length rest (σ.kW o.dst x)))) (j:(ns.map fun n=>σ.get n.1)=ns.map (·.2):=by kernel_rfl) (m:FK ops σ o.guard=some true:=by kernel_rfl) (q:(Hg ns).all (tmpsOf o).contains=true:=by kernel_rfl) (hh:(DX T ops rest.length rest (σ.kW o.dst x)).isSome=true:=by kernel_rfl):CB P ops (o::rest) σ (Gv M K):=CB.p h (CB.aW k hh) j m q
def CB.Y [T:Kn P] {M:Ac->Prop} {ns:AA (BD×AP)} {x:AP} {es':AA Ad} (h:BJ P o ns σ.ents x es') (k:M (I9 (DX T ops rest.length rest (σ.put o.dst x es')))) (j:(ns.map fun n=>σ.get n.1)=ns.map (·.2):=by kernel_rfl) (m:FK ops σ o.guard=some true:=by kernel_rfl) (q:(Hg ns).all (tmpsOf o).contains=true:=by kernel_rfl) (hh:(DX T ops rest.length rest (σ.put o.dst x es')).isSome=true:=by kernel_rfl):CB P ops (o::rest) σ (Gv M K):=CB.f h (CB.aW k hh) j m q
def CB.X [T:Kn P] {M:Ac->Prop} {f:FuncId} {dF:AA AP} {h:AP} (j:DN P f dF [] h []) (k:M (I9 (DX T ops rest.length rest (σ.kW o.dst (h.up [] σ.ents.length))))) (m:Eb P f=true:=by kernel_rfl) (n:MZ σ o=some (f,dF):=by kernel_rfl) (hd:dF.all AP.oZ=true:=by kernel_rfl) (q:FK ops σ o.guard=some true:=by kernel_rfl) (hh:(DX T ops rest.length rest (σ.kW o.dst (h.up [] σ.ents.length))).isSome=true:=by kernel_rfl):CB P ops (o::rest) σ (Gv M K):=CB.ca j (CB.aW k hh) m n hd q
def CB.bi [T:Kn P] {A:Type} {b:AO} {u v z:A} (h:(bif b then u else v)=z) (m:u=z->CB P ops rest (σ.kW o.dst (.d (.lit (.bool true)))) K:=by exact fun h=>.aW<|CJ) (k2:v=z->CB P ops rest (σ.kW o.dst (.d (.lit (.bool false)))) K:=by exact fun h=>.aW<|CJ)
 (j:(Nb T ops σ o).map (fun r=>(r.x,r.E,r.bar))=some (.d (.lit (.bool b)),σ.ents,false):=by kernel_rfl):CB P ops (o::rest) σ K:=JJ h (fun e h=>.c (CO some e) (m h) j) fun e h=>.c (CO some e) (k2 h) j
def Bh {A:Type} {b:AO} {u v z:A} {G:Prop} (h:(bif b then u else v)=z) (j:b=true->u=z->G:=by exact fun e i=>oK) (k2:b=false->v=z->G:=by exact fun e i=>oK):G:=JJ h j k2
def AU [T:Kn P] {id:Nat} {y:Code} {Q:Exit->Ac->Prop} (k:BK P y (I9 (DX T ops ops.toList.length ops.toList σ)) Q) (h:(DX T ops ops.toList.length ops.toList σ).isSome=true:=by kernel_rfl):BK P (.seq (.region id ops false) y) σ Q:=EM (.aW k h)
end
section
variable {P:BU} {ops:Aw Oper} {l:AA Oper} {σ:Ac} {K:Exit->Ac->Prop}
def CB.mg (a c:Nat) (x:AP) (h:CB P ops (l.take (c+1)) σ (Gv (fun s=>s.wipe (List.range' a c)=(σ.wipe (List.range' a c)).kW (some (a+c)) x) K)) (j:CB P ops (l.drop (c+1)) ((σ.wipe (List.range' a c)).kW (some (a+c)) x) K):CB P ops l σ K:=.merge (c+1) (List.range' a c) (a+c) x h j
end
def Ah {σ S:Ac} (n w:Nat) (π:AA (Nat×AO)) (h:Lj σ.base σ.ents π=true:=by kernel_rfl) (j:S=⟨Fv π (mk n w) σ.slots,Ju σ.ents π,σ.base⟩:=by kernel_rfl):DI σ S:=acO (mk n w) π h j
def Bd :AY:=⟨#[]⟩
def jG (k:IntKind) (n:Int):D:=.lit (.int k n)
def Ie :AY:=⟨#[58]⟩
def QE :AY:=⟨#[64,33]⟩
def VZ :AY:=⟨#[33]⟩
def TY :AY:=⟨#[64]⟩
def afC :AY:=⟨#[104,105]⟩
def ae3 :AY:=⟨#[33,114,58,97]⟩
def abt :AY:=⟨#[64,98,111,98,58,98]⟩
def Js :AY:=⟨#[120]⟩
def JX :AY:=⟨#[98]⟩
def tC :AY:=⟨#[64,98,111,98,58,120]⟩
def FV :AY:=⟨#[84,101,120,116]⟩
def FY :AY:=⟨#[78]⟩
def Gu :AY:=⟨#[86,105,97]⟩
def Gs :AY:=⟨#[76,101,118,101,108,115]⟩
def GV :AY:=⟨#[65,108,108,111,119]⟩
def Gl :AY:=⟨#[68,101,110,121]⟩
def FC :AY:=⟨#[84,97,114,103,101,116]⟩
def GY :AY:=⟨#[84,104,114,101,97,100]⟩
def CP :Af:=.int .i64 0
def EO :Af:=.string Bd
def Dh :Af:=.slice none 0 0
def Wq :Af:=.agg #[Dh,Dh,CP,CP,CP,CP,CP,CP,CP]
def XE :Af:=.agg #[EO,CP,CP,.bool false,EO,Dh,Dh,Dh,Dh,CP,CP,CP,CP,CP,CP,CP]
def Ym :Af:=.agg #[EO,CP]
def Wn :Af:=.agg #[CP,EO,EO,CP,.bool false,EO,CP,CP,Dh,Dh,EO,CP,CP,.bool false,EO,Dh,Dh,Dh,Dh,CP,CP,CP,CP,CP,CP,CP,CP,EO,CP]
def lu :Af:=.agg #[EO,Dh,Dh,Dh,Dh,Dh,CP,Dh,Dh]
def XB :Af:=.agg #[EO,Dh,Dh,Dh,Dh,Dh,CP,Dh,Dh,Dh,.bool false,CP]
def WA :Af:=.agg #[CP,EO,CP,EO,EO,CP,.bool false,EO,CP,CP,Dh,Dh,EO,CP,CP,.bool false,EO,Dh,Dh,Dh,Dh,CP,CP,CP,CP,CP,CP,CP,CP,EO,CP]
def Yc :Af:=.agg #[EO,EO,CP,CP,EO,Dh,Dh,Dh,EO,CP]
def oD :Af:=.agg #[EO,CP]
def Xx :Af:=.agg #[Dh]
def wY :Af:=.agg #[CP,CP]
def Y4 :Af:=.agg #[CP,CP,CP,CP,CP,CP,CP]
def Yj :Af:=.agg #[CP,.nilFunc]
structure Iy where
 User:ByteArray
 N:Int
def E9 (x:Iy):D:=.agg [BZ x.User,Aq x.N]
def aei :Iy:=⟨Bd,0⟩
instance : Inhabited Iy:=⟨aei⟩
structure Ii where
 Kind:Int
 N:Int
def EH (x:Ii):D:=.agg [Aq x.Kind,Aq x.N]
def Sub :Ii:=⟨0,0⟩
instance : Inhabited Ii:=⟨Sub⟩
structure Dl where
 Users:(List Iy)
 Kinds:(List Ii)
 User:Int
 Message:Int
 State:Int
 iD:Int
 lS:Int
 qm:Int
 iE:Int
def IL (x:Dl):D:=.agg [(Bj E9) x.Users,(Bj EH) x.Kinds,Aq x.User,Aq x.Message,Aq x.State,Aq x.iD,Aq x.lS,Aq x.qm,Aq x.iE]
def Jb :Dl:=⟨[],[],0,0,0,0,0,0,0⟩
instance : Inhabited Dl:=⟨Jb⟩
structure BF where
 Text:ByteArray
 N:Int
 Target:Int
 Thread:Bool
 Via:ByteArray
 Allow:(List ByteArray)
 dw:(List ByteArray)
 Levels:Dl
def Df (x:BF):D:=.agg [BZ x.Text,Aq x.N,Aq x.Target,EG x.Thread,BZ x.Via,(Bj BZ) x.Allow,(Bj BZ) x.dw,(Bj E9) x.Levels.Users,(Bj EH) x.Levels.Kinds,Aq x.Levels.User,Aq x.Levels.Message,Aq x.Levels.State,Aq x.Levels.iD,Aq x.Levels.lS,Aq x.Levels.qm,Aq x.Levels.iE]
def DC :BF:=⟨Bd,0,0,false,Bd,[],[],Jb⟩
instance : Inhabited BF:=⟨DC⟩
structure I8 where
 Server:ByteArray
 Sum:Int
def zB (x:I8):D:=.agg [BZ x.Server,Aq x.Sum]
def JI :I8:=⟨Bd,0⟩
instance : Inhabited I8:=⟨JI⟩
structure BH where
 Id:Int
 Room:ByteArray
 aQ:ByteArray
 Kind:Int
 State:Bool
 Key:ByteArray
 Time:Int
 Depth:Int
 iM:(List Int)
 iT:(List Int)
 Content:BF
 Hash:Int
 eu:I8
def DT (x:BH):D:=.agg [Aq x.Id,BZ x.Room,BZ x.aQ,Aq x.Kind,EG x.State,BZ x.Key,Aq x.Time,Aq x.Depth,(Bj Aq) x.iM,(Bj Aq) x.iT,BZ x.Content.Text,Aq x.Content.N,Aq x.Content.Target,EG x.Content.Thread,BZ x.Content.Via,(Bj BZ) x.Content.Allow,(Bj BZ) x.Content.dw,(Bj E9) x.Content.Levels.Users,(Bj EH) x.Content.Levels.Kinds,Aq x.Content.Levels.User,Aq x.Content.Levels.Message,Aq x.Content.Levels.State,Aq x.Content.Levels.iD,Aq x.Content.Levels.lS,Aq x.Content.Levels.qm,Aq x.Content.Levels.iE,Aq x.Hash,BZ x.eu.Server,Aq x.eu.Sum]
def IQ :BH:=⟨0,Bd,Bd,0,false,Bd,0,0,[],[],DC,0,JI⟩
instance : Inhabited BH:=⟨IQ⟩
structure Lp where
 Pos:Int
 Id:Int
 Status:Int
 Gone:Bool
def Ja (x:Lp):D:=.agg [Aq x.Pos,Aq x.Id,Aq x.Status,EG x.Gone]
def acD :Lp:=⟨0,0,0,false⟩
instance : Inhabited Lp:=⟨acD⟩
structure Q9 where
 Kind:Int
 Key:ByteArray
 Id:Int
def Em (x:Q9):D:=.agg [Aq x.Kind,BZ x.Key,Aq x.Id]
def aaX :Q9:=⟨0,Bd,0⟩
instance : Inhabited Q9:=⟨aaX⟩
structure Oy where
 User:ByteArray
 Thread:Int
 Id:Int
 Time:Int
def Ls (x:Oy):D:=.agg [BZ x.User,Aq x.Thread,Aq x.Id,Aq x.Time]
def adB :Oy:=⟨Bd,0,0,0⟩
instance : Inhabited Oy:=⟨adB⟩
structure Po where
 User:ByteArray
 Until:Int
def La (x:Po):D:=.agg [BZ x.User,Aq x.Until]
def agk :Po:=⟨Bd,0⟩
instance : Inhabited Po:=⟨agk⟩
structure Dj where
 Id:ByteArray
 Events:(List BH)
 Rows:(List Lp)
 Waiting:(List BH)
 vJ:(List Int)
 State:(List Q9)
 Next:Int
 gq:(List Oy)
 jF:(List Po)
def Hf (x:Dj):D:=.agg [BZ x.Id,(Bj DT) x.Events,(Bj Ja) x.Rows,(Bj DT) x.Waiting,(Bj Aq) x.vJ,(Bj Em) x.State,Aq x.Next,(Bj Ls) x.gq,(Bj La) x.jF]
def ab2 :Dj:=⟨Bd,[],[],[],[],[],0,[],[]⟩
instance : Inhabited Dj:=⟨ab2⟩
structure Uf where
 To:ByteArray
 Next:Int
 Events:(List BH)
 Open:(List BH)
 Fails:Int
 At:Int
def wS (x:Uf):D:=.agg [BZ x.To,Aq x.Next,(Bj DT) x.Events,(Bj DT) x.Open,Aq x.Fails,Aq x.At]
def aaB :Uf:=⟨Bd,0,[],[],0,0⟩
instance : Inhabited Uf:=⟨aaB⟩
structure Nj where
 From:ByteArray
 To:ByteArray
 Kind:Int
 N:Int
 Room:ByteArray
 Events:(List BH)
 Ids:(List Int)
 iT:(List BH)
 User:ByteArray
 Err:Int
def Dy (x:Nj):D:=.agg [BZ x.From,BZ x.To,Aq x.Kind,Aq x.N,BZ x.Room,(Bj DT) x.Events,(Bj Aq) x.Ids,(Bj DT) x.iT,BZ x.User,Aq x.Err]
def Nw :Nj:=⟨Bd,Bd,0,0,Bd,[],[],[],Bd,0⟩
instance : Inhabited Nj:=⟨Nw⟩
structure UK where
 Id:ByteArray
 Key:Int
 Signed:Bool
def tK (x:UK):D:=.agg [BZ x.Id,Aq x.Key,EG x.Signed]
def ach :UK:=⟨Bd,0,false⟩
instance : Inhabited UK:=⟨ach⟩
structure VG where
 User:ByteArray
 Qz:Int
 Pos:Int
 NI:(List UK)
def pX (x:VG):D:=.agg [BZ x.User,Aq x.Qz,Aq x.Pos,(Bj tK) x.NI]
def adA :VG:=⟨Bd,0,0,[]⟩
instance : Inhabited VG:=⟨adA⟩
structure Vd where
 User:ByteArray
 Device:ByteArray
 Next:Int
 Left:Int
def ng (x:Vd):D:=.agg [BZ x.User,BZ x.Device,Aq x.Next,Aq x.Left]
def aeN :Vd:=⟨Bd,Bd,0,0⟩
instance : Inhabited Vd:=⟨aeN⟩
structure TF where
 Left:Int
 At:Int
 Most:Int
 Every:Int
def ae4 (x:TF):D:=.agg [Aq x.Left,Aq x.At,Aq x.Most,Aq x.Every]
def qG :TF:=⟨0,0,0,0⟩
instance : Inhabited TF:=⟨qG⟩
structure UR where
 User:ByteArray
 Bucket:TF
def wG (x:UR):D:=.agg [BZ x.User,Aq x.Bucket.Left,Aq x.Bucket.At,Aq x.Bucket.Most,Aq x.Bucket.Every]
def afz :UR:=⟨Bd,qG⟩
instance : Inhabited UR:=⟨afz⟩
structure VU where
 Server:ByteArray
 Name:ByteArray
 Size:Int
 At:Int
 Is:Int
def nO (x:VU):D:=.agg [BZ x.Server,BZ x.Name,Aq x.Size,Aq x.At,Aq x.Is]
def afk :VU:=⟨Bd,Bd,0,0,0⟩
instance : Inhabited VU:=⟨afk⟩
structure Fp where
 Name:ByteArray
 Ut:(List Dj)
 QB:(List Uf)
 Users:(List ByteArray)
 Pending:(List Nj)
 Keys:(List VG)
 Stream:Int
 NJ:(List Vd)
 Limits:(List UR)
 Media:(List VU)
 Down:Bool
 Now:Int
def JH (x:Fp):D:=.agg [BZ x.Name,(Bj Hf) x.Ut,(Bj wS) x.QB,(Bj BZ) x.Users,(Bj Dy) x.Pending,(Bj pX) x.Keys,Aq x.Stream,(Bj ng) x.NJ,(Bj wG) x.Limits,(Bj nO) x.Media,EG x.Down,Aq x.Now]
def PW :Fp:=⟨Bd,[],[],[],[],[],0,[],[],[],false,0⟩
instance : Inhabited Fp:=⟨PW⟩
structure Ey where
 Kind:Int
 To:ByteArray
 Event:BH
def Nc (x:Ey):D:=.agg [Aq x.Kind,BZ x.To,Aq x.Event.Id,BZ x.Event.Room,BZ x.Event.aQ,Aq x.Event.Kind,EG x.Event.State,BZ x.Event.Key,Aq x.Event.Time,Aq x.Event.Depth,(Bj Aq) x.Event.iM,(Bj Aq) x.Event.iT,BZ x.Event.Content.Text,Aq x.Event.Content.N,Aq x.Event.Content.Target,EG x.Event.Content.Thread,BZ x.Event.Content.Via,(Bj BZ) x.Event.Content.Allow,(Bj BZ) x.Event.Content.dw,(Bj E9) x.Event.Content.Levels.Users,(Bj EH) x.Event.Content.Levels.Kinds,Aq x.Event.Content.Levels.User,Aq x.Event.Content.Levels.Message,Aq x.Event.Content.Levels.State,Aq x.Event.Content.Levels.iD,Aq x.Event.Content.Levels.lS,Aq x.Event.Content.Levels.qm,Aq x.Event.Content.Levels.iE,Aq x.Event.Hash,BZ x.Event.eu.Server,Aq x.Event.eu.Sum]
def adz :Ey:=⟨0,Bd,IQ⟩
instance : Inhabited Ey:=⟨adz⟩
structure D9 where
 b_:(List Int)
def G6 (x:D9):D:=.agg [(Bj Cb) x.b_]
def Xt :D9:=⟨[]⟩
instance : Inhabited D9:=⟨Xt⟩
structure Hu where
 WO:Int
 QC:Nat
def Kz (x:Hu):D:=.agg [Aq x.WO,vM x.QC]
def afc :Hu:=⟨0,0⟩
instance : Inhabited Hu:=⟨afc⟩
def afM :CQ AZ 38 10 10:=CW A8
def Zd :DF AZ 34 true 16:=ED A8
def rE :(AZ.info? 34).bind (·.zero)=some (XE):=A8
def afL :CQ AZ 38 8 8:=CW A8
def xJ :DF AZ 27 false 1:=ED A8
def Ei :AZ.underlying 27=some (.slice 3):=A8
def aeZ :CQ AZ 38 9 9:=CW A8
def ac7 :CQ AZ 34 5 5:=CW A8
def acS :DF AZ 28 false 1:=ED A8
def EL :AZ.underlying 28=some (.slice 9):=A8
def afO :CQ AZ 34 6 6:=CW A8
def aad :CQ AZ 34 7 7:=CW A8
def aeE :CQ AZ 32 0 0:=CW A8
def ads :DF AZ 29 false 1:=ED A8
def En :AZ.underlying 29=some (.slice 146):=A8
def adE :CQ AZ 32 1 1:=CW A8
def afW :DF AZ 30 false 1:=ED A8
def FD :AZ.underlying 30=some (.slice 221):=A8
def adF :CQ AZ 38 1 1:=CW A8
def G5 :DF AZ 9 false 1:=ED A8
def Dv :AZ.underlying 9=some (.string):=A8
def agH :CQ AZ 38 2 2:=CW A8
def aeJ :CQ AZ 38 5 5:=CW A8
def afV :CQ AZ 34 0 0:=CW A8
def agp :CQ AZ 34 4 4:=CW A8
def xw :CQ AZ 38 12 27:=CW A8
def acL :CQ AZ 36 0 0:=CW A8
def JC :DF AZ 146 true 2:=ED A8
def zS :CQ AZ 146 0 0:=CW A8
def GR :AZ.underlying 22=some (.slice 38):=A8
def Gy :DF AZ 38 true 29:=ED A8
noncomputable abbrev BN:=Eb AZ
def ahr :BN 41=true:=A8
def abT :CQ AZ 45 1 1:=CW A8
def zf :DF AZ 22 false 1:=ED A8
def ai9 :BN 9=true:=A8
def zV :CQ AZ 45 3 3:=CW A8
def aco :CQ AZ 45 2 2:=CW A8
def abX :DF AZ 39 false 1:=ED A8
def Qv :AZ.underlying 39=some (.slice 79):=A8
def adY :CQ AZ 45 4 4:=CW A8
def adk :CQ AZ 45 5 5:=CW A8
def adC :DF AZ 41 false 1:=ED A8
def Gg :AZ.underlying 41=some (.slice 82):=A8
def acP :CQ AZ 45 7 7:=CW A8
def aeT :DF AZ 42 false 1:=ED A8
def O9 :AZ.underlying 42=some (.slice 102):=A8
def afx :CQ AZ 45 8 8:=CW A8
def aez :DF AZ 43 false 1:=ED A8
def OY :AZ.underlying 43=some (.slice 104):=A8
def zl :CQ AZ 45 0 0:=CW A8
def Il :DF AZ 82 true 3:=ED A8
def agO :CQ AZ 82 1 1:=CW A8
def Z4 :DF AZ 102 true 4:=ED A8
def agb :CQ AZ 102 0 0:=CW A8
def Y2 :DF AZ 104 true 2:=ED A8
def aa0 :CQ AZ 104 0 0:=CW A8
def aap :CQ AZ 59 0 0:=CW A8
def ab4 :CQ AZ 61 1 1:=CW A8
def abv :CQ AZ 61 2 2:=CW A8
def ahU :BN 271=true:=A8
def aiT :BN 269=true:=A8
def agG :BN 270=true:=A8
def ah8 :BN 201=true:=A8
def afv :CQ AZ 61 0 0:=CW A8
def EY :DF AZ 3 false 1:=ED A8
def ahn :BN 127=true:=A8
def ags :BN 342=true:=A8
def ahH :BN 274=true:=A8
def ab8 :BN 272=true:=A8
def aht :BN 203=true:=A8
def ai3 :BN 204=true:=A8
def ah6 :BN 202=true:=A8
def ahv :BN 130=true:=A8
def KC :FW AZ 95 5 1 1:=LK A8
def NQ :(AZ.info? 5).bind (·.zero)=some (.int .u8 0):=A8
def RU :AZ.underlying 95=some (.slice 5):=A8
def gJ :AZ.underlying 5=some (.int .u8):=A8
def Vl :(AZ.info? 38).bind (·.zero)=some (Wn):=A8
def ai7 :BN 129=true:=A8
def ahB :BN 128=true:=A8
def LJ :AZ.underlying 3=some (.int .i64):=A8
def aaV :AZ.underlying 202=some (.int .u64):=A8
def aiK :BN 122=true:=A8
def ahc :BN 121=true:=A8
def agt :BN 120=true:=A8
def ah5 :BN 277=true:=A8
def ai8 :BN 47=true:=A8
def ad5 :CQ AZ 34 1 1:=CW A8
def aiF :BN 48=true:=A8
def aaL :CQ AZ 34 2 2:=CW A8
def abx :CQ AZ 34 3 3:=CW A8
def Xu :DF AZ 4 false 1:=ED A8
def ahj :BN 214=true:=A8
def ahZ :BN 215=true:=A8
def sQ :DF AZ 32 true 9:=ED A8
def zero32 :(AZ.info? 32).bind (·.zero)=some (Wq):=A8
def acn :(AZ.info? 146).bind (·.zero)=some (oD):=A8
def aaS :CQ AZ 146 1 1:=CW A8
def Jp :DF AZ 221 true 2:=ED A8
def ae5 :(AZ.info? 221).bind (·.zero)=some (wY):=A8
def ad7 :CQ AZ 221 0 0:=CW A8
def jB :DF AZ 26 false 1:=ED A8
def agl :CQ AZ 221 1 1:=CW A8
def afo :CQ AZ 32 2 2:=CW A8
def abZ :CQ AZ 32 3 3:=CW A8
def aeS :CQ AZ 32 4 4:=CW A8
def aeb :CQ AZ 32 5 5:=CW A8
def aea :CQ AZ 32 6 6:=CW A8
def yB :CQ AZ 32 7 7:=CW A8
def agI :CQ AZ 32 8 8:=CW A8
def uw :(AZ.info? 222).bind (·.zero)=some (Y4):=A8
def zM :Ye AZ 222 1 (Y4):=aa1 A8 uw A8
def qp :AZ.underlying 222=some (.array 7 3):=A8
def vH :DF AZ 5 false 1:=ED A8
def ahE :BN 124=true:=A8
def aho :BN 123=true:=A8
def ai5 :BN 134=true:=A8
def aiH :BN 50=true:=A8
def UD :FW AZ 28 9 1 16:=LK A8
def afS :FW AZ 29 146 2 24:=LK A8
def aeC :FW AZ 30 221 2 16:=LK A8
def ahX :BN 291=true:=A8
def ahw :BN 238=true:=A8
def aiG :BN 239=true:=A8
def ah1 :BN 240=true:=A8
def aac :CQ AZ 38 3 3:=CW A8
def ahY :BN 149=true:=A8
def og :(AZ.info? 209).bind (·.zero)=some (Xx):=A8
def afT :JR AZ 209 [(0,1)] (Xx):=MG A8 og A8
def abz :CQ AZ 38 0 0:=CW A8
def RN :FW AZ 27 3 1 8:=LK A8
def zero3 :(AZ.info? 3).bind (·.zero)=some (.int .i64 0):=A8
def afn :CQ AZ 209 0 0:=CW A8
def af4 :DF AZ 95 false 1:=ED A8
def ah3 :BN 206=true:=A8
def aha :BN 205=true:=A8
def zero9 :(AZ.info? 9).bind (·.zero)=some (.string Bd):=A8
def ahk :BN 208=true:=A8
def ahQ :BN 207=true:=A8
def acJ :CQ AZ 38 4 4:=CW A8
def aew :FW AZ 258 4 1 1:=LK A8
def qg :(AZ.info? 4).bind (·.zero)=some (.bool false):=A8
def wM :AZ.underlying 258=some (.slice 4):=A8
def ahl :BN 210=true:=A8
def ahi :BN 209=true:=A8
def ab1 :CQ AZ 38 6 6:=CW A8
def acV :CQ AZ 38 7 7:=CW A8
def adt :FW AZ 244 27 1 24:=LK A8
def mJ :(AZ.info? 27).bind (·.zero)=some (.slice none 0 0):=A8
def rC :AZ.underlying 244=some (.slice 27):=A8
def ahg :BN 343=true:=A8
def ahC :BN 275=true:=A8
def ah2 :BN 212=true:=A8
def ahD :BN 211=true:=A8
def adV :CQ AZ 38 11 26:=CW A8
def acu :CQ AZ 36 1 1:=CW A8
def agz :BN 131=true:=A8
def uS :(AZ.info? 36).bind (·.zero)=some (Ym):=A8
def ac4 :JR AZ 36 [(0,1),(1,1)] (Ym):=MG A8 uS A8
def ae7 :DF AZ 36 true 2:=ED A8
def ahe :BN 132=true:=A8
def ahu :BN 60=true:=A8
def ahJ :BN 58=true:=A8
def Pm :(AZ.info? 69).bind (·.zero)=some (Yc):=A8
def uQ :FW AZ 22 38 29 376:=LK A8
def afe :JR AZ 69 [(0,1),(1,1),(2,1),(3,1),(4,1),(5,1),(6,1),(7,1),(8,1),(9,1)] (Yc):=MG A8 Pm A8
def IZ :DF AZ 69 true 10:=ED A8
def ahz :BN 276=true:=A8
def agx :BN 213=true:=A8
def aiE :BN 133=true:=A8
def yc :DF AZ 59 true 12:=ED A8
def aeo :DF AZ 61 true 31:=ED A8
def aiW :BN 53=true:=A8
def agy :BN 56=true:=A8
def afh :BN 55=true:=A8
def ahR :BN 54=true:=A8
def SX :FW AZ 53 69 10 160:=LK A8
def abB :BN 57=true:=A8
def aiD :BN 59=true:=A8
def ahT :BN 216=true:=A8
def ai6 :BN 62=true:=A8
def aiI :BN 135=true:=A8
def ahf :BN 136=true:=A8
def aiQ :BN 61=true:=A8
def aiR :BN 166=true:=A8
def ai0 :BN 89=true:=A8
def ahy :BN 289=true:=A8
def ah9 :BN 290=true:=A8
def aiC :BN 354=true:=A8
def aiL :BN 355=true:=A8
def ahI :BN 358=true:=A8
def ahm :BN 292=true:=A8
def ah4 :BN 356=true:=A8
def ahx :BN 357=true:=A8
def ahb :BN 293=true:=A8
def kL :(AZ.info? 276).bind (·.zero)=some (Yj):=A8
def aej :JR AZ 276 [(0,1),(1,1)] (Yj):=MG A8 kL A8
def zU :FW AZ 277 276 2 16:=LK A8
def qH :AZ.underlying 277=some (.slice 276):=A8
def oC :DF AZ 276 true 2:=ED A8
def ae1 :CQ AZ 276 0 0:=CW A8
def zL :CQ AZ 276 1 1:=CW A8
def ad3 :DF AZ 236 false 1:=ED A8
def ahF :BN 300=true:=A8
def af7 :BN 294=true:=A8
def yL :BN 295=true:=A8
def acW :BN 296=true:=A8
def afU :BN 297=true:=A8
def aek :BN 298=true:=A8
def yu :BN 299=true:=A8
def ai1 :BN 301=true:=A8
def ai4 :BN 231=true:=A8
def mO :AZ.underlying 4=some (.bool):=A8
def aiA :BN 232=true:=A8
def ahW :BN 233=true:=A8
def aiX :BN 234=true:=A8
def YN (x y:Iy):AO:=(x.User.toList==y.User.toList&&(x.N==y.N&&true))
def ade (x y:Iy):Oj AZ 2 146 [.string x.User,.int .i64 x.N] [.string y.User,.int .i64 y.N] (YN x y):=⟨fun d w=>Qq A8 A8 A8 (l:=[(9,0),(3,1)]) A8 (Hw (EI G5 A8 w) (EI G5 A8 w) (Ya w _ _ _ _ Dv)<|Hw (EI EY A8 w) (EI EY A8 w) (KJ w _ _ .i64 _ _ _ LJ)<|Rf _ _ _ _)⟩
def zY :Program.eqGuardType AZ (Program.depth AZ) 146=false:=A8
def sS :AZ.underlying 26=some (.int .i64):=A8
def XG (x y:Ii):AO:=(x.Kind==y.Kind&&(x.N==y.N&&true))
def yw (x y:Ii):Oj AZ 2 221 [.int .i64 x.Kind,.int .i64 x.N] [.int .i64 y.Kind,.int .i64 y.N] (XG x y):=⟨fun d w=>Qq A8 A8 A8 (l:=[(26,0),(3,1)]) A8 (Hw (EI jB A8 w) (EI jB A8 w) (KJ w _ _ .i64 _ _ _ sS)<|Hw (EI EY A8 w) (EI EY A8 w) (KJ w _ _ .i64 _ _ _ LJ)<|Rf _ _ _ _)⟩
def adp :Program.eqGuardType AZ (Program.depth AZ) 221=false:=A8
def ahG :BN 235=true:=A8
def aiB :BN 236=true:=A8
def ahK :BN 237=true:=A8
def aiU :BN 147=true:=A8
def agv :BN 137=true:=A8
def ahO :BN 148=true:=A8
def Vy (x y:I8):AO:=(x.Server.toList==y.Server.toList&&(x.Sum==y.Sum&&true))
def afE (x y:I8):Oj AZ 2 36 [.string x.Server,.int .i64 x.Sum] [.string y.Server,.int .i64 y.Sum] (Vy x y):=⟨fun d w=>Qq A8 A8 A8 (l:=[(9,0),(3,1)]) A8 (Hw (EI G5 A8 w) (EI G5 A8 w) (Ya w _ _ _ _ Dv)<|Hw (EI EY A8 w) (EI EY A8 w) (KJ w _ _ .i64 _ _ _ LJ)<|Rf _ _ _ _)⟩
def Src :Program.eqGuardType AZ (Program.depth AZ) 36=false:=A8
def ahP :BN 74=true:=A8
def aeV :JR AZ 38 [(0,1),(1,1),(2,1),(3,1),(4,1),(5,1),(6,1),(7,1),(8,1),(9,1),(10,16),(26,1),(27,2)] (Wn):=MG A8 Vl A8
def abn :(AZ.info? 45).bind (·.zero)=some (lu):=A8
def ai2 :BN 63=true:=A8
def bM :DF AZ 45 true 9:=ED A8
def ah7 :BN 181=true:=A8
def aiO :BN 182=true:=A8
def ahh :BN 43=true:=A8
def ahM :BN 106=true:=A8
def ahA :BN 36=true:=A8
def fH :DF AZ 79 true 4:=ED A8
def jc :DF AZ 71 false 1:=ED A8
def sJ :AZ.underlying 71=some (.int .i64):=A8
def WU (x y:Lp):AO:=(x.Pos==y.Pos&&(x.Id==y.Id&&(x.Status==y.Status&&(x.Gone==y.Gone&&true))))
def zQ (x y:Lp):Oj AZ 2 79 [.int .i64 x.Pos,.int .i64 x.Id,.int .i64 x.Status,.bool x.Gone] [.int .i64 y.Pos,.int .i64 y.Id,.int .i64 y.Status,.bool y.Gone] (WU x y):=⟨fun d w=>Qq A8 A8 A8 (l:=[(3,0),(3,1),(71,2),(4,3)]) A8 (Hw (EI EY A8 w) (EI EY A8 w) (KJ w _ _ .i64 _ _ _ LJ)<|Hw (EI EY A8 w) (EI EY A8 w) (KJ w _ _ .i64 _ _ _ LJ)<|Hw (EI jc A8 w) (EI jc A8 w) (KJ w _ _ .i64 _ _ _ sJ)<|Hw (EI Xu A8 w) (EI Xu A8 w) (run_equalIn_bool' w _ _ _ _ mO)<|Rf _ _ _ _)⟩
def agE :Program.eqGuardType AZ (Program.depth AZ) 79=false:=A8
def abY :CQ AZ 82 0 0:=CW A8
def abA :CQ AZ 82 2 2:=CW A8
def WR (x y:Oy):AO:=(x.User.toList==y.User.toList&&(x.Thread==y.Thread&&(x.Id==y.Id&&(x.Time==y.Time&&true))))
def ad2 (x y:Oy):Oj AZ 2 102 [.string x.User,.int .i64 x.Thread,.int .i64 x.Id,.int .i64 x.Time] [.string y.User,.int .i64 y.Thread,.int .i64 y.Id,.int .i64 y.Time] (WR x y):=⟨fun d w=>Qq A8 A8 A8 (l:=[(9,0),(3,1),(3,2),(3,3)]) A8 (Hw (EI G5 A8 w) (EI G5 A8 w) (Ya w _ _ _ _ Dv)<|Hw (EI EY A8 w) (EI EY A8 w) (KJ w _ _ .i64 _ _ _ LJ)<|Hw (EI EY A8 w) (EI EY A8 w) (KJ w _ _ .i64 _ _ _ LJ)<|Hw (EI EY A8 w) (EI EY A8 w) (KJ w _ _ .i64 _ _ _ LJ)<|Rf _ _ _ _)⟩
def aaE :Program.eqGuardType AZ (Program.depth AZ) 102=false:=A8
def WB (x y:Po):AO:=(x.User.toList==y.User.toList&&(x.Until==y.Until&&true))
def acH (x y:Po):Oj AZ 2 104 [.string x.User,.int .i64 x.Until] [.string y.User,.int .i64 y.Until] (WB x y):=⟨fun d w=>Qq A8 A8 A8 (l:=[(9,0),(3,1)]) A8 (Hw (EI G5 A8 w) (EI G5 A8 w) (Ya w _ _ _ _ Dv)<|Hw (EI EY A8 w) (EI EY A8 w) (KJ w _ _ .i64 _ _ _ LJ)<|Rf _ _ _ _)⟩
def agc :Program.eqGuardType AZ (Program.depth AZ) 104=false:=A8
def af0 :CQ AZ 45 6 6:=CW A8
def aiP :BN 69=true:=A8
def ahS :BN 70=true:=A8
def aiJ :BN 37=true:=A8
def ahV :BN 71=true:=A8
def aiS :BN 72=true:=A8
def acg :JR AZ 34 [(0,1),(1,1),(2,1),(3,1),(4,1),(5,1),(6,1),(7,9)] (XE):=MG A8 rE A8
def pz :(AZ.info? 59).bind (·.zero)=some (XB):=A8
def afd :JR AZ 59 [(0,1),(1,1),(2,1),(3,1),(4,1),(5,1),(6,1),(7,1),(8,1),(9,1),(10,1),(11,1)] (XB):=MG A8 pz A8
def ahs :BN 73=true:=A8
def mZ :(AZ.info? 61).bind (·.zero)=some (WA):=A8
def Fn1 :JR AZ 61 [(0,1),(1,1),(2,29)] (WA):=MG A8 mZ A8
def ahN :BN 18=true:=A8
def Hd :AZ.underlying 53=some (.slice 69):=A8
def adf :CQ AZ 69 5 5:=CW A8
def afp :CQ AZ 69 0 0:=CW A8
def xu :CQ AZ 69 1 1:=CW A8
def ahL :BN 75=true:=A8
def agw :BN 16=true:=A8
def aiN :BN 17=true:=A8
def ahd :BN 19=true:=A8
def ahp :BN 20=true:=A8
def ahq :BN 21=true:=A8
def aiV :BN 22=true:=A8
def yV :JR AZ 32 [(0,1),(1,1),(2,1),(3,1),(4,1),(5,1),(6,1),(7,1),(8,1)] (Wq):=MG A8 zero32 A8
instance agu :Kn AZ where
 und:=[(9,.string),(5,.int .u8),(3,.int .i64),(202,.int .u64),(4,.bool),(26,.int .i64),(71,.int .i64)]
 Ky:=⟨Dv,gJ,LJ,aaV,mO,sS,sJ,trivial⟩
 ty:=[(34,true,16),(27,false,1),(28,false,1),(29,false,1),(30,false,1),(9,false,1),(146,true,2),(38,true,29),(22,false,1),(39,false,1),(41,false,1),(42,false,1),(43,false,1),(82,true,3),(102,true,4),(104,true,2),(3,false,1),(4,false,1),(32,true,9),(221,true,2),(26,false,1),(5,false,1),(95,false,1),(36,true,2),(69,true,10),(59,true,12),(61,true,31),(276,true,2),(236,false,1),(45,true,9),(79,true,4),(71,false,1)]
 hty:=⟨Zd,xJ,acS,ads,afW,G5,JC,Gy,zf,abX,adC,aeT,aez,Il,Z4,Y2,EY,Xu,sQ,Jp,jB,vH,af4,ae7,IZ,yc,aeo,oC,ad3,bM,fH,jc,trivial⟩
 ZA:=[((38,10),10),((38,8),8),((38,9),9),((34,5),5),((34,6),6),((34,7),7),((32,0),0),((32,1),1),((38,1),1),((38,2),2),((38,5),5),((34,0),0),((34,4),4),((38,12),27),((36,0),0),((146,0),0),((45,1),1),((45,3),3),((45,2),2),((45,4),4),((45,5),5),((45,7),7),((45,8),8),((45,0),0),((82,1),1),((102,0),0),((104,0),0),((59,0),0),((61,1),1),((61,2),2),((61,0),0),((34,1),1),((34,2),2),((34,3),3),((146,1),1),((221,0),0),((221,1),1),((32,2),2),((32,3),3),((32,4),4),((32,5),5),((32,6),6),((32,7),7),((32,8),8),((38,3),3),((38,0),0),((209,0),0),((38,4),4),((38,6),6),((38,7),7),((38,11),26),((36,1),1),((276,0),0),((276,1),1),((82,0),0),((82,2),2),((45,6),6),((69,5),5),((69,0),0),((69,1),1)]
 hfld:=⟨afM,afL,aeZ,ac7,afO,aad,aeE,adE,adF,agH,aeJ,afV,agp,xw,acL,zS,abT,zV,aco,adY,adk,acP,afx,zl,agO,agb,aa0,aap,ab4,abv,afv,ad5,aaL,abx,aaS,ad7,agl,afo,abZ,aeS,aeb,aea,yB,agI,aac,abz,afn,acJ,ab1,acV,adV,acu,ae1,zL,abY,abA,af0,adf,afp,xu,trivial⟩
 part:=[]
 hpart:=trivial
 zero:=[(34,XE),(5,.int .u8 0),(38,Wn),(32,Wq),(146,oD),(221,wY),(222,Y4),(209,Xx),(3,.int .i64 0),(9,.string Bd),(4,.bool false),(27,.slice none 0 0),(36,Ym),(69,Yc),(276,Yj),(45,lu),(59,XB),(61,WA)]
 hzero:=⟨⟨rE,A8⟩,⟨NQ,A8⟩,⟨Vl,A8⟩,⟨zero32,A8⟩,⟨acn,A8⟩,⟨ae5,A8⟩,⟨uw,A8⟩,⟨og,A8⟩,⟨zero3,A8⟩,⟨zero9,A8⟩,⟨qg,A8⟩,⟨mJ,A8⟩,⟨uS,A8⟩,⟨Pm,A8⟩,⟨kL,A8⟩,⟨abn,A8⟩,⟨pz,A8⟩,⟨mZ,A8⟩,trivial⟩
 st:=[(209,[(0,1)],Xx),(36,[(0,1),(1,1)],Ym),(69,[(0,1),(1,1),(2,1),(3,1),(4,1),(5,1),(6,1),(7,1),(8,1),(9,1)],Yc),(276,[(0,1),(1,1)],Yj),(38,[(0,1),(1,1),(2,1),(3,1),(4,1),(5,1),(6,1),(7,1),(8,1),(9,1),(10,16),(26,1),(27,2)],Wn),(34,[(0,1),(1,1),(2,1),(3,1),(4,1),(5,1),(6,1),(7,9)],XE),(59,[(0,1),(1,1),(2,1),(3,1),(4,1),(5,1),(6,1),(7,1),(8,1),(9,1),(10,1),(11,1)],XB),(61,[(0,1),(1,1),(2,29)],WA),(32,[(0,1),(1,1),(2,1),(3,1),(4,1),(5,1),(6,1),(7,1),(8,1)],Wq)]
 hst:=⟨afT,ac4,afe,aej,aeV,acg,afd,Fn1,yV,trivial⟩
 arr:=[(222,1,Y4)]
 harr:=⟨zM,trivial⟩
abbrev GZ :=fun x=>Ad.arr 5 1 (List.map Cb x)
abbrev ET :=fun x=>AP.d (DT x)
abbrev Aa :=fun x=>AP.d (EG x)
abbrev Ag :=fun x=>AP.d (Aq x)
abbrev OM :=fun x=>AP.d ((Bj DT) x)
abbrev LU :=fun x=>AP.d (Hf x)
abbrev Ce :=fun x=>AP.d (BZ x)
abbrev Fz :=fun x=>AP.d ((Bj Cb) x)
abbrev FM :=fun x=>AP.d ((Bj BZ) x)
abbrev Gw :=fun x=>AP.d (Df x)
abbrev MB :=fun x=>AP.d ((Bj E9) x)
abbrev Ll :=fun x=>AP.d ((Bj EH) x)
abbrev PV :=fun x=>AP.d (IL x)
abbrev Eu :=fun x=>AP.d ((Bj Aq) x)
end
section
set_option maxRecDepth 20000
set_option maxHeartbeats 4000000
def ZX (h:BH) (m:(Int->AB AO)):Int->AB AO:=fun j=>(bif j<(h.Content.Levels.Users.length:Int) then(BI h.Content.Levels.Users j).bind fun n=>(bif (n.User.size:Int)>2000 then some true else m (IntKind.i64.wrap (j+1)))else some false)
def gX (h:BH):Int->AB AO:=aS (ZX h) Am
def eF (h:BH) (m:(Int->AB AO)):Int->AB AO:=fun j=>(bif j<(h.Content.dw.length:Int) then(BI h.Content.dw j).bind fun n=>(bif (n.size:Int)>2000 then some true else m (IntKind.i64.wrap (j+1)))else gX h 0)
def gG (h:BH):Int->AB AO:=aS (eF h) Am
def ZM (h:BH) (m:(Int->AB AO)):Int->AB AO:=fun j=>(bif j<(h.Content.Allow.length:Int) then(BI h.Content.Allow j).bind fun n=>(bif (n.size:Int)>2000 then some true else m (IntKind.i64.wrap (j+1)))else gG h 0)
def vW (h:BH):Int->AB AO:=aS (ZM h) Am
def TK (h:BH):AB AO:=(bif (h.iM.length:Int)>40 then some true else some (decide ((h.iT.length:Int)>40))).bind fun s=>(bif s then some true else some (decide ((h.Content.Allow.length:Int)>40))).bind fun u=>(bif u then some true else some (decide ((h.Content.dw.length:Int)>40))).bind fun z=>(bif z then some true else some (decide ((h.Content.Levels.Users.length:Int)>40))).bind fun I=>(bif I then some true else some (decide ((h.Content.Levels.Kinds.length:Int)>40))).bind fun J=>(bif J then some true else(bif (h.Room.size:Int)>2000 then some true else some (decide ((h.aQ.size:Int)>2000))).bind fun j=>(bif j then some true else some (decide ((h.Key.size:Int)>2000))).bind fun m=>(bif m then some true else some (decide ((h.Content.Text.size:Int)>2000))).bind fun n=>(bif n then some true else some (decide ((h.Content.Via.size:Int)>2000))).bind fun q=>(bif q then some true else some (decide ((h.eu.Server.size:Int)>2000))).bind fun r=>(bif r then some true else vW h 0))
def wO (aN r) (h:TK aN=some r):BL 41 [ET aN] [] (Aa r) []:=BO func41 rfl<|AU<|AU<|Ae<|AV 2<|.p (BX Aq aN.iM Ei rfl)<|.a 1<|AQ h fun x1 Y h=>.mg 13 5 (Aa x1) (.bi Y (k2:=fun h=>.a 2<|.Z (BX Aq aN.iT Ei rfl)<|CJ))<|.a 1<|AQ h fun x3 Z h=>.mg 20 4 (Aa x3) (Bh Z (k2:=fun e i=>by subst e;have h:=i;exact .a 2<|.Z (BX BZ aN.Content.Allow EL rfl)<|CJ))<|.a 1<|AQ h fun x5 hx5 h=>.mg 26 4 (Aa x5) (Bh hx5 (k2:=fun e i=>by subst e;have h:=i;exact .a 2<|.Z (BX BZ aN.Content.dw EL rfl)<|CJ))<|.a 1<|AQ h fun x7 hx7 h=>.mg 32 5 (Aa x7) (Bh hx7 (k2:=fun e i=>by subst e;have h:=i;exact .a 3<|.Z (BX E9 aN.Content.Levels.Users En rfl)<|CJ))<|.a 1<|AQ h fun x9 LX h=>.mg 39 5 (Aa x9) (Bh LX (k2:=fun e i=>by subst e;have h:=i;exact .a 3<|.Z (BX EH aN.Content.Levels.Kinds FD rfl)<|CJ))<|.dQ<|BR h Ba fun h=>Ae<|AV 4<|AQ h fun x12 j h=>.mg 49 5 (Aa x12) (.bi j)<|.a 1<|AQ h fun x14 m h=>.mg 56 4 (Aa x14) (Bh m)<|.a 1<|AQ h fun x16 n h=>.mg 62 4 (Aa x16) (Bh n)<|.a 1<|AQ h fun x18 q h=>.mg 68 4 (Aa x18) (Bh q)<|.a 1<|AQ h fun uI s h=>.mg 74 5 (Aa uI) (Bh s)<|.dQ<|BR h Ba fun h=>Ae<|AU<|BP<|Dx (fun u=>⟨Bo 125 [(3,.ptr 0 0),(4,Ag u)],[.box (Bc (Df aN.Content))],0⟩) _ _ _ (Ah 125 24 [Ak 1]) h<|fun J40 k24 z u h=>Ae<|AV 3<|.Z (BX BZ aN.Content.Allow EL rfl)<|CZ h (fun h=>Ae<|BP<|AQ h fun OH I h=>AV 3<|.Z (CG BZ I EL G5 rfl)<|BR h Ba fun h=>Bg<|.a 3<|.nil<|z _ _ (Ah 125 24 [Ak 0]) h) fun h=>FB<|Ae<|AU<|BP<|Dx (fun J=>⟨Bo 125 [(3,.ptr 0 0),(5,Ag J)],[.box (Bc (Df aN.Content))],0⟩) _ _ _ (Ah 125 40 [Ak 0]) h<|fun J39 k29 L J h=>Ae<|AV 3<|.Z (BX BZ aN.Content.dw EL rfl)<|CZ h (fun h=>Ae<|BP<|AQ h fun x31 M h=>AV 3<|.Z (CG BZ M EL G5 rfl)<|BR h Ba fun h=>Bg<|.a 3<|.nil<|L _ _ (Ah 125 40 [Ak 0]) h) fun h=>FB<|Ae<|AU<|BP<|Dx (fun O=>⟨Bo 125 [(3,.ptr 0 0),(6,Ag O)],[.box (Bc (Df aN.Content))],0⟩) _ _ _ (Ah 125 72 [Ak 0]) h<|fun J38 k34 S O h=>Ae<|AV 4<|.Z (BX E9 aN.Content.Levels.Users En rfl)<|CZ h (fun h=>Ae<|BP<|AQ h fun x36 U h=>AV 4<|.Z (CG E9 U En JC rfl)<|BR h Ba fun h=>Bg<|.a 3<|.nil<|S _ _ (Ah 125 72 [Ak 0]) h) fun h=>El
abbrev Ji:=AA BH
def aZ (h:Ji) (m:(Int->AB AO)):Int->AB AO:=fun j=>(bif j<(h.length:Int) then(BI h j).bind fun n=>(TK n).bind fun q=>(bif q then some true else m (IntKind.i64.wrap (j+1)))else some false)
def mD (h:Ji):Int->AB AO:=aS (aZ h) Am
def TJ (h:Ji) (j:Int):AB AO:=(bif (h.length:Int)>j then some true else mD h 0)
def oJ (dG qA r) (h:TJ dG qA=some r):BL 9 [OM dG,Ag qA] [] (Aa r) []:=BO func9 rfl<|AU<|Ae<|AV 1<|.Z (BX DT dG GR rfl)<|BR h Ba fun h=>Ae<|AU<|BP<|Dx (fun q=>⟨Bo 21 [(0,OM dG),(5,Ag q)],[],0⟩) _ _ _ (Ah 21 33 []) h<|fun z I j q h=>Ae<|AV 2<|.Z (BX DT dG GR rfl)<|CZ h (fun h=>Ae<|BP<|D6 h fun s m u n h=>AV 2<|.p (CG DT m GR Gy rfl)<|.a 1<|.ca (wO s u n)<|.dQ<|BR h Ba fun h=>Bg<|.a 3<|.nil<|j _ _ (Ah 21 33 []) h) fun h=>El
def bH (h:Dj) (m:(Int->AB AO)):Int->AB AO:=fun j=>(bif j<(h.jF.length:Int) then(BI h.jF j).bind fun n=>(bif (n.User.size:Int)>2000 then some true else m (IntKind.i64.wrap (j+1)))else some false)
def fU (h:Dj):Int->AB AO:=aS (bH h) Am
def kS (h:Dj) (m:(Int->AB AO)):Int->AB AO:=fun j=>(bif j<(h.gq.length:Int) then(BI h.gq j).bind fun n=>(bif (n.User.size:Int)>2000 then some true else m (IntKind.i64.wrap (j+1)))else fU h 0)
def kQ (h:Dj):Int->AB AO:=aS (kS h) Am
def eU (h:Dj) (m:(Int->AB AO)):Int->AB AO:=fun j=>(bif j<(h.State.length:Int) then(BI h.State j).bind fun n=>(bif (n.Key.size:Int)>2000 then some true else m (IntKind.i64.wrap (j+1)))else kQ h 0)
def nM (h:Dj):Int->AB AO:=aS (eU h) Am
def XD (h:Dj) (j:Int):AB AO:=(TJ h.Events j).bind fun r=>(bif r then some true else(TJ h.Waiting j).bind fun s=>some s).bind fun u=>(bif u then some true else some (decide ((h.Rows.length:Int)>j))).bind fun z=>(bif z then some true else some (decide ((h.vJ.length:Int)>40))).bind fun I=>(bif I then some true else some (decide ((h.State.length:Int)>60))).bind fun J=>(bif J then some true else some (decide ((h.gq.length:Int)>40))).bind fun m=>(bif m then some true else some (decide ((h.jF.length:Int)>40))).bind fun n=>(bif n then some true else some (decide ((h.Id.size:Int)>2000))).bind fun q=>(bif q then some true else nM h 0)
def acs (jV qA r) (h:XD jV qA=some r):BL 16 [LU jV,Ag qA] [] (Aa r) []:=BO func16 rfl<|AU<|Ae<|AQ h fun x1 S h=>AV 3<|.ca (oJ jV.Events qA x1 S)<|.a 1<|AQ h fun x2 U h=>.mg 13 4 (Aa x2) (Bh U (k2:=fun e i=>by subst e;have h:=i;exact AQ h fun x4 Y h=>.a 3<|.X (oJ jV.Waiting qA x4 Y)<|CJ))<|.a 1<|AQ h fun x5 Z h=>.mg 19 5 (Aa x5) (Bh Z (k2:=fun e i=>by subst e;have h:=i;exact .a 2<|.Z (BX Ja jV.Rows Qv rfl)<|CJ))<|.a 1<|AQ h fun x7 hx7 h=>.mg 26 4 (Aa x7) (Bh hx7 (k2:=fun e i=>by subst e;have h:=i;exact .a 2<|.Z (BX Aq jV.vJ Ei rfl)<|CJ))<|.a 1<|AQ h fun x9 LX h=>.mg 32 4 (Aa x9) (Bh LX (k2:=fun e i=>by subst e;have h:=i;exact .a 2<|.Z (BX Em jV.State Gg rfl)<|CJ))<|.a 1<|AQ h fun x11 j h=>.mg 38 4 (Aa x11) (Bh j (k2:=fun e i=>by subst e;have h:=i;exact .a 2<|.Z (BX Ls jV.gq O9 rfl)<|CJ))<|.a 1<|AQ h fun VP m h=>.mg 44 4 (Aa VP) (Bh m (k2:=fun e i=>by subst e;have h:=i;exact .a 2<|.Z (BX La jV.jF OY rfl)<|CJ))<|.a 1<|AQ h fun x15 n h=>.mg 50 4 (Aa x15) (Bh n)<|.dQ<|BR h Ba fun h=>Ae<|AU<|BP<|Dx (fun q=>⟨Bo 100 [(2,.ptr 0 0),(5,Ag q)],[.box (Bc (Hf jV))],0⟩) _ _ _ (Ah 100 36 [Ak 0]) h<|fun J35 k19 s q h=>Ae<|AV 3<|.Z (BX Em jV.State Gg rfl)<|CZ h (fun h=>Ae<|BP<|AQ h fun x21 u h=>AV 3<|.Z (CG Em u Gg Il rfl)<|BR h Ba fun h=>Bg<|.a 3<|.nil<|s _ _ (Ah 100 36 [Ak 0]) h) fun h=>FB<|Ae<|AU<|BP<|Dx (fun z=>⟨Bo 100 [(2,.ptr 0 0),(6,Ag z)],[.box (Bc (Hf jV))],0⟩) _ _ _ (Ah 100 68 [Ak 0]) h<|fun J34 k24 I z h=>Ae<|AV 3<|.Z (BX Ls jV.gq O9 rfl)<|CZ h (fun h=>Ae<|BP<|AQ h fun OH J h=>AV 3<|.Z (CG Ls J O9 Z4 rfl)<|BR h Ba fun h=>Bg<|.a 3<|.nil<|I _ _ (Ah 100 68 [Ak 0]) h) fun h=>FB<|Ae<|AU<|BP<|Dx (fun L=>⟨Bo 100 [(2,.ptr 0 0),(7,Ag L)],[.box (Bc (Hf jV))],0⟩) _ _ _ (Ah 100 132 [Ak 0]) h<|fun J33 k29 M L h=>Ae<|AV 3<|.Z (BX La jV.jF OY rfl)<|CZ h (fun h=>Ae<|BP<|AQ h fun x31 O h=>AV 3<|.Z (CG La O OY Y2 rfl)<|BR h Ba fun h=>Bg<|.a 3<|.nil<|M _ _ (Ah 100 132 [Ak 0]) h) fun h=>El
def X8 (j:Fp) (h:Ey):AB AO:=(bif (j.Name.size:Int)>2000 then some true else some (decide ((h.To.size:Int)>2000))).bind fun m=>(bif m then some true else(TK h.Event).bind fun n=>some n).bind fun q=>some q
def Opn (bV jW r) (h:X8 bV jW=some r):BL 17 [.d (JH bV),.d (Nc jW)] [] (Aa r) []:=BO func17 rfl<|AU<|AV 4<|AQ h fun q j h=>.mg 9 5 (Aa q) (.bi j)<|.a 1<|AQ h fun s m h=>.mg 16 3 (Aa s) (Bh m (k2:=fun e i=>by subst e;have h:=i;exact AQ h fun u n h=>.a 2<|.X (wO jW.Event u n)<|CJ))<|.aW<|CX
def TS (h:Int):AB AO:=(bif (h==46)then some true else some (h==45)).bind fun j=>some j
def aex (dO r) (h:TS dO=some r):BL 270 [.d (Cb dO)] [] (Aa r) []:=BO func270 rfl<|AU<|AV 2<|AQ h fun m j h=>.mg 5 3 (Aa m) (.bi j)<|.aW<|CX
def Qu (h:Int):AB AO:=(bif h>=97 then some (decide (h<=122))else some false).bind fun j=>(bif j then some true else(bif h>=48 then some (decide (h<=57))else some false).bind fun m=>some m).bind fun n=>some n
def iL (dO r) (h:Qu dO=some r):BL 271 [.d (Cb dO)] [] (Aa r) []:=BO func271 rfl<|AU<|AV 2<|AQ h fun q j h=>.mg 5 3 (Aa q) (.bi j)<|.a 1<|AQ h fun s m h=>.mg 10 6 (Aa s) (Bh m (k2:=fun e i=>sZ))<|.aW<|CX
def bD (j:AY) (h:(Int->AB AO)) (r:(Int->AB AO)):Int->AB AO:=fun m=>(bif m<(j.size:Int) then(EC j m).bind fun s=>(Qu s).bind fun u=>(bif (!u)then(EC j m).bind fun n=>(h n).bind fun q=>some (!q)else some false).bind fun z=>(bif z then some false else r (IntKind.i64.wrap (m+1)))else some true)
def eB (j:AY) (h:(Int->AB AO)):Int->AB AO:=aS (bD j h) Am
def Ox (j:AY) (h:(Int->AB AO)):AB AO:=(bif (j.size:Int)<1 then some true else some (decide ((j.size:Int)>32))).bind fun m=>(bif m then some false else eB j h 0)
def wI (q:AY) (m:(Int->AB AO)) (j:D) (n:bI AZ Cb EG j m) (r:AO) (h:Ox q m=some r):BL 269 [Ce q,.d j] [] (Aa r) []:=BO func269 rfl<|AU<|Ae<|AV 3<|AQ h fun S z h=>.mg 9 4 (Aa S) (.bi z)<|.dQ<|BR h Ba fun h=>Ae<|AU<|BP<|Dx (fun O=>⟨Bo 33 [(0,Ce q),(1,.d j),(15,Ag (q.size:Int)),(16,Ag O)],[],0⟩) _ _ _ (Ah 33 98307 []) h<|fun U k5 I O h=>AU<|Ae<|CZ h (fun h=>Ae<|BP<|AU<|D6 h fun Y J Z L h=>AV 2<|.p (Fe (k:=.i64) J Dv rfl)<|.ca (iL Y Z L)<|.a 1<|AQ h fun x9 M h=>.mg 24 7 (Aa x9) (.bi M (fun h=>D6 h fun x11 s x12 u h=>.a 3<|.p (Fe (k:=.i64) s Dv rfl)<|.Z (y9 (d:=j) (n:bI AZ Cb EG j m) u rfl)<|CJ))<|.dQ<|BR h Ba fun h=>Bg<|.a 2<|.nil<|I _ _ (Ah 33 98307 []) h) fun h=>El
def Qs (h:AY):AB AO:=(Ox h (fun a0=>TS a0)).bind fun j=>(bif j then(EC h 0).bind fun m=>(Qu m).bind fun n=>some n else some false).bind fun q=>(bif q then(EC h (IntKind.i64.wrap ((h.size:Int)-1))).bind fun r=>(Qu r).bind fun s=>some s else some false).bind fun u=>some u
def jP (bV r) (h:Qs bV=some r):BL 201 [Ce bV] [] (Aa r) []:=BO func201 rfl<|AU<|AQ h fun I j h=>AV 1<|.ca (wI bV (fun a0=>TS a0) (.fn (.func 270) [] []) ⟨270,[],rfl,agG,fun a0 b J=>aex a0 b J⟩ I j)<|.a 1<|AQ h fun L m h=>.mg 6 3 (Aa L) (Bh m (fun e i=>by subst e;have h:=i;exact D6 h fun M n O q h=>.a 1<|.p (Fe (k:=.i64) n Dv rfl)<|.X (iL M O q)<|CJ))<|.a 1<|AQ h fun S s h=>.mg 11 6 (Aa S) (Bh s (fun e i=>by subst e;have h:=i;exact D6 h fun U u Y z h=>.a 4<|.p (Fe (k:=.i64) u Dv rfl)<|.X (iL U Y z)<|CJ))<|.aW<|CX
def YV (h:AY):AB Int:=(Qs h).bind fun j=>(bif (!j)then some 3 else some 0)
def yJ (bV r) (h:YV bV=some r):BL 127 [Ce bV] [] (Ag r) []:=BO func127 rfl<|AU<|Ae<|AQ h fun m j h=>AV 1<|.X (jP bV m j)<|KE
def RG (j:Fp) (h:Ey):AB Int:=(bif h.Kind<1 then some true else some (decide (h.Kind>6))).bind fun m=>(bif m then some 2 else(YV h.To).bind fun n=>(bif (n != 0)then some 3 else(bif (h.To.toList==j.Name.toList)then some 1 else some 0)))
def fV (bV jW r) (h:RG bV jW=some r):BL 53 [.d (JH bV),.d (Nc jW)] [] (Ag r) []:=BO func53 rfl<|AU<|Ae<|BP<|AV 3<|AQ h fun n j h=>.mg 9 4 (Aa n) (.bi j)<|.aW<|DW h Ba fun h=>AQ h fun q m h=>AV 2<|.X (yJ jW.To q m)<|DW h Ba fun h=>AU<|KE
def kT (h:AY) (j:AY):AB (AY×AY×AO):=(YP h j).bind fun m=>(bif m>=0 then(Hl h 0 m).bind fun n=>(Hl h (IntKind.i64.wrap (m+(j.size:Int))) ((h).size)).bind fun q=>some (n,q,true)else some (h,Bd,false))
def aeW (bV Ci r) (h:kT bV Ci=some r):BL 274 [Ce bV,Ce Ci] [] (.gV [Ce r.1,Ce r.2.1,Aa r.2.2]) []:=BO func274 rfl<|AU<|Ae<|AQ h fun s j h=>AV 2<|.X (abw bV Ci s j)<|AU<|BR h (fun h=>D6 h fun u m z n h=>FI A8 A8 A8 (.a 2<|.p (Rn m (fun _=>rfl) (by intro q;cases q) Dv rfl)<|.a 5<|.p (Rn n (by intro q;cases q) (fun _=>rfl) Dv rfl)<|.a 3<|.nil _)<|CX) fun h=>AU<|CX
def strings_Cut (j:AY) (h:AY):AB (AY×AY×AO):=(kT j h).bind fun m=>some (m.1,m.2.1,m.2.2)
def aal (bV Ci r) (h:strings_Cut bV Ci=some r):BL 204 [Ce bV,Ce Ci] [] (.gV [Ce r.1,Ce r.2.1,Aa r.2.2]) []:=BO func204 rfl<|AU<|AQ h fun m j h=>AV 2<|.X (aeW bV Ci m j)<|CX
def Uu (h:Int):AB AO:=(bif (h==95)then some true else some (h==46)).bind fun j=>(bif j then some true else some (h==45)).bind fun m=>(bif m then some true else some (h==61)).bind fun n=>some n
def agV (dO r) (h:Uu dO=some r):BL 272 [.d (Cb dO)] [] (Aa r) []:=BO func272 rfl<|AU<|AV 2<|AQ h fun q j h=>.mg 5 3 (Aa q) (.bi j)<|.a 1<|AQ h fun s m h=>.mg 10 2 (Aa s) (Bh m)<|.a 1<|AQ h fun u n h=>.mg 14 2 (Aa u) (Bh n)<|.aW<|CX
def Uh (h:AY):AB AO:=(Ox h (fun a0=>Uu a0)).bind fun j=>some j
def pF (bV r) (h:Uh bV=some r):BL 202 [Ce bV] [] (Aa r) []:=BO func202 rfl<|AU<|AQ h fun m j h=>AV 1<|.X (wI bV (fun a0=>Uu a0) (.fn (.func 272) [] []) ⟨272,[],rfl,ab8,fun a0 b n=>agV a0 b n⟩ m j)<|CX
def PG (h:AY) (j:AY):AB (AY×AY×AO):=(bif (h.toList==Bd.toList)then some true else(EC h 0).bind fun s=>(strings_IndexByte j s).bind fun u=>some (decide (u<0))).bind fun z=>(bif z then some (Bd,Bd,false)else(Hl h 1 ((h).size)).bind fun I=>(strings_Cut I Ie).bind fun m=>(bif (!m.2.2)then some true else(Uh m.1).bind fun n=>some (!n)).bind fun J=>(bif J then some true else(Qs m.2.1).bind fun q=>some (!q)).bind fun r=>(bif r then some (Bd,Bd,false)else some (m.1,m.2.1,true)))
def cZ (o8 KD r) (h:PG o8 KD=some r):BL 130 [Ce o8,Ce KD] [] (.gV [Ce r.1,Ce r.2.1,Aa r.2.2]) []:=BO func130 rfl<|AU<|Ae<|AV 2<|AQ h fun U q h=>.mg 12 6 (Aa U) (.bi q (k2:=fun h=>D6 h fun Y s Z u h=>.a 2<|.p (Fe (k:=.i64) s Dv rfl)<|.X (yK KD Y Z u)<|CJ))<|.dQ<|BR h Ba fun h=>D6 h fun x6 z I J h=>AV 1<|.p (Rn z eL (fun _=>rfl) Dv rfl)<|.X (aal x6 Ie I J)<|Ae<|AV 2<|AQ h fun x8 L h=>.mg 28 4 (Aa x8) (.bi L (k2:=fun h=>AQ h fun M j h=>.a 1<|.X (pF I.1 M j)<|CJ))<|.a 1<|AQ h fun O m h=>.mg 34 3 (Aa O) (Bh m (k2:=fun e i=>by subst e;have h:=i;exact AQ h fun S n h=>.a 1<|.X (jP I.2.1 S n)<|CJ))<|.dQ<|KE
def YT (h:AY):AB AY:=(PG h QE).bind fun j=>some j.1
def af5 (o8 r) (h:YT o8=some r):BL 129 [Ce o8] [] (Ce r) []:=BO func129 rfl<|AU<|AQ h fun m j h=>AV 1<|.X (cZ o8 QE m j)<|AU<|CX
def ZC (h:Int) (j:AY) (m:AY):AB (AY×Int):=(bif (h != 64)then some (h != 33)else some false).bind fun s=>(bif s then some true else(Uh j).bind fun u=>some (!u)).bind fun z=>(bif z then some true else(Qs m).bind fun I=>some (!I)).bind fun J=>(bif J then some (Bd,3)else(IU (Es [h]) j).bind fun n=>(IU n Ie).bind fun q=>(IU q m).bind fun r=>some (r,0))
def aci (Jg NS NT r) (h:ZC Jg NS NT=some r):BL 128 [.d (Cb Jg),Ce NS,Ce NT] [] (.gV [Ce r.1,Ag r.2]) []:=BO func128 rfl<|AU<|Ae<|AV 2<|AQ h fun J q h=>.mg 10 3 (Aa J) (.bi q)<|.a 1<|AQ h fun L s h=>.mg 15 3 (Aa L) (Bh s (k2:=fun e i=>by subst e;have h:=i;exact AQ h fun M u h=>.a 1<|.X (pF NS M u)<|CJ))<|.a 1<|AQ h fun O z h=>.mg 20 3 (Aa O) (Bh z (k2:=fun e i=>by subst e;have h:=i;exact AQ h fun S I h=>.a 1<|.X (jP NT S I)<|CJ))<|.dQ<|BR h Ba fun h=>Qr h fun U j Y m Z n h=>AV 1<|.p (Et KC NQ [Cb Jg] rfl)<|.p (vg (l:=[Jg]) RU gJ Dv rfl)<|.a 1<|.p (cu j rfl)<|.p (cu m rfl)<|.a 1<|.Z (cu n rfl)<|CX
def jQ (h:BH):AB BH:=some h
def V4 (j:Fp) (h:BH):AB BH:=(YT h.aQ).bind fun n=>(ZC 64 n j.Name).bind fun m=>(bif (m.2==0)then jQ ({ h with aQ:=m.1 })else jQ h)
def xI (bV F9 r) (h:V4 bV F9=some r):BL 56 [.d (JH bV),ET F9] [] (ET r) []:=BO func56 rfl<|AU<|Dq (fun s=>∃(j:BH),DI s ⟨Bo 21 [(3,.ptr 0 0),(4,.ptr 1 0)],[.box (Bc (DT j)),.box (Bc (DT IQ))],0⟩/\jQ j=some r) (by rintro s ⟨j,z,h⟩;exact Dk z<|AU<|J4<|by rw[←IK h];exact⟨[ET j],[],⟨⟨1,Bc (DT j),true,29,A8,A8,A8,Gy,Ir A8,(by intro I;cases I),A8⟩,trivial⟩,A8,A8,A8⟩)<|fun K2=>D6 h fun q m u n h=>FI A8 A8 A8 (.a 2<|.ca (af5 F9.aQ q m)<|.a 2<|.ca (aci 64 q bV.Name u n)<|.a 5<|.nil _)<|AU<|BR h (fun h=>Bg<|.a 3<|.nil<|K2 _ ⟨({ F9 with aQ:=u.1 }),Ah 21 24 [Ak 1,Ak 2],h⟩) fun h=>K2 _ ⟨F9,Ah 21 24 [Ak 1,Ak 2],h⟩
abbrev Ap:=AA Int
def Na (h:Ap) (j:Int):AB Ap:=(Sm 1 0 (h.length:Int) (IntKind.i64.wrap ((h.length:Int)+j))).bind fun m=>some (gCopy m h)
def VJ (fD Tq r) (h:Na fD Tq=some r):BL 121 [Fz fD,Ag Tq] [] (.dn 0) [(GZ r)]:=BO func121 rfl<|EM<|.f (KR 5 1 rfl)<|.dQ<|AQ h fun m j h=>AV 1<|.p (BX Cb fD RU rfl)<|.a 1<|.p (BX Cb fD RU rfl)<|.a 2<|.Y (aeA Cb 0 j KC NQ A8 A8 A8 BQ rfl)<|AV 2<|.f (acA (k:=1) Cb m fD KC A8 (fun _=>rfl) rfl)<|.dQ<|AU<|by cases h;exact .ret (QS [Ak 1])
def MS  (m:(Ap->Int->AB Ap)):Ap->Int->AB Ap:=fun j h=>(bif h>=128 then(F6 1 j [CY .or .u8 (IntKind.u8.wrap h) 128]).bind fun n=>(Le .shr .u64 h 7).bind fun q=>m n q else(F6 1 j [IntKind.u8.wrap h]).bind fun r=>some r)
def rF  :Ap->Int->AB Ap:=bZ (MS) Am
def XI (h:Ap) (j:Int):AB Ap:=rF h j
def NY (h:Ap) (j:Int):AB Ap:=(Le .shl .u64 (IntKind.u64.wrap j) 1).bind fun m=>(bif j<0 then XI h (QV .u64 m)else XI h m)
def Um (fD qA r) (h:NY fD qA=some r):BL 122 [.dn 0,Ag qA] [(GZ fD)] (.dn 1) [.dead,(GZ r)]:=BO func122 rfl<|EM<|.f (KR 5 1 rfl)<|.dQ<|AQ h fun n q h=>AV 2<|.Z (adX (k:=.u64) (k':=.u64) q rfl)<|Dq (fun s=>∃(z:Int),DI s ⟨Bo 28 [(0,.dn 1),(5,.d ((jG .u64) z))],[.dead,(GZ fD)],1⟩/\XI fD z=some r) (by rintro s ⟨z,S,h⟩;exact Dk S<|Ae<|BP<|Jc (fun O j=>⟨Bo 28 [(0,.dn 1),(5,.d ((jG .u64) j))],[.dead,(GZ O)],1⟩) _ _ _ _ (Ah 28 33 [(0,false),Ak 1]) h<|fun U Y I O j h=>Ae<|AU<|CZ h (fun h=>BP<|AQ h fun Z J h=>AV 3<|.p (MN (k:=.u8) (u:=(IntKind.u8.wrap j)) (v:=128) rfl)<|.p (Et KC NQ [Cb (CY .or .u8 (IntKind.u8.wrap j) 128)] rfl)<|.Y (Oc (k:=1) Cb J KC A8 (fun _=>rfl) BQ rfl)<|AQ h fun x8 L h=>Bg<|.a 1<|.p (afR (k:=.u64) (k':=.u64) L rfl)<|.a 1<|.nil<|I _ _ _ (Ah 28 33 [(0,false),Ak 2]) h) fun h=>FB<|AQ h fun x9 M h=>AV 3<|.p (Et KC NQ [Cb (IntKind.u8.wrap j)] rfl)<|.Y (Oc (k:=1) Cb M KC A8 (fun _=>rfl) BQ rfl)<|by cases h;exact .ret (QS [(0,false),Ak 2]))<|fun m=>AU<|BR h (fun h=>Bg<|.a 1<|.p (acR (k:=.u64) (u:=n) rfl)<|.a 1<|.nil<|m _ ⟨(QV .u64 n),Ah 28 33 [(0,false),Ak 0],h⟩) fun h=>m _ ⟨n,Ah 28 33 [(0,false),Ak 0],h⟩
def Vb (j:Ap) (h:AY):AB Ap:=(NY j (h.size:Int)).bind fun m=>(F6 1 m (Aj h)).bind fun n=>some n
def uV (fD nD r) (h:Vb fD nD=some r):BL 120 [.dn 0,Ce nD] [(GZ fD)] (.dn 1) [.dead,(GZ r)]:=BO func120 rfl<|EM<|.f (KR 5 1 rfl)<|.dQ<|D6 h fun n j q m h=>AV 3<|.f (x:=.dn 2) (Gq [.ent 0] [.dn 0,Ag (nD.size:Int)] (Um fD (nD.size:Int) n j) rfl)<|.a 1<|.Y (aaM (k:=2) m KC NQ Dv A8 rfl)<|by cases h;exact .ret (QS [(0,false),Ak 3])
def Jm (j:Ap) (h:AY):AB Ap:=(Na j (IntKind.i64.wrap ((h.size:Int)+10))).bind fun m=>(Vb m h).bind fun n=>some n
def ZH (fD nD r) (h:Jm fD nD=some r):BL 47 [Fz fD,Ce nD] [] (.dn 0) [(GZ r)]:=BO func47 rfl<|EM<|.f (KR 5 1 rfl)<|.dQ<|D6 h fun n j q m h=>AV 4<|.f (x:=.dn 1) (V8 [Fz fD,Ag (IntKind.i64.wrap ((nD.size:Int)+10))] (VJ fD (IntKind.i64.wrap ((nD.size:Int)+10)) n j) rfl)<|.a 1<|.Y (x:=.dn 2) (Gq [.ent 1] [.dn 1,Ce nD] (uV n nD q m) rfl)<|Q5
def H6 (h:Ap) (j:Int):AB Ap:=(Na h 10).bind fun m=>(NY m j).bind fun n=>some n
def NK (fD qA r) (h:H6 fD qA=some r):BL 48 [Fz fD,Ag qA] [] (.dn 0) [(GZ r)]:=BO func48 rfl<|EM<|.f (KR 5 1 rfl)<|.dQ<|D6 h fun n j q m h=>AV 1<|.f (x:=.dn 1) (V8 [Fz fD,Ag 10] (VJ fD 10 n j) rfl)<|.a 1<|.Y (x:=.dn 2) (Gq [.ent 1] [.dn 1,Ag qA] (Um n qA q m) rfl)<|Q5
def Nh (j:Ap) (h:AO):AB Ap:=(Na j 1).bind fun m=>(bif h then(F6 1 m [1]).bind fun n=>some n else(F6 1 m [0]).bind fun q=>some q)
def pU (fD Jh r) (h:Nh fD Jh=some r):BL 214 [Fz fD,Aa Jh] [] (.dn 0) [(GZ r)]:=BO func214 rfl<|EM<|.f (KR 5 1 rfl)<|.dQ<|AQ h fun q j h=>AV 1<|.Y (x:=.dn 1) (V8 [Fz fD,Ag 1] (VJ fD 1 q j) rfl)<|Ae<|AU<|BR h (fun h=>AQ h fun s m h=>AV 1<|.p (Et KC NQ [Cb 1] rfl)<|.Y (Oc (k:=1) Cb m KC A8 (fun _=>rfl) BQ rfl)<|Q5) fun h=>AQ h fun u n h=>AV 1<|.p (Et KC NQ [Cb 0] rfl)<|.Y (Oc (k:=1) Cb n KC A8 (fun _=>rfl) BQ rfl)<|Q5
abbrev Dw:=AA AY
def bF (h:Dw) (n:(Ap->Int->AB Ap)):Ap->Int->AB Ap:=fun m j=>(bif j<(h.length:Int) then(BI h j).bind fun q=>(Vb m q).bind fun r=>n r (IntKind.i64.wrap (j+1))else some m)
def nX (h:Dw):Ap->Int->AB Ap:=bZ (bF h) Am
def Y1 (j:Ap) (h:Dw):AB Ap:=(NY j (h.length:Int)).bind fun m=>nX h m 0
def aak (fD dD r) (h:Y1 fD dD=some r):BL 277 [.dn 0,FM dD,.d (.fn (.func 120) [] [])] [(GZ fD)] (.dn 1) [.dead,(GZ r)]:=BO func277 rfl<|EM<|.f (KR 5 1 rfl)<|.dQ<|AQ h fun I j h=>AV 2<|.p (BX BZ dD EL rfl)<|.Y (x:=.dn 2) (Gq [.ent 0] [.dn 0,Ag (dD.length:Int)] (Um fD (dD.length:Int) I j) rfl)<|Ae<|AV 1<|.Z (BX BZ dD EL rfl)<|BP<|Jc (fun m u=>⟨Bo 25 [(0,.dn 1),(2,.d (.fn (.func 120) [] [])),(13,FM dD),(14,Ag (dD.length:Int)),(15,Ag u)],[.dead,(GZ m)],1⟩) _ _ _ _ (Ah 25 57349 [(0,false),Ak 2]) h<|fun L M n m u h=>AU<|Ae<|CZ h (fun h=>Ae<|BP<|AQ h fun z q h=>EM<|.Z (CG BZ q EL G5 rfl)<|AQ h fun J s h=>Bg<|.a 3<|.f (x:=.dn 2) (oh [.ent 1] [] [] [.dn 1,Ce z] (uV m z J s) rfl)<|.a 1<|.nil<|Bg<|.a 2<|.nil<|n _ _ _ (Ah 25 57349 [(0,false),Ak 2]) h) fun h=>FB<|AU<|vw
def Ro (j:Ap) (h:Dw):AB Ap:=(Na j (IntKind.i64.wrap ((IntKind.i64.wrap (8*(h.length:Int)))+10))).bind fun m=>(Y1 m h).bind fun n=>some n
def pV (fD dD r) (h:Ro fD dD=some r):BL 215 [Fz fD,FM dD] [] (.dn 0) [(GZ r)]:=BO func215 rfl<|EM<|.f (KR 5 1 rfl)<|.dQ<|D6 h fun n j q m h=>AV 2<|.p (BX BZ dD EL rfl)<|.a 2<|.f (x:=.dn 1) (V8 [Fz fD,Ag (IntKind.i64.wrap ((IntKind.i64.wrap (8*(dD.length:Int)))+10))] (VJ fD (IntKind.i64.wrap ((IntKind.i64.wrap (8*(dD.length:Int)))+10)) n j) rfl)<|.a 1<|.Y (x:=.dn 2) (Gq [.ent 1] [.dn 1,FM dD,.d (.fn (.func 120) [] [])] (aak n dD q m) rfl)<|Q5
def au (h:BF) (n:(Ap->Int->AB Ap)):Ap->Int->AB Ap:=fun m j=>(bif j<7 then(BI ([h.Levels.User,h.Levels.Message,h.Levels.State,h.Levels.iD,h.Levels.lS,h.Levels.qm,h.Levels.iE]:Ap) j).bind fun q=>(H6 m q).bind fun r=>n r (IntKind.i64.wrap (j+1))else some m)
def kG (h:BF):Ap->Int->AB Ap:=bZ (au h) Am
def YU (h:BF) (q:(Ap->Int->AB Ap)):Ap->Int->AB Ap:=fun m j=>(bif j<(h.Levels.Kinds.length:Int) then(BI h.Levels.Kinds j).bind fun n=>(H6 m n.Kind).bind fun r=>(H6 r n.N).bind fun s=>q s (IntKind.i64.wrap (j+1))else kG h m 0)
def gK (h:BF):Ap->Int->AB Ap:=bZ (YU h) Am
def WQ (h:BF) (n:(Ap->Int->AB Ap)):Ap->Int->AB Ap:=fun u j=>(bif j<(h.Levels.Users.length:Int) then(BI h.Levels.Users j).bind fun m=>(Jm u m.User).bind fun q=>(H6 q m.N).bind fun r=>n r (IntKind.i64.wrap (j+1))else(H6 u (h.Levels.Kinds.length:Int)).bind fun s=>gK h s 0)
def uq (h:BF):Ap->Int->AB Ap:=bZ (WQ h) Am
def VW (h:BF):AB Ap:=(Jm [] h.Text).bind fun j=>(H6 j h.N).bind fun m=>(H6 m h.Target).bind fun n=>(Nh n h.Thread).bind fun q=>(Jm q h.Via).bind fun r=>(Ro r h.Allow).bind fun s=>(Ro s h.dw).bind fun u=>(H6 u (h.Levels.Users.length:Int)).bind fun z=>uq h z 0
def wK (dO r) (h:VW dO=some r):BL 134 [Gw dO] [] (Fz r) []:=BO func134 rfl<|AU<|AQ h fun x1 hx1 h=>AV 2<|.Z (x:=(Fz x1)) (ad8 [.d (.lit (.slice none 0 0)),Ce dO.Text] (ZH [] dO.Text x1 hx1).view rfl)<|AQ h fun x2 hx2 h=>AV 3<|.X (NK x1 dO.N x2 hx2).view<|AQ h fun x3 hx3 h=>AV 3<|.X (NK x2 dO.Target x3 hx3).view<|AQ h fun x4 hx4 h=>AV 3<|.X (pU x3 dO.Thread x4 hx4).view<|AQ h fun x5 hx5 h=>AV 3<|.X (ZH x4 dO.Via x5 hx5).view<|AQ h fun x6 hx6 h=>AV 3<|.X (pV x5 dO.Allow x6 hx6).view<|AQ h fun x7 hx7 h=>AV 3<|.X (pV x6 dO.dw x7 hx7).view<|AU<|AQ h fun x8 VQ h=>AV 3<|.p (BX E9 dO.Levels.Users En rfl)<|.X (NK x7 (dO.Levels.Users.length:Int) x8 VQ).view<|Ae<|AV 2<|.Z (BX E9 dO.Levels.Users En rfl)<|BP<|Jc (fun v9 n=>⟨Bo 103 [(3,Fz v9),(4,.ptr 0 0),(46,MB dO.Levels.Users),(47,Ag (dO.Levels.Users.length:Int)),(48,Ag n)],[.box (Bc (IL dO.Levels))],0⟩) _ _ _ _ (Ah 103 492581209243672 [Ak 1]) h<|fun J32 k11 q v9 n h=>AU<|Ae<|CZ h (fun h=>Ae<|BP<|AQ h fun s u h=>EM<|.Z (CG E9 u En JC rfl)<|D6 h fun z I x15 J h=>Fr A8 A8 A8 (.a 3<|.ca (ZH v9 s.User z I).view<|.a 2<|.ca (NK z s.N x15 J).view<|.a 1<|.nil _)<|Bg<|.a 2<|.nil<|q _ _ _ (Ah 103 492581209243672 [Ak 0]) h) fun h=>FB<|AQ h fun x16 L h=>AV 3<|.p (BX EH dO.Levels.Kinds FD rfl)<|.X (NK v9 (dO.Levels.Kinds.length:Int) x16 L).view<|Ae<|AV 2<|.Z (BX EH dO.Levels.Kinds FD rfl)<|BP<|Jc (fun j M=>⟨Bo 103 [(3,Fz j),(4,.ptr 0 0),(66,Ll dO.Levels.Kinds),(67,Ag (dO.Levels.Kinds.length:Int)),(68,Ag M)],[.box (Bc (IL dO.Levels))],0⟩) _ _ _ _ (Ah 103 516508834063867445272 [Ak 0]) h<|fun J31 k19 O j M h=>AU<|Ae<|CZ h (fun h=>Ae<|BP<|AQ h fun S U h=>EM<|.Z (CG EH U FD Jp rfl)<|D6 h fun Y Z x23 QJ h=>Fr A8 A8 A8 (.a 3<|.ca (NK j S.Kind Y Z).view<|.a 2<|.ca (NK Y S.N x23 QJ).view<|.a 1<|.nil _)<|Bg<|.a 2<|.nil<|O _ _ _ (Ah 103 516508834063867445272 [Ak 0]) h) fun h=>FB<|Ae<|AU<|BP<|Jc (fun m v25=>⟨Bo 103 [(3,Fz m),(94,.d ((gY Aq) ([dO.Levels.User,dO.Levels.Message,dO.Levels.State,dO.Levels.iD,dO.Levels.lS,dO.Levels.qm,dO.Levels.iE]:(AA Int)))),(95,Ag v25)],[],0⟩) _ _ _ _ (Ah 103 59421121885698253195157962760 []) h<|fun J30 k26 abC m v25 h=>AU<|Ae<|CZ h (fun h=>Ae<|BP<|AQ h fun x28 hx28 h=>EM<|.Z (qL (k:=.i64) Aq hx28 qp EY A8 rfl)<|AQ h fun x29 hx29 h=>Bg<|.a 2<|.ca (NK m x28 x29 hx29).view<|.a 1<|.nil<|Bg<|.a 2<|.nil<|abC _ _ _ (Ah 103 59421121885698253195157962760 []) h) fun h=>El
def iV  :AB Int:=some 860922984064492325
def aa2  (r:Int) (h:iV=some r):BL 124 [] [] (Ag r) []:=BO func124 rfl<|AU<|AU<|CX
def dS (h:Ap) (n:(Int->Int->AB Int)):Int->Int->AB Int:=fun m j=>(bif j<(h.length:Int) then(BI h j).bind fun q=>n (CY .and .u64 (IntKind.u64.wrap ((CY .xor .u64 m (IntKind.u64.wrap q))*1099511628211)) 4611686018427387903) (IntKind.i64.wrap (j+1))else some (IntKind.i64.wrap m))
def wZ (h:Ap):Int->Int->AB Int:=bZ (dS h) Am
def iR (h:Int) (j:Ap):AB Int:=wZ j (CY .and .u64 (IntKind.u64.wrap h) 4611686018427387903) 0
def ad9 (Xh bG r) (h:iR Xh bG=some r):BL 123 [Ag Xh,Fz bG] [] (Ag r) []:=BO func123 rfl<|AU<|AV 2<|.Z (KQ (k:=.u64) (u:=(IntKind.u64.wrap Xh)) (v:=4611686018427387903) rfl)<|Ae<|AV 1<|.Z (BX Cb bG RU rfl)<|BP<|Jc (fun j q=>⟨Bo 26 [(5,.d ((jG .u64) j)),(11,Fz bG),(12,Ag (bG.length:Int)),(13,Ag q)],[],0⟩) _ _ _ _ (Ah 26 14368 []) h<|fun z I m j q h=>AU<|Ae<|CZ h (fun h=>Ae<|BP<|AQ h fun s n h=>EM<|.Z (CG Cb n RU vH rfl)<|Bg<|.a 3<|.p (agS (k:=.u64) (u:=j) (v:=(IntKind.u64.wrap s)) rfl)<|.a 1<|.p (KQ (k:=.u64) (u:=(IntKind.u64.wrap ((CY .xor .u64 j (IntKind.u64.wrap s))*1099511628211))) (v:=4611686018427387903) rfl)<|.a 1<|.nil<|Bg<|.a 2<|.nil<|m _ _ _ (Ah 26 14368 []) h) fun h=>El
def TV (h:Ap):AB Int:=(iV).bind fun j=>(iR j h).bind fun m=>some m
def vY (fD r) (h:TV fD=some r):BL 50 [Fz fD] [] (Ag r) []:=BO func50 rfl<|AU<|D6 h fun n j q m h=>EM<|.ca (aa2  n j)<|.a 1<|.X (ad9 n fD q m)<|CX
def RD (h:BH):AB Int:=(VW h.Content).bind fun j=>(TV j).bind fun m=>some m
def eG (aN r) (h:RD aN=some r):BL 60 [ET aN] [] (Ag r) []:=BO func60 rfl<|AU<|D6 h fun n j q m h=>AV 2<|.ca (wK aN.Content n j)<|.X (vY n q m)<|CX
def Jd (h:Dw):AB Dw:=(F6 16 [] h).bind fun j=>some j
def Vg (dG r) (h:Jd dG=some r):BL 238 [FM dG] [] (.dn 0) [.arr 9 1 (List.map BZ r)]:=BO func238 rfl<|EM<|.f (KR 9 1 rfl)<|.dQ<|AQ h fun m j h=>AV 1<|.Y (bW 9 1 (Oc (k:=_) BZ j UD A8 (fun _=>rfl) BQ rfl))<|Q5
def Py (h:Dl):AB Dl:=(F6 24 [] h.Users).bind fun j=>(F6 16 [] (({ h with Users:=j }).Kinds)).bind fun m=>some ({ { h with Users:=j }with Kinds:=m })
def lq (dG r) (h:Py dG=some r):BL 239 [PV dG] [] (PV r) []:=BO func239 rfl<|AU<|AQ h fun j m h=>AV 2<|.f (bW 146 2 (Oc (k:=_) E9 m afS A8 (fun _=>rfl) BQ rfl))<|.conv _ (lH (e:=146) (s:=2) 3 (xs:=List.map E9 j) A8)<|.aW<|AQ h fun n q h=>AV 2<|.f (bW 221 2 (Oc (k:=_) EH q aeC A8 (fun _=>rfl) BQ rfl))<|.conv _ (lH (e:=221) (s:=2) 5 (xs:=List.map EH n) A8)<|.aW<|AU<|J4<|by rw[←IK h];exact⟨[PV ({ { dG with Users:=j }with Kinds:=n })],[],⟨⟨1,Bc (IL ({ { dG with Users:=j }with Kinds:=n })),true,9,A8,A8,A8,sQ,Ir A8,(by intro u;cases u),A8⟩,trivial⟩,A8,A8,A8⟩
def VT (h:AO):AB Int:=(bif h then some 5 else some 0)
def SV (h:Int) (j:AO):AB Int:=(bif j then some 2 else(bif (h==6)then some 96 else(bif (h==7)then some 1 else(bif (h==9)then some 3 else(bif (h==11)then some 13 else(bif (h==12)then VT (h==12)else(bif (h==13)then VT (h==13)else VT (h==14))))))))
def QZ (h:Int):AB Int:=(bif (h==2)then some 19 else(bif (h==3)then some 128 else(bif (h==4)then some 34 else(bif (h==5)then SV h (h==5)else(bif (h==8)then SV h (h==8)else SV h (h==10))))))
def xF (dY r) (h:QZ dY=some r):BL 291 [Ag dY] [] (Ag r) []:=BO func291 rfl<|AU<|Ae<|AU<|BP<|AU<|DW h Ba fun h=>AU<|DW h Ba fun h=>AU<|DW h Ba fun h=>Dq (fun s=>∃(q:AO),DI s ⟨Bo 26 [(3,Ag dY),(10,Aa q)],[],0⟩/\SV dY q=some r) (by rintro s ⟨q,u,h⟩;exact Dk u<|DW h Ba fun h=>AU<|DW h Ba fun h=>AU<|DW h Ba fun h=>AU<|DW h Ba fun h=>AU<|DW h Ba fun h=>Dq (fun s=>∃(j:AO),DI s ⟨Bo 26 [(22,Aa j)],[],0⟩/\VT j=some r) (by rintro s ⟨j,u,h⟩;exact Dk u<|KE)<|fun m=>AU<|CZ h (fun h=>m _ ⟨(dY==12),Ah 26 4194304 [],h⟩) fun h=>AU<|CZ h (fun h=>m _ ⟨(dY==13),Ah 26 4194304 [],h⟩) fun h=>Bg<|.a 2<|.nil<|m _ ⟨(dY==14),Ah 26 4194304 [],h⟩)<|fun n=>AU<|CZ h (fun h=>n _ ⟨(dY==5),Ah 26 1032 [],h⟩) fun h=>AU<|CZ h (fun h=>n _ ⟨(dY==8),Ah 26 1032 [],h⟩) fun h=>Bg<|.a 2<|.nil<|n _ ⟨(dY==10),Ah 26 1032 [],h⟩
def Qy (h:Int) (j:AO):AB Int:=(bif j then(QZ h).bind fun m=>some m else(bif (h==14)then some 4 else some 0))
def Rh (h:Int):AB Int:=(bif (h==2)then some 18 else(bif (h==3)then Qy h (h==3)else(bif (h==4)then Qy h (h==4)else(bif (h==5)then Qy h (h==5)else Qy h (h==6)))))
def wV (dY r) (h:Rh dY=some r):BL 240 [Ag dY] [] (Ag r) []:=BO func240 rfl<|AU<|Ae<|AU<|BP<|AU<|DW h Ba fun h=>Dq (fun s=>∃(j:AO),DI s ⟨Bo 15 [(0,Ag dY),(3,Ag dY),(6,Aa j)],[],0⟩/\Qy dY j=some r) (by rintro s ⟨j,n,h⟩;exact Dk n<|DW h (fun h=>AQ h fun q m h=>AV 1<|.X (xF dY q m)<|CX) fun h=>AU<|KE)<|fun K6=>AU<|CZ h (fun h=>K6 _ ⟨(dY==3),Ah 15 73 [],h⟩) fun h=>AU<|CZ h (fun h=>K6 _ ⟨(dY==4),Ah 15 73 [],h⟩) fun h=>AU<|CZ h (fun h=>K6 _ ⟨(dY==5),Ah 15 73 [],h⟩) fun h=>Bg<|.a 2<|.nil<|K6 _ ⟨(dY==6),Ah 15 73 [],h⟩
def iQ (h:BF):AB BF:=some h
def aj (n:Int) (h:BF) (j:BF):AB BF:=(bif ((CY .and .i64 n 128) != 0)then(Py h.Levels).bind fun m=>iQ ({ j with Levels:=m })else iQ j)
def iI (j:Int) (h:BF) (n:BF):AB BF:=(bif ((CY .and .i64 j 64) != 0)then(Jd h.dw).bind fun m=>aj j h ({ n with dw:=m })else aj j h n)
def kC (j:Int) (h:BF) (n:BF):AB BF:=(bif ((CY .and .i64 j 32) != 0)then(Jd h.Allow).bind fun m=>iI j h ({ n with Allow:=m })else iI j h n)
def jh (j:Int) (h:BF) (m:BF):AB BF:=(bif ((CY .and .i64 j 16) != 0)then kC j h ({ m with Via:=h.Via })else kC j h m)
def aO (j:Int) (h:BF) (m:BF):AB BF:=(bif ((CY .and .i64 j 4) != 0)then jh j h ({ m with Target:=h.Target })else jh j h m)
def UF (j:Int) (h:BF):AB BF:=(bif (j==1)then(Jd h.Allow).bind fun n=>(Jd h.dw).bind fun q=>(Py h.Levels).bind fun r=>some ({ { { h with Allow:=n }with dw:=q }with Levels:=r })else(Rh j).bind fun m=>(bif ((CY .and .i64 m 2) != 0)then aO m h ({ DC with N:=h.N })else aO m h DC))
def vO (dY dZ r) (h:UF dY dZ=some r):BL 149 [Ag dY,Gw dZ] [] (Gw r) []:=BO func149 rfl<|AU<|Ae<|AU<|BR h (fun h=>Qr h fun x2 hx2 x3 hx3 x4 hx4 h=>FI A8 A8 A8 (.a 2<|.ca (Vg dZ.Allow x2 hx2).view<|.a 2<|.ca (Vg dZ.dw x3 hx3).view<|.a 2<|.ca (lq dZ.Levels x4 hx4)<|.a 6<|.nil _)<|AU<|J4<|by rw[←IK h];exact⟨[Gw ({ { { dZ with Allow:=x2 }with dw:=x3 }with Levels:=x4 })],[],⟨⟨1,Bc (Df ({ { { dZ with Allow:=x2 }with dw:=x3 }with Levels:=x4 })),true,16,A8,A8,A8,Zd,Ir A8,eL,A8⟩,trivial⟩,A8,A8,A8⟩) fun h=>AU<|AQ h fun j hx5 h=>AV 1<|.X (wV dY j hx5)<|Dq (fun s=>∃(z:BF),DI s ⟨Bo 64 [(3,.ptr 0 0),(4,.ptr 1 0),(5,.ptr 2 0),(6,Ag j)],[.box (Bc (Df dZ)),.box (Bc (Df DC)),.box (Bc (Df z))],0⟩/\aO j dZ z=some r) (by rintro s ⟨z,m,h⟩;exact Dk m<|Dq (fun s=>∃(I:BF),DI s ⟨Bo 64 [(3,.ptr 0 0),(4,.ptr 1 0),(5,.ptr 2 0),(6,Ag j)],[.box (Bc (Df dZ)),.box (Bc (Df DC)),.box (Bc (Df I))],0⟩/\jh j dZ I=some r) (by rintro s ⟨I,m,h⟩;exact Dk m<|Dq (fun s=>∃(J:BF),DI s ⟨Bo 64 [(3,.ptr 0 0),(4,.ptr 1 0),(5,.ptr 2 0),(6,Ag j)],[.box (Bc (Df dZ)),.box (Bc (Df DC)),.box (Bc (Df J))],0⟩/\kC j dZ J=some r) (by rintro s ⟨J,m,h⟩;exact Dk m<|Dq (fun s=>∃(L:BF),DI s ⟨Bo 64 [(3,.ptr 0 0),(4,.ptr 1 0),(5,.ptr 2 0),(6,Ag j)],[.box (Bc (Df dZ)),.box (Bc (Df DC)),.box (Bc (Df L))],0⟩/\iI j dZ L=some r) (by rintro s ⟨L,m,h⟩;exact Dk m<|Dq (fun s=>∃(n:BF),DI s ⟨Bo 64 [(3,.ptr 0 0),(4,.ptr 1 0),(5,.ptr 2 0),(6,Ag j)],[.box (Bc (Df dZ)),.box (Bc (Df DC)),.box (Bc (Df n))],0⟩/\aj j dZ n=some r) (by rintro s ⟨n,m,h⟩;exact Dk m<|Dq (fun s=>∃(q:BF),DI s ⟨Bo 64 [(4,.ptr 0 0),(5,.ptr 1 0)],[.box (Bc (Df DC)),.box (Bc (Df q))],0⟩/\iQ q=some r) (by rintro s ⟨q,m,h⟩;exact Dk m<|AU<|J4<|by rw[←IK h];exact⟨[Gw q],[],⟨⟨0,Bc (Df q),true,16,A8,A8,A8,Zd,Ir A8,eL,A8⟩,trivial⟩,A8,A8,A8⟩)<|fun M=>AV 1<|.Z (KQ (k:=.i64) (u:=j) (v:=128) rfl)<|BR h (fun h=>AQ h fun O S h=>Bg<|.a 2<|.ca (lq dZ.Levels O S)<|.a 2<|.nil<|M _ ⟨({ n with Levels:=O }),Ah 64 48 [Ak 1,Ak 2],h⟩) fun h=>M _ ⟨n,Ah 64 48 [Ak 1,Ak 2],h⟩)<|fun U=>AV 1<|.Z (KQ (k:=.i64) (u:=j) (v:=64) rfl)<|BR h (fun h=>AQ h fun Y Z h=>Bg<|.a 2<|.ca (Vg dZ.dw Y Z).view<|.a 2<|.nil<|U _ ⟨({ L with dw:=Y }),Ah 64 120 [Ak 0,Ak 1,Ak 2],h⟩) fun h=>U _ ⟨L,Ah 64 120 [Ak 0,Ak 1,Ak 2],h⟩)<|fun K18=>AV 1<|.Z (KQ (k:=.i64) (u:=j) (v:=32) rfl)<|BR h (fun h=>AQ h fun uI QL h=>Bg<|.a 2<|.ca (Vg dZ.Allow uI QL).view<|.a 2<|.nil<|K18 _ ⟨({ J with Allow:=uI }),Ah 64 120 [Ak 0,Ak 1,Ak 2],h⟩) fun h=>K18 _ ⟨J,Ah 64 120 [Ak 0,Ak 1,Ak 2],h⟩)<|fun K21=>AV 1<|.Z (KQ (k:=.i64) (u:=j) (v:=16) rfl)<|BR h (fun h=>Bg<|.a 4<|.nil<|K21 _ ⟨({ I with Via:=dZ.Via }),Ah 64 120 [Ak 0,Ak 1,Ak 2],h⟩) fun h=>K21 _ ⟨I,Ah 64 120 [Ak 0,Ak 1,Ak 2],h⟩)<|fun K23=>AV 1<|.Z (KQ (k:=.i64) (u:=j) (v:=4) rfl)<|BR h (fun h=>Bg<|.a 4<|.nil<|K23 _ ⟨({ z with Target:=dZ.Target }),Ah 64 120 [Ak 0,Ak 1,Ak 2],h⟩) fun h=>K23 _ ⟨z,Ah 64 120 [Ak 0,Ak 1,Ak 2],h⟩)<|fun K25=>AV 1<|.Z (KQ (k:=.i64) (u:=j) (v:=2) rfl)<|BR h (fun h=>Bg<|.a 4<|.nil<|K25 _ ⟨({ DC with N:=dZ.N }),Ah 64 120 [Ak 0,Ak 1,Ak 2],h⟩) fun h=>K25 _ ⟨DC,Ah 64 120 [Ak 0,Ak 1,Ak 2],h⟩
def UU (h:BH):AB BH:=(UF h.Kind h.Content).bind fun j=>some ({ h with Content:=j })
def o7 (aN r) (h:UU aN=some r):BL 131 [ET aN] [] (ET r) []:=BO func131 rfl<|AU<|AQ h fun j m h=>AV 4<|.X (vO aN.Kind aN.Content j m)<|AU<|J4<|by rw[←IK h];exact⟨[ET ({ aN with Content:=j })],[],⟨⟨1,Bc (DT ({ aN with Content:=j })),true,29,A8,A8,A8,Gy,Ir A8,ZJ,A8⟩,trivial⟩,A8,A8,A8⟩
def SK (h:D9) (j:Int):AB D9:=(H6 h.b_ j).bind fun m=>some ({ h with b_:=m })
def aaQ (wQ qA r) (h:SK wQ qA=some r):BL 206 [.ptr 0 0,Ag qA] [.box (Bc (G6 wQ))] (.gV []) [.box (Bc (G6 r))]:=BO func206 rfl<|AQ h fun m j h=>Bg<|.a 6<|.ca (NK wQ.b_ qA m j).view<|.a 3<|.nil<|OU
def dX (h:Ap) (n:(Int->D9->AB D9)):Int->D9->AB D9:=fun j m=>(bif j<(h.length:Int) then(BI h j).bind fun q=>(SK m q).bind fun r=>n (IntKind.i64.wrap (j+1)) r else some m)
def nY (h:Ap):Int->D9->AB D9:=bZ (dX h) Am
def KY (h:D9) (j:Ap):AB D9:=nY j 0 h
def VF (jO dD r) (h:KY jO dD=some r):BL 205 [.fn (.func 206) [.ptr 0 0] [],Eu dD] [.box (Bc (G6 jO))] (.gV []) [.box (Bc (G6 r))]:=BO func205 rfl<|AV 1<|.Z (BX Aq dD Ei rfl)<|BP<|Jc (fun s j=>⟨Bo 16 [(0,.fn (.func 206) [.ptr 0 0] []),(6,Eu dD),(7,Ag (dD.length:Int)),(8,Ag s)],[.box (Bc (G6 j))],1⟩) _ _ _ _ (Ah 16 449 [Ak 0]) h<|fun I J m s j h=>AU<|Ae<|CZ h (fun h=>Ae<|BP<|AQ h fun u n h=>EM<|.Z (CG Aq n Ei EY rfl)<|AQ h fun z q h=>Bg<|.a 2<|.f (x:=.gV []) (WY [.ent 0] [.ptr 0 0] [] [Ag u] (aaQ j u z q) rfl)<|.nil<|Bg<|.a 2<|YG) fun h=>FB<|OU
def Qh (h:D9) (j:AY):AB D9:=(Jm h.b_ j).bind fun m=>some ({ h with b_:=m })
def acv (wQ nD r) (h:Qh wQ nD=some r):BL 208 [.ptr 0 0,Ce nD] [.box (Bc (G6 wQ))] (.gV []) [.box (Bc (G6 r))]:=BO func208 rfl<|AQ h fun m j h=>Bg<|.a 6<|.ca (ZH wQ.b_ nD m j).view<|.a 3<|.nil<|OU
def Zz (h:Dw) (n:(Int->D9->AB D9)):Int->D9->AB D9:=fun j m=>(bif j<(h.length:Int) then(BI h j).bind fun q=>(Qh m q).bind fun r=>n (IntKind.i64.wrap (j+1)) r else some m)
def xR (h:Dw):Int->D9->AB D9:=bZ (Zz h) Am
def MR (h:D9) (j:Dw):AB D9:=xR j 0 h
def Vf (jO dD r) (h:MR jO dD=some r):BL 207 [.fn (.func 208) [.ptr 0 0] [],FM dD] [.box (Bc (G6 jO))] (.gV []) [.box (Bc (G6 r))]:=BO func207 rfl<|AV 1<|.Z (BX BZ dD EL rfl)<|BP<|Jc (fun s j=>⟨Bo 16 [(0,.fn (.func 208) [.ptr 0 0] []),(6,FM dD),(7,Ag (dD.length:Int)),(8,Ag s)],[.box (Bc (G6 j))],1⟩) _ _ _ _ (Ah 16 449 [Ak 0]) h<|fun I J m s j h=>AU<|Ae<|CZ h (fun h=>Ae<|BP<|AQ h fun u n h=>EM<|.Z (CG BZ n EL G5 rfl)<|AQ h fun z q h=>Bg<|.a 2<|.f (x:=.gV []) (WY [.ent 0] [.ptr 0 0] [] [Ce u] (acv j u z q) rfl)<|.nil<|Bg<|.a 2<|YG) fun h=>FB<|OU
def TU (h:D9) (j:AO):AB D9:=(Nh h.b_ j).bind fun m=>some ({ h with b_:=m })
def aao (wQ Jh r) (h:TU wQ Jh=some r):BL 210 [.ptr 0 0,Aa Jh] [.box (Bc (G6 wQ))] (.gV []) [.box (Bc (G6 r))]:=BO func210 rfl<|AQ h fun m j h=>Bg<|.a 6<|.ca (pU wQ.b_ Jh m j).view<|.a 3<|.nil<|OU
def aP (h:(AA AO)) (n:(Int->D9->AB D9)):Int->D9->AB D9:=fun j m=>(bif j<(h.length:Int) then(BI h j).bind fun q=>(TU m q).bind fun r=>n (IntKind.i64.wrap (j+1)) r else some m)
def rY (h:(AA AO)):Int->D9->AB D9:=bZ (aP h) Am
def UN (h:D9) (j:(AA AO)):AB D9:=rY j 0 h
def aaZ (jO dD r) (h:UN jO dD=some r):BL 209 [.fn (.func 210) [.ptr 0 0] [],.d ((Bj EG) dD)] [.box (Bc (G6 jO))] (.gV []) [.box (Bc (G6 r))]:=BO func209 rfl<|AV 1<|.Z (BX EG dD wM rfl)<|BP<|Jc (fun s j=>⟨Bo 16 [(0,.fn (.func 210) [.ptr 0 0] []),(6,.d ((Bj EG) dD)),(7,Ag (dD.length:Int)),(8,Ag s)],[.box (Bc (G6 j))],1⟩) _ _ _ _ (Ah 16 449 [Ak 0]) h<|fun I J m s j h=>AU<|Ae<|CZ h (fun h=>Ae<|BP<|AQ h fun u n h=>EM<|.Z (CG EG n wM Xu rfl)<|AQ h fun z q h=>Bg<|.a 2<|.f (x:=.gV []) (WY [.ent 0] [.ptr 0 0] [] [Aa u] (aao j u z q) rfl)<|.nil<|Bg<|.a 2<|YG) fun h=>FB<|OU
def je (h:Ap) (n:(Ap->Int->AB Ap)):Ap->Int->AB Ap:=fun m j=>(bif j<(h.length:Int) then(BI h j).bind fun q=>(NY m q).bind fun r=>n r (IntKind.i64.wrap (j+1))else some m)
def xO (h:Ap):Ap->Int->AB Ap:=bZ (je h) Am
def WJ (j:Ap) (h:Ap):AB Ap:=(NY j (h.length:Int)).bind fun m=>xO h m 0
def agY (fD dD r) (h:WJ fD dD=some r):BL 343 [.dn 0,Eu dD,.d (.fn (.func 122) [] [])] [(GZ fD)] (.dn 1) [.dead,(GZ r)]:=BO func343 rfl<|EM<|.f (KR 5 1 rfl)<|.dQ<|AQ h fun I j h=>AV 2<|.p (BX Aq dD Ei rfl)<|.Y (x:=.dn 2) (Gq [.ent 0] [.dn 0,Ag (dD.length:Int)] (Um fD (dD.length:Int) I j) rfl)<|Ae<|AV 1<|.Z (BX Aq dD Ei rfl)<|BP<|Jc (fun m u=>⟨Bo 25 [(0,.dn 1),(2,.d (.fn (.func 122) [] [])),(13,Eu dD),(14,Ag (dD.length:Int)),(15,Ag u)],[.dead,(GZ m)],1⟩) _ _ _ _ (Ah 25 57349 [(0,false),Ak 2]) h<|fun L M n m u h=>AU<|Ae<|CZ h (fun h=>Ae<|BP<|AQ h fun z q h=>EM<|.Z (CG Aq q Ei EY rfl)<|AQ h fun J s h=>Bg<|.a 3<|.f (x:=.dn 2) (oh [.ent 1] [] [] [.dn 1,Ag z] (Um m z J s) rfl)<|.a 1<|.nil<|Bg<|.a 2<|.nil<|n _ _ _ (Ah 25 57349 [(0,false),Ak 2]) h) fun h=>FB<|AU<|vw
def OW (j:Ap) (h:Ap):AB Ap:=(Na j (IntKind.i64.wrap ((IntKind.i64.wrap (2*(h.length:Int)))+10))).bind fun m=>(WJ m h).bind fun n=>some n
def aa3 (fD dD r) (h:OW fD dD=some r):BL 275 [Fz fD,Eu dD] [] (.dn 0) [(GZ r)]:=BO func275 rfl<|EM<|.f (KR 5 1 rfl)<|.dQ<|D6 h fun n j q m h=>AV 2<|.p (BX Aq dD Ei rfl)<|.a 2<|.f (x:=.dn 1) (V8 [Fz fD,Ag (IntKind.i64.wrap ((IntKind.i64.wrap (2*(dD.length:Int)))+10))] (VJ fD (IntKind.i64.wrap ((IntKind.i64.wrap (2*(dD.length:Int)))+10)) n j) rfl)<|.a 1<|.Y (x:=.dn 2) (Gq [.ent 1] [.dn 1,Eu dD,.d (.fn (.func 122) [] [])] (agY n dD q m) rfl)<|Q5
def Rk (h:D9) (j:Ap):AB D9:=(OW h.b_ j).bind fun m=>some ({ h with b_:=m })
def ae6 (wQ dD r) (h:Rk wQ dD=some r):BL 212 [.ptr 0 0,Eu dD] [.box (Bc (G6 wQ))] (.gV []) [.box (Bc (G6 r))]:=BO func212 rfl<|AQ h fun m j h=>Bg<|.a 6<|.ca (aa3 wQ.b_ dD m j).view<|.a 3<|.nil<|OU
abbrev ZY:=AA (AA Int)
def iY (h:ZY) (n:(Int->D9->AB D9)):Int->D9->AB D9:=fun j m=>(bif j<(h.length:Int) then(BI h j).bind fun q=>(Rk m q).bind fun r=>n (IntKind.i64.wrap (j+1)) r else some m)
def xB (h:ZY):Int->D9->AB D9:=bZ (iY h) Am
def VI (h:D9) (j:ZY):AB D9:=xB j 0 h
def afj (jO dD r) (h:VI jO dD=some r):BL 211 [.fn (.func 212) [.ptr 0 0] [],.d ((Bj (Bj Aq)) dD)] [.box (Bc (G6 jO))] (.gV []) [.box (Bc (G6 r))]:=BO func211 rfl<|AV 1<|.Z (BX (Bj Aq) dD rC rfl)<|BP<|Jc (fun s j=>⟨Bo 16 [(0,.fn (.func 212) [.ptr 0 0] []),(6,.d ((Bj (Bj Aq)) dD)),(7,Ag (dD.length:Int)),(8,Ag s)],[.box (Bc (G6 j))],1⟩) _ _ _ _ (Ah 16 449 [Ak 0]) h<|fun I J m s j h=>AU<|Ae<|CZ h (fun h=>Ae<|BP<|AQ h fun u n h=>EM<|.Z (CG (Bj Aq) n rC xJ rfl)<|AQ h fun z q h=>Bg<|.a 2<|.f (x:=.gV []) (WY [.ent 0] [.ptr 0 0] [] [Eu u] (ae6 j u z q) rfl)<|.nil<|Bg<|.a 2<|YG) fun h=>FB<|OU
def Tc (h:BH):AB Ap:=(KY Xt [h.Id]).bind fun q=>(MR q [h.Room,h.aQ]).bind fun r=>(KY r [h.Kind]).bind fun s=>(UN s [h.State]).bind fun u=>(MR u [h.Key]).bind fun z=>(KY z [h.Time,h.Depth]).bind fun I=>(VI I [h.iM,h.iT]).bind fun J=>(VW h.Content).bind fun L=>(MR J [Es L]).bind fun M=>(KY M [h.Hash]).bind fun j=>(MR j [h.eu.Server]).bind fun m=>(KY m [h.eu.Sum]).bind fun n=>some n.b_
def aai (aN r) (h:Tc aN=some r):BL 132 [ET aN] [] (Fz r) []:=BO func132 rfl<|AU<|AU<|AQ h fun x1 z h=>AV 1<|.p (x:=.fn (.func 206) [.ptr 1 0] []) (KU (fi:=[.ptr 1 0]) (ca:=[]) rfl rfl rfl)<|.a 2<|.p (Et RN zero3 [Aq aN.Id] rfl)<|.f (x:=.gV []) (Gq [.ent 1] [.fn (.func 206) [.ptr 1 0] [],Eu [aN.Id]] (VF Xt [aN.Id] x1 z) rfl (ha:=⟨⟨_,_,rfl,⟨⟨0,rfl,rfl⟩,trivial⟩,trivial⟩,.inl rfl,trivial⟩))<|.dQ<|AQ h fun x2 I h=>AV 1<|.p (x:=.fn (.func 208) [.ptr 1 0] []) (KU (fi:=[.ptr 1 0]) (ca:=[]) rfl rfl rfl)<|.a 4<|.p (Et UD zero9 [BZ aN.Room,BZ aN.aQ] rfl)<|.f (x:=.gV []) (Gq [.ent 1] [.fn (.func 208) [.ptr 1 0] [],FM [aN.Room,aN.aQ]] (Vf x1 [aN.Room,aN.aQ] x2 I) rfl (ha:=⟨⟨_,_,rfl,⟨⟨0,rfl,rfl⟩,trivial⟩,trivial⟩,.inl rfl,trivial⟩))<|.dQ<|AQ h fun x3 J h=>AV 1<|.p (x:=.fn (.func 206) [.ptr 1 0] []) (KU (fi:=[.ptr 1 0]) (ca:=[]) rfl rfl rfl)<|.a 2<|.p (Et RN zero3 [Aq aN.Kind] rfl)<|.f (x:=.gV []) (Gq [.ent 1] [.fn (.func 206) [.ptr 1 0] [],Eu [aN.Kind]] (VF x2 [aN.Kind] x3 J) rfl (ha:=⟨⟨_,_,rfl,⟨⟨0,rfl,rfl⟩,trivial⟩,trivial⟩,.inl rfl,trivial⟩))<|.dQ<|AQ h fun x4 L h=>AV 1<|.p (x:=.fn (.func 210) [.ptr 1 0] []) (KU (fi:=[.ptr 1 0]) (ca:=[]) rfl rfl rfl)<|.a 2<|.p (Et aew qg [EG aN.State] rfl)<|.f (x:=.gV []) (Gq [.ent 1] [.fn (.func 210) [.ptr 1 0] [],.d ((Bj EG) [aN.State])] (aaZ x3 [aN.State] x4 L) rfl (ha:=⟨⟨_,_,rfl,⟨⟨0,rfl,rfl⟩,trivial⟩,trivial⟩,.inl rfl,trivial⟩))<|.dQ<|AQ h fun x5 M h=>AV 1<|.p (x:=.fn (.func 208) [.ptr 1 0] []) (KU (fi:=[.ptr 1 0]) (ca:=[]) rfl rfl rfl)<|.a 2<|.p (Et UD zero9 [BZ aN.Key] rfl)<|.f (x:=.gV []) (Gq [.ent 1] [.fn (.func 208) [.ptr 1 0] [],FM [aN.Key]] (Vf x4 [aN.Key] x5 M) rfl (ha:=⟨⟨_,_,rfl,⟨⟨0,rfl,rfl⟩,trivial⟩,trivial⟩,.inl rfl,trivial⟩))<|.dQ<|AQ h fun x6 O h=>AV 1<|.p (x:=.fn (.func 206) [.ptr 1 0] []) (KU (fi:=[.ptr 1 0]) (ca:=[]) rfl rfl rfl)<|.a 4<|.p (Et RN zero3 [Aq aN.Time,Aq aN.Depth] rfl)<|.f (x:=.gV []) (Gq [.ent 1] [.fn (.func 206) [.ptr 1 0] [],Eu [aN.Time,aN.Depth]] (VF x5 [aN.Time,aN.Depth] x6 O) rfl (ha:=⟨⟨_,_,rfl,⟨⟨0,rfl,rfl⟩,trivial⟩,trivial⟩,.inl rfl,trivial⟩))<|.dQ<|AQ h fun x7 S h=>AV 1<|.p (x:=.fn (.func 212) [.ptr 1 0] []) (KU (fi:=[.ptr 1 0]) (ca:=[]) rfl rfl rfl)<|.a 4<|.p (Et adt mJ [(Bj Aq) aN.iM,(Bj Aq) aN.iT] rfl)<|.f (x:=.gV []) (Gq [.ent 1] [.fn (.func 212) [.ptr 1 0] [],.d ((Bj (Bj Aq)) [aN.iM,aN.iT])] (afj x6 [aN.iM,aN.iT] x7 S) rfl (ha:=⟨⟨_,_,rfl,⟨⟨0,rfl,rfl⟩,trivial⟩,trivial⟩,.inl rfl,trivial⟩))<|.dQ<|D6 h fun j U x9 Y h=>AV 1<|.p (x:=.fn (.func 208) [.ptr 1 0] []) (KU (fi:=[.ptr 1 0]) (ca:=[]) rfl rfl rfl)<|.a 2<|.ca (wK aN.Content j U)<|.p (vg (l:=j) RU gJ Dv rfl)<|.p (Et UD zero9 [BZ (Es j)] rfl)<|.f (x:=.gV []) (Gq [.ent 1] [.fn (.func 208) [.ptr 1 0] [],FM [Es j]] (Vf x7 [Es j] x9 Y) rfl (ha:=⟨⟨_,_,rfl,⟨⟨0,rfl,rfl⟩,trivial⟩,trivial⟩,.inl rfl,trivial⟩))<|.dQ<|AQ h fun m n h=>AV 1<|.p (x:=.fn (.func 206) [.ptr 1 0] []) (KU (fi:=[.ptr 1 0]) (ca:=[]) rfl rfl rfl)<|.a 2<|.p (Et RN zero3 [Aq aN.Hash] rfl)<|.f (x:=.gV []) (Gq [.ent 1] [.fn (.func 206) [.ptr 1 0] [],Eu [aN.Hash]] (VF x9 [aN.Hash] m n) rfl (ha:=⟨⟨_,_,rfl,⟨⟨0,rfl,rfl⟩,trivial⟩,trivial⟩,.inl rfl,trivial⟩))<|.dQ<|AQ h fun q s h=>AV 1<|.p (x:=.fn (.func 208) [.ptr 1 0] []) (KU (fi:=[.ptr 1 0]) (ca:=[]) rfl rfl rfl)<|.a 3<|.p (Et UD zero9 [BZ aN.eu.Server] rfl)<|.f (x:=.gV []) (Gq [.ent 1] [.fn (.func 208) [.ptr 1 0] [],FM [aN.eu.Server]] (Vf m [aN.eu.Server] q s) rfl (ha:=⟨⟨_,_,rfl,⟨⟨0,rfl,rfl⟩,trivial⟩,trivial⟩,.inl rfl,trivial⟩))<|.dQ<|AQ h fun Z u h=>AV 1<|.p (x:=.fn (.func 206) [.ptr 1 0] []) (KU (fi:=[.ptr 1 0]) (ca:=[]) rfl rfl rfl)<|.a 3<|.p (Et RN zero3 [Aq aN.eu.Sum] rfl)<|.f (x:=.gV []) (Gq [.ent 1] [.fn (.func 206) [.ptr 1 0] [],Eu [aN.eu.Sum]] (VF q [aN.eu.Sum] Z u) rfl (ha:=⟨⟨_,_,rfl,⟨⟨0,rfl,rfl⟩,trivial⟩,trivial⟩,.inl rfl,trivial⟩))<|.dQ<|AU<|CX
def Ou (h:BH):AB Int:=(UU h).bind fun j=>(Tc ({ { j with Id:=0 }with eu:=JI })).bind fun m=>(TV m).bind fun n=>some n
def XQ (aN r) (h:Ou aN=some r):BL 58 [ET aN] [] (Ag r) []:=BO func58 rfl<|AU<|AQ h fun s j h=>AV 1<|.X (o7 aN s j)<|AU<|D6 h fun q m u n h=>AV 1<|.ca (aai _ q m)<|.X (vY q u n)<|CX
def Nk (j:BH) (h:AY):AB BH:=(RD j).bind fun m=>(Ou ({ j with Hash:=m })).bind fun n=>some ({ { { j with Hash:=m }with Id:=n }with eu:=(⟨h,({ { j with Hash:=m }with Id:=n }).Id⟩:I8) })
def TA (aN Ea r) (h:Nk aN Ea=some r):BL 55 [ET aN,Ce Ea] [] (ET r) []:=BO func55 rfl<|AU<|AQ h fun j n h=>AV 1<|.X (eG aN j n)<|AQ h fun m q h=>AV 1<|.X (XQ _ m q)<|AU<|AU<|J4<|by rw[←IK h];exact⟨[ET ({ { { aN with Hash:=j }with Id:=m }with eu:=(⟨Ea,({ { aN with Hash:=j }with Id:=m }).Id⟩:I8) })],[],⟨⟨1,Bc (DT ({ { { aN with Hash:=j }with Id:=m }with eu:=(⟨Ea,({ { aN with Hash:=j }with Id:=m }).Id⟩:I8) })),true,29,A8,A8,A8,Gy,Ir A8,(by intro s;cases s),A8⟩,trivial⟩,A8,A8,A8⟩
def P6 (h:Fp) (j:Ey) (m:BH):AB Nj:=some ({ Nw with From:=h.Name,To:=j.To,Kind:=1,Events:=[m] })
def U1 (bV jW QM r) (h:P6 bV jW QM=some r):BL 54 [.d (JH bV),.d (Nc jW),ET QM] [] (.d (Dy r)) []:=BO func54 rfl<|AU<|AV 5<|.Z (Et uQ Vl [DT QM] rfl)<|J4<|by rw[←IK h];exact⟨[.d (Dy ({ Nw with From:=bV.Name,To:=jW.To,Kind:=1,Events:=[QM] }))],[],⟨⟨3,Bc (Dy ({ Nw with From:=bV.Name,To:=jW.To,Kind:=1,Events:=[QM] })),true,10,A8,A8,A8,IZ,Ir A8,Sv,A8⟩,trivial⟩,A8,A8,A8⟩
def SA (h:AY):AB AY:=(PG h QE).bind fun j=>some j.2.1
def aF (o8 r) (h:SA o8=some r):BL 57 [Ce o8] [] (Ce r) []:=BO func57 rfl<|AU<|AQ h fun m j h=>AV 1<|.X (cZ o8 QE m j)<|AU<|CX
def XZ (h:Int):AB Int:=some h
def Xz (h:Int) (j:Int) (m:Int):AB Int:=(bif m<h then some true else some (decide (h>j))).bind fun n=>(bif n then XZ h else XZ m)
def aG (m:Int) (j:Int) (h:Int):AB Int:=(bif m>h then Xz j h h else Xz j h m)
def ab6 (EK L6 L8 r) (h:aG EK L6 L8=some r):BL 276 [Ag EK,Ag L6,Ag L8] [] (Ag r) []:=BO func276 rfl<|AU<|Dq (fun s=>∃(j:Int),DI s ⟨Bo 21 [(0,Ag j),(1,Ag L6),(2,Ag L8)],[],0⟩/\Xz L6 L8 j=some r) (by rintro s ⟨j,m,h⟩;exact Dk m<|Dq (fun s=>∃(n:Int),DI s ⟨Bo 21 [(0,Ag n)],[],0⟩/\XZ n=some r) (by rintro s ⟨n,m,h⟩;exact Dk m<|AU<|CX)<|fun K3=>AV 3<|AQ h fun u q h=>.mg 14 4 (Aa u) (.bi q)<|.dQ<|BR h (fun h=>Bg<|.a 2<|.nil<|K3 _ ⟨L6,Ah 21 1 [],h⟩) fun h=>K3 _ ⟨j,Ah 21 1 [],h⟩)<|fun K7=>AU<|BR h (fun h=>Bg<|.a 2<|.nil<|K7 _ ⟨L8,Ah 21 7 [],h⟩) fun h=>K7 _ ⟨EK,Ah 21 7 [],h⟩
def SE (h:Int):AB Int:=(aG h (-1000000000000) 1000000000000).bind fun j=>some j
def Zn (EK r) (h:SE EK=some r):BL 213 [Ag EK] [] (Ag r) []:=BO func213 rfl<|AU<|AQ h fun m j h=>AV 1<|.X (ab6 EK (-1000000000000) 1000000000000 m j)<|CX
def Xa (h:Int) (j:Int):AB Int:=(SE h).bind fun m=>(SE j).bind fun n=>(SE (IntKind.i64.wrap (m+n))).bind fun q=>some q
def afr (bn bG r) (h:Xa bn bG=some r):BL 133 [Ag bn,Ag bG] [] (Ag r) []:=BO func133 rfl<|AU<|Qr h fun q j s m u n h=>AV 1<|.ca (Zn bn q j)<|.a 1<|.ca (Zn bG s m)<|.a 1<|.X (Zn (IntKind.i64.wrap (q+s)) u n)<|CX
def SN (h:BH):AB BH:=(Xa h.Time 1).bind fun j=>some ({ h with Time:=j })
def uK (aN r) (h:SN aN=some r):BL 59 [ET aN] [] (ET r) []:=BO func59 rfl<|AU<|AQ h fun j m h=>AV 2<|.X (afr aN.Time 1 j m)<|AU<|J4<|by rw[←IK h];exact⟨[ET ({ aN with Time:=j })],[],⟨⟨1,Bc (DT ({ aN with Time:=j })),true,29,A8,A8,A8,Gy,Ir A8,ZJ,A8⟩,trivial⟩,A8,A8,A8⟩
abbrev OA:=AA Nj
def PL (j:Fp) (h:Ey):AB (OA×Int):=(RG j h).bind fun Y=>(bif (Y != 0)then some ([],Y)else(bif (h.Kind==1)then(V4 j h.Event).bind fun Z=>(Nk Z j.Name).bind fun x5=>(P6 j h x5).bind fun x6=>some ([x6],0)else(bif (h.Kind==2)then(SA h.Event.aQ).bind fun x8=>(Nk h.Event x8).bind fun s=>(SN s).bind fun u=>(Ou u).bind fun n=>(bif (n==s.Id)then some ([],0)else(P6 j h ({ s with eu:={ s.eu with Sum:=n } })).bind fun z=>some ([z],0))else(bif (h.Kind==3)then(V4 j h.Event).bind fun q=>(Nk q j.Name).bind fun I=>(P6 j h I).bind fun J=>(SN q).bind fun L=>(Nk L j.Name).bind fun M=>(P6 j h M).bind fun O=>some ([J,O],0)else(bif (h.Kind==4)then(Nk h.Event j.Name).bind fun S=>(P6 j h S).bind fun U=>some ([U],0)else(bif (h.Kind==6)then(RD h.Event).bind fun m=>(Ou ({ h.Event with Hash:=m })).bind fun r=>some ([{ Nw with From:=j.Name,To:=h.To,Kind:=8,Room:=({ { { h.Event with Hash:=m }with Id:=r }with eu:=JI }).Room,Events:=[{ { { h.Event with Hash:=m }with Id:=r }with eu:=JI }] }],0)else some ([],0)))))))
def Wp (bV jW r) (h:PL bV jW=some r):BL 18 [.d (JH bV),.d (Nc jW)] [] (.gV [.d ((Bj Dy) r.1),Ag r.2]) []:=BO func18 rfl<|AU<|Ae<|AQ h fun x1 hx1 h=>AV 2<|.X (fV bV jW x1 hx1)<|AU<|BR h Ba fun h=>Ae<|AU<|BP<|AU<|DW h (fun h=>Qr h fun x4 hx4 x5 hx5 x6 hx6 h=>FI A8 A8 A8 (.a 5<|.ca (xI bV jW.Event x4 hx4)<|.a 2<|.ca (TA x4 bV.Name x5 hx5)<|.ca (U1 bV jW x5 x6 hx6)<|.p (Et SX Pm [Dy x6] rfl)<|.a 2<|.nil _)<|CX) fun h=>AU<|DW h (fun h=>D6 h fun x8 VQ x9 LX h=>BK.ZF [nU 5 (aF jW.Event.aQ x8 VQ) abB,nU 6 (TA jW.Event x8 x9 LX) afh] 63 0x40401f03e301e03e381d03c081c03c281b03c381a03a301a0380019038281803608180383817034081703620160363815034281503228140300014032381302e0013030201202c0812030381102e281102a081102c181002c380f02a200f028200e024000e028380d026280d022000d024180c020080c024380b022200b01e080b020100a020380901e180901c1808018000801c380701a200701600070181006014080601838050161805012080501438040121004010100300c0003010380200e180200a000200c380100a10010080801006380000410000020000 32<|D6 h fun q s x11 u h=>AV 1<|.ca (uK x9 q s)<|.X (XQ q x11 u)<|Ae<|AU<|BR h Ba fun h=>AU<|AQ h fun z I h=>AV 3<|.ca (U1 bV jW _ z I)<|.Z (Et SX Pm [Dy z] rfl)<|CX) fun h=>AU<|DW h (fun h=>AQ h fun n J h=>AV 3<|.X (xI bV jW.Event n J)<|Qr h fun L M O S U Y h=>D6 h fun Z Xi uI QL h=>FI A8 A8 A8 (.a 5<|.ca (TA n bV.Name L M)<|.ca (U1 bV jW L O S)<|.a 3<|.ca (uK n U Y)<|.a 2<|.ca (TA U bV.Name Z Xi)<|.ca (U1 bV jW Z uI QL)<|.p (Et SX Pm [Dy O,Dy uI] rfl)<|.a 2<|.nil _)<|CX) fun h=>AU<|DW h (fun h=>D6 h fun Fj Xj x23 QJ h=>FI A8 A8 A8 (.a 6<|.ca (TA jW.Event bV.Name Fj Xj)<|.ca (U1 bV jW Fj x23 QJ)<|.p (Et SX Pm [Dy x23] rfl)<|.a 2<|.nil _)<|CX) fun h=>AU<|BR h (fun h=>AU<|AQ h fun j hx25 h=>AV 1<|.X (eG jW.Event j hx25)<|AQ h fun m Xk h=>AV 1<|.X (XQ _ m Xk)<|AU<|AV 7<|.p (Et uQ Vl [DT ({ { { jW.Event with Hash:=j }with Id:=m }with eu:=JI })] rfl)<|.a 1<|.Z (Et SX Pm [Dy ({ Nw with From:=bV.Name,To:=jW.To,Kind:=8,Room:=({ { { jW.Event with Hash:=j }with Id:=m }with eu:=JI }).Room,Events:=[{ { { jW.Event with Hash:=j }with Id:=m }with eu:=JI }] })] rfl)<|CX) fun h=>AU<|CX
def jA (h:AY) (k2:(Int->AB Int)):Int->AB Int:=fun j=>(bif j<(h.size:Int) then(EC h j).bind fun m=>some (m != 58)else some false).bind fun n=>(bif n then k2 (IntKind.i64.wrap (j+1))else some j)
def uf (h:AY):Int->AB Int:=aS (jA h) Am
def Ti (h:AY):AB Int:=uf h 0
def tH (bV r) (h:Ti bV=some r):BL 62 [Ce bV] [] (Ag r) []:=BO func62 rfl<|AU<|AU<|Ae<|BP<|Dx (fun q=>⟨Bo 17 [(0,Ce bV),(3,Ag q)],[],0⟩) _ _ _ (Ah 17 9 []) h<|fun u k2 j q h=>Ae<|AV 4<|AQ h fun s m h=>.mg 8 5 (Aa s) (.bi m (fun h=>AQ h fun z n h=>.a 2<|.Z (Fe (k:=.i64) n Dv rfl)<|CJ))<|.dQ<|CZ h (fun h=>BP<|Bg<|.a 3<|.nil<|j _ _ (Ah 17 9 []) h) fun h=>El
def QF (h:Int):AB AO:=(bif h>=97 then some (decide (h<=122))else some false).bind fun j=>(bif j then some true else(bif h>=48 then some (decide (h<=57))else some false).bind fun m=>some m).bind fun n=>some n
def W9 (dO r) (h:QF dO=some r):BL 216 [.d (Cb dO)] [] (Aa r) []:=BO func216 rfl<|AU<|AV 2<|AQ h fun q j h=>.mg 5 3 (Aa q) (.bi j)<|.a 1<|AQ h fun s m h=>.mg 10 6 (Aa s) (Bh m (k2:=fun e i=>sZ))<|.aW<|CX
def kn (h:AY) (k2:(Int->AB AO)):Int->AB AO:=fun j=>(bif j<(h.size:Int) then(EC h j).bind fun z=>(QF z).bind fun I=>(bif (!I)then(EC h j).bind fun J=>some (J != 95)else some false).bind fun L=>(bif L then(EC h j).bind fun m=>some (m != 46)else some false).bind fun M=>(bif M then(EC h j).bind fun n=>some (n != 45)else some false).bind fun q=>(bif q then(EC h j).bind fun r=>some (r != 61)else some false).bind fun s=>(bif s then some false else k2 (IntKind.i64.wrap (j+1)))else(bif (h.size:Int)>=1 then some (decide ((h.size:Int)<=32))else some false).bind fun u=>some u)
def uH (h:AY):Int->AB AO:=aS (kn h) Am
def Yh (h:AY):AB AO:=uH h 0
def aep (bV r) (h:Yh bV=some r):BL 135 [Ce bV] [] (Aa r) []:=BO func135 rfl<|AU<|Ae<|AU<|BP<|Dx (fun Z=>⟨Bo 47 [(0,Ce bV),(3,Ag Z)],[],0⟩) _ _ _ (Ah 47 9 []) h<|fun J21 k2 z Z h=>Ae<|AU<|CZ h (fun h=>Ae<|BP<|D6 h fun x4 I x5 J h=>AV 2<|.p (Fe (k:=.i64) I Dv rfl)<|.ca (W9 x4 x5 J)<|.a 1<|AQ h fun x6 L h=>.mg 15 5 (Aa x6) (.bi L (fun h=>AQ h fun x8 M h=>.a 2<|.Z (Fe (k:=.i64) M Dv rfl)<|CJ))<|.a 1<|AQ h fun x9 O h=>.mg 22 4 (Aa x9) (Bh O (fun e i=>by subst e;have h:=i;exact AQ h fun x11 j h=>.a 2<|.Z (Fe (k:=.i64) j Dv rfl)<|CJ))<|.a 1<|AQ h fun S m h=>.mg 28 4 (Aa S) (Bh m (fun e i=>by subst e;have h:=i;exact AQ h fun x14 n h=>.a 2<|.Z (Fe (k:=.i64) n Dv rfl)<|CJ))<|.a 1<|AQ h fun U q h=>.mg 34 4 (Aa U) (Bh q (fun e i=>by subst e;have h:=i;exact AQ h fun x17 s h=>.a 2<|.Z (Fe (k:=.i64) s Dv rfl)<|CJ))<|.dQ<|BR h Ba fun h=>Bg<|.a 3<|.nil<|z _ _ (Ah 47 9 []) h) fun h=>FB<|AV 3<|AQ h fun Y u h=>.mg 42 4 (Aa Y) (.bi u)<|.aW<|CX
def bY (h:AY) (m:(Int->AB Int)):Int->AB Int:=fun j=>(bif j<(h.size:Int) then(EC h j).bind fun n=>(QF n).bind fun q=>(bif (!q)then(EC h j).bind fun r=>some (r != 46)else some false).bind fun s=>(bif s then(EC h j).bind fun u=>some (u != 45)else some false).bind fun z=>(bif z then some 3 else m (IntKind.i64.wrap (j+1)))else some 0)
def eI (h:AY):Int->AB Int:=aS (bY h) Am
def Xm (h:AY):AB Int:=(bif (h.size:Int)<1 then some true else some (decide ((h.size:Int)>32))).bind fun m=>(bif m then some true else(EC h 0).bind fun n=>(QF n).bind fun q=>some (!q)).bind fun r=>(bif r then some true else(EC h (IntKind.i64.wrap ((h.size:Int)-1))).bind fun s=>(QF s).bind fun j=>some (!j)).bind fun u=>(bif u then some 3 else eI h 0)
def adH (bV r) (h:Xm bV=some r):BL 136 [Ce bV] [] (Ag r) []:=BO func136 rfl<|AU<|Ae<|AV 3<|AQ h fun x1 L h=>.mg 7 4 (Aa x1) (.bi L)<|.a 1<|AQ h fun x3 M h=>.mg 13 4 (Aa x3) (Bh M (k2:=fun e i=>by subst e;have h:=i;exact D6 h fun x5 O x6 S h=>.a 1<|.p (Fe (k:=.i64) O Dv rfl)<|.X (W9 x5 x6 S)<|CJ))<|.a 1<|AQ h fun x7 U h=>.mg 19 7 (Aa x7) (Bh U (k2:=fun e i=>by subst e;have h:=i;exact D6 h fun x9 Y Z j h=>.a 4<|.p (Fe (k:=.i64) Y Dv rfl)<|.X (W9 x9 Z j)<|CJ))<|.dQ<|BR h Ba fun h=>Ae<|AU<|BP<|Dx (fun m=>⟨Bo 50 [(0,Ce bV),(3,Ag m)],[],0⟩) _ _ _ (Ah 50 9 []) h<|fun J24 k13 n m h=>Ae<|AU<|CZ h (fun h=>Ae<|BP<|D6 h fun x15 q x16 s h=>AV 2<|.p (Fe (k:=.i64) q Dv rfl)<|.ca (W9 x15 x16 s)<|.a 1<|AQ h fun x17 u h=>.mg 38 5 (Aa x17) (.bi u (fun h=>AQ h fun x19 z h=>.a 2<|.Z (Fe (k:=.i64) z Dv rfl)<|CJ))<|.a 1<|AQ h fun uI I h=>.mg 45 4 (Aa uI) (Bh I (fun e i=>by subst e;have h:=i;exact AQ h fun Fj J h=>.a 2<|.Z (Fe (k:=.i64) J Dv rfl)<|CJ))<|.dQ<|BR h Ba fun h=>Bg<|.a 3<|.nil<|n _ _ (Ah 50 9 []) h) fun h=>El
def Pj (h:AY) (j:Int):AB AO:=(bif (h.size:Int)<1 then some true else(EC h 0).bind fun s=>some (s != j)).bind fun u=>(bif u then some false else(Ti h).bind fun m=>(bif m<(h.size:Int) then(Hl h 1 m).bind fun z=>(Yh z).bind fun I=>some I else some false).bind fun J=>(bif J then(Hl h (IntKind.i64.wrap (m+1)) ((h).size)).bind fun n=>(Xm n).bind fun q=>some (q==0)else some false).bind fun r=>some r)
def s0 (bV Bl r) (h:Pj bV Bl=some r):BL 61 [Ce bV,.d (Cb Bl)] [] (Aa r) []:=BO func61 rfl<|AU<|Ae<|AV 3<|AQ h fun U s h=>.mg 9 5 (Aa U) (.bi s (k2:=fun h=>AQ h fun x3 u h=>.a 1<|.Z (Fe (k:=.i64) u Dv rfl)<|CJ))<|.dQ<|BR h Ba fun h=>AQ h fun Y z h=>AV 1<|.X (tH bV Y z)<|AV 4<|AQ h fun Z I h=>.mg 21 5 (Aa Z) (.bi I (fun h=>D6 h fun x8 J x9 L h=>.a 2<|.p (Rn J Sv Sv Dv rfl)<|.X (aep x8 x9 L)<|CJ))<|.a 1<|AQ h fun M m h=>.mg 28 6 (Aa M) (Bh m (fun e i=>by subst e;have h:=i;exact D6 h fun O n S q h=>.a 3<|.p (Rn n Sv (fun _=>rfl) Dv rfl)<|.X (adH O S q)<|CJ))<|.aW<|CX
def TT (h:AY):AB AY:=(Pj h 64).bind fun j=>(bif (!j)then(Pj h 33).bind fun m=>some (!m)else some false).bind fun n=>(bif n then some Bd else(Ti h).bind fun q=>(Hl h (IntKind.i64.wrap (q+1)) ((h).size)).bind fun r=>some r)
def adZ (o8 r) (h:TT o8=some r):BL 19 [Ce o8] [] (Ce r) []:=BO func19 rfl<|AU<|Ae<|AQ h fun u j h=>AV 1<|.ca (s0 o8 64 u j)<|.a 1<|AQ h fun z m h=>.mg 6 4 (Aa z) (.bi m (fun h=>AQ h fun I n h=>.a 1<|.X (s0 o8 33 I n)<|CJ))<|.dQ<|BR h Ba fun h=>D6 h fun J q M s h=>AV 2<|.ca (tH o8 J q)<|.a 1<|.Z (Rn s (by intro L;cases L) (fun _=>rfl) Dv rfl)<|CX
def Tz (h:BH):AB AO:=(RD h).bind fun j=>some (j==h.Hash)
def jq (aN r) (h:Tz aN=some r):BL 137 [ET aN] [] (Aa r) []:=BO func137 rfl<|AU<|AQ h fun m j h=>FI A8 A8 A8 (.a 1<|.ca (eG aN m j)<|.a 4<|.nil _)<|CX
def V5 (h:Int):AB AO:=(bif h>=1 then some (decide (h<=10))else some false).bind fun j=>some j
def jg (dY r) (h:V5 dY=some r):BL 231 [Ag dY] [] (Aa r) []:=BO func231 rfl<|AU<|AV 2<|AQ h fun m j h=>.mg 5 3 (Aa m) (.bi j)<|.aW<|CX
def VK (j:AY) (h:AY):AB Int:=(PG j h).bind fun m=>(bif (!m.2.2)then some 3 else some 0)
def wP (bV Bl r) (h:VK bV Bl=some r):BL 166 [Ce bV,Ce Bl] [] (Ag r) []:=BO func166 rfl<|AU<|Ae<|AQ h fun m j h=>AV 2<|.X (cZ bV Bl m j)<|AU<|KE
def Tn (h:AY):AB Int:=(VK h VZ).bind fun j=>some j
def xX (bV r) (h:Tn bV=some r):BL 89 [Ce bV] [] (Ag r) []:=BO func89 rfl<|AU<|AQ h fun m j h=>AV 1<|.X (wP bV VZ m j)<|CX
def Q8 (h:AY):AB Int:=(VK h TY).bind fun j=>some j
def Yb (bV r) (h:Q8 bV=some r):BL 289 [Ce bV] [] (Ag r) []:=BO func289 rfl<|AU<|AQ h fun m j h=>AV 1<|.X (wP bV TY m j)<|CX
def dU (h:AY) (k2:(Int->AB AO)):Int->AB AO:=fun j=>(bif j<(h.size:Int) then(EC h j).bind fun m=>(bif m<33 then some true else(EC h j).bind fun n=>some (decide (n>126))).bind fun q=>(bif q then some false else k2 (IntKind.i64.wrap (j+1)))else(bif (h.size:Int)>=1 then some (decide ((h.size:Int)<=32))else some false).bind fun r=>some r)
def lT (h:AY):Int->AB AO:=aS (dU h) Am
def YE (h:AY):AB AO:=lT h 0
def af8 (Mc r) (h:YE Mc=some r):BL 290 [Ce Mc] [] (Aa r) []:=BO func290 rfl<|AU<|Ae<|AU<|BP<|Dx (fun u=>⟨Bo 28 [(0,Ce Mc),(5,Ag (Mc.size:Int)),(6,Ag u)],[],0⟩) _ _ _ (Ah 28 97 []) h<|fun z k2 j u h=>AU<|Ae<|CZ h (fun h=>Ae<|BP<|AU<|AQ h fun L m h=>AV 2<|.p (Fe (k:=.i64) m Dv rfl)<|.a 1<|AQ h fun I n h=>.mg 13 5 (Aa I) (.bi n (k2:=fun h=>AQ h fun M q h=>.a 2<|.Z (Fe (k:=.i64) q Dv rfl)<|CJ))<|.dQ<|BR h Ba fun h=>Bg<|.a 2<|.nil<|j _ _ (Ah 28 97 []) h) fun h=>FB<|AV 3<|AQ h fun J s h=>.mg 23 4 (Aa J) (.bi s)<|.aW<|CX
def Xe (h:BH):AB AO:=(Tn h.Room).bind fun j=>(bif (j != 0)then some true else(Q8 h.aQ).bind fun m=>some (m != 0)).bind fun n=>(bif n then some false else(bif (h.Kind==2)then(Q8 h.Key).bind fun q=>some (q==0)else(bif (h.Kind==9)then(YE h.Key).bind fun r=>some r else some true)))
def afZ (aN r) (h:Xe aN=some r):BL 232 [ET aN] [] (Aa r) []:=BO func232 rfl<|AU<|Ae<|AQ h fun u j h=>AV 2<|.ca (xX aN.Room u j)<|.a 1<|AQ h fun z m h=>.mg 7 5 (Aa z) (.bi m (k2:=fun h=>AQ h fun I n h=>.a 2<|.X (Yb aN.aQ I n)<|CJ))<|.dQ<|BR h Ba fun h=>Ae<|AU<|BP<|AU<|DW h (fun h=>AQ h fun J q h=>AV 2<|.X (Yb aN.Key J q)<|CX) fun h=>AU<|BR h (fun h=>AQ h fun L s h=>AV 2<|.X (af8 aN.Key L s)<|CX) fun h=>AU<|CX
def jS (h:Ap) (k2:(Int->AB AO)):Int->AB AO:=fun j=>(bif j<(h.length:Int) then(BI h j).bind fun m=>(bif m<0 then some true else(bif j>0 then(BI h (IntKind.i64.wrap (j-1))).bind fun n=>some (decide (n>=m))else some false).bind fun q=>some q).bind fun r=>(bif r then some false else k2 (IntKind.i64.wrap (j+1)))else some true)
def pW (h:Ap):Int->AB AO:=aS (jS h) Am
def SL (h:Ap):AB AO:=pW h 0
def nK (dG r) (h:SL dG=some r):BL 233 [Eu dG] [] (Aa r) []:=BO func233 rfl<|AU<|Ae<|AV 1<|.Z (BX Aq dG Ei rfl)<|BP<|Dx (fun u=>⟨Bo 28 [(0,Eu dG),(5,Eu dG),(6,Ag (dG.length:Int)),(7,Ag u)],[],0⟩) _ _ _ (Ah 28 225 []) h<|fun z k2 j u h=>AU<|Ae<|CZ h (fun h=>Ae<|BP<|AQ h fun L m h=>AV 1<|.Z (CG Aq m Ei EY rfl)<|AV 2<|AQ h fun I n h=>.mg 14 12 (Aa I) (.bi n (k2:=fun h=>.a 2<|AQ h fun J q h=>.mg 17 8 (Aa J) (.bi q (fun h=>AQ h fun M s h=>.a 3<|.Z (CG Aq s Ei EY rfl)<|CJ))<|.aW<|CJ))<|.dQ<|BR h Ba fun h=>Bg<|.a 2<|.nil<|j _ _ (Ah 28 225 []) h) fun h=>El
def TM (h:Int):AB AO:=(bif h>=1 then some (decide (h<=14))else some false).bind fun j=>some j
def xU (dY r) (h:TM dY=some r):BL 292 [Ag dY] [] (Aa r) []:=BO func292 rfl<|AU<|AV 2<|AQ h fun m j h=>.mg 5 3 (Aa m) (.bi j)<|.aW<|CX
def Vm (h:Dl):AB AO:=(bif ((h.Users.length:Int)==0)then some ((h.Kinds.length:Int)==0)else some false).bind fun q=>(bif q then some (h.User==0)else some false).bind fun r=>(bif r then some (h.Message==0)else some false).bind fun s=>(bif s then some (h.State==0)else some false).bind fun u=>(bif u then some (h.iD==0)else some false).bind fun z=>(bif z then some (h.lS==0)else some false).bind fun j=>(bif j then some (h.qm==0)else some false).bind fun m=>(bif m then some (h.iE==0)else some false).bind fun n=>some n
def xq (dG r) (h:Vm dG=some r):BL 354 [PV dG] [] (Aa r) []:=BO func354 rfl<|AU<|AV 2<|.p (BX E9 dG.Users En rfl)<|.a 1<|AQ h fun O q h=>.mg 7 5 (Aa O) (.bi q (fun h=>.a 2<|.Z (BX EH dG.Kinds FD rfl)<|CJ))<|.a 1<|AQ h fun S s h=>.mg 14 3 (Aa S) (Bh s)<|.a 1<|AQ h fun U u h=>.mg 19 3 (Aa U) (Bh u)<|.a 1<|AQ h fun Y z h=>.mg 24 3 (Aa Y) (Bh z)<|.a 1<|AQ h fun Z I h=>.mg 29 3 (Aa Z) (Bh I)<|.a 1<|AQ h fun J j h=>.mg 34 3 (Aa J) (Bh j)<|.a 1<|AQ h fun L m h=>.mg 39 3 (Aa L) (Bh m)<|.a 1<|AQ h fun M n h=>.mg 44 3 (Aa M) (Bh n)<|.aW<|CX
def WM (h:Int):AB Int:=some h
def YZ (h:BF) (m:Int):AB Int:=(Vm h.Levels).bind fun j=>(bif (!j)then WM (CY .or .i64 m 128)else WM m)
def Vz (h:BF) (j:Int):AB Int:=(bif (h.dw.length:Int)>0 then YZ h (CY .or .i64 j 64)else YZ h j)
def Wv (h:BF) (j:Int):AB Int:=(bif (h.Allow.length:Int)>0 then Vz h (CY .or .i64 j 32)else Vz h j)
def Y5 (h:BF) (j:Int):AB Int:=(bif (!(h.Via.toList==Bd.toList))then Wv h (CY .or .i64 j 16)else Wv h j)
def XH (h:BF) (j:Int):AB Int:=(bif h.Thread then Y5 h (CY .or .i64 j 8)else Y5 h j)
def Wj (h:BF) (j:Int):AB Int:=(bif (h.Target != 0)then XH h (CY .or .i64 j 4)else XH h j)
def Z9 (h:BF) (j:Int):AB Int:=(bif (h.N != 0)then Wj h (CY .or .i64 j 2)else Wj h j)
def UG (h:BF):AB Int:=(bif (!(h.Text.toList==Bd.toList))then Z9 h (CY .or .i64 0 1)else Z9 h 0)
def sD (dO r) (h:UG dO=some r):BL 293 [Gw dO] [] (Ag r) []:=BO func293 rfl<|AU<|AU<|Dq (fun s=>∃(m:Int),DI s ⟨Bo 47 [(1,.ptr 0 0),(3,Ag m)],[.box (Bc (Df dO))],0⟩/\Z9 dO m=some r) (by rintro s ⟨m,j,h⟩;exact Dk j<|Dq (fun s=>∃(n:Int),DI s ⟨Bo 47 [(1,.ptr 0 0),(3,Ag n)],[.box (Bc (Df dO))],0⟩/\Wj dO n=some r) (by rintro s ⟨n,j,h⟩;exact Dk j<|Dq (fun s=>∃(q:Int),DI s ⟨Bo 47 [(1,.ptr 0 0),(3,Ag q)],[.box (Bc (Df dO))],0⟩/\XH dO q=some r) (by rintro s ⟨q,j,h⟩;exact Dk j<|Dq (fun s=>∃(z:Int),DI s ⟨Bo 47 [(1,.ptr 0 0),(3,Ag z)],[.box (Bc (Df dO))],0⟩/\Y5 dO z=some r) (by rintro s ⟨z,j,h⟩;exact Dk j<|Dq (fun s=>∃(I:Int),DI s ⟨Bo 47 [(1,.ptr 0 0),(3,Ag I)],[.box (Bc (Df dO))],0⟩/\Wv dO I=some r) (by rintro s ⟨I,j,h⟩;exact Dk j<|Dq (fun s=>∃(J:Int),DI s ⟨Bo 47 [(1,.ptr 0 0),(3,Ag J)],[.box (Bc (Df dO))],0⟩/\Vz dO J=some r) (by rintro s ⟨J,j,h⟩;exact Dk j<|Dq (fun s=>∃(L:Int),DI s ⟨Bo 47 [(1,.ptr 0 0),(3,Ag L)],[.box (Bc (Df dO))],0⟩/\YZ dO L=some r) (by rintro s ⟨L,j,h⟩;exact Dk j<|Dq (fun s=>∃(v8:Int),DI s ⟨Bo 47 [(3,Ag v8)],[],0⟩/\WM v8=some r) (by rintro s ⟨v8,j,h⟩;exact Dk j<|AU<|CX)<|fun K9=>AQ h fun x10 M h=>AV 2<|.X (xq dO.Levels x10 M)<|BR h (fun h=>Bg<|.a 1<|.p (MN (k:=.i64) (u:=L) (v:=128) rfl)<|.a 1<|.nil<|K9 _ ⟨(CY .or .i64 L 128),Ah 47 8 [],h⟩) fun h=>K9 _ ⟨L,Ah 47 8 [],h⟩)<|fun O=>AV 2<|.Z (BX BZ dO.dw EL rfl)<|BR h (fun h=>Bg<|.a 1<|.p (MN (k:=.i64) (u:=J) (v:=64) rfl)<|.a 1<|.nil<|O _ ⟨(CY .or .i64 J 64),Ah 47 10 [Ak 0],h⟩) fun h=>O _ ⟨J,Ah 47 10 [Ak 0],h⟩)<|fun S=>AV 2<|.Z (BX BZ dO.Allow EL rfl)<|BR h (fun h=>Bg<|.a 1<|.p (MN (k:=.i64) (u:=I) (v:=32) rfl)<|.a 1<|.nil<|S _ ⟨(CY .or .i64 I 32),Ah 47 10 [Ak 0],h⟩) fun h=>S _ ⟨I,Ah 47 10 [Ak 0],h⟩)<|fun U=>AU<|BR h (fun h=>Bg<|.a 1<|.p (MN (k:=.i64) (u:=z) (v:=16) rfl)<|.a 1<|.nil<|U _ ⟨(CY .or .i64 z 16),Ah 47 10 [Ak 0],h⟩) fun h=>U _ ⟨z,Ah 47 10 [Ak 0],h⟩)<|fun Y=>AU<|BR h (fun h=>Bg<|.a 1<|.p (MN (k:=.i64) (u:=q) (v:=8) rfl)<|.a 1<|.nil<|Y _ ⟨(CY .or .i64 q 8),Ah 47 10 [Ak 0],h⟩) fun h=>Y _ ⟨q,Ah 47 10 [Ak 0],h⟩)<|fun Z=>AU<|BR h (fun h=>Bg<|.a 1<|.p (MN (k:=.i64) (u:=n) (v:=4) rfl)<|.a 1<|.nil<|Z _ ⟨(CY .or .i64 n 4),Ah 47 10 [Ak 0],h⟩) fun h=>Z _ ⟨n,Ah 47 10 [Ak 0],h⟩)<|fun K22=>AU<|BR h (fun h=>Bg<|.a 1<|.p (MN (k:=.i64) (u:=m) (v:=2) rfl)<|.a 1<|.nil<|K22 _ ⟨(CY .or .i64 m 2),Ah 47 10 [Ak 0],h⟩) fun h=>K22 _ ⟨m,Ah 47 10 [Ak 0],h⟩)<|fun K24=>AU<|BR h (fun h=>Bg<|.a 1<|.p (MN (k:=.i64) (u:=0) (v:=1) rfl)<|.a 1<|.nil<|K24 _ ⟨(CY .or .i64 0 1),Ah 47 10 [Ak 0],h⟩) fun h=>K24 _ ⟨0,Ah 47 10 [Ak 0],h⟩
def Za (h:AY) (m:(Int->AB Int)):Int->AB Int:=fun j=>(bif j<(h.size:Int) then(EC h j).bind fun n=>(bif n<33 then some true else(EC h j).bind fun q=>some (decide (q>126))).bind fun r=>(bif r then some 3 else m (IntKind.i64.wrap (j+1)))else some 0)
def Zw (h:AY):Int->AB Int:=aS (Za h) Am
def Us (h:AY):AB Int:=(bif (h.toList==Bd.toList)then some 9 else(bif (h.size:Int)>64 then some 7 else Zw h 0))
def nR (Uw r) (h:Us Uw=some r):BL 355 [Ce Uw] [] (Ag r) []:=BO func355 rfl<|AU<|Ae<|BP<|AU<|DW h Ba fun h=>AU<|BR h Ba fun h=>Ae<|AU<|BP<|Dx (fun s=>⟨Bo 27 [(0,Ce Uw),(12,Ag (Uw.size:Int)),(13,Ag s)],[],0⟩) _ _ _ (Ah 27 12289 []) h<|fun u I j s h=>AU<|Ae<|CZ h (fun h=>Ae<|BP<|AU<|AQ h fun J m h=>AV 2<|.p (Fe (k:=.i64) m Dv rfl)<|.a 1<|AQ h fun z n h=>.mg 20 5 (Aa z) (.bi n (k2:=fun h=>AQ h fun L q h=>.a 2<|.Z (Fe (k:=.i64) q Dv rfl)<|CJ))<|.dQ<|BR h Ba fun h=>Bg<|.a 2<|.nil<|j _ _ (Ah 27 12289 []) h) fun h=>El
def fQ (h:Dw) (n:(Int->AB Int)):Int->AB Int:=fun j=>(bif j<(h.length:Int) then(BI h j).bind fun q=>(Us q).bind fun m=>(bif (m != 0)then some m else n (IntKind.i64.wrap (j+1)))else some 0)
def wu (h:Dw):Int->AB Int:=aS (fQ h) Am
def MK (h:Dw):AB Int:=(bif (h.length:Int)>100 then some 7 else wu h 0)
def vP (dG r) (h:MK dG=some r):BL 300 [FM dG] [] (Ag r) []:=BO func300 rfl<|AU<|Ae<|AV 1<|.Z (BX BZ dG EL rfl)<|BR h Ba fun h=>Ae<|AV 1<|.Z (BX BZ dG EL rfl)<|BP<|Dx (fun q=>⟨Bo 21 [(9,FM dG),(10,Ag (dG.length:Int)),(11,Ag q)],[],0⟩) _ _ _ (Ah 21 3584 []) h<|fun z I j q h=>AU<|Ae<|CZ h (fun h=>Ae<|BP<|AQ h fun s m h=>EM<|.Z (CG BZ m EL G5 rfl)<|AQ h fun u n h=>AV 1<|.X (nR s u n)<|AU<|BR h Ba fun h=>Bg<|.a 2<|.nil<|j _ _ (Ah 21 3584 []) h) fun h=>El
def Rl (h:Int):AB AO:=(bif h<(-1000) then some true else some (decide (h>1000))).bind fun j=>some j
def ak (EK r) (h:Rl EK=some r):BL 358 [Ag EK] [] (Aa r) []:=BO func358 rfl<|AU<|AV 2<|AQ h fun m j h=>.mg 5 3 (Aa m) (.bi j)<|.aW<|CX
def Wi (j:Iy) (m:(Int->AB Int)) (n:Int) (q:AO):AB Int:=(bif q then some 8 else(Rl j.N).bind fun h=>(bif h then some 2 else m (IntKind.i64.wrap (n+1))))
abbrev J5:=AA Iy
def ZP (h:J5) (q:(Int->AB Int)):Int->AB Int:=fun j=>(bif j<(h.length:Int) then(BI h j).bind fun m=>(Q8 m.User).bind fun r=>(bif (r != 0)then some 3 else(bif j>0 then(BI h (IntKind.i64.wrap (j-1))).bind fun n=>Wi m q j (Op.bytesLess (m.User.toList) (n.User.toList)||m.User.toList==n.User.toList)else Wi m q j false))else some 0)
def nP (h:J5):Int->AB Int:=aS (ZP h) Am
def YD (h:J5):AB Int:=(bif (h.length:Int)>100 then some 7 else nP h 0)
def yG (dG r) (h:YD dG=some r):BL 356 [MB dG] [] (Ag r) []:=BO func356 rfl<|AU<|Ae<|AV 1<|.Z (BX E9 dG En rfl)<|BR h Ba fun h=>Ae<|AV 1<|.Z (BX E9 dG En rfl)<|BP<|Dx (fun I=>⟨Bo 39 [(0,MB dG),(8,MB dG),(9,Ag (dG.length:Int)),(10,Ag I)],[],0⟩) _ _ _ (Ah 39 1793 []) h<|fun U Y J I h=>AU<|Ae<|CZ h (fun h=>Ae<|BP<|AQ h fun m L h=>AV 1<|.Z (CG E9 L En JC rfl)<|BP<|AQ h fun Z M h=>AV 2<|.X (Yb m.User Z M)<|DW h Ba fun h=>Dq (fun s=>∃(O:AO),DI s ⟨Bo 39 [(0,MB dG),(4,.ptr 0 0),(8,MB dG),(9,Ag (dG.length:Int)),(10,Ag I),(20,Aa O)],[.box (Bc (E9 m))],0⟩/\Wi m Y I O=some r) (by rintro s ⟨O,hs,h⟩;exact Dk hs<|DW h Ba fun h=>AQ h fun S n h=>AV 2<|.X (ak m.N S n)<|BR h Ba fun h=>Bg<|.a 2<|.nil<|J _ _ (Ah 39 1793 []) h)<|fun q=>JJ h (fun j h=>AQ h fun u z h=>Fr A8 A8 A8 (.a 2<|.c (CO some j)<|.a 5<|.p (CG E9 z En JC rfl)<|.a 5<|.nil _)<|q _ ⟨(Op.bytesLess (m.User.toList) (u.User.toList)||m.User.toList==u.User.toList),Ah 39 1050385 [Ak 0],h⟩) fun j h=>Fr A8 A8 A8 (.a 2<|.c (CO some j)<|.a 11<|.nil _)<|q _ ⟨false,Ah 39 1050385 [Ak 0],h⟩) fun h=>El
def Yq (j:Ii) (m:(Int->AB Int)) (n:Int) (q:AO):AB Int:=(bif q then some 8 else(Rl j.N).bind fun h=>(bif h then some 2 else m (IntKind.i64.wrap (n+1))))
abbrev J7:=AA Ii
def fK (h:J7) (q:(Int->AB Int)):Int->AB Int:=fun j=>(bif j<(h.length:Int) then(BI h j).bind fun m=>(TM m.Kind).bind fun r=>(bif (!r)then some 1 else(bif j>0 then(BI h (IntKind.i64.wrap (j-1))).bind fun n=>Yq m q j (decide (m.Kind<=n.Kind))else Yq m q j false))else some 0)
def lU (h:J7):Int->AB Int:=aS (fK h) Am
def WX (h:J7):AB Int:=(bif (h.length:Int)>100 then some 7 else lU h 0)
def ae2 (dG r) (h:WX dG=some r):BL 357 [Ll dG] [] (Ag r) []:=BO func357 rfl<|AU<|Ae<|AV 1<|.Z (BX EH dG FD rfl)<|BR h Ba fun h=>Ae<|AV 1<|.Z (BX EH dG FD rfl)<|BP<|Dx (fun z=>⟨Bo 39 [(0,Ll dG),(8,Ll dG),(9,Ag (dG.length:Int)),(10,Ag z)],[],0⟩) _ _ _ (Ah 39 1793 []) h<|fun U Y I z h=>AU<|Ae<|CZ h (fun h=>Ae<|BP<|AQ h fun m J h=>AV 1<|.Z (CG EH J FD Jp rfl)<|BP<|AQ h fun Z L h=>AV 2<|.X (xU m.Kind Z L)<|DW h Ba fun h=>Dq (fun s=>∃(M:AO),DI s ⟨Bo 39 [(0,Ll dG),(4,.ptr 0 0),(8,Ll dG),(9,Ag (dG.length:Int)),(10,Ag z),(20,Aa M)],[.box (Bc (EH m))],0⟩/\Yq m Y z M=some r) (by rintro s ⟨M,hs,h⟩;exact Dk hs<|DW h Ba fun h=>AQ h fun O n h=>AV 2<|.X (ak m.N O n)<|BR h Ba fun h=>Bg<|.a 2<|.nil<|I _ _ (Ah 39 1793 []) h)<|fun q=>JJ h (fun j h=>AQ h fun S u h=>Fr A8 A8 A8 (.a 2<|.c (CO some j)<|.a 5<|.p (CG EH u FD Jp rfl)<|.a 5<|.nil _)<|q _ ⟨(decide (m.Kind<=S.Kind)),Ah 39 1050385 [Ak 0],h⟩) fun j h=>Fr A8 A8 A8 (.a 2<|.c (CO some j)<|.a 11<|.nil _)<|q _ ⟨false,Ah 39 1050385 [Ak 0],h⟩) fun h=>El
def nI (h:Dl) (m:(Int->AB Int)):Int->AB Int:=fun j=>(bif j<7 then(BI ([h.User,h.Message,h.State,h.iD,h.lS,h.qm,h.iE]:Ap) j).bind fun n=>(Rl n).bind fun q=>(bif q then some 2 else m (IntKind.i64.wrap (j+1)))else some 0)
def eY (h:Dl):Int->AB Int:=aS (nI h) Am
def PD (h:Dl):AB Int:=(YD h.Users).bind fun j=>(bif (j != 0)then some j else(WX h.Kinds).bind fun m=>(bif (m != 0)then some m else eY h 0))
def agi (dG r) (h:PD dG=some r):BL 301 [PV dG] [] (Ag r) []:=BO func301 rfl<|AU<|Ae<|AQ h fun z j h=>AV 2<|.X (yG dG.Users z j)<|AU<|BR h Ba fun h=>Ae<|AQ h fun I m h=>AV 2<|.X (ae2 dG.Kinds I m)<|AU<|BR h Ba fun h=>Ae<|AU<|BP<|Dx (fun u=>⟨Bo 40 [(33,.d ((gY Aq) ([dG.User,dG.Message,dG.State,dG.iD,dG.lS,dG.qm,dG.iE]:(AA Int)))),(34,Ag u)],[],0⟩) _ _ _ (Ah 40 25769803776 []) h<|fun J O n u h=>AU<|Ae<|CZ h (fun h=>Ae<|BP<|AQ h fun L q h=>EM<|.Z (qL (k:=.i64) Aq q qp EY A8 rfl)<|AQ h fun M s h=>AV 1<|.ca (ak L M s)<|.dQ<|BR h Ba fun h=>Bg<|.a 2<|.nil<|n _ _ (Ah 40 25769803776 []) h) fun h=>El
def Yl (h:AO):AB Int:=(bif h then some 7 else some 0)
def J6 (j:Int) (h:BF):AB Int:=(bif (j==9)then some (!(h.Text.toList==Bd.toList))else some false).bind fun n=>(bif n then(Us h.Text).bind fun q=>some q else(bif (j==12)then some (h.Text.toList==Bd.toList)else some false).bind fun r=>(bif r then some 9 else(bif (j==12)then some (decide ((h.Text.size:Int)>32))else some false).bind fun m=>(bif m then Yl m else Yl (decide ((h.Text.size:Int)>400)))))
def aen (dY dZ r) (h:J6 dY dZ=some r):BL 294 [Ag dY,Gw dZ] [] (Ag r) []:=BO func294 rfl<|AU<|Ae<|BP<|AV 2<|AQ h fun I n h=>.mg 8 4 (Aa I) (.bi n)<|.aW<|DW h (fun h=>AQ h fun J q h=>AV 2<|.X (nR dZ.Text J q)<|CX) fun h=>AV 2<|AQ h fun L u h=>.mg 19 4 (Aa L) (.bi u)<|.aW<|DW h Ba fun h=>Dq (fun s=>∃(z:AO),DI s ⟨Bo 37 [(24,Aa z)],[],0⟩/\Yl z=some r) (by rintro s ⟨z,M,h⟩;exact Dk M<|KE)<|fun K10=>AV 2<|AQ h fun j m h=>.mg 27 5 (Aa j) (.bi m)<|.aW<|CZ h (fun h=>K10 _ ⟨j,Ah 37 16777216 [],h⟩) fun h=>Bg<|.a 5<|.nil<|K10 _ ⟨(decide ((dZ.Text.size:Int)>400)),Ah 37 16777216 [],h⟩
def UJ (h:BF) (j:Int) (m:Int):AB Int:=(bif h.N<j then some true else some (decide (h.N>m))).bind fun n=>(bif n then some 2 else some 0)
def IE (j:Int) (h:BF):AB Int:=(bif (j==2)then UJ h 0 4 else(bif (j==8)then UJ h 0 1000000000 else(bif (j==10)then UJ h 1 10000 else(bif (j==9)then(bif (h.N==1)then some true else some (h.N==2)).bind fun m=>(bif m then some true else some (h.N==6)).bind fun n=>(bif n then some 0 else some 2)else UJ h 0 3))))
def afg (dY dZ r) (h:IE dY dZ=some r):BL 295 [Ag dY,Gw dZ] [] (Ag r) []:=BO func295 rfl<|AU<|AU<|Dq (fun s=>∃(n:Int) (q:Int),DI s ⟨Bo 39 [(3,.ptr 0 0),(5,Ag n),(6,Ag q)],[.box (Bc (Df dZ))],0⟩/\UJ dZ n q=some r) (by rintro s ⟨n,q,J,h⟩;exact Dk J<|Ae<|AV 4<|AQ h fun L u h=>.mg 33 5 (Aa L) (.bi u)<|.dQ<|KE)<|fun K6=>AU<|BP<|AU<|DW h (fun h=>Bg<|.a 1<|.nil<|K6 _ ⟨0,4,Ah 39 104 [Ak 0],h⟩) fun h=>AU<|DW h (fun h=>Bg<|.a 1<|.nil<|K6 _ ⟨0,1000000000,Ah 39 104 [Ak 0],h⟩) fun h=>AU<|DW h (fun h=>Bg<|.a 2<|.nil<|K6 _ ⟨1,10000,Ah 39 104 [Ak 0],h⟩) fun h=>AU<|BR h (fun h=>Ae<|AU<|AV 2<|AQ h fun z j h=>.mg 21 3 (Aa z) (.bi j)<|.a 1<|AQ h fun I m h=>.mg 26 2 (Aa I) (Bh m)<|.dQ<|KE) fun h=>K6 _ ⟨0,3,Ah 39 104 [Ak 0],h⟩
def Jf (j:Int) (h:BF):AB Int:=(bif h.Target<0 then some true else(bif (h.Target==0)then some (j != 11)else some false).bind fun m=>some m).bind fun n=>(bif n then some 2 else some 0)
def yg (dY dZ r) (h:Jf dY dZ=some r):BL 296 [Ag dY,Gw dZ] [] (Ag r) []:=BO func296 rfl<|AU<|Ae<|AV 3<|AQ h fun n j h=>.mg 8 8 (Aa n) (.bi j (k2:=fun h=>.a 3<|AQ h fun q m h=>.mg 12 3 (Aa q) (.bi m)<|.aW<|CJ))<|.dQ<|KE
def QI (j:Int) (h:BF):AB Int:=(bif h.Thread then some (h.Target==0)else some false).bind fun m=>(bif m then some 1 else some 0)
def aey (dY dZ r) (h:QI dY dZ=some r):BL 297 [Ag dY,Gw dZ] [] (Ag r) []:=BO func297 rfl<|AU<|Ae<|AV 2<|AQ h fun m j h=>.mg 7 4 (Aa m) (.bi j)<|.dQ<|KE
def Px (j:Int) (h:BF):AB Int:=(bif (h.Via.toList==Bd.toList)then some 0 else(bif (h.N != 3)then some 1 else(Q8 h.Via).bind fun m=>some m))
def ag9 (dY dZ r) (h:Px dY dZ=some r):BL 298 [Ag dY,Gw dZ] [] (Ag r) []:=BO func298 rfl<|AU<|Ae<|BP<|AU<|DW h Ba fun h=>AU<|BR h Ba fun h=>AQ h fun m j h=>AV 2<|.X (Yb dZ.Via m j)<|CX
def eK (h:BF) (s:(Int->AB Int)):Int->AB Int:=fun m=>(bif m<(h.Allow.length:Int) then(BI h.Allow m).bind fun j=>(Tn j).bind fun q=>(bif (q != 0)then some 3 else(bif m>0 then(BI h.Allow (IntKind.i64.wrap (m-1))).bind fun n=>some (Op.bytesLess (j.toList) (n.toList)||j.toList==n.toList)else some false).bind fun r=>(bif r then some 8 else s (IntKind.i64.wrap (m+1))))else some 0)
def qJ (h:BF):Int->AB Int:=aS (eK h) Am
def MO (j:Int) (h:BF):AB Int:=(bif (j==6)then(MK h.Allow).bind fun m=>some m else(bif (h.Allow.length:Int)>0 then some (h.N != 3)else some false).bind fun n=>(bif n then some 1 else(bif (h.Allow.length:Int)>100 then some 7 else qJ h 0)))
def afG (dY dZ r) (h:MO dY dZ=some r):BL 299 [Ag dY,Gw dZ] [] (Ag r) []:=BO func299 rfl<|AU<|Ae<|BP<|AU<|DW h (fun h=>AQ h fun O s h=>AV 2<|.X (vP dZ.Allow O s)<|CX) fun h=>AV 2<|.p (BX BZ dZ.Allow EL rfl)<|.a 1<|AQ h fun S u h=>.mg 18 4 (Aa S) (.bi u)<|.aW<|DW h Ba fun h=>AV 2<|.Z (BX BZ dZ.Allow EL rfl)<|BR h Ba fun h=>Ae<|AV 2<|.Z (BX BZ dZ.Allow EL rfl)<|BP<|Dx (fun M=>⟨Bo 52 [(3,.ptr 0 0),(29,FM dZ.Allow),(30,Ag (dZ.Allow.length:Int)),(31,Ag M)],[.box (Bc (Df dZ))],0⟩) _ _ _ (Ah 52 3758096392 [Ak 0]) h<|fun U Z z M h=>AU<|Ae<|CZ h (fun h=>Ae<|BP<|AQ h fun I j h=>AV 1<|.Z (CG BZ j EL G5 rfl)<|Ae<|AQ h fun J m h=>AV 1<|.X (xX I J m)<|BR h Ba fun h=>AV 2<|AQ h fun L n h=>.mg 41 9 (Aa L) (.bi n (fun h=>AQ h fun Y q h=>.a 5<|.Z (CG BZ q EL G5 rfl)<|CJ))<|.dQ<|BR h Ba fun h=>Bg<|.a 2<|.nil<|z _ _ (Ah 52 3758096392 [Ak 0]) h) fun h=>El
def Y8 (n:Nat) (a0:Int) (h:BF):AB Int:=bif n==294 then J6 a0 h else bif n==295 then IE a0 h else bif n==296 then Jf a0 h else bif n==297 then QI a0 h else bif n==298 then Px a0 h else bif n==299 then MO a0 h else none
def aeD (n a0 j r) (h:Y8 n a0 j=some r):vK AZ Aq Df Aq (vM n) (Y8 n):=by
 by_cases q:n=294
 ·subst q;exact⟨294,[],rfl,af7,fun a0 j c m=>aen a0 j c m⟩
 by_cases s:n=295
 ·subst s;exact⟨295,[],rfl,yL,fun a0 j c m=>afg a0 j c m⟩
 by_cases u:n=296
 ·subst u;exact⟨296,[],rfl,acW,fun a0 j c m=>yg a0 j c m⟩
 by_cases z:n=297
 ·subst z;exact⟨297,[],rfl,afU,fun a0 j c m=>aey a0 j c m⟩
 by_cases I:n=298
 ·subst I;exact⟨298,[],rfl,aek,fun a0 j c m=>ag9 a0 j c m⟩
 by_cases J:n=299
 ·subst J;exact⟨299,[],rfl,yu,fun a0 j c m=>afG a0 j c m⟩
 rw[Y8,Qx q,Qx s,Qx u,Qx z,Qx I,Qx J]at h;have h:(none:AB Int)=some r:=h;cases h
def QA :(AA Hu):=[(⟨1,294⟩:Hu),(⟨2,295⟩:Hu),(⟨4,296⟩:Hu),(⟨8,297⟩:Hu),(⟨16,298⟩:Hu),(⟨32,299⟩:Hu)]
def kY (h:(Int->BF->AB Int)) (j:Int) (m:BF):AB Int:=h (IntKind.i64.wrap (j+1)) m
def Nl (s:Int) (m:Int) (n:(Int->BF->AB Int)):Int->BF->AB Int:=fun j h=>(bif j<(QA.length:Int) then(BI QA j).bind fun q=>(bif ((CY .and .i64 s q.WO)==0)then kY n j h else(Y8 q.QC m h).bind fun r=>(bif (r != 0)then some r else kY n j h))else(bif ((CY .and .i64 s 64) != 0)then(MK h.dw).bind fun u=>some u else(bif ((CY .and .i64 s 128) != 0)then(PD h.Levels).bind fun z=>some z else some 0)))
def G9 (j:Int) (h:Int):Int->BF->AB Int:=bZ (Nl j h) Am
def G7 (h:Int) (j:BF):AB Int:=(QZ h).bind fun n=>(TM h).bind fun q=>(bif (!q)then some true else(UG j).bind fun r=>some ((CY .andNot .i64 r n) != 0)).bind fun s=>(bif s then some 1 else(UG j).bind fun u=>(bif (u==0)then(Rh h).bind fun m=>some (m==0)else some false).bind fun z=>(bif z then some 0 else G9 n h 0 j))
def afK (dY dZ r) (h:G7 dY dZ=some r):BL 234 [Ag dY,Gw dZ] [] (Ag r) []:=BO func234 rfl<|AU<|AQ h fun q U h=>AV 1<|.X (xF dY q U)<|Ae<|AQ h fun x2 Y h=>AV 1<|.ca (xU dY x2 Y)<|.a 1<|AQ h fun x3 Z h=>.mg 15 6 (Aa x3) (.bi Z (k2:=fun h=>AQ h fun x5 hx5 h=>.a 1<|.ca (sD dZ x5 hx5)<|.a 1<|.Z (agq (k:=.i64) (u:=x5) (v:=q) rfl)<|CJ))<|.dQ<|BR h Ba fun h=>Ae<|AQ h fun x7 hx7 h=>AV 1<|.ca (sD dZ x7 hx7)<|.a 1<|AQ h fun x8 VQ h=>.mg 25 4 (Aa x8) (.bi VQ (fun h=>AQ h fun x10 z h=>.a 1<|.X (wV dY x10 z)<|CJ))<|.dQ<|BR h Ba fun h=>AV 6<|.Z (Et zU kL [Kz (⟨1,294⟩:Hu),Kz (⟨2,295⟩:Hu),Kz (⟨4,296⟩:Hu),Kz (⟨8,297⟩:Hu),Kz (⟨16,298⟩:Hu),Kz (⟨32,299⟩:Hu)] rfl)<|Ae<|AV 1<|.Z (BX Kz QA qH rfl)<|BP<|Jc (fun m j=>⟨Bo 69 [(0,Ag dY),(3,.ptr 0 0),(5,Ag q),(37,.d ((Bj Kz) QA)),(38,Ag (QA.length:Int)),(39,Ag m)],[.box (Bc (Df j))],0⟩) _ _ _ _ (Ah 69 962072674345 [Ak 0]) h<|fun J25 k14 I m j h=>AU<|Ae<|CZ h (fun h=>Dq (fun s=>DI s ⟨Bo 69 [(0,Ag dY),(3,.ptr 0 0),(5,Ag q),(37,.d ((Bj Kz) QA)),(38,Ag (QA.length:Int)),(39,Ag m)],[.box (Bc (Df j))],0⟩/\kY k14 m j=some r) (by rintro s ⟨hs,h⟩;exact Dk hs<|Bg<|.a 2<|.nil<|I _ _ _ (Ah 69 962072674345 [Ak 0]) h)<|fun J=>BP<|AQ h fun L M h=>EM<|.Z (CG Kz M qH oC rfl)<|Ae<|AV 3<|.Z (KQ (k:=.i64) (u:=q) (v:=L.WO) rfl)<|BR h (fun h=>FB<|J _ ⟨Ah 69 962072674345 [Ak 0],h⟩) fun h=>AQ h fun x19 n h=>AV 4<|.Z (af9 (aeD L.QC dY j x19 n) n rfl)<|AU<|BR h Ba fun h=>J _ ⟨Ah 69 962072674345 [Ak 0],h⟩) fun h=>FB<|Ae<|AV 1<|.Z (KQ (k:=.i64) (u:=q) (v:=64) rfl)<|BR h (fun h=>AQ h fun Fj O h=>AV 2<|.X (vP j.dw Fj O)<|CX) fun h=>Ae<|AV 1<|.Z (KQ (k:=.i64) (u:=q) (v:=128) rfl)<|BR h (fun h=>AQ h fun x24 S h=>AV 2<|.X (agi j.Levels x24 S)<|CX) fun h=>AU<|CX
def Lh (h:BH) (I:AO):AB Int:=(bif I then some 1 else(Xe h).bind fun J=>(bif (!J)then some 3 else(bif h.Time<0 then some true else some (decide (h.Time>1000000000))).bind fun L=>(bif L then some true else some (decide (h.Depth<1))).bind fun M=>(bif M then some true else some (decide (h.Depth>100000))).bind fun j=>(bif j then some 2 else(bif (h.iM.length:Int)>10 then some true else some (decide ((h.iT.length:Int)>8))).bind fun m=>(bif m then some 7 else(SL h.iM).bind fun n=>(bif (!n)then some true else(SL h.iT).bind fun q=>some (!q)).bind fun r=>(bif r then some 8 else(bif ((h.iM.length:Int)==0)then some (h.Kind != 1)else some false).bind fun s=>(bif s then some 9 else(bif (h.Kind==1)then some (decide ((IntKind.i64.wrap ((h.iM.length:Int)+(h.iT.length:Int)))>0))else some false).bind fun u=>(bif u then some 6 else(G7 h.Kind h.Content).bind fun z=>some z)))))))
def Qk (h:BH):AB Int:=(bif (h.Kind==2)then some true else some (h.Kind==9)).bind fun m=>(bif h.Kind<1 then Lh h true else(bif h.Kind>14 then Lh h true else(V5 h.Kind).bind fun j=>(bif (!(h.State==j))then Lh h true else(bif (!(h.Key.toList==Bd.toList))then Lh h (!m)else Lh h false))))
def zZ (aN r) (h:Qk aN=some r):BL 147 [ET aN] [] (Ag r) []:=BO func147 rfl<|AU<|AV 3<|AQ h fun x1 hx1 h=>.mg 7 4 (Aa x1) (.bi hx1)<|.aW<|Ae<|BP<|Dq (fun s=>∃(v3:AO),DI s ⟨Bo 112 [(1,.ptr 0 0),(12,Aa v3)],[.box (Bc (DT aN))],0⟩/\Lh aN v3=some r) (by rintro s ⟨v3,hs,h⟩;exact Dk hs<|DW h Ba fun h=>AQ h fun x5 hx5 h=>AV 1<|.X (afZ aN x5 hx5)<|DW h Ba fun h=>AV 3<|AQ h fun x7 hx7 h=>.mg 46 4 (Aa x7) (.bi hx7)<|.a 1<|AQ h fun x9 LX h=>.mg 52 3 (Aa x9) (Bh LX)<|.a 1<|AQ h fun x11 J h=>.mg 57 3 (Aa x11) (Bh J)<|.aW<|DW h Ba fun h=>AV 2<|.p (BX Aq aN.iM Ei rfl)<|.a 1<|AQ h fun x14 L h=>.mg 66 5 (Aa x14) (.bi L (k2:=fun h=>.a 2<|.Z (BX Aq aN.iT Ei rfl)<|CJ))<|.aW<|DW h Ba fun h=>AQ h fun x17 M h=>AV 2<|.ca (nK aN.iM x17 M)<|.a 1<|AQ h fun x18 O h=>.mg 77 5 (Aa x18) (.bi O (k2:=fun h=>AQ h fun uI S h=>.a 2<|.X (nK aN.iT uI S)<|CJ))<|.aW<|DW h Ba fun h=>AV 2<|.p (BX Aq aN.iM Ei rfl)<|.a 1<|AQ h fun Fj U h=>.mg 88 4 (Aa Fj) (.bi U)<|.aW<|DW h Ba fun h=>AV 3<|AQ h fun x25 Y h=>.mg 97 9 (Aa x25) (.bi Y (fun h=>.a 2<|.p (BX Aq aN.iM Ei rfl)<|.a 2<|.Z (BX Aq aN.iT Ei rfl)<|CJ))<|.aW<|BR h Ba fun h=>AQ h fun x28 Z h=>AV 4<|.X (afK aN.Kind aN.Content x28 Z)<|CX)<|fun q=>JJ h (fun j h=>Fr A8 A8 A8 (.a 3<|.c (CO some j)<|.a 22<|.nil _)<|q _ ⟨true,Ah 112 4098 [Ak 0],h⟩) fun j h=>JJ h (fun m h=>Fr A8 A8 A8 (.a 3<|.c (CO some j)<|.a 4<|.c (CO some m)<|.a 17<|.nil _)<|q _ ⟨true,Ah 112 4098 [Ak 0],h⟩) fun m h=>AQ h fun I u h=>JJ h (fun n h=>Fr A8 A8 A8 (.a 3<|.c (CO some j)<|.a 4<|.c (CO some m)<|.a 4<|.ca (jg aN.Kind I u)<|.a 2<|.c (CO some n)<|.a 9<|.nil _)<|q _ ⟨true,Ah 112 4098 [Ak 0],h⟩) fun n h=>JJ h (fun z h=>Fr A8 A8 A8 (.a 3<|.c (CO some j)<|.a 4<|.c (CO some m)<|.a 4<|.ca (jg aN.Kind I u)<|.a 2<|.c (CO some n)<|.a 3<|.c (CO some z)<|.a 5<|.nil _)<|q _ ⟨(!x1),Ah 112 4098 [Ak 0],h⟩) fun z h=>Fr A8 A8 A8 (.a 3<|.c (CO some j)<|.a 4<|.c (CO some m)<|.a 4<|.ca (jg aN.Kind I u)<|.a 2<|.c (CO some n)<|.a 3<|.c (CO some z)<|.a 5<|.nil _)<|q _ ⟨false,Ah 112 4098 [Ak 0],h⟩
def Zg (h:Dw) (j:Dw) (n:(Int->AB AO)):Int->AB AO:=fun m=>(bif m<(h.length:Int) then(BI h m).bind fun q=>(BI j m).bind fun r=>(bif (!(q.toList==r.toList))then some false else n (IntKind.i64.wrap (m+1)))else some true)
def uO (h:Dw) (j:Dw):Int->AB AO:=aS (Zg h j) Am
def Sr (h:Dw) (j:Dw):AB AO:=(bif ((h.length:Int) != (j.length:Int))then some false else uO h j 0)
def uU (bn bG r) (h:Sr bn bG=some r):BL 235 [FM bn,FM bG] [] (Aa r) []:=BO func235 rfl<|AU<|Ae<|AV 1<|.p (BX BZ bn EL rfl)<|.a 1<|.Z (BX BZ bG EL rfl)<|BR h Ba fun h=>Ae<|AV 1<|.Z (BX BZ bn EL rfl)<|BP<|Dx (fun q=>⟨Bo 26 [(0,FM bn),(1,FM bG),(12,Ag (bn.length:Int)),(13,Ag q)],[],0⟩) _ _ _ (Ah 26 12291 []) h<|fun s u j q h=>AU<|Ae<|CZ h (fun h=>Ae<|BP<|AU<|D6 h fun z m I n h=>FI A8 A8 A8 (.a 2<|.p (CG BZ m EL G5 rfl)<|.a 3<|.p (CG BZ n EL G5 rfl)<|.a 2<|.nil _)<|BR h Ba fun h=>Bg<|.a 2<|.nil<|j _ _ (Ah 26 12291 []) h) fun h=>El
def Zm (h:J5) (j:J5) (n:(Int->AB AO)):Int->AB AO:=fun m=>(bif m<(h.length:Int) then(BI h m).bind fun q=>(BI j m).bind fun r=>(bif (!YN q r)then some false else n (IntKind.i64.wrap (m+1)))else some true)
def xP (h:J5) (j:J5):Int->AB AO:=aS (Zm h j) Am
def YJ (h:J5) (j:J5):AB AO:=(bif ((h.length:Int) != (j.length:Int))then some false else xP h j 0)
def yE (bn bG r) (h:YJ bn bG=some r):BL 236 [MB bn,MB bG] [] (Aa r) []:=BO func236 rfl<|AU<|Ae<|AV 1<|.p (BX E9 bn En rfl)<|.a 1<|.Z (BX E9 bG En rfl)<|BR h Ba fun h=>Ae<|AV 1<|.Z (BX E9 bn En rfl)<|BP<|Dx (fun u=>⟨Bo 26 [(0,MB bn),(1,MB bG),(12,Ag (bn.length:Int)),(13,Ag u)],[],0⟩) _ _ _ (Ah 26 12291 []) h<|fun z I n u h=>AU<|Ae<|CZ h (fun h=>Ae<|BP<|AU<|D6 h fun j q m s h=>FI A8 A8 A8 (.a 2<|.p (CG E9 q En JC rfl)<|.a 3<|.p (CG E9 s En JC rfl)<|.a 1<|.p (x:=(Aa (!YN j m))) (RY [.string j.User,.int .i64 j.N] [.string m.User,.int .i64 m.N] (ade j m) BQ zY rfl)<|.nil _)<|BR h Ba fun h=>Bg<|.a 2<|.nil<|n _ _ (Ah 26 12291 []) h) fun h=>El
def kM (h:J7) (j:J7) (n:(Int->AB AO)):Int->AB AO:=fun m=>(bif m<(h.length:Int) then(BI h m).bind fun q=>(BI j m).bind fun r=>(bif (!XG q r)then some false else n (IntKind.i64.wrap (m+1)))else some true)
def ql (h:J7) (j:J7):Int->AB AO:=aS (kM h j) Am
def Yw (h:J7) (j:J7):AB AO:=(bif ((h.length:Int) != (j.length:Int))then some false else ql h j 0)
def abV (bn bG r) (h:Yw bn bG=some r):BL 237 [Ll bn,Ll bG] [] (Aa r) []:=BO func237 rfl<|AU<|Ae<|AV 1<|.p (BX EH bn FD rfl)<|.a 1<|.Z (BX EH bG FD rfl)<|BR h Ba fun h=>Ae<|AV 1<|.Z (BX EH bn FD rfl)<|BP<|Dx (fun u=>⟨Bo 26 [(0,Ll bn),(1,Ll bG),(12,Ag (bn.length:Int)),(13,Ag u)],[],0⟩) _ _ _ (Ah 26 12291 []) h<|fun z I n u h=>AU<|Ae<|CZ h (fun h=>Ae<|BP<|AU<|D6 h fun j q m s h=>FI A8 A8 A8 (.a 2<|.p (CG EH q FD Jp rfl)<|.a 3<|.p (CG EH s FD Jp rfl)<|.a 1<|.p (x:=(Aa (!XG j m))) (RY [.int .i64 j.Kind,.int .i64 j.N] [.int .i64 m.Kind,.int .i64 m.N] (yw j m) BQ adp rfl)<|.nil _)<|BR h Ba fun h=>Bg<|.a 2<|.nil<|n _ _ (Ah 26 12291 []) h) fun h=>El
def Vu (h:BF) (j:BF):AB AO:=(bif (!(h.Text.toList==j.Text.toList))then some true else some (h.N != j.N)).bind fun U=>(bif U then some true else some (h.Target != j.Target)).bind fun Y=>(bif Y then some true else some (!(h.Thread==j.Thread))).bind fun Z=>(bif Z then some true else some (!(h.Via.toList==j.Via.toList))).bind fun x7=>(bif x7 then some true else(Sr h.Allow j.Allow).bind fun m=>some (!m)).bind fun x9=>(bif x9 then some true else(Sr h.dw j.dw).bind fun n=>some (!n)).bind fun q=>(bif q then some false else(YJ h.Levels.Users j.Levels.Users).bind fun r=>(bif r then(Yw h.Levels.Kinds j.Levels.Kinds).bind fun s=>some s else some false).bind fun u=>(bif u then some (h.Levels.User==j.Levels.User)else some false).bind fun z=>(bif z then some (h.Levels.Message==j.Levels.Message)else some false).bind fun I=>(bif I then some (h.Levels.State==j.Levels.State)else some false).bind fun J=>(bif J then some (h.Levels.iD==j.Levels.iD)else some false).bind fun L=>(bif L then some (h.Levels.lS==j.Levels.lS)else some false).bind fun M=>(bif M then some (h.Levels.qm==j.Levels.qm)else some false).bind fun O=>(bif O then some (h.Levels.iE==j.Levels.iE)else some false).bind fun S=>some S)
def abh (bn bG r) (h:Vu bn bG=some r):BL 148 [Gw bn,Gw bG] [] (Aa r) []:=BO func148 rfl<|AU<|BK.ZG [] 108 0x68383206638310641830062182f064302e062302d05c082c05a082b060102a05e1029060302805c182805e302705a182705c202605a28250580024056002305818220500822056182104e0821058202004c0820056281f04a081f054301e050101e052301d04e101d050201c04c181c04e281b04a181b04c281a04a201a048181904400190461818042001804820170400017046281603e0016044101503c0815042101403a0814044201304018130380813042281203e18120360812040281103e2011034081103c2010038101003a280f036100f038280e036200e034180e032100d02a000d030100c028000c032200b02e180b026000b030280a02c180a024000a02e280902c2009022000902a2008026100802008080282807024100701e080702628060242006022180601c0806020280501e200501c100501a2004016100401000040182803014100300e000301628020142002012180200c0002010280100e200100c100100a08010082800006200000410000020000 [51,52] ⟨Bo 121 [(2,.ptr 0 0),(3,.ptr 1 0),(5,.ptr 2 0),(6,.ptr 3 0)],[.box (Bc (Df bn)),.box (Bc (Df bG)),.box (Bc (IL bn.Levels)),.box (Bc (IL bG.Levels))],0⟩ ⟨uh (Ah 121 108 [Ak 0,Ak 1,Ak 2,Ak 3]),uh (Ah 121 108 [Ak 0,Ak 1,Ak 3,Ak 2]),trivial⟩<|Ae<|AV 5<|AQ h fun x1 U h=>.mg 16 6 (Aa x1) (.bi U)<|.a 1<|AQ h fun x3 Y h=>.mg 24 5 (Aa x3) (Bh Y)<|.a 1<|AQ h fun x5 Z h=>.mg 31 5 (Aa x5) (Bh Z)<|.a 1<|AQ h fun x7 hx7 h=>.mg 38 5 (Aa x7) (Bh hx7)<|.a 1<|AQ h fun x9 LX h=>.mg 45 6 (Aa x9) (Bh LX (k2:=fun e i=>by subst e;have h:=i;exact AQ h fun x11 j h=>.a 4<|.X (uU bn.Allow bG.Allow x11 j)<|CJ))<|.a 1<|AQ h fun x12 m h=>.mg 53 6 (Aa x12) (Bh m (k2:=fun e i=>by subst e;have h:=i;exact AQ h fun x14 n h=>.a 4<|.X (uU bn.dw bG.dw x14 n)<|CJ))<|.dQ<|BR h Ba fun h=>AQ h fun x16 q h=>AV 4<|.ca (yE bn.Levels.Users bG.Levels.Users x16 q)<|.a 1<|AQ h fun x17 s h=>.mg 66 5 (Aa x17) (Bh s (fun e i=>by subst e;have h:=i;exact AQ h fun x19 u h=>.a 4<|.X (abV bn.Levels.Kinds bG.Levels.Kinds x19 u)<|CJ))<|.a 1<|AQ h fun uI z h=>.mg 73 5 (Aa uI) (Bh z)<|.a 1<|AQ h fun Fj I h=>.mg 80 5 (Aa Fj) (Bh I)<|.a 1<|AQ h fun x24 J h=>.mg 87 5 (Aa x24) (Bh J)<|.a 1<|AQ h fun OH L h=>.mg 94 5 (Aa OH) (Bh L)<|.a 1<|AQ h fun x28 M h=>.mg 101 5 (Aa x28) (Bh M)<|.a 1<|AQ h fun Tt O h=>.mg 108 5 (Aa Tt) (Bh O)<|.a 1<|AQ h fun x32 S h=>.mg 115 5 (Aa x32) (Bh S)<|.aW<|CX
def Np (h:BH) (j:AO):AB Int:=(bif j then some 6 else(Ou h).bind fun m=>(bif (m != h.Id)then some 11 else(SA h.aQ).bind fun n=>(bif (!Vy h.eu (⟨n,h.Id⟩:I8))then some 12 else some 0)))
def JO (h:BH):AB Int:=(Qk h).bind fun q=>(bif (q != 0)then some q else(Tz h).bind fun j=>(bif (!j)then(UF h.Kind h.Content).bind fun m=>(Vu h.Content m).bind fun n=>Np h (!n)else Np h false))
def U9 (aN r) (h:JO aN=some r):BL 74 [ET aN] [] (Ag r) []:=BO func74 rfl<|AU<|Ae<|AQ h fun U L h=>AV 1<|.X (zZ aN U L)<|AU<|BR h Ba fun h=>Ae<|BP<|Dq (fun s=>∃(M:AO),DI s ⟨Bo 40 [(1,.ptr 0 0),(9,Aa M)],[.box (Bc (DT aN))],0⟩/\Np aN M=some r) (by rintro s ⟨M,Y,h⟩;exact Dk Y<|DW h Ba fun h=>AQ h fun Z O h=>FI A8 A8 A8 (.a 1<|.ca (XQ aN Z O)<|.a 4<|.nil _)<|DW h Ba fun h=>AQ h fun n S h=>FI A8 A8 A8 (.a 4<|.ca (aF aN.aQ n S)<|.a 3<|.p (x:=(Aa (!Vy aN.eu (⟨n,aN.Id⟩:I8)))) (RY [.string aN.eu.Server,.int .i64 aN.eu.Sum] [.string ((⟨n,aN.Id⟩:I8).Server),.int .i64 ((⟨n,aN.Id⟩:I8).Sum)] (afE aN.eu (⟨n,aN.Id⟩:I8)) BQ Src rfl)<|.a 1<|.nil _)<|KE)<|fun K9=>AQ h fun q m h=>JJ h (fun j h=>D6 h fun u z I J h=>Fr A8 A8 A8 (.a 1<|.ca (jq aN q m)<|.a 1<|.c (CO some j)<|.a 6<|.ca (vO aN.Kind aN.Content u z)<|.ca (abh aN.Content u I J)<|.a 3<|.nil _)<|K9 _ ⟨(!I),Ah 40 514 [Ak 0],h⟩) fun j h=>Fr A8 A8 A8 (.a 1<|.ca (jq aN q m)<|.a 1<|.c (CO some j)<|.a 11<|.nil _)<|K9 _ ⟨false,Ah 40 514 [Ak 0],h⟩
def Td (h:BH):AB (BH×Int):=(JO h).bind fun j=>(bif (j != 0)then some (IQ,j)else some (h,0))
def WE (h:BH):AB (BH×Int):=(Tz h).bind fun j=>(bif (!j)then(UU h).bind fun m=>Td m else Td h)
def ac3 (aN r) (h:WE aN=some r):BL 63 [ET aN] [] (.gV [ET r.1,Ag r.2]) []:=BO func63 rfl<|AU<|Dq (fun s=>∃(j:BH),DI s ⟨Bo 17 [(1,.ptr 0 0),(2,.ptr 1 0)],[.box (Bc (DT j)),.box (Bc (DT IQ))],0⟩/\Td j=some r) (by rintro s ⟨j,J,h⟩;exact Dk J<|Ae<|AQ h fun z m h=>AV 1<|.X (U9 j z m)<|AU<|BR h (fun h=>AU<|J4<|by rw[←IK h];exact⟨[ET IQ,Ag z],[],⟨⟨1,Bc (DT IQ),true,29,A8,A8,A8,Gy,Ir A8,ZJ,A8⟩,QN A8,trivial⟩,A8,A8,A8⟩) fun h=>AU<|J4<|by rw[←IK h];exact⟨[ET j,Ag 0],[],⟨⟨1,Bc (DT j),true,29,A8,A8,A8,Gy,Ir A8,ZJ,A8⟩,QN A8,trivial⟩,A8,A8,A8⟩)<|fun K4=>AQ h fun L q h=>AV 1<|.X (jq aN L q)<|BR h (fun h=>AQ h fun I u h=>Bg<|.a 1<|.ca (o7 aN I u)<|.a 1<|.nil<|K4 _ ⟨I,Ah 17 6 [Ak 0,Ak 1],h⟩) fun h=>K4 _ ⟨aN,Ah 17 6 [Ak 0,Ak 1],h⟩
end
end Go.Proofs.YtfmoknlmaldmlaaGreat
