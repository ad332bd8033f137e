/- Part 6 of the proofs. -/
import Derived.Test.YtfmoknlmaldmlaaGreatRv5
set_option linter.defProp false
set_option linter.unnecessarySimpa false
set_option linter.unusedSectionVars false
set_option linter.unusedVariables false
set_option linter.unusedSimpArgs false
namespace Go.Proofs.YtfmoknlmaldmlaaGreat
open Go.RowKit Go.Proofs.Tryz
def EZ (l:AA AQ):Prop:=∀e∈l,Et e
variable {l:AA AQ}
def EZ.anG (h:EZ l):SS l:=λe j=>(h e j).auth
variable {A α:Type}
theorem aI4 {R}{body}(l:AA α)(hl:l.length<Am)p(g:Nat->AL R)rest(a0:A)(u:∀k (i:Nat) (h:i<l.length),body k a0 (i:Int)=bif p l[i]then g i else k a0 (Au ((i:Int)+1)))(z:∀k,body k a0 (l.length:Int)=rest):
 aQ body Am a0 0=if l.findIdx p<l.length then g (l.findIdx p)else rest:=by
 have J:Am=9223372036854775808:=rfl
 have key:∀n (i:Nat),i+n=l.length->∀m,n<m->aQ body m a0 (i:Int)=if(l.drop i).findIdx p+i<l.length then g ((l.drop i).findIdx p+i)else rest:=by
  intro n
  induction n with
  |zero=>
   intro i hi m hm;obtain⟨m,rfl⟩:∃q,m=q+1:=⟨m-1,AB⟩
   have :i=l.length:=AB
   subst this;show body (aQ body m) _ _=_;rw[z,PN,Ee BU]
  |succ n I=>
   intro i hi m hm;obtain⟨m,rfl⟩:∃q,m=q+1:=⟨m-1,AB⟩
   have j:i<l.length:=AB
   show body (aQ body m) _ _=_;rw[u _ i j,wrap_succ i AB,I (i+1) AB m AB,Nc j,V3];cases p l[i]with
   |true=>
    grind
   |false=>
    simp only[BH];rw[show(l.drop (i+1)).findIdx p+(i+1)=(l.drop (i+1)).findIdx p+1+i by omega]
 grind
variable {k:Int}{key:BL}{s:AA BK}
theorem TQ {id}{x}(h:x∈Gy s k key id):x=⟨k,key,id⟩\/x∈s:=by
 unfold Gy at h
 grind
def yT (s:AA BK):Prop:=∀x∈s,x.Id=0
def gu (h:yT s):yT (Gy s k key 0):=λx j=>by
 rcases TQ j with rfl|j
 ·rfl
 exact h x j
def xF (l:AA BK)(k:Int)(key:BL)(j:Int):AL BR:=
 (cond (j<(l.length:Int)) ((Ak l j).bind λq=>some (q.Kind==k)) (some false)).bind λu=>(cond u ((Ak l j).bind λz=>some (z.Key.toList==key.toList)) (some false)).bind λI=>(cond I (some l) ((I8 l 0 j).bind λJ=>(D5 32 [] J).bind λL=>(D5 32 L [(⟨k,key,0⟩:BK)]).bind λM=>(I8 l j ((l).length)).bind λO=>(D5 32 M O).bind λU=>some U))
def zK s k key(hs:s.length<=1000000)(u:yT s):Y9 s k key=some (Gy s k key 0):=by
 unfold Y9 aR1
 have j:xF s k key ((Fl s ⟨k,key,0⟩:Nat):Int)=some (Gy s k key 0):=by
  have hp:=a1B s ⟨k,key,0⟩;unfold xF Gy
  have q:((I8 s 0 ((Fl s ⟨k,key,0⟩:Nat):Int)).bind λz=>(D5 32 [] z).bind λI=>(D5 32 I [(⟨k,key,0⟩:BK)]).bind λJ=>(I8 s ((Fl s ⟨k,key,0⟩:Nat):Int) ((s).length)).bind λL=>(D5 32 J L).bind λM=>some M)=some (s.take (Fl s ⟨k,key,0⟩)++⟨k,key,0⟩::s.drop (Fl s ⟨k,key,0⟩)):=by
   rw[xK hp];simp only[Ac];rw[Dw Ei];simp only[Ac,Ir];rw[Dw Ei];simp only[Ac];rw[YD hp];simp only[Ac];rw[Dw Ei];simp
  rw[q];by_cases hl:Fl s ⟨k,key,0⟩<s.length
  ·rw[dec_lt hl,CQ hl];simp only[BZ,Ac]
   have O:MH s ⟨k,key,0⟩=(s[Fl s ⟨k,key,0⟩].Kind==k&&(s[Fl s ⟨k,key,0⟩].Key=key)):=by
    unfold MH;rw[ES hl];rfl
   rw[O,JM];cases Y:s[Fl s ⟨k,key,0⟩].Kind==k with
   |false=>rfl
   |true=>
    simp only[BZ,Ac,GZ];cases hd:decide (s[Fl s ⟨k,key,0⟩].Key=key)with
    |true=>
     simp only[BZ];have h1:s[Fl s ⟨k,key,0⟩].Kind=k:=by simpa using Y
     have h2:s[Fl s ⟨k,key,0⟩].Key=key:=by simpa using hd
     have h3:=u _ (EU hl)
     have Z:(⟨k,key,0⟩:BK)=s[Fl s ⟨k,key,0⟩]:=by
      have :∀(y:BK),y.Kind=k->y.Key=key->y.Id=0->(⟨k,key,0⟩:BK)=y:=λy a b c=>by cases y;simp only at a b c;rw[a,b,c]
      exact this _ h1 h2 h3
     congr 1
     conv=>rhs;arg 2;arg 1;rw[Z]
     rw[←Nc hl,Vf]
    |false=>rfl
  have u:Fl s ⟨k,key,0⟩=s.length:=AB
  have O:MH s ⟨k,key,0⟩=false:=by unfold MH;rw[u,Oe (ER _)]
  rw[O,u,DR];rfl
 rw[Jh s (fuel_lt AB) (λx=> !GN x ⟨k,key,0⟩) (λi=>xF s k key (i:Int)) (xF s k key (s.length:Int))]
 ·split
  ·exact j
  rename_i h;have u:Fl s ⟨k,key,0⟩=s.length:=aVn
  rw[u]at j;exact j
 ·intro k2 i h;unfold aCu
  have e:(cond ((i:Int)<(s.length:Int)) ((Ak s (i:Int)).bind λx5=>(cond (x5.Kind<k) (some true) ((Ak s (i:Int)).bind λx8=>(cond (x8.Kind==k) ((Ak s (i:Int)).bind λU=>some (Op.bytesLess (U.Key.toList) (key.toList))) (some false)).bind λx9=>some x9)).bind λx6=>some x6) (some false))=some (GN s[i] ⟨k,key,0⟩):=by
   rw[dec_lt h,CQ h];simp only[BZ,Ac];unfold GN;cases decide (s[i].Kind<k)<;>cases s[i].Kind==k<;>rfl
  rw[e];simp only[Ac];cases GN s[i] ⟨k,key,0⟩<;>rfl
 intro k2;unfold aCu;rw[DR];simp only[BH,Ac];unfold xF;rw[DR];rfl
def NT (e:AQ):AA BK:=Gy (Gy (Gy [] 1 CX 0) 3 CX 0) 2 e.bU 0
def keysOf (e:AQ):AA BK:=
 bif e.Kind==1 then[]else bif e.Kind==2 then(cond (e.Content.N==3||e.Content.N==1||e.Content.N==2) (Gy (Gy (NT e) 2 e.Key 0) 4 CX 0) (Gy (NT e) 2 e.Key 0))else NT e
def aBO e:(NT e).length<=3:=by
 have h1:=RX [] 1 CX 0;have h2:=RX (Gy [] 1 CX 0) 3 CX 0;have h3:=RX (Gy (Gy [] 1 CX 0) 3 CX 0) 2 e.bU 0;unfold NT;simp only[Qp]at h1;omega
def aRN e:yT (NT e):=gu (gu (gu λx j=>absurd j H9))
theorem XQ e:(keysOf e).length<=5:=by
 have h1:=aBO e;have h2:=RX (NT e) 2 e.Key 0;have h3:=RX (Gy (NT e) 2 e.Key 0) 4 CX 0;unfold keysOf
 grind
def aUH e:xw e=some (keysOf e):=by
 have h1:=aBO e;have h2:=RX (NT e) 2 e.Key 0;have j:=RX [] 1 CX 0;have q:=RX (Gy [] 1 CX 0) 3 CX 0;simp only[Qp]at j;unfold xw keysOf;rw[aU [] 1 CX 0 BU];simp only[Ac];rw[aU _ 3 CX 0 AB];simp only[Ac];rw[aU _ 2 e.bU 0 AB];simp only[Ac];show(cond (e.Kind==1) (some []) (cond (e.Kind==2) ((UO (NT e) 2 e.Key 0).bind _) (oC (NT e))))=_;rw[aU (NT e) 2 e.Key 0 AB];simp only[Ac];rw[aU _ 4 CX 0 AB];unfold oC;cases e.Kind==1<;>cases e.Kind==2<;>cases e.Content.N==3<;>cases e.Content.N==1<;>cases e.Content.N==2<;>rfl
def aJz e:lR e=some (keysOf e):=by
 have h1:=aBO e;have h2:=RX (NT e) 2 e.Key 0;have q:=RX [] 1 CX 0;have z:=RX (Gy [] 1 CX 0) 3 CX 0;have z0:yT []:=λx u=>absurd u H9;simp only[Qp]at q;unfold lR keysOf;rw[zK [] 1 CX BU z0];simp only[Ac];rw[zK _ 3 CX AB (gu z0)];simp only[Ac];rw[zK _ 2 e.bU AB (gu (gu z0))];simp only[Ac];show(cond (e.Kind==1) (some []) (cond (e.Kind != 2) (some (NT e)) ((Y9 (NT e) 2 e.Key).bind _)))=_;rw[zK (NT e) 2 e.Key AB (aRN e)];simp only[Ac];rw[zK _ 4 CX AB (gu (aRN e))];unfold aAl;have j:(e.Kind != 2)= !(e.Kind==2):=rfl;rw[j];cases e.Kind==1<;>cases e.Kind==2<;>cases e.Content.N==3<;>cases e.Content.N==1<;>cases e.Content.N==2<;>rfl
def FC (k:BK)(x:AQ):AY:=x.Kind==k.Kind&&(x.Key=k.Key)
def Tq (l:AA AQ)(e:AQ):AA AQ:=(keysOf e).flatMap λk=>((ofIds l e.bI).find? (FC k)).toList
def flat_length {α β}{f:α->AA β}{n}(h:∀x,(f x).length<=n):∀l:AA α,(l.flatMap f).length<=n*l.length
 | []=>BU
 |x::l=>by
  have h1:=h x;have h2:=flat_length h l;rw[Oj,Ef,Gh,Nat.mul_succ];omega
def a4u l e:(Tq l e).length<=5:=by
 have h1:=flat_length (f:=λk=>((ofIds l e.bI).find? (FC k)).toList) (n:=1) (λk=>toList_le _) (keysOf e);have h2:=XQ e;unfold Tq;omega
def aBD {ids}{x}(h:x∈ofIds l ids):x∈l:=by
 obtain⟨i,_,h⟩:=eX.1 h;exact Jf h
variable {e:AQ}
def aZF {x}(h:x∈Tq l e):x∈l:=by
 obtain⟨k,_,h⟩:=WL.1 h;have :(ofIds l e.bI).find? (FC k)=some x:=Oa
 exact aBD (YH this)
def KR (x:BK):Uh:=⟨x.Kind,x.Key⟩
theorem aVf e:uI e=some ((keysOf e).map KR):=by
 unfold uI;rw[aUH];simp only[Ac];have j:=XQ e;unfold aVt;rw[Iy (keysOf e) AB (λr x=>r++[KR x]) (λi r=>r.length<=i) (λr=>some r) (ER _)]
 ·rw[foldl_append (λx=>[KR x]),Ir];congr 1
  induction keysOf e with
  |nil=>
   rfl
  |cons x s q=>
   grind
 ·intro k r i h u;refine⟨a3U,?_⟩;unfold aJp;rw[Ch h,Dw G7];rfl
 intro k r _;unfold aJp;rw[EJ]
theorem aRD l p:∀ids:AA Int,(ofIds l ids).find? p=(ids.find? λi=>match Eh l i with |some x=>p x|none=>false).bind (Eh l)
 | []=>
  rfl
 |i::ids=>by
  have j:=aRD l p ids;unfold ofIds at j ⊢
  grind
def aQi l e(hl:l.length<=1000)(I:e.bI.length<=40):uQ l e=some (Tq l e):=by
 unfold uQ;rw[aVf];simp only[Ac];have J:=XQ e;unfold aR7;rw[Iy (a0:=[]) ((keysOf e).map KR) Z4 (λr k=>r++((ofIds l e.bI).find? λx=>x.Kind==k.aep&&(x.Key=k.aer)).toList) (λi r=>r.length<=i) (λr=>some r) (ER _)]
 ·congr 1;rw[foldl_append (λk:Uh=>((ofIds l e.bI).find? λx=>x.Kind==k.aep&&(x.Key=k.aer)).toList),Ir,List.flatMap_map];rfl
 ·intro k r i h L;have M:=toList_le ((ofIds l e.bI).find? λx=>x.Kind==((keysOf e).map KR)[i].aep&&(x.Key=((keysOf e).map KR)[i].aer));refine⟨LV,?_⟩;have hi:i<5:=by rw[DY]at h;omega
  unfold aFq;rw[Ch h];generalize((keysOf e).map KR)[i]=K;unfold aN1
  rw[aI4 e.bI (fuel_lt AB) (λid=>match Eh l id with |some x=>x.Kind==K.aep&&(x.Key=K.aer)|none=>false)
   (λj=>Fn1 k (i:Int) (r++(match e.bI[j]? with |some id=>(Eh l id).toList|none=>[]))) (Fn1 k (i:Int) r)]
  ·rw[aRD,Kw];by_cases q:e.bI.findIdx (λid=>match Eh l id with |some x=>x.Kind==K.aep&&(x.Key=K.aer)|none=>false)<e.bI.length
   ·rw[ET q,ES q];rfl
   rw[Ee q,Oe AB];simp only[Option.bind_none,Option.toList_none,Tv];rfl
  ·intro k2 j u;unfold aID;rw[Ch u,OD l _ AB,ES u];simp only[Ac];cases z:Eh l e.bI[j]with
   |none=>rw[SC z];rfl
   |some x=>
    rw[Ou z];simp only[BZ,SN];unfold Y7;rw[JM];rw[Dw G7];cases x.Kind==K.aep<;>cases decide (x.Key=K.aer)<;>rfl
  intro k2;unfold aID;rw[EJ]
 intro k r _;unfold aFq;rw[EJ]
theorem aOc l e(hl:l.length<=1000)(Z:e.bI.length<=40):tY l e=some (Tq l e):=by
 unfold tY;rw[aJz,aBj l _ hl AB];simp only[Ac];have hk:=XQ e;have L:=iy l e.bI;unfold aPu;rw[Iy (a0:=[]) (keysOf e) AB (λr k=>r++((ofIds l e.bI).find? (FC k)).toList) (λi r=>r.length<=i) (λr=>some r) (ER _)]
 ·rw[foldl_append (λk:BK=>((ofIds l e.bI).find? (FC k)).toList),Ir];rfl
 ·intro k r i h hI;have M:=toList_le ((ofIds l e.bI).find? (FC (keysOf e)[i]));refine⟨LV,?_⟩;have hi:i<5:=AB
  unfold aFa;rw[dec_lt h];simp only[BZ];generalize ofIds l e.bI=O at L M;unfold aWa
  have u:∀m (a:AA AQ) (j:Int),0<m->iG (Rx O (keysOf e) (i:Int) k) m a true j=k a (Au ((i:Int)+1)):=by
   intro m a j hm;obtain⟨m,rfl⟩:∃I,m=I+1:=⟨m-1,AB⟩
   show Rx O (keysOf e) (i:Int) k (iG (Rx O (keysOf e) (i:Int) k) m) a true j=_;unfold Rx
   grind
  have key:∀n (j:Nat),j+n=O.length->∀m,n+1<m->iG (Rx O (keysOf e) (i:Int) k) m r false (j:Int)=k (r++((O.drop j).find? (FC (keysOf e)[i])).toList) (Au ((i:Int)+1)):=by
   intro n
   induction n with
   |zero=>
    intro j U m hm;obtain⟨m,rfl⟩:∃I,m=I+1:=⟨m-1,AB⟩
    have :j=O.length:=AB
    subst this;show Rx O (keysOf e) (i:Int) k (iG (Rx O (keysOf e) (i:Int) k) m) r false _=_;unfold Rx;rw[DR,PN];simp
   |succ n Y=>
    intro j U m hm;obtain⟨m,rfl⟩:∃I,m=I+1:=⟨m-1,AB⟩
    have z:j<O.length:=AB
    have J:=Y (j+1) AB m AB;show Rx O (keysOf e) (i:Int) k (iG (Rx O (keysOf e) (i:Int) k) m) r false _=_;have q:=u m;generalize iG (Rx O (keysOf e) (i:Int) k) m=K at J q;unfold Rx a9d a8D;rw[dec_lt z,CQ z,CQ h];simp only[BZ,JZ,Ac];rw[JM,wrap_succ j AB,Nc z,YA,J];rw[Dw G7];simp only[Ac];rw[q _ _ AB];unfold FC;cases O[j].Kind==(keysOf e)[i].Kind<;>cases decide (O[j].Key=(keysOf e)[i].Key)<;>rfl
  have :=key O.length 0 AB Am oO;exact this
 intro k r _;unfold aFa;rw[DR];rfl
def YP (c:BL):Ci:=bif !(c.toList==CX.toList)then{ XV with Users:=[⟨c,100⟩] }else XV
def Ue (l:AA AQ):BL:=match l.find? λx=>x.Kind==1 with |some x=>x.bU|none=>CX
def I5 (l:AA AQ):Ci:=match l.find? λx=>x.Kind==3 with |some x=>x.Content.Levels|none=>YP (Ue l)
theorem adZ c:a6h c=some (YP c):=by
 unfold a6h YP a7t
 grind
def aj0 c:aB8 c=some (YP c):=by
 unfold aB8 YP a3T;cases c.toList==CX.toList<;>rfl
def aVZ l k(hl:l.length<=1000):vT l k=some (if l.findIdx (λe=>e.Kind==k)<l.length then((l.findIdx (λe=>e.Kind==k):Nat):Int)else -1):=by
 unfold vT;rw[yj l AB (λa0=>a5G a0 k) (λe=>e.Kind==k) λ_=>rfl];rfl
def aHP l(hl:l.length<=1000)(hs:EZ l):ru l=some (I5 l,Ue l):=by
 have q:∀c,mW l c=some (match l.find? λx=>x.Kind==3 with |some x=>x.Content.Levels|none=>YP c,c):=by
  intro c;unfold mW;rw[aVZ l 3 hl,Kw];simp only[Ac];by_cases h:l.findIdx (λe=>e.Kind==3)<l.length
  ·rw[ET h,show decide (((l.findIdx (λe=>e.Kind==3):Nat):Int)>=0)=true by simp,CQ h,ES h];simp only[BZ,Ac];have u:=hs _ (EU h);have h1:=u.users;have h2:=u.kinds;unfold a3N a2v;rw[Dw QD,Dw QD];rfl
  rw[Ee h,Oe AB,adZ];rfl
 unfold ru;rw[aVZ l 1 hl];simp only[Ac];by_cases h:l.findIdx (λe=>e.Kind==1)<l.length
 ·have j:Ue l=l[l.findIdx (λe=>e.Kind==1)].bU:=by unfold Ue;rw[Kw,ES h]
  rw[ET h,show decide (((l.findIdx (λe=>e.Kind==1):Nat):Int)>=0)=true by simp,CQ h];simp only[BZ,Ac];rw[q,←j];rfl
 have j:Ue l=CX:=by unfold Ue;rw[Kw,Oe AB]
 rw[Ee h];show mW l CX=_;rw[q,←j];rfl
def aCM l(hl:l.length<=1000):sS l=some (I5 l,Ue l):=by
 have I:∀c,aAc l c 0 L8=some (match l.find? λx=>x.Kind==3 with |some x=>x.Content.Levels|none=>YP c,c):=by
  intro c;unfold aAc
  have O:∀{R:Type} {body:(Int->Ci->AL R)->Int->Ci->AL R} (p:AQ->AY) (g:Nat->AL R) (rest:AL R) (a0:Ci)
   (Y:∀k (i:Nat) (h:i<l.length),body k (i:Int) a0=bif p l[i]then g i else k (Au ((i:Int)+1)) a0) (Z:∀k,body k (l.length:Int) a0=rest),
   aQ body Am 0 a0=if l.findIdx p<l.length then g (l.findIdx p)else rest:=by
   intro R body p g rest a0 Y Z;have hf:Am=9223372036854775808:=rfl
   have key:∀n (i:Nat),i+n=l.length->∀m,n<m->aQ body m (i:Int) a0=if(l.drop i).findIdx p+i<l.length then g ((l.drop i).findIdx p+i)else rest:=by
    intro n
    induction n with
    |zero=>
     intro i hi m hm;obtain⟨m,rfl⟩:∃z,m=z+1:=⟨m-1,AB⟩
     have :i=l.length:=AB
     subst this;show body (aQ body m) _ _=_;rw[Z,PN,Ee BU]
    |succ n U=>
     intro i hi m hm;obtain⟨m,rfl⟩:∃z,m=z+1:=⟨m-1,AB⟩
     have q:i<l.length:=AB
     show body (aQ body m) _ _=_;rw[Y _ i q,wrap_succ i AB,U (i+1) AB m AB,Nc q,V3];cases p l[i]with
     |true=>simp only[BZ,LC];rw[ET q]
     |false=>
      simp only[BH];rw[show(l.drop (i+1)).findIdx p+(i+1)=(l.drop (i+1)).findIdx p+1+i by omega]
   have :=key l.length 0 AB Am AB;simpa using this
  rw[O (λx=>x.Kind==3) (λi=>some ((match l[i]? with |some x=>x.Content.Levels|none=>L8),c)) (some (YP c,c))]
  ·rw[Kw];by_cases h:l.findIdx (λe=>e.Kind==3)<l.length
   ·rw[ET h,ES h]
   rw[Ee h,Oe AB]
  ·intro k i h;unfold aDN;rw[Ch h,CQ h,ES h];rfl
  intro k;unfold aDN;rw[EJ,aj0];rfl
 unfold sS aWN;obtain⟨F,M⟩:∃F:BL->AL (Ci×BL),∀c,aAc l c 0 L8=F c:=⟨_,λ_=>rfl⟩
 simp only[M]at I
 have J:∀m (c:BL) (j:Int),0<m->iG (Rt l) m c true j=F c:=by
  intro m c j hm;obtain⟨m,rfl⟩:∃z,m=z+1:=⟨m-1,AB⟩
  show Rt l (iG (Rt l) m) c true j=_;unfold Rt;simp only[M];cases decide (j<(l.length:Int))<;>rfl
 have key:∀n (j:Nat),j+n=l.length->∀m,n+1<m->iG (Rt l) m CX false (j:Int)=F (match(l.drop j).find? λx=>x.Kind==1 with |some x=>x.bU|none=>CX):=by
  intro n
  induction n with
  |zero=>
   intro j hj m hm;obtain⟨m,rfl⟩:∃z,m=z+1:=⟨m-1,AB⟩
   have :j=l.length:=AB
   subst this;show Rt l (iG (Rt l) m) CX false _=_;unfold Rt;simp only[M];rw[DR,PN];rfl
  |succ n U=>
   intro j hj m hm;obtain⟨m,rfl⟩:∃z,m=z+1:=⟨m-1,AB⟩
   have q:j<l.length:=AB
   have L:=U (j+1) AB m AB;show Rt l (iG (Rt l) m) CX false _=_;have u:=J m;generalize iG (Rt l) m=K at L u;unfold Rt a4B;simp only[M];rw[dec_lt q,CQ q];simp only[BZ,JZ,Ac];rw[wrap_succ j AB,Nc q,YA,L,u _ _ AB];cases l[j].Kind==1<;>rfl
 have :=key l.length 0 AB Am oO;rw[show((0:Nat):Int)=0 from rfl]at this;rw[this,I];rfl
def Fg (v:Ci)(u:BL):Int:=match v.Users.find? λx=>decide (x.User=u)with |some x=>x.N|none=>v.User
theorem fM v u(h:v.Users.length<=1000):VP v u=some (Fg v u):=by
 unfold VP aTH Fg;rw[Jh v.Users (fuel_lt AB) (λx=>x.User=u) (λi=>some (match v.Users[i]? with |some x=>x.N|none=>0)) (some v.User)]
 ·rw[Kw]
  grind
 ·intro k i h;unfold aDW;rw[Ch h,JM,ES h]
 intro k;unfold aDW;rw[EJ]
theorem Zj v u(h:v.Users.length<=1000):Ud v u=some (Fg v u):=by
 unfold Ud aPn Fg;rw[Jh v.Users (fuel_lt AB) (λx=>x.User=u) (λi=>some (match v.Users[i]? with |some x=>x.N|none=>0)) (some v.User)]
 ·rw[Kw]
  grind
 ·intro k i h;unfold aEi;rw[Ch h,JM,ES h,CQ h];rfl
 intro k;unfold aEi;rw[EJ]
def mQ (h:EZ l):(I5 l).Users.length<=100/\(I5 l).Kinds.length<=100:=by
 unfold I5;cases j:l.find? λx=>x.Kind==3 with
 |some x=>
  have :=h x (YH j);exact⟨this.users,this.kinds⟩
 |none=>
  simp only;unfold YP;cases(Ue l).toList==CX.toList with
  |true=>
   show XV.Users.length<=100/\XV.Kinds.length<=100;exact⟨Bl,Bl⟩
  |false=>
   show 1<=100/\XV.Kinds.length<=100;exact⟨Bl,Bl⟩
def a7f (l:AA AQ)(e:AQ):Int:=Fg (I5 (Tq l e)) e.bU
def EZ.from (h:EZ l)e:EZ (Tq l e):=λx j=>h x (aZF j)
def aeJ l e(hl:l.length<=1000)(hs:EZ l)(j:e.bI.length<=40):a7q l e=some (a7f l e):=by
 have h1:=a4u l e;have h2:=(mQ (hs.from e)).1;unfold a7q;rw[aQi l e hl j];simp only[Ac];rw[aHP _ AB (hs.from e)];simp only[Ac];rw[fM _ _ AB];rfl
def aVh l e(hl:l.length<=1000)(hs:EZ l)(j:e.bI.length<=40):a03 l e=some (a7f l e):=by
 have h1:=a4u l e;have h2:=(mQ (hs.from e)).1;unfold a03;rw[aOc l e hl j];simp only[Ac];rw[aCM _ AB];simp only[Ac];rw[Zj _ _ AB];rfl
def Qi (e:AQ):AY:=bif e.Kind==2 then(e.Content.N==0||e.Content.N==4)&& !(decide (e.Key=e.bU))else e.Kind==3||e.Kind==4
theorem acE e:aAS e=some (Qi e):=by
 unfold aAS aAr Qi;rw[JM];by_cases h2:e.Kind=2
 ·simp[h2]
  grind
 grind
theorem acZ e:a8f e=some (Qi e):=by
 unfold a8f Qi;rw[JM]
 grind
theorem aVy l x(h:l.length<=1099511627776):uF l x=some (if l.findIdx (· ==x)<l.length then((l.findIdx (· ==x):Nat):Int)else -1):=by
 unfold uF aT9;rw[Jh l (fuel_lt h) (· ==x) (λi=>some (i:Int)) (some (-1))]
 ·split<;>rfl
 ·intro k i hi;unfold aDo;rw[Ch hi]
  grind
 intro k;unfold aDo;rw[EJ]
theorem aW6 l x:decide (l.findIdx (· ==x)<l.length)=EP l x:=by
 rw[Oz,La,Io,Xe]
 grind
def a0j l x(h:l.length<=1099511627776):rV l x=some (EP l x):=by
 unfold rV;rw[aVy l x h,←aW6];by_cases hl:l.findIdx (· ==x)<l.length
 ·rw[ET hl,IX hl];simp
 rw[Ee hl,G6 hl];rfl
def aQa l x(h:l.length<=1099511627776):rG l x=some (EP l x):=by
 unfold rG;rw[a0j l x h];rfl
def ev (l:AA AQ)(id:Int):AQ:=(Ii l id).1
def Y0 (l:AA AQ)(id:Int):AY:=bP l id&&Qi (ev l id)
def IY (l:AA AQ)(full:AA Int):AA Int:=full.filter (Y0 l)
def Xz (l:AA AQ)(full:AA Int):AA Int:=FY (IY l full++full.filter (EP (chainOf l (IY l full))))
theorem a9y {full}{x}:x∈Xz l full↔x∈full/\(Y0 l x=true\/NJ l (IY l full) x):=by
 unfold Xz;rw[MR,Ia,Hg,La,lq];unfold IY
 grind
def aRo l full:Inc (Xz l full):=Nz _
def aHN p:∀(S r:AA Int),S.foldl (λr x=>bif p x then r++[x]else r) r=r++S.filter p
 | [],r=>BU
 |x::S,r=>by
  rw[Gf,aHN p S,UY];cases p x<;>simp
theorem aXx l full(hl:l.length<=1000)(hs:EZ l)(I:full.length<=120000)(j:(IY l full).length<=100000):a4k l full=some (Xz l full):=by
 unfold a4k aUx;rw[Iy (a0:=[]) full AB (λr x=>bif Y0 l x then r++[x]else r) (λi r=>r.length<=i) (λr=>(ZQ l r).bind λq=>aC2 full q r 0) (ER _)]
 ·have z:full.foldl (λr x=>bif Y0 l x then r++[x]else r) []=IY l full:=by rw[aHN];rfl
  have J:=jH l (IY l full);rw[z,aFR l _ hl hs.anG j];simp only[Ac];unfold aC2;rw[Iy full AB (λr x=>bif EP (chainOf l (IY l full)) x then r++[x]else r) (λi r=>r.length<=(IY l full).length+i) (λr=>some (FY r)) (ER _)]
  ·rw[aHN];rfl
  ·intro k r i h u;refine⟨?_,?_⟩
   ·cases EP (chainOf l (IY l full)) full[i]with
    |false=>
     grind
    |true=>
     show(r++[full[i]]).length<=(IY l full).length+(i+1);simp;omega
   unfold aCr aB2;rw[Ch h,aQa _ _ AB];simp only[Ac];rw[Dw G7]
   grind
  intro k r u;unfold aCr;rw[EJ,kJ _ AB];rfl
 ·intro k r i h u;refine⟨?_,?_⟩
  ·cases Y0 l full[i]with
   |false=>
    grind
   |true=>
    show(r++[full[i]]).length<=i+1;simp;omega
  unfold aGF a9M;rw[Ch h,OD l _ AB];simp only[Ac];rw[Dw G7];unfold Y0 bP ev;rw[acE,MF];cases(Eh l full[i]).isSome<;>cases Qi (Ii l full[i]).1<;>rfl
 intro k r _;unfold aGF;rw[EJ]
def NJ.aKJ {ids}{i x}(hi:i∈ids)(h:NJ l [i] x):NJ l ids x:=by
 induction h with
 |one h j q=>rw[Je.1 h]at j;exact .one hi j q
 |more h j q u=>exact .more u j q
def NJ.split {ids}{x}:NJ l ids x↔∃i∈ids,NJ l [i] x:=by
 constructor
 ·intro h
  induction h with
  |one h j q=>exact⟨_,h,.one (Je.2 rfl) j q⟩
  |more h j q u=>obtain⟨i,h1,h2⟩:=u;exact⟨i,h1,.more h2 j q⟩
 rintro⟨i,h1,h2⟩;exact .aKJ h1 h2
def NJ.bP {ids}{x}(h:NJ l ids x):bP l x=true:=by cases h<;>assumption
def gI (h r:AA Int)(y:Int):AA Int:=bif EP h y then put r y else r
def a1y h:∀(c r:AA Int),Inc r->Inc (c.foldl (gI h) r)/\∀x,x∈c.foldl (gI h) r↔x∈r\/x∈c/\x∈h
 | [],r,j=>⟨j,λx=>BU⟩
 |y::c,r,j=>by
  rw[Gf];unfold gI;cases u:EP h y with
  |true=>
   obtain⟨h1,h2⟩:=a1y h c (put r y) (TP j);refine⟨h1,λx=>(h2 x).trans ?_⟩;rw[Xc,FP];constructor
   ·rintro((h3|rfl)|h3)
    ·exact .inl h3
    ·exact .inr ⟨.inl rfl,La.1 u⟩
    exact .inr ⟨.inr h3.1,h3.2⟩
   rintro(h3|⟨rfl|h3,q⟩)
   ·exact .inl (.inl h3)
   ·exact .inl (.inr rfl)
   exact .inr ⟨h3,q⟩
  |false=>
   obtain⟨h1,h2⟩:=a1y h c r j;refine⟨h1,λx=>(h2 x).trans ⟨λh3=>h3.imp id λh3=>⟨I7 _ h3.1,h3.2⟩,λh3=>h3.imp id λh3=>⟨?_,h3.2⟩⟩⟩;rcases FP.1 h3.1 with rfl|q
   ·exact absurd h3.2 (Pz.1 u)
   exact q
def eF (l:AA AQ)(h r:AA Int)(x:Int):AA Int:=bif Qi (ev l x)then(chainOf l [x]).foldl (gI h) (put r x)else r
def aJT l h:∀(c r:AA Int),Inc r->Inc (c.foldl (eF l h) r)/\∀x,x∈c.foldl (eF l h) r↔x∈r\/∃i∈c,Qi (ev l i)=true/\(x=i\/NJ l [i] x/\x∈h)
 | [],r,u=>⟨u,λx=>BU⟩
 |y::c,r,u=>by
  rw[Gf];unfold eF;cases z:Qi (ev l y)with
  |true=>
   obtain⟨I,J⟩:=a1y h (chainOf l [y]) (put r y) (TP u);obtain⟨h1,h2⟩:=aJT l h c _ I;refine⟨h1,λx=>(h2 x).trans ?_⟩;rw[J x,Xc,lq];constructor
   ·rintro(((h3|rfl)|h3)|⟨i,h3,q⟩)
    ·exact .inl h3
    ·exact .inr ⟨x,Gv ..,z,.inl rfl⟩
    ·exact .inr ⟨y,Gv ..,z,.inr h3⟩
    exact .inr ⟨i,I7 _ h3,q⟩
   rintro(h3|⟨i,h3,q,j⟩)
   ·exact .inl (.inl (.inl h3))
   rcases FP.1 h3 with rfl|h3
   ·rcases j with rfl|j
    ·exact .inl (.inl (.inr rfl))
    exact .inl (.inr j)
   exact .inr ⟨i,h3,q,j⟩
  |false=>
   obtain⟨h1,h2⟩:=aJT l h c r u;refine⟨h1,λx=>(h2 x).trans ⟨λh3=>h3.imp id λ⟨i,q,j⟩=>⟨i,I7 _ q,j⟩,λh3=>h3.imp id λ⟨i,q,j,L⟩=>⟨i,?_,j,L⟩⟩⟩;rcases FP.1 q with rfl|q
   ·rw[z]at j;cases j
   exact q
theorem amE l full:(gU l full).foldl (eF l (gU l full)) []=Xz l full:=by
 obtain⟨h1,h2⟩:=aJT l (gU l full) (gU l full) [] .nil;refine DU h1 (aRo _ _) λx=>(h2 x).trans ?_;rw[a9y,O6,NJ.split];unfold IY Y0;constructor
 ·rintro(h3|⟨i,h3,j,q⟩)
  ·grind
  have u:=O6.1 h3
  grind
 rintro⟨h3,j|⟨i,j,q⟩⟩
 ·rw[Di]at j;exact .inr ⟨x,O6.2 ⟨h3,j.1⟩,j.2,.inl rfl⟩
 rw[Hg,Di]at j;exact .inr ⟨i,O6.2 ⟨j.1,j.2.1⟩,j.2.2,.inr ⟨q,h3,q.bP⟩⟩
def am1 l full(hl:l.length<=1000)(hs:EZ l)(L:full.length<=100000):a2P l full=some (Xz l full):=by
 unfold a2P;rw[aOH l full hl L];simp only[Ac];have M:(gU l full).length<=l.length:=lT (kW l full) λx q=>(O6.1 q).2;unfold aUF;rw[Iy (a0:=[]) (gU l full) AB (eF l (gU l full)) (λ_ r=>Inc r/\∀x∈r,bP l x=true) (λr=>some r) ⟨.nil,λx q=>absurd q H9⟩]
 ·rw[amE]
 ·intro k r i h u;have z:bP l (gU l full)[i]=true:=(O6.1 (EU h)).2;have O:=lT u.1 u.2;have g:=a1y (gU l full) (chainOf l [(gU l full)[i]]) (put r (gU l full)[i]) (TP u.1);refine⟨?_,?_⟩
  ·unfold eF;cases Qi (ev l (gU l full)[i])with
   |false=>exact u
   |true=>
    refine⟨g.1,λx q=>?_⟩;rcases(g.2 x).1 q with h3|h3
    ·rcases Xc.1 h3 with h3|rfl
     ·exact u.2 x h3
     exact z
    exact(O6.1 h3.2).2
  unfold aJ4 a0K;rw[Ch h,MI l _ AB];simp only[Ac];rw[acZ,CQ h];simp only[Ac];rw[mP _ _ AB];simp only[Ac];rw[aDg l _ hl hs.anG BU];simp only[Ac];unfold eF;show(cond (Qi (ev l (gU l full)[i])) _ _)=_;cases Qi (ev l (gU l full)[i])with
  |false=>rfl
  |true=>
   simp only[BZ];have hc:=jH l [(gU l full)[i]];unfold aOw
   rw[Iy (chainOf l [(gU l full)[i]]) AB (gI (gU l full)) (λ_ r=>Inc r/\∀x∈r,bP l x=true) (λr=>k r (Au ((i:Int)+1))) ⟨TP u.1,λx q=>by
    rcases Xc.1 q with h3|rfl
    ·exact u.2 x h3
    exact z⟩]
   ·intro k2 U j J I;have Y:=lT I.1 I.2;refine⟨?_,?_⟩
    ·unfold gI;cases Z:EP (gU l full) (chainOf l [(gU l full)[i]])[j]with
     |false=>exact I
     |true=>
      refine⟨TP I.1,λx q=>?_⟩;rcases Xc.1 q with h3|rfl
      ·exact I.2 x h3
      exact(O6.1 (La.1 Z)).2
    unfold aIG a8z;rw[Ch J,Xw _ _ AB,CQ J];simp only[Ac];rw[mP _ _ AB];unfold gI;cases EP (gU l full) (chainOf l [(gU l full)[i]])[j]<;>rfl
   intro k2 U _;unfold aIG a0K;rw[EJ]
 intro k r _;unfold aJ4;rw[EJ]
def a4L l full:(Xz l full).length<=l.length:=
 lT (aRo l full) λx j=>by
  rcases(a9y.1 j).2 with h|h
  ·unfold Y0 at h;rw[Di]at h;exact h.1
  exact h.bP
def GV (l:AA AQ)(id:Int):SX:=⟨id,a7f l (ev l id),(ev l id).Time,chainOf l [id]⟩
def dz (l:AA AQ)(left:AA Int)(x:Int):AY:= !left.any λy=>EP (chainOf l [x]) y
def jI (a b:SX):AY:=bif a.Ua != b.Ua then decide (a.Ua>b.Ua)else decide (a.Dv<b.Dv)
def IV (l:AA AQ)(left:AA Int)(b:AL Int)(x:Int):AL Int:=bif dz l left x&&(match b with |none=>true|some y=>jI (GV l x) (GV l y))then some x else b
def Um (l:AA AQ)(left:AA Int):AL Int:=left.foldl (IV l left) none
def tC (l:AA AQ):Nat->AA Int->AA Int
 |0,_=>[]
 |n+1,left=>match Um l left with
  |none=>[]
  |some b=>b::tC l n (left.filter (· != b))
theorem aRR l:∀ids:AA Int,ids.flatMap (λid=>bif bP l id then[GV l id]else[])=(ids.filter (bP l)).map (GV l)
 | []=>
  rfl
 |i::ids=>by
  rw[Oj,aRR l ids,UY]
  grind
theorem af4 l ids(hl:l.length<=1000)(hs:EZ l)(hi:ids.length<=100000):a2b l ids=some ((gU l ids).map (GV l)):=by
 unfold a2b;rw[kJ ids AB];simp only[Ac];have hsl:=OE ids;unfold aNX;rw[Iy (a0:=[]) (FY ids) AB (λr id=>r++bif bP l id then[GV l id]else[]) (λi r=>r.length<=i) (λr=>some r) (ER _)]
 ·rw[foldl_append (λid=>bif bP l id then[GV l id]else[]),Ir,aRR];rfl
 ·intro k r i h z;refine⟨?_,?_⟩
  ·grind
  unfold aIH a8s;rw[Ch h,OD l _ AB];simp only[Ac];unfold bP;cases j:Eh l (FY ids)[i]with
  |none=>
   rw[SC j];simp
  |some e=>
   have u:=hs e (Jf j);have q:ev l (FY ids)[i]=e:=by unfold ev;rw[Ou j]
   rw[Ou j];simp only[BZ,Option.isSome_some];rw[aeJ l e hl hs u.auth,aFR l _ hl hs.anG BU];simp only[Ac];rw[Dw G7];unfold GV;rw[q];rfl
 intro k r _;unfold aIH;rw[EJ]
theorem aVx l left:∀(c:AA Int) (b:AL Int) {x:Int},c.foldl (IV l left) b=some x->b=some x\/x∈c
 | [],b,x,h=>.inl h
 |y::c,b,x,h=>by
  rw[Gf]at h;rcases aVx l left c _ h with h1|h1
  ·have key:∀c:AY,(cond c (some y) b)=some x->b=some x\/x=y:=λc j=>by
    grind
   rcases key _ h1 with h2|h2
   ·exact .inl h2
   grind
  grind
variable {left:AA Int}
def adt {x}(h:Um l left=some x):x∈left:=by
 rcases aVx l left left none h with h|h
 ·cases h
 exact h
variable {j:Nat}
theorem aQT (u:left.Nodup)(z:j<left.length):left.take j++left.drop (j+1)=left.filter (· != left[j]):=by
 have e:left=left.take j++left[j]::left.drop (j+1):=by rw[←Nc z,Vf]
 have q:(left.take j++left[j]::left.drop (j+1)).Nodup:=by rw[←e];exact u
 have h1:=rM.1 q;have h2:=KX.1 h1.2.1
 have J:(left.take j).filter (· != left[j])=left.take j:=pU.2 λx I=>by
  grind
 have L:(left.drop (j+1)).filter (· != left[j])=left.drop (j+1):=pU.2 λx I=>by
  grind
 grind
def aRr (q:left.Nodup){b}(u:b∈left):(left.filter (· != b)).length+1=left.length:=by
 obtain⟨j,z,rfl⟩:=GY u;rw[←aQT q z,Ef,Hl,Lh];omega
def akx (h:Inc left)b:PY left [b]=left.filter (· != b):=by
 unfold PY;rw[aY5 h];congr 1;funext x;by_cases e:x=b
 ·subst e;simp[EP]
 simp[EP,e]
theorem acs l(hl:l.length<=1000):∀(m:Nat) (left q:AA Int) (N:Nat),left.length=m->Inc left->(∀x∈left,bP l x=true)->q.length+left.length<=1000000->m<N->aQ Yu N (left.map (GV l)) q=some (q++tC l m left):=by
 intro m
 induction m with
 |zero=>
  intro left q N hm hi hk hacc hN;obtain⟨N,rfl⟩:∃N',N=N'+1:=⟨N-1,AB⟩
  have :left=[]:=Hu hm;subst this;show Yu _ _ _=_;unfold Yu tC;simp
 |succ m ih=>
  intro left q N hm hi hk hacc hN;obtain⟨N,rfl⟩:∃N',N=N'+1:=⟨N-1,AB⟩
  have hll:=lT hi hk;refine dK.eq ?_;show dK (Yu (aQ Yu N) _ _) _;have ih':=λleft' acc' h1 h2 h3 h4=>ih left' acc' N h1 h2 h3 h4 AB;generalize aQ Yu N=K at ih';unfold Yu;rw[show decide (((left.map (GV l)).length:Int)>0)=true by rw[DY];simp;omega];simp only[BZ];unfold aPK;refine Sm (body:=aKq (left.map (GV l)) K) (λm2 a b c=>∃i:Nat,b=i/\i+m2=left.length/\c=q/\((a= -1/\(left.take i).foldl (IV l left) none=none)\/∃(j:Nat) (I:j<left.length),a=(j:Int)/\(left.take i).foldl (IV l left) none=some left[j])) ?_ Am left.length (-1) 0 q (fuel_lt AB) ⟨0,rfl,AB,rfl,.inl ⟨rfl,rfl⟩⟩;rintro m2 a b c k ⟨i,rfl,hm2,rfl,hI⟩ J;unfold aKq;by_cases M:i<left.length
  ·have U:i<(left.map (GV l)).length:=by rw[DY];exact M
   rw[dec_lt U,CQ U,P9];simp only[BZ,Ac]
   have hst:(left.take (i+1)).foldl (IV l left) none=IV l left ((left.take i).foldl (IV l left) none) left[i]:=by
    rw[MX M,Uw];rfl
   unfold aU7;have hc:=jH l [left[i]]
   have hin:∀(k2:Int->Int->AA Int->AL (AA Int)),aQ (ZH (left.map (GV l)) (GV l left[i]) k2 (i:Int) a) Am 0 c=bif dz l left left[i]then(cond (a<0) (Zk k2 (i:Int) a true c) ((Ak (left.map (GV l)) a).bind λx27=>(dU (GV l left[i]) x27).bind λx28=>Zk k2 (i:Int) a x28 c))else fU k2 (i:Int) a c:=by
    intro k2
    have key:∀n (j:Nat),j+n=left.length->∀m,n<m->aQ (ZH (left.map (GV l)) (GV l left[i]) k2 (i:Int) a) m (j:Int) c=bif !(left.drop j).any (λy=>EP (chainOf l [left[i]]) y)then(cond (a<0) (Zk k2 (i:Int) a true c) ((Ak (left.map (GV l)) a).bind λx27=>(dU (GV l left[i]) x27).bind λx28=>Zk k2 (i:Int) a x28 c))else fU k2 (i:Int) a c:=by
     intro n
     induction n with
     |zero=>
      intro j I m hm;obtain⟨m,rfl⟩:∃m',m=m'+1:=⟨m-1,AB⟩
      have :j=left.length:=AB
      subst this;show ZH _ _ _ _ _ _ _ _=_;unfold ZH;rw[show decide ((left.length:Int)<((left.map (GV l)).length:Int))=false by rw[DY];exact DR _,PN];rfl
     |succ n ihn=>
      intro j I m hm;obtain⟨m,rfl⟩:∃m',m=m'+1:=⟨m-1,AB⟩
      have hjl:j<left.length:=AB
      have aNe:j<(left.map (GV l)).length:=by rw[DY];exact hjl
      have Y:=ihn (j+1) AB m AB;show ZH _ _ _ _ _ (aQ _ m) _ _=_;generalize aQ (ZH (left.map (GV l)) (GV l left[i]) k2 (i:Int) a) m=L at Y;unfold ZH;rw[Ch aNe,P9];show((rG (chainOf l [left[i]]) left[j]).bind _)=_;rw[aQa _ _ AB,wrap_succ j AB,Nc hjl,List.any_cons];simp only[Ac];cases EP (chainOf l [left[i]]) left[j]with
      |true=>
       rfl
      |false=>
       simp only[BH,RY];exact Y
    exact key left.length 0 AB Am (fuel_lt AB)
   rw[hin];have hw:=wrap_succ i AB;unfold Zk fU;rw[hw];cases O:dz l left left[i]with
   |false=>
    simp only[BH];refine J (m2-1) _ _ _ AB ⟨i+1,rfl,AB,rfl,?_⟩;have e:IV l left ((left.take i).foldl (IV l left) none) left[i]=(left.take i).foldl (IV l left) none:=by unfold IV;rw[O];rfl
    rw[hst,e];exact hI
   |true=>
    simp only[BZ];rcases hI with⟨rfl,Z⟩|⟨j,I,rfl,Z⟩
    ·rw[show decide ((-1:Int)<0)=true by decide];simp only[BZ];refine J (m2-1) _ _ _ AB ⟨i+1,rfl,AB,rfl,.inr ⟨i,M,rfl,?_⟩⟩;rw[hst,Z];unfold IV;rw[O];rfl
    have u:j<(left.map (GV l)).length:=by rw[DY];exact I
    rw[show decide ((j:Int)<0)=false by simp,CQ u,P9];simp only[BH,Ac]
    have e1:dU (GV l left[i]) (GV l left[j])=some (jI (GV l left[i]) (GV l left[j])):=by
     unfold dU jI
     grind
    rw[e1];simp only[Ac];cases ha:jI (GV l left[i]) (GV l left[j])with
    |true=>
     simp only[BZ];refine J (m2-1) _ _ _ AB ⟨i+1,rfl,AB,rfl,.inr ⟨i,M,rfl,?_⟩⟩;rw[hst,Z];unfold IV;rw[O];simp only[ha];rfl
    |false=>
     simp only[BH];refine J (m2-1) _ _ _ AB ⟨i+1,rfl,AB,rfl,.inr ⟨j,I,rfl,?_⟩⟩;rw[hst,Z];unfold IV;rw[O];simp only[ha];rfl
  have hie:i=left.length:=AB
  subst hie;rw[show decide ((left.length:Int)<((left.map (GV l)).length:Int))=false by rw[DY];exact DR _];simp only[BH];rw[Gw]at hI;have z:tC l (m+1) left=match Um l left with |none=>[]|some b=>b::tC l m (left.filter (· != b)):=rfl
  rcases hI with⟨rfl,Z⟩|⟨j,I,rfl,Z⟩
  ·rw[show decide ((-1:Int)<0)=true by decide];refine .ret ?_;have h1:Um l left=none:=Z;rw[z,h1];simp
  have u:j<(left.map (GV l)).length:=by rw[DY];exact I
  rw[show decide ((j:Int)<0)=false by simp,CQ u,P9];simp only[BH,Ac];have h1:Um l left=some left[j]:=Z;rw[Dw G7];simp only[Ac];rw[xK (Nat.le_of_lt u),wrap_succ j AB,YD u];simp only[Ac];rw[Dw (by rw[Hl,Lh,DY];omega)];simp only[Ac]
  have e2:(left.map (GV l)).take j++(left.map (GV l)).drop (j+1)=(left.filter (· != left[j])).map (GV l):=by
   rw[←aQT (UD hi) I,JY,Yw,iU]
  rw[e2];have hwl:=aRr (UD hi) (EU I);rw[ih' (left.filter (· != left[j])) (c++[(GV l left[j]).nY]) AB (hi.sublist Vd) (λx hx=>hk x ((Hg.1 hx).1)) VH];refine .ret ?_;rw[z,h1,JK];rfl
def abO l ids(hl:l.length<=1000)(hs:EZ l)(hi:ids.length<=100000):a2Z l ids=some (tC l (gU l ids).length (gU l ids)):=by
 have q:(gU l ids).length<=l.length:=lT (kW l ids) λx j=>(O6.1 j).2;unfold a2Z;rw[af4 l ids hl hs hi];simp only[Ac];unfold aTf;rw[acs l hl _ (gU l ids) [] Am rfl (kW l ids) (λx j=>(O6.1 j).2) QD (fuel_lt AB)];rfl
def aYX l left x(hl:l.length<=1000)(hs:EZ l)(j:left.length<=100000):a2B l left x=some (dz l left x):=by
 unfold a2B;rw[aDg l _ hl hs.anG BU];simp only[Ac];have q:=jH l [x];unfold aQ8;rw[H7 (chainOf l [x]) (fuel_lt AB) (λy=>EP left y) false (some true)]
 ·unfold dz
  have e:(chainOf l [x]).any (λy=>EP left y)=left.any λy=>EP (chainOf l [x]) y:=by
   rw[Oz,Ja,Ja];simp only[La];exact⟨λ⟨y,a,b⟩=>⟨y,b,a⟩,λ⟨y,a,b⟩=>⟨y,b,a⟩⟩
  rw[e];cases left.any λy=>EP (chainOf l [x]) y<;>rfl
 ·intro k i h;unfold aBP;rw[Ch h,Xw _ _ AB];simp only[Ac]
 intro k;unfold aBP;rw[EJ]
def aHp {R A B C D}{Q:R->Prop}{body}(I:Nat->A->B->C->D->Prop)(hs:∀m a b c d k,I m a b c d->(∀j a' q u z,j<m->I j a' q u z->dK (k a' q u z) Q)->dK (body k a b c d) Q):
 ∀n m a b c d,m<n->I m a b c d->dK (XM body n a b c d) Q
 |0,m,_,_,_,_,h,_=>AB
 |n+1,m,a,b,c,d,h,hi=>hs m a b c d _ hi λj a' q u z h' J=>aHp I hs n j a' q u z AB J
def J7 {x}(h:bP l x=true):Eh l x=some (ev l x)/\(ev l x).Id=x:=by
 unfold bP at h;obtain⟨e,j⟩:=SB.1 h;have :ev l x=e:=by unfold ev;rw[Ou j]
 rw[this];exact⟨j,a5B j⟩
theorem aaG l x y(hl:l.length<=1000)(hs:EZ l)(j:bP l x=true)(q:bP l y=true)(u:y<x):a5h l (ev l x) (ev l y)=some (jI (GV l x) (GV l y)):=by
 obtain⟨z,J⟩:=J7 j;obtain⟨I,L⟩:=J7 q;unfold a5h;rw[aVh l _ hl hs (hs _ (Jf z)).auth,aVh l _ hl hs (hs _ (Jf I)).auth];simp only[Ac];unfold jI GV
 grind
def aZ3 l(hl:l.length<=1000)(hs:EZ l):∀(m:Nat) (left q:AA Int) (N:Nat),left.length=m->Inc left->(∀x∈left,bP l x=true)->q.length+left.length<=1000000->m<N->aQ (aF l) N left q=some (q++tC l m left):=by
 intro m
 induction m with
 |zero=>
  intro left q N hm hi Y hacc hN;obtain⟨N,rfl⟩:∃N',N=N'+1:=⟨N-1,AB⟩
  have :left=[]:=Hu hm;subst this;show aF _ _ _ _=_;unfold aF tC;simp
 |succ m ih=>
  intro left q N hm hi Y hacc hN;obtain⟨N,rfl⟩:∃N',N=N'+1:=⟨N-1,AB⟩
  have hll:=lT hi Y;refine dK.eq ?_;show dK (aF l (aQ (aF l) N) _ _) _;have ih':=λO acc' h1 h2 h3 h4=>ih O acc' N h1 h2 h3 h4 AB;generalize aQ (aF l) N=K at ih';unfold aF;rw[show decide ((left.length:Int)>0)=true by simp;omega];simp only[BZ];unfold aUX;refine aHp (body:=aDq left l K) (λZ a b c d=>∃i:Nat,b=i/\i+Z=left.length/\c=q/\((a=false/\(left.take i).foldl (IV l left) none=none)\/∃(j:Nat) (J:j<left.length),j<i/\a=true/\d=ev l left[j]/\(left.take i).foldl (IV l left) none=some left[j])) ?_ Am left.length false 0 q Eo (fuel_lt AB) ⟨0,rfl,AB,rfl,.inl ⟨rfl,rfl⟩⟩;rintro Z a b c d k ⟨i,rfl,hm2,rfl,hI⟩ L;unfold aDq;by_cases u:i<left.length
  ·rw[dec_lt u,CQ u];simp only[BZ,Ac];rw[MI l _ AB];simp only[Ac];rw[aYX l left _ hl hs AB];simp only[Ac]
   have hst:(left.take (i+1)).foldl (IV l left) none=IV l left ((left.take i).foldl (IV l left) none) left[i]:=by
    rw[MX u,Uw];rfl
   unfold aBA;rw[wrap_succ i AB];cases M:dz l left left[i]with
   |false=>
    simp only[BH,Ac];refine L (Z-1) _ _ _ _ AB ⟨i+1,rfl,AB,rfl,?_⟩;have e:IV l left ((left.take i).foldl (IV l left) none) left[i]=(left.take i).foldl (IV l left) none:=by unfold IV;rw[M];rfl
    rw[hst,e];rcases hI with z|⟨j,J,U,z⟩
    ·exact .inl z
    exact .inr ⟨j,J,AB,z⟩
   |true=>
    simp only[BZ];rcases hI with⟨rfl,z⟩|⟨j,J,U,rfl,rfl,z⟩
    ·simp only[JZ,BZ,Ac];refine L (Z-1) _ _ _ _ AB ⟨i+1,rfl,AB,rfl,.inr ⟨i,u,AB,rfl,rfl,?_⟩⟩;rw[hst,z];unfold IV;rw[M];rfl
    simp only[Eu,BH];have hlt2:left[j]<left[i]:=JU.1 hi j i J u U;have e1:=aaG l left[i] left[j] hl hs (Y _ (EU u)) (Y _ (EU J)) hlt2;rw[show(Ii l left[i]).1=ev l left[i]from rfl,e1];simp only[Ac];cases ha:jI (GV l left[i]) (GV l left[j])with
    |true=>
     simp only[BZ];refine L (Z-1) _ _ _ _ AB ⟨i+1,rfl,AB,rfl,.inr ⟨i,u,AB,rfl,rfl,?_⟩⟩;rw[hst,z];unfold IV;rw[M];simp only[ha];rfl
    |false=>
     simp only[BH];refine L (Z-1) _ _ _ _ AB ⟨i+1,rfl,AB,rfl,.inr ⟨j,J,AB,rfl,rfl,?_⟩⟩;rw[hst,z];unfold IV;rw[M];simp only[ha];rfl
  have hie:i=left.length:=AB
  subst hie;rw[DR];simp only[BH];rw[Gw]at hI;have I:tC l (m+1) left=match Um l left with |none=>[]|some b=>b::tC l m (left.filter (· != b)):=rfl
  rcases hI with⟨rfl,z⟩|⟨j,J,U,rfl,rfl,z⟩
  ·refine .ret ?_;have h1:Um l left=none:=z;rw[I,h1];simp
  simp only[Eu,BH];have h1:Um l left=some left[j]:=z;have hid:=(J7 (Y _ (EU J))).2;rw[hid,Dw G7];simp only[Ac];rw[a3B _ _ AB BU,akx hi];simp only[Ac];have hwl:=aRr (UD hi) (EU J);rw[ih' (left.filter (· != left[j])) (c++[left[j]]) AB (hi.sublist Vd) (λx hx=>Y x ((Hg.1 hx).1)) VH];refine .ret ?_;rw[I,h1,JK];rfl
def adM l ids(hl:l.length<=1000)(hs:EZ l)(hi:ids.length<=100000):a2S l ids=some (tC l (gU l ids).length (gU l ids)):=by
 have q:(gU l ids).length<=l.length:=lT (kW l ids) λx j=>(O6.1 j).2;unfold a2S;rw[aOH l ids hl hi];simp only[Ac];unfold aOe;rw[aZ3 l hl hs _ (gU l ids) [] Am rfl (kW l ids) (λx j=>(O6.1 j).2) QD (fuel_lt AB)];rfl
theorem aHO l:∀(n:Nat) (left:AA Int) {x:Int},x∈tC l n left->x∈left
 |0,_,_,h=>absurd h H9
 |n+1,left,x,h=>by
  unfold tC at h;cases j:Um l left with
  |none=>
   grind
  |some b=>
   rw[j]at h;rcases FP.1 h with rfl|h
   ·exact adt j
   exact(Hg.1 (aHO l n _ h)).1
def aUP l:∀(n:Nat) (left:AA Int),(tC l n left).length<=n
 |0,_=>ER _
 |n+1,left=>by
  unfold tC;cases Um l left with
  |none=>exact FQ _
  |some b=>have :=aUP l n (left.filter (· != b));simp only[Gh];omega
def QJ (l:AA AQ)(e:AQ):Option Int:=e.bI.find? λid=>bP l id&&(ev l id).Kind==3
def kX (l:AA AQ)(e:AQ):Int×AY:=match QJ l e with |some x=>(x,true)|none=>(0,false)
def aXA l e(hl:l.length<=1000)(j:e.bI.length<=40):a1H l e=some (kX l e):=by
 unfold a1H aVQ;rw[Jh e.bI (fuel_lt AB) (λid=>bP l id&&(ev l id).Kind==3) (λi=>some (match e.bI[i]? with |some x=>(x,true)|none=>(0,false))) (some (0,false))]
 ·unfold kX QJ;rw[Kw];by_cases h:e.bI.findIdx (λid=>bP l id&&(ev l id).Kind==3)<e.bI.length
  ·rw[ET h]
  rw[Ee h,Oe AB]
 ·intro k i h;unfold aIC;rw[Ch h,OD l _ AB,ES h];simp only[Ac];unfold bP ev;rw[MF];cases(Eh l e.bI[i]).isSome<;>rfl
 intro k;unfold aIC;rw[EJ]
def adn l e(hl:l.length<=1000)(j:e.bI.length<=40):a3D l e=some (kX l e):=by
 unfold a3D aVK;rw[Jh e.bI (fuel_lt AB) (λid=>bP l id&&(ev l id).Kind==3) (λi=>some (match e.bI[i]? with |some x=>(x,true)|none=>(0,false))) (some (0,false))]
 ·unfold kX QJ;rw[Kw];by_cases h:e.bI.findIdx (λid=>bP l id&&(ev l id).Kind==3)<e.bI.length
  ·rw[ET h]
  rw[Ee h,Oe AB]
 ·intro k i h;unfold aGK;rw[Ch h,MI l _ AB,ES h,CQ h];simp only[Ac];unfold bP ev;rw[MF];cases(Eh l e.bI[i]).isSome<;>rfl
 intro k;unfold aGK;rw[EJ]
def Dj (l:AA AQ):Nat->AA Int->Int->AA Int
 |0,seen,_=>seen
 |n+1,seen,id=>bif EP seen id|| !bP l id then seen else match QJ l (ev l id)with
  |none=>seen++[id]
  |some x=>Dj l n (seen++[id]) x
def ZW (l:AA AQ)(id:Int):AA Int:=Dj l l.length [] id
structure WE (l:List AQ) (seen:List Int):Prop where
 nodup:seen.Nodup
 known:∀x∈seen,bP l x=true
variable {seen:AA Int}
def WE.length (h:WE l seen):seen.length<=l.length:=by
 rw[←(VG seen).length_eq,aSb h.nodup];exact lT (Nz _) λx j=>h.known x (MR.1 j)
theorem WE.snoc (h:WE l seen){id}(h1:id∉seen)(h2:bP l id=true):WE l (seen++[id]):=by
 refine⟨rM.2 ⟨h.nodup,BU,λa ha b q=>?_⟩,λx j=>?_⟩
 ·grind
 rcases Ia.1 j with j|j
 ·exact h.known x j
 grind
def aTq l:∀(n:Nat) (seen:AA Int) (id:Int),WE l seen->WE l (Dj l n seen id)
 |0,_,_,h=>h
 |n+1,seen,id,h=>by
  unfold Dj;cases j:EP seen id|| !bP l id with
  |true=>exact h
  |false=>
   rw[a6m,Pz]at j;have h2:=h.snoc j.1 (by simpa using j.2);simp only[BH];cases QJ l (ev l id)with
   |none=>exact h2
   |some x=>exact aTq l n _ x h2
def aNF l:∀(n:Nat) (seen:AA Int) (id:Int),∃t,Dj l n seen id=seen++t
 |0,seen,_=>⟨[],by simp[Dj]⟩
 |n+1,seen,id=>by
  unfold Dj;cases EP seen id|| !bP l id with
  |true=>exact⟨[],BU⟩
  |false=>
   simp only[BH];cases QJ l (ev l id)with
   |none=>exact⟨[id],rfl⟩
   |some x=>
    obtain⟨t,j⟩:=aNF l n (seen++[id]) x;exact⟨id::t,by simp only[j,JK];rfl⟩
def aNQ l id:(ZW l id).length<=l.length:=(aTq l _ [] id ⟨aZ,λx j=>absurd j H9⟩).length
def ajt l(hl:l.length<=1000)(hs:EZ l)Y Z:∀(m:Nat) (seen:AA Int) (id:Int) (N:Nat),seen.length+m=l.length->WE l seen->m<N->HY Zb N seen seen Y Z id l=some (Dj l m seen id):=by
 intro m
 induction m with
 |zero=>
  intro seen id N hm u hN;obtain⟨N,rfl⟩:∃N',N=N'+1:=⟨N-1,AB⟩
  have I:=u.length;show Zb _ _ _ _ _ _ _=_;unfold Zb;rw[a0j _ _ AB,OD l _ AB];simp only[Ac];rw[MF];cases J:EP seen id with
  |true=>rfl
  |false=>
   cases q:(Eh l id).isSome with
   |false=>rfl
   |true=>
    have h2:=(u.snoc (Pz.1 J) q).length;simp only[Ef,OC]at h2;omega
 |succ m ih=>
  intro seen id N hm u hN;obtain⟨N,rfl⟩:∃N',N=N'+1:=⟨N-1,AB⟩
  have I:=u.length;show Zb (HY Zb N) _ _ _ _ _ _=_;have z:=λj L h1 h2=>ih j L N h1 h2 AB;generalize HY Zb N=K at z;unfold Zb Dj;rw[a0j _ _ AB,OD l _ AB];simp only[Ac];rw[MF];cases J:EP seen id with
  |true=>rfl
  |false=>
   cases q:(Eh l id).isSome with
   |false=>rw[show bP l id=false from q];rfl
   |true=>
    obtain⟨e,U⟩:=SB.1 q;rw[show bP l id=true from q];simp only[JZ,Eu,Nv,BZ,BH];rw[Dw G7];simp only[Ac];unfold a8W;simp only[BH];rw[Dw G7];simp only[Ac];have M:(Ii l id).1=ev l id:=rfl
    have O:(ev l id).bI.length<=40:=by
     have :ev l id=e:=by unfold ev;rw[Ou U]
     rw[this];exact(hs e (Jf U)).auth
    rw[M,aXA l _ hl O];simp only[Ac];unfold kX;cases QJ l (ev l id)with
    |none=>rfl
    |some x=>exact z (seen++[id]) x VH (u.snoc (Pz.1 J) q)
def ake l id(hl:l.length<=1000)(hs:EZ l):a3d l id=some (ZW l id):=by
 unfold a3d uU aPi;exact ajt l hl hs [] [] l.length [] id Am BU ⟨aZ,λx j=>absurd j H9⟩ (fuel_lt AB)
def aiO l(hl:l.length<=1000)(hs:EZ l):∀(m:Nat) (seen:AA Int) (id:Int) (i N:Nat),i+m=l.length->seen.length<=i->m<N->iG (bK l) N seen id (i:Int)=some (Dj l m seen id):=by
 intro m
 induction m with
 |zero=>
  intro seen id i N hm M O;obtain⟨N,rfl⟩:∃N',N=N'+1:=⟨N-1,AB⟩
  have :i=l.length:=AB
  subst this;show bK _ _ _ _ _=_;unfold bK;rw[DR];rfl
 |succ m U=>
  intro seen id i N hm M O;obtain⟨N,rfl⟩:∃N',N=N'+1:=⟨N-1,AB⟩
  show bK _ (iG (bK l) N) _ _ _=_;have q:=λj u Y h1 h2=>U j u Y N h1 h2 AB;generalize iG (bK l) N=K at q;unfold bK Dj;rw[dec_lt AB,MI l _ AB,Xw _ _ AB];simp only[BZ,Ac];rw[MF];cases z:(Eh l id).isSome with
  |false=>rw[show bP l id=false from z];cases EP seen id<;>rfl
  |true=>
   rw[show bP l id=true from z];cases Z:EP seen id with
   |true=>rfl
   |false=>
    obtain⟨e,L⟩:=SB.1 z;simp only[Eu,Nv,BH,Ac];rw[Dw G7];simp only[Ac];have I:(Ii l id).1=ev l id:=rfl
    have J:(ev l id).bI.length<=40:=by
     have :ev l id=e:=by unfold ev;rw[Ou L]
     rw[this];exact(hs e (Jf L)).auth
    rw[I,adn l _ hl J,wrap_succ i AB];simp only[Ac];unfold kX;cases QJ l (ev l id)with
    |none=>rfl
    |some x=>exact q (seen++[id]) x (i+1) AB VH
def aRU l id(hl:l.length<=1000)(hs:EZ l):uJ l id=some (ZW l id):=by
 unfold uJ aOt;exact aiO l hl hs l.length [] id 0 Am BU (ER _) (fuel_lt AB)
def iJ (j way:AA Int):Int:=match way.find? (EP j)with |some x=>((j.findIdx (· ==x):Nat):Int)|none=>(j.length:Int)
def TJ (l:AA AQ)(j:AA Int)(id:Int):Int:=iJ j (ZW l id)
theorem ai3 l j(hl:l.length<=1000)(hs:EZ l)(hm:j.length<=100000):∀(m:Nat) (seen:AA Int) (z id:Int) (N:Nat),seen.length+m=l.length->WE l seen->seen.find? (EP j)=none->m<N->Ed ZO N seen j z id l=some (iJ j (Dj l m seen id)):=by
 have q:∀seen:AA Int,seen.find? (EP j)=none->iJ j seen=(j.length:Int):=λseen h=>by unfold iJ;rw[h]
 intro m
 induction m with
 |zero=>
  intro seen z id N hm M O hN;obtain⟨N,rfl⟩:∃N',N=N'+1:=⟨N-1,AB⟩
  have hwl:=M.length;show ZO _ _ _ _ _ _=_;unfold ZO;rw[a0j _ _ AB,OD l _ AB];simp only[Ac];rw[MF];have he:iJ j (Dj l 0 seen id)=(j.length:Int):=q seen O;rw[he];cases U:EP seen id with
  |true=>
   rfl
  |false=>
   cases L:(Eh l id).isSome with
   |false=>
    rfl
   |true=>
    have h2:=(M.snoc (Pz.1 U) L).length;simp only[Ef,OC]at h2;omega
 |succ m ih=>
  intro seen z id N hm M O hN;obtain⟨N,rfl⟩:∃N',N=N'+1:=⟨N-1,AB⟩
  have hwl:=M.length;show ZO (Ed ZO N) _ _ _ _ _=_;have Y:=λJ z' id' h1 h2 h3=>ih J z' id' N h1 h2 h3 AB;generalize Ed ZO N=K at Y;unfold ZO xu;rw[a0j _ _ AB,OD l _ AB,aVy _ _ AB];simp only[Ac];rw[MF];have Z:Dj l (m+1) seen id=bif EP seen id|| !bP l id then seen else match QJ l (ev l id)with |none=>seen++[id]|some x=>Dj l m (seen++[id]) x:=rfl
  cases U:EP seen id with
  |true=>
   grind
  |false=>
   cases L:(Eh l id).isSome with
   |false=>
    rw[Z,U,show bP l id=false from L];simp only[RY,JZ,BZ];rw[q seen O]
   |true=>
    obtain⟨e,he⟩:=SB.1 L;rw[Z,U,show bP l id=true from L];simp only[JZ,Eu,Nv,BZ,BH];have u:=aW6 j id;by_cases I:j.findIdx (· ==id)<j.length
    ·rw[ET I,show decide (((j.findIdx (· ==id):Nat):Int)>=0)=true by simp];simp only[BZ];rw[IX I]at u
     have hex:∃t,(match QJ l (ev l id)with |none=>seen++[id]|some x=>Dj l m (seen++[id]) x)=seen++[id]++t:=by
      cases QJ l (ev l id)with
      |none=>
       exact⟨[],BU⟩
      |some x=>
       exact aNF l m (seen++[id]) x
     obtain⟨t,ht⟩:=hex;rw[ht];unfold iJ;rw[aFQ,aFQ,O];simp[←u]
    rw[Ee I,show decide ((-1:Int)>=0)=false by decide];simp only[BH];rw[G6 I]at u;rw[Dw G7];simp only[Ac];have hev:(Ii l id).1=ev l id:=rfl
    have hea:(ev l id).bI.length<=40:=by
     have :ev l id=e:=by unfold ev;rw[Ou he]
     rw[this];exact(hs e (Jf he)).auth
    have hf2:(seen++[id]).find? (EP j)=none:=by rw[aFQ,O];simp[←u]
    rw[hev,aXA l _ hl hea];simp only[Ac];unfold kX;cases QJ l (ev l id)with
    |none=>
     grind
    |some x=>
     exact Y (seen++[id]) z x VH (M.snoc (Pz.1 U) L) hf2
def ajr l j id(hl:l.length<=1000)(hs:EZ l)(hm:j.length<=100000):a4f l j id=some (TJ l j id):=by
 unfold a4f uU aQU;exact ai3 l j hl hs hm l.length [] 0 id Am BU ⟨aZ,λx q=>absurd q H9⟩ rfl (fuel_lt AB)
theorem ab5 l x(h:l.length<=100000):a3V l x=some ((l.findIdx (· ==x):Nat):Int):=by
 unfold a3V aUN;rw[Jh l (fuel_lt AB) (· ==x) (λi=>some (i:Int)) (some (l.length:Int))]
 ·grind
 ·intro k i hi;unfold aHU;rw[Ch hi]
 intro k;unfold aHU;rw[EJ]
theorem aSe l j id(hl:l.length<=1000)(hs:EZ l)(hm:j.length<=100000):xq l j id=some (TJ l j id):=by
 unfold xq;rw[aRU l id hl hs];simp only[Ac];have q:=aNQ l id;unfold aUO TJ iJ;generalize ZW l id=W at q;rw[Jh W (fuel_lt AB) (EP j) (λi=>some (match W[i]? with |some x=>((j.findIdx (· ==x):Nat):Int)|none=>0)) (some (j.length:Int))]
 ·rw[Kw]
  grind
 ·intro k i h;unfold aHk;rw[Ch h,Xw _ _ AB,CQ h,ES h];simp only[Ac];rw[ab5 _ _ hm];rfl
 intro k;unfold aHk;rw[EJ]
def Fa (l:AA AQ)(j:AA Int)(id:Int):MZ:=⟨id,TJ l j id,(ev l id).Time⟩
def a0F (x:MZ):Int×Int×Int:=(x.nY,x.Af,x.Dv)
def Iz (x y:MZ):AY:=N9 (a0F x) (a0F y)
def Bg (l:AA AQ)(j ids:AA Int):AA Int:=(SA Iz ((ids.filter (bP l)).map (Fa l j))).map (·.nY)
theorem aV3 l j:∀ids:AA Int,ids.flatMap (λid=>bif bP l id then[Fa l j id]else[])=(ids.filter (bP l)).map (Fa l j)
 | []=>
  rfl
 |i::ids=>by
  rw[Oj,aV3 l j ids,UY]
  grind
def aYx s(hs:s.length<=1000000)(z:(s.map (·.nY)).Nodup):qj s=some s:=by
 unfold qj;by_cases h2:s.length<2
 ·rw[show decide ((s.length:Int)<2)=true by simp;omega];rfl
 rw[show decide ((s.length:Int)<2)=false by simp;omega];simp only[BH];unfold aTX;refine dK.eq ?_;refine ZX (body:=a3H) (λm a b=>∃i:Nat,a=i/\i+m=s.length/\0<i/\b=s) ?_ Am (s.length-1) 1 s (fuel_lt AB) ⟨1,rfl,AB,AB,rfl⟩;rintro m a b k ⟨i,rfl,hm,hi,rfl⟩ I;unfold a3H;by_cases j:i<b.length
 ·rw[dec_lt j,CQ j];simp only[BZ,Ac];have w:Au ((i:Int)-1)=((i-1:Nat):Int):=OW
  have q:i-1<b.length:=AB
  rw[w,CQ q];simp only[Ac]
  have u:b[i].nY≠b[i-1].nY:=by
   have :=JU.1 z (i-1) i Z4 Z4 AB;simp only[P9]at this;exact λe=>this e.symm
  have J:a08 b[i] b[i-1]=false:=by
   unfold a08;rw[show(b[i].nY==b[i-1].nY)=false by simpa using u];rfl
  rw[J,wrap_succ i AB];exact I (m-1) _ _ AB ⟨i+1,rfl,AB,AB,rfl⟩
 have :i=b.length:=AB
 subst this;rw[DR];exact .ret rfl
def aH7 l j(ids:AA Int):(ids.map (Fa l j)).map (·.nY)=ids:=by
 rw[fV];exact List.map_id' ids
theorem anV l j ids(hl:l.length<=1000)(hs:EZ l)(hm:j.length<=100000)(hi:ids.length<=100000)(O:ids.Nodup):a3t l j ids=some (Bg l j ids):=by
 unfold a3t aN8;rw[Iy (a0:=[]) ids AB (λr id=>r++bif bP l id then[Fa l j id]else[]) (λi r=>r.length<=i) (λJ=>(aAh J).bind λu=>(qj u).bind λz=>aDn z [] 0) (ER _)]
 ·rw[foldl_append (λid=>bif bP l id then[Fa l j id]else[]),Ir,aV3];have L:=MS (bP l) ids;have I:((ids.filter (bP l)).map (Fa l j)).length<=100000:=Z4
  unfold aAh a3y;rw[ET AB];simp only[Ac];have e:(SA (λx y:MZ=>N9 (x.nY,x.Af,x.Dv) (y.nY,y.Af,y.Dv)) ((ids.filter (bP l)).map (Fa l j)))=SA Iz ((ids.filter (bP l)).map (Fa l j)):=rfl;rw[e];unfold Bg;have hp:=jg Iz ((ids.filter (bP l)).map (Fa l j))
  have q:((SA Iz ((ids.filter (bP l)).map (Fa l j))).map (·.nY)).Nodup:=by
   rw[(hp.map (·.nY)).nodup_iff,aH7]
   grind
  have hsl:(SA Iz ((ids.filter (bP l)).map (Fa l j))).length<=100000:=by rw[hp.length_eq];exact I
  generalize SA Iz ((ids.filter (bP l)).map (Fa l j))=S at q hsl;rw[aYx S AB q];simp only[Ac];unfold aDn;rw[Iy (a0:=[]) S AB (λr x=>r++[x.nY]) (λi r=>r.length<=i) (λr=>some r) (ER _)]
  ·rw[foldl_append (λx:MZ=>[x.nY]),Ir];congr 1;clear q hsl
   induction S with
   |nil=>
    rfl
   |cons x S U=>
    grind
  ·intro k r i h M;refine⟨a3U,?_⟩;unfold aF5;rw[Ch h,Dw G7];rfl
  intro k r _;unfold aF5;rw[EJ]
 ·intro k r i h M;refine⟨?_,?_⟩
  ·grind
  unfold aE8 a6n;rw[Ch h,OD l _ AB];simp only[Ac];rw[MF,ajr l j _ hl hs hm];simp only[Ac];rw[Dw G7];unfold bP;cases(Eh l ids[i]).isSome with
  |true=>
   rfl
  |false=>
   simp
 intro k r _;unfold aE8;rw[EJ]
theorem aiM l j a b(hl:l.length<=1000)(hs:EZ l)(hm:j.length<=100000):a4X l j a b=some (!Iz (Fa l j b) (Fa l j a)):=by
 unfold a4X;rw[aSe l j a hl hs hm,aSe l j b hl hs hm,MI l a AB,MI l b AB];simp only[Ac]
 have q:(!Iz (Fa l j b) (Fa l j a))=decide (TJ l j b<TJ l j a\/TJ l j a=TJ l j b/\((ev l a).Time<(ev l b).Time\/(ev l a).Time=(ev l b).Time/\a<b)):=by
  rw[Oz,Vx,Io];exact aSj (a0F (Fa l j b)) (a0F (Fa l j a))
 rw[q];show(cond (TJ l j a != TJ l j b) (some (decide (TJ l j a>TJ l j b))) (cond ((ev l a).Time != (ev l b).Time) (some (decide ((ev l a).Time<(ev l b).Time))) (some (decide (a<b)))))=_
 grind
def aF3 x y z(h:Iz x y=true)(k:Iz y z=true):Iz x z=true:=aHi _ _ _ h k
def aWQ x y(h:Iz x y=false):Iz y x=true:=aVk _ _ h
theorem ahU x y(h:Iz x y=true)(k:Iz y x=true):x=y:=by
 have :=aSp _ _ h k;unfold a0F at this;cases x;cases y
 grind
def cu (l:AA AQ)(j:AA Int)(q:AA Int)(x:Int):AA Int:=q.take (q.findIdx λa=>Iz (Fa l j x) (Fa l j a))++x::q.drop (q.findIdx λa=>Iz (Fa l j x) (Fa l j a))
def aSa l j q x:(cu l j q x).Perm (x::q):=by
 unfold cu;refine a1t.trans ?_;rw[Vf]
def aex l j q x(h:q.Pairwise λa b=>Iz (Fa l j a) (Fa l j b)=true):(cu l j q x).Pairwise λa b=>Iz (Fa l j a) (Fa l j b)=true:=by
 unfold cu
 have I:∀a∈q.take (q.findIdx λa=>Iz (Fa l j x) (Fa l j a)),Iz (Fa l j a) (Fa l j x)=true:=by
  intro a ha;obtain⟨i,hi,rfl⟩:=GY ha;have z:i<q.findIdx λa=>Iz (Fa l j x) (Fa l j a):=by simp at hi;omega
  have :=aHH z;rw[lH];exact aWQ _ _ aC6
 have ha:∀d∈q.drop (q.findIdx λa=>Iz (Fa l j x) (Fa l j a)),Iz (Fa l j x) (Fa l j d)=true:=by
  intro d hd;obtain⟨i,hi,rfl⟩:=GY hd;rw[Lh]at hi;have u:(q.findIdx λa=>Iz (Fa l j x) (Fa l j a))<q.length:=AB
  have J:=List.findIdx_getElem (w:=u);rw[aKR];rcases V8 i with rfl|hp
  ·simpa using J
  exact aF3 _ _ _ J (JU.1 h _ _ u AB AB)
 refine Zd.2 ⟨h.sublist (List.take_sublist _ _),QZ.2 ⟨ha,h.sublist (List.drop_sublist _ _)⟩,λa h1 b h2=>?_⟩;rcases FP.1 h2 with rfl|h2
 ·exact I a h1
 exact aF3 _ _ _ (I a h1) (ha b h2)
def Yv (l:AA AQ)(j:AA Int)(q:AA Int)(x:Int):AA Int:=bif bP l x then cu l j q x else q
theorem amm l j ids:ids.foldl (Yv l j) []=Bg l j ids:=by
 have key:∀(ids q:AA Int),q.Pairwise (λa b=>Iz (Fa l j a) (Fa l j b)=true)->(ids.foldl (Yv l j) q).Pairwise (λa b=>Iz (Fa l j a) (Fa l j b)=true)/\(ids.foldl (Yv l j) q).Perm (ids.filter (bP l)++q):=by
  intro ids
  induction ids with
  |nil=>
   grind
  |cons x ids u=>
   intro q h;rw[Gf,UY];unfold Yv;cases bP l x with
   |false=>
    exact u q h
   |true=>
    obtain⟨h1,h2⟩:=u (cu l j q x) (aex l j q x h);refine⟨h1,h2.trans ?_⟩;simp only[KT,aT];exact((aSa l j q x).append_left _).trans a1t
 obtain⟨h1,h2⟩:=key ids [] .nil;rw[Tv]at h2;unfold Bg
 have h3:(ids.foldl (Yv l j) []).map (Fa l j)=SA Iz ((ids.filter (bP l)).map (Fa l j)):=
  aNl aF3 aWQ ahU (h2.map _) (eM.2 h1)
 rw[←h3,aH7]
theorem acF l q ids(hl:l.length<=1000)(hs:EZ l)(hm:q.length<=100000)(hi:ids.length<=100000)(O:ids.Nodup):a8k l q ids=some (Bg l q ids):=by
 unfold a8k aTx;rw[Iy (a0:=[]) ids AB (Yv l q) (λi r=>r.length<=i/\∀x∈r,x∈ids.take i) (λr=>some r) ⟨ER _,λx I=>absurd I H9⟩]
 ·rw[amm]
 ·intro k r i h ⟨U,J⟩;have u:ids.take (i+1)=ids.take i++[ids[i]]:=MX h
  have M:EP r ids[i]=false:=Pz.2 λhm=>by
   obtain⟨j,z,e⟩:=GY (J _ hm);rw[lH]at e;rw[Hl]at z;exact JU.1 O j i AB h AB e
  refine⟨?_,?_⟩
  ·unfold Yv;cases bP l ids[i]with
   |false=>
    grind
   |true=>
    have hp:=aSa l q r ids[i];refine⟨?_,λx I=>?_⟩
    ·show(cu l q r ids[i]).length<=i+1;rw[hp.length_eq,Gh];omega
    rw[u];rcases FP.1 (hp.mem_iff.1 I)with rfl|I
    ·exact aA0 _ (Je.2 rfl)
    exact uV _ (J x I)
  unfold aJ2 a09;rw[Ch h,MI l _ AB,CQ h];simp only[Ac];rw[Xw _ _ AB,M,MF];unfold Yv bP;cases(Eh l ids[i]).isSome with
  |false=>
   rfl
  |true=>
   simp only[Eu,BH,Ac,BZ];unfold aWd
   have L:∀(k2:Int->AL (AA Int)) (j:Nat),j<=r.length->zn k2 (j:Int) r ids (i:Int) k false=k (r.take j++ids[i]::r.drop j) (Au ((i:Int)+1)):=by
    intro k2 j z;unfold zn a09;simp only[BH];rw[YD z];simp only[Ac];rw[Dw Ei];simp only[Ac,Ir];rw[xK z,CQ h];simp only[Ac];rw[Dw Ei];simp only[Ac];rw[Dw Ei];simp
   rw[Jh r (fuel_lt AB) (λa=>Iz (Fa l q ids[i]) (Fa l q a)) (λj=>k (r.take j++ids[i]::r.drop j) (Au ((i:Int)+1))) (k (r.take r.length++ids[i]::r.drop r.length) (Au ((i:Int)+1)))]
   ·unfold cu;split
    ·rfl
    rename_i h2
    have :(r.findIdx λa=>Iz (Fa l q ids[i]) (Fa l q a))=r.length:=by
     grind
    rw[this]
   ·intro k2 j z;unfold aIc;rw[dec_lt z,CQ z,CQ h];simp only[BZ,Ac];rw[aiM l q _ _ hl hs hm];simp only[Ac];cases Iz (Fa l q ids[i]) (Fa l q r[j])with
    |true=>
     grind
    |false=>
     rfl
   intro k2;unfold aIc;rw[DR];simp only[BH];rw[L k2 r.length (ER _)]
 intro k r _;unfold aJ2;rw[EJ]
def akv {j ids}{x}:x∈Bg l j ids↔x∈ids/\bP l x=true:=by
 unfold Bg;rw[((jg Iz ((ids.filter (bP l)).map (Fa l j))).map (·.nY)).mem_iff,aH7,Hg]
theorem aXa l j ids:(Bg l j ids).length<=ids.length:=by
 unfold Bg;rw[DY,(jg _ _).length_eq,DY]
 grind
def Pm (c:Int):AY:=(decide (c>=97)&&(c<=122))||(decide (c>=48)&&(c<=57))
theorem aO0 c:rF c=some (Pm c):=by
 unfold rF Pm
 grind
theorem aFm c:iI c=some (Pm c):=by
 unfold iI Pm
 grind
def TB (l:AA Int)(p:Int->AY):AY:=decide ((l.length:Int)>=1)&&((l.length:Int)<=32)&&l.all λc=>Pm c||p c
def isLocal (c:Int):AY:=c==95||c==46||c==45||c==61
def Xl (c:Int):AY:=c==46||c==45
def Xx (l:AA Int):AY:=TB l isLocal
def cV (l:AA Int):AY:=TB l Xl&&Pm (l.getD 0 0)&&Pm (l.getD (l.length-1) 0)
variable {n:Nat}
def aDY (h:n<=9223372036854775807):n<Am:=oO
variable {s:BL}
theorem aMq (hs:s.size<=9223372036854775807)f p(j:∀c,f c=some (p c)):jy s f=some (TB (DI s) p):=by
 have hl:aFc s f 0=some ((DI s).all λc=>Pm c||p c):=by
  unfold aFc;rw[H7 (DI s) dA (λc=> !(Pm c||p c)) false (some true) ?_ ?_,Mc,aCz]
  ·intro k i h;have h':i<s.size:=Xr
   simp only[aGn,dec_lt h',BZ,WO h,aO0,j,Ac]
   grind
  intro k;simp only[aGn,JH,DR,BH]
 unfold jy TB;rw[hl,JH]
 grind
def aay (hs:s.size<=9223372036854775807):jy s (λa0=>Fin a0)=some (TB (DI s) isLocal):=aMq hs _ isLocal (λc=>by unfold Fin isLocal;cases c==95<;>cases c==46<;>cases c==45<;>cases c==61<;>rfl)
def aaO (hs:s.size<=9223372036854775807):jy s (λa0=>a0L a0)=some (TB (DI s) Xl):=aMq hs _ Xl (λc=>by unfold a0L Xl;cases c==46<;>cases c==45<;>rfl)
def aiw (hs:s.size<=9223372036854775807):aAe s=some (Xx (DI s)):=by
 unfold aAe Xx;rw[aay hs];rfl
def aAg (h:0<s.size):Ic s 0=some ((DI s).getD 0 0):=by
 have h':0<(DI s).length:=a1x
 rw[aZY h'];simp[List.getD,h']
def aOa (h:0<s.size)(hs:s.size<=9223372036854775807):Ic s (Au ((s.size:Int)-1))=some ((DI s).getD ((DI s).length-1) 0):=by
 have h':s.size-1<(DI s).length:=by rw[JH];omega
 rw[Nr AB AB,show(s.size:Int)-1=((s.size-1:Nat):Int) by omega,WO h'];have h2:(DI s).length-1=s.size-1:=by rw[JH]
 rw[h2];simp[List.getD,h']
theorem aQF {l}{p}(h:TB l p=true):0<l.length/\l.length<=32:=by
 unfold TB at h
 grind
def adE (hs:s.size<=9223372036854775807):a8Z s=some (cV (DI s)):=by
 unfold a8Z cV;rw[aaO hs];simp only[Ac];cases j:TB (DI s) Xl with
 |false=>rfl
 |true=>
  have hp:0<s.size:=by have :=(aQF j).1;rwa [JH]at this
  simp only[BZ,aAg hp,aOa hp hs,aO0,Ac];cases Pm ((DI s).getD 0 0)<;>simp
theorem aha (hs:s.size<=9223372036854775807):a1w s=some (cond (cV (DI s)) 0 3):=by
 have hl:aE7 s 0=some (bif (DI s).all λc=>Pm c||Xl c then 0 else 3):=by
  unfold aE7;rw[H7 (DI s) dA (λc=> !(Pm c||Xl c)) 3 (some 0) ?_ ?_,Mc,←aCz]
  ·grind
  ·intro k i h;have h':i<s.size:=Xr
   simp only[aKC,dec_lt h',BZ,WO h,aFm,Ac,Xl,bne]
   grind
  intro k;simp only[aKC,JH,DR,BH]
 have j:decide ((s.size:Int)>=1)= !decide ((s.size:Int)<1):=by by_cases h:(s.size:Int)<1<;>simp[h]<;>omega
 have q:decide ((s.size:Int)<=32)= !decide ((s.size:Int)>32):=by by_cases h:(s.size:Int)>32<;>simp[h]<;>omega
 unfold a1w cV TB;rw[hl];rw[show((DI s).length:Int)=(s.size:Int) by rw[JH],j,q];by_cases h1:(s.size:Int)<1
 ·simp[h1]
 have hp:0<s.size:=AB
 simp only[aAg hp,aOa hp hs,aFm,Ac];cases decide ((s.size:Int)<1)<;>cases decide ((s.size:Int)>32)<;>cases Pm ((DI s).getD 0 0)<;>cases Pm ((DI s).getD ((DI s).length-1) 0)<;>cases((DI s).all λc=>Pm c||Xl c)<;>rfl
theorem aZt (hs:s.size<=9223372036854775807):aAa s=some (Xx (DI s)):=by
 unfold aAa aWA;rw[H7 (DI s) dA (λc=> !(Pm c||isLocal c)) false (some (decide ((s.size:Int)>=1)&&((s.size:Int)<=32))) ?_ ?_]
 ·unfold Xx TB;rw[←aCz,JH]
  grind
 ·intro k i h;have h':i<s.size:=Xr
  simp only[aIt,dec_lt h',BZ,WO h,aFm,Ac,isLocal,bne]
  grind
 intro k;simp only[aIt,JH,DR,BH]
 grind
def aX4 s:(DI s).length=s.data.toList.length:=by simp[DI]
def H8 (s:BL):Nat:=(DI s).findIdx (· ==58)
def aFl s:H8 s<=s.size:=by unfold H8;rw[←JH];exact a8w
theorem aLP (hs:s.size<=9223372036854775807):a1C s=some (H8 s:Int):=by
 unfold a1C aWM;rw[Jh (DI s) dA (· ==58) (λi=>some (i:Int)) (some (s.size:Int)) ?_ ?_]
 ·have :=aFl s;by_cases h:(DI s).findIdx (· ==58)<(DI s).length
  ·rw[ET h];rfl
  rw[Ee h];congr 2;unfold H8 at this ⊢;rw[JH]at h;omega
 ·intro k i h;have h':i<s.size:=Xr
  simp only[aCW,dec_lt h',BZ,WO h,Ac,bne]
  grind
 intro k;simp only[aCW,JH,DR,BH,Ac]
def Wy (s:BL):BL:=s.extract 1 (H8 s)
def UG (s:BL):BL:=s.extract (H8 s+1) s.size
def Xh (s:BL):AY:=decide (H8 s<s.size)&&Xx (DI (Wy s))&&cV (DI (UG s))
def IU (s:BL)(m:Int):AY:=decide (0<s.size)&&(DI s).getD 0 0==m&&Xh s
def extract_size (s:BL)a b:(s.extract a b).size<=s.size:=by rw[aCS];omega
theorem aP0 (h:0<s.size)(hm:(DI s).getD 0 0≠58):1<=H8 s:=by
 unfold H8;have hl:0<(DI s).length:=a1x
 grind
variable {m:Int}
def a8d (hs:s.size<=9223372036854775807)(hm:m≠58):gy s m=some (IU s m):=by
 unfold gy IU;by_cases j:0<s.size
 ·rw[show decide ((s.size:Int)<1)=false from by simp;omega,show decide (0<s.size)=true by simpa using j];simp only[BH,aAg j,Ac,bne];cases u:(DI s).getD 0 0==m with
  |false=>rfl
  |true=>
   have q:(DI s).getD 0 0=m:=SY
   have h1:=aP0 j (by rw[q];exact hm);have h2:=aFl s;simp only[Eu,BH,aLP hs,Ac,GZ];unfold Xh;by_cases h3:H8 s<s.size
   ·have z:Oi s 1 (H8 s:Int)=some (Wy s):=lC (lo:=1) h1 h2
    have I:Oi s (Au ((H8 s:Int)+1)) (s.size:Int)=some (UG s):=by
     rw[Nr AB AB,show(H8 s:Int)+1=((H8 s+1:Nat):Int) by omega];exact lC AB (ER _)
    rw[show decide ((H8 s:Int)<(s.size:Int))=true from by simpa using h3,show decide (H8 s<s.size)=true by simpa using h3];have J:(Wy s).size<=9223372036854775807:=EC (extract_size _ _ _) hs;have L:(UG s).size<=9223372036854775807:=EC (extract_size _ _ _) hs;simp only[BZ,z,I,aZt J,aha L,Ac];cases Xx (DI (Wy s))<;>cases cV (DI (UG s))<;>rfl
   rw[show decide ((H8 s:Int)<(s.size:Int))=false from by simpa using h3,show decide (H8 s<s.size)=false by simpa using h3];rfl
 rw[show decide ((s.size:Int)<1)=true from by simp;omega,show decide (0<s.size)=false by simpa using j];rfl
def splitB (s:BL)(b:AY):BL×BL×AY:=bif b then(Wy s,UG s,true)else(CX,CX,false)
theorem alI (b c:UInt8):(b==c)=(((b.toNat:Nat):Int)==((c.toNat:Nat):Int)):=by
 by_cases h:b=c
 ·subst h;simp
 have :¬b.toNat=c.toNat:=λe=>h (UInt8.toNat_inj.1 e)
 grind
def aTr s c:s.data.toList.findIdx (· ==c)=(DI s).findIdx (· ==((c.toNat:Nat):Int)):=by
 unfold DI;rw[List.findIdx_map];congr 1;funext b;exact alI b c
def amH s:∀x∈DI s,0<=x/\x<256:=by
 intro x j;unfold DI at j;rw[FB]at j;obtain⟨c,_,rfl⟩:=j;have :=c.toNat_lt;omega
theorem getD_mem (h:0<s.size):(DI s).getD 0 0∈DI s:=by
 have hl:0<(DI s).length:=a1x
 have e:(DI s).getD 0 0=(DI s)[0]:=by simp[List.getD,hl]
 grind
variable {c:Int}
theorem afQ marks(j:0<=c)(h1:c<256):decide (Lib.indexByte marks.data.toList c.toNat.toUInt8<0)= !(DI marks).contains c:=by
 have e:(((c.toNat.toUInt8).toNat:Nat):Int)=c:=by
  rw[Nat.toUInt8,UInt8.toNat_ofNat'];omega
 rw[aC8,aTr,e,←aX4 marks]
 grind
theorem aU1 (s:BL)a b:(s.extract 1 s.size).extract a b=s.extract (1+a) (min (1+b) s.size):=by
 refine bytes_inj ?_;simp only[aX0];have :(DI s).take s.size=DI s:=RU (by rw[JH];omega);rw[this,List.take_drop,aCI]
 grind
def abI (h:0<s.size)(hm:(DI s).getD 0 0≠58):(DI (s.extract 1 s.size)).findIdx (· ==58)+1=H8 s:=by
 unfold H8;rw[aX0];have :(DI s).take s.size=DI s:=RU (by rw[JH];omega);rw[this];have hl:0<(DI s).length:=a1x
 match j:DI s with
 | []=>rw[j]at hl;simp at hl
 |c::l=>
  rw[j]at hm;simp only[List.getD_cons_zero]at hm;rw[V3,show(c==58)=false from by simpa using hm];rfl
theorem aa1 (hs:s.size<=9223372036854775807)(h:0<s.size)(hm:(DI s).getD 0 0≠58):∃a b,strings_Cut (s.extract 1 s.size) Mid=some (a,b,decide (H8 s<s.size))/\(H8 s<s.size->a=Wy s/\b=UG s):=by
 have h1:=aP0 h hm;have h2:=aFl s;have I:=abI h hm;have j:(s.extract 1 s.size).size=s.size-1:=by rw[aCS];omega
 have q:a6y (s.extract 1 s.size) Mid=some (if H8 s<s.size then((H8 s-1:Nat):Int)else -1):=by
  show some (Lib.indexByte (s.extract 1 s.size).data.toList 58)=_;rw[aC8,aTr,←aX4 (s.extract 1 s.size)];show some (if(DI (s.extract 1 s.size)).findIdx (· ==58)<_ then(((DI (s.extract 1 s.size)).findIdx (· ==58):Nat):Int)else -1)=_;rw[JH,j]
  grind
 unfold strings_Cut aKu;rw[q,Ac];by_cases h3:H8 s<s.size
 ·rw[ET h3,show decide (((H8 s-1:Nat):Int)>=0)=true from by simp,show decide (H8 s<s.size)=true by simpa using h3];have u:Oi (s.extract 1 s.size) 0 ((H8 s-1:Nat):Int)=some ((s.extract 1 s.size).extract 0 (H8 s-1)):=lC (lo:=0) AB AB
  have z:Oi (s.extract 1 s.size) (Au (((H8 s-1:Nat):Int)+(Mid.size:Int))) ((s.extract 1 s.size).size:Int)=some ((s.extract 1 s.size).extract (H8 s) (s.size-1)):=by
   rw[show(Mid.size:Int)=1 from rfl,Nr AB AB,show((H8 s-1:Nat):Int)+1=((H8 s:Nat):Int) by omega,j];exact lC AB AB
  simp only[BZ,u,z,Ac];refine⟨_,_,rfl,λ_=>⟨?_,?_⟩⟩
  ·rw[aU1];unfold Wy;congr 1;omega
  rw[aU1];unfold UG;rw[Vy 1 (H8 s)];congr 1;omega
 rw[Ee h3,show decide ((-1:Int)>=0)=false from rfl,show decide (H8 s<s.size)=false by simpa using h3];exact⟨_,_,rfl,λh=>absurd h h3⟩
theorem aC1 (hs:s.size<=9223372036854775807){marks}(u:∀m∈DI marks,m≠58):qO s marks=some (splitB s ((DI marks).any λm=>IU s m)):=by
 unfold qO;by_cases q:0<s.size
 ·have z:(s.toList==CX.toList)=false:=by
   rw[JM];simp only[sO];intro e;rw[e]at q;exact absurd q Bl
  have I:=amH s _ (getD_mem q)
  have j:((DI marks).any λm=>IU s m)=((DI marks).contains ((DI s).getD 0 0)&&Xh s):=by
   unfold IU
   grind
  rw[z,j];simp only[BH,aAg q,Ac,strings_IndexByte,afQ marks I.1 I.2];cases J:(DI marks).contains ((DI s).getD 0 0)with
  |false=>
   rfl
  |true=>
   have hm:(DI s).getD 0 0≠58:=u _ a1E;obtain⟨a,b,L,M⟩:=aa1 hs q hm;have O:Oi s 1 (s.size:Int)=some (s.extract 1 s.size):=lC (lo:=1) AB (ER _);simp only[Eu,BH,O,L,Ac,GZ];unfold Xh;cases h3:decide (H8 s<s.size)with
   |false=>
    rfl
   |true=>
    obtain⟨rfl,rfl⟩:=M (Ov h3);have U:(Wy s).size<=9223372036854775807:=EC (extract_size _ _ _) hs;have Y:(UG s).size<=9223372036854775807:=EC (extract_size _ _ _) hs;simp only[Eu,BH,aiw U,adE Y,Ac];cases Xx (DI (Wy s))<;>cases cV (DI (UG s))<;>rfl
 have Z:s.size=0:=AB
 have he:s=CX:=bytes_inj (by
  have h1:DI s=[]:=Hu (by rw[JH];exact Z)
  rw[h1];rfl)
 have j:((DI marks).any λm=>IU s m)=false:=by
  rw[Ws];intro m _;unfold IU;rw[show decide (0<s.size)=false by simpa using q];simp
 rw[j,he,show(CX.toList==CX.toList)=true from by simp];rfl
def N8 (s:BL):AY:=IU s 64||(IU s 33||false)
def aZK (hs:s.size<=9223372036854775807):qO s aAD=some (splitB s (N8 s)):=
 aC1 hs (marks:=aAD) (by rw[show DI aAD=[64,33]from rfl];intro m hm;simp only[FP,H9,or_false]at hm;omega)
def aQB (h:Xh s=true):H8 s<s.size:=by unfold Xh at h;simp only[Di,Io]at h;exact h.1.1
def lU (hs:s.size<=9223372036854775807):og s=some (splitB s (N8 s)).2.1/\qg s=some (splitB s (N8 s)).2.1:=by
 have z:H8 s<s.size->Oi s (Au ((H8 s:Int)+1)) (s.size:Int)=some (UG s):=λh3=>by
  rw[Nr AB AB,show(H8 s:Int)+1=((H8 s+1:Nat):Int) by omega];exact lC AB (ER _)
 unfold og qg;rw[aZK hs,a8d hs Bl,a8d hs Bl,aLP hs];refine⟨rfl,?_⟩;unfold N8;cases j:IU s 64 with
 |true=>
  have u:=aQB (s:=s) (by unfold IU at j;simp only[Di]at j;exact j.2);simp only[Ac,Eu,BH,z u,Bool.true_or];rfl
 |false=>
  cases q:IU s 33 with
  |true=>
   have u:=aQB (s:=s) (by unfold IU at q;simp only[Di]at q;exact q.2);simp only[Ac,Eu,JZ,BH,BZ,z u,RY,Bool.true_or];rfl
  |false=>rfl
theorem aIn {R}{body}(l:AA α)(hl:l.length<Am)p(g:Nat->AL R)rest(a0:A)(u:∀k (i:Nat) (h:i<l.length),body k (i:Int) a0=bif p l[i]then g i else k (Au ((i:Int)+1)) a0)(z:∀k,body k (l.length:Int) a0=rest):
 aQ body Am 0 a0=if l.findIdx p<l.length then g (l.findIdx p)else rest:=by
 have J:Am=9223372036854775808:=rfl
 have key:∀n (i:Nat),i+n=l.length->∀m,n<m->aQ body m (i:Int) a0=if(l.drop i).findIdx p+i<l.length then g ((l.drop i).findIdx p+i)else rest:=by
  intro n
  induction n with
  |zero=>
   intro i hi m hm;obtain⟨m,rfl⟩:∃q,m=q+1:=⟨m-1,AB⟩
   have :i=l.length:=AB
   subst this;show body (aQ body m) _ _=_;rw[z,PN,Ee BU]
  |succ n I=>
   intro i hi m hm;obtain⟨m,rfl⟩:∃q,m=q+1:=⟨m-1,AB⟩
   have j:i<l.length:=AB
   show body (aQ body m) _ _=_;rw[u _ i j,wrap_succ i AB,I (i+1) AB m AB,Nc j,V3];cases p l[i]with
   |true=>
    grind
   |false=>
    simp only[BH];rw[show(l.drop (i+1)).findIdx p+(i+1)=(l.drop (i+1)).findIdx p+1+i by omega]
 grind
def Jb (l:AA AQ):AQ×AY:=match l.find? λx=>x.Kind==1 with |some x=>(x,true)|none=>(Eo,false)
theorem aK8 (l:AA AQ)p:(if l.findIdx p<l.length then(some (match l[l.findIdx p]? with |some x=>(x,true)|none=>(Eo,false)))else some (Eo,false))=some (match l.find? p with |some x=>(x,true)|none=>(Eo,false)):=by
 rw[Kw]
 grind
def aLs l(hl:l.length<=1000):yU l=some (Jb l):=by
 unfold yU aRm;rw[aIn l (fuel_lt AB) (λx=>x.Kind==1) (λi=>some (match l[i]? with |some x=>(x,true)|none=>(Eo,false))) (some (Eo,false))]
 ·exact aK8 l _
 ·intro k i h;unfold aFX;rw[Ch h,ES h]
 intro k;unfold aFX;rw[EJ]
def aLk l(hl:l.length<=1000):xH l=some (Jb l):=by
 unfold xH aSl;rw[aIn l (fuel_lt AB) (λx=>x.Kind==1) (λi=>some (match l[i]? with |some x=>(x,true)|none=>(Eo,false))) (some (Eo,false))]
 ·exact aK8 l _
 ·intro k i h;unfold aIB;rw[Ch h,CQ h,ES h];rfl
 intro k;unfold aIB;rw[EJ]
def Qa (u:BL)(x:AQ):AY:=x.Kind==2&&(x.Key=u)
def ML (l:AA AQ)(u:BL):Int:=match l.find? (Qa u)with |some x=>x.Content.N|none=>0
def a2T u x:(cond (x.Kind==2) (some (x.Key.toList==u.toList)) (some false))=some (Qa u x):=by
 unfold Qa;rw[JM];cases x.Kind==2<;>rfl
theorem aJP l u(hl:l.length<=1000):sD l u=some (ML l u):=by
 unfold sD aWt ML;rw[Jh l (fuel_lt AB) (Qa u) (λi=>some (match l[i]? with |some x=>x.Content.N|none=>0)) (some 0)]
 ·rw[Kw]
  grind
 ·intro k i h;unfold aDL;rw[Ch h,CQ h,ES h];simp only[Ac];rw[a2T];rfl
 intro k;unfold aDL;rw[EJ]
theorem aDk l u(hl:l.length<=1000):lV l u=some (ML l u):=by
 unfold lV aOX ML;rw[Jh l (fuel_lt AB) (Qa u) (λi=>some (match l[i]? with |some x=>x.Content.N|none=>0)) (some 0)]
 ·rw[Kw]
  grind
 ·intro k i h;unfold aDX;rw[Ch h,CQ h,ES h];simp only[Ac];rw[a2T];rfl
 intro k;unfold aDX;rw[EJ]
def YF (e:AQ)(l:AA AQ):AY:=
 (Jb l).2&&(e.bG.length==1&&(e.bG.getD 0 0==(Jb l).1.Id&&(decide (e.bU=(Jb l).1.bU)&&(decide (e.Key=(Jb l).1.bU)&&(e.Content.N==3&& !l.any (Qa e.Key))))))
theorem amX e l(hl:l.length<=1000):a9i e l=some (YF e l):=by
 have u:aKA l e 0=some (!l.any (Qa e.Key)):=by
  unfold aKA;rw[H7 l (fuel_lt AB) (Qa e.Key) false (some true)]
  ·grind
  ·intro k i h;unfold aD9;rw[Ch h,a2T];rfl
  intro k;unfold aD9;rw[EJ]
 unfold a9i YF dL;rw[aLs l hl];simp only[Ac];rw[u,JM,JM];cases(Jb l).2 with
 |false=>
  rfl
 |true=>
  by_cases hp:e.bG.length=1
  ·have z:0<e.bG.length:=AB
   have j:((e.bG.length:Int) != 1)=false:=by rw[hp];rfl
   have q:(e.bG.length==1)=true:=a5o
   have I:Ak e.bG 0=some (e.bG.getD 0 0):=by
    have :Ak e.bG ((0:Nat):Int)=some e.bG[0]:=CQ z
    grind
   rw[j,q,I];simp only[Ac,bne];cases e.bG.getD 0 0==(Jb l).1.Id<;>cases decide (e.bU=(Jb l).1.bU)<;>cases decide (e.Key=(Jb l).1.bU)<;>cases e.Content.N==3<;>rfl
  have j:((e.bG.length:Int) != 1)=true:=Ei
  have q:(e.bG.length==1)=false:=a5o
  rw[j,q];rfl
theorem agi e l(hl:l.length<=1000):a8T e l=some (YF e l):=by
 have u:a5A l e.Key=some (l.any (Qa e.Key)):=by
  unfold a5A aN0;rw[H7 l (fuel_lt AB) (Qa e.Key) true (some false)]
  ·grind
  ·intro k i h;unfold aK1;rw[Ch h,CQ h];simp only[Ac];rw[a2T];rfl
  intro k;unfold aK1;rw[EJ]
 unfold a8T YF Yb;rw[aLk l hl];simp only[Ac];rw[u,JM,JM];cases(Jb l).2 with
 |false=>
  rfl
 |true=>
  by_cases hp:e.bG.length=1
  ·have z:0<e.bG.length:=AB
   have j:((e.bG.length:Int)==1)=true:=by rw[hp];rfl
   have q:(e.bG.length==1)=true:=a5o
   have I:Ak e.bG 0=some (e.bG.getD 0 0):=by
    have :Ak e.bG ((0:Nat):Int)=some e.bG[0]:=CQ z
    grind
   rw[j,q,I];simp only[Ac];cases e.bG.getD 0 0==(Jb l).1.Id<;>cases decide (e.bU=(Jb l).1.bU)<;>cases decide (e.Key=(Jb l).1.bU)<;>cases e.Content.N==3<;>rfl
  have j:((e.bG.length:Int)==1)=false:=Ei
  have q:(e.bG.length==1)=false:=a5o
  rw[j,q];rfl
def moveB (f t:Int)(s:AY):AY:=
 bif decide (f<0)||decide (f>4)then false else bif t==3 then s&&f != 4 else bif t==0 then f==1||f==2||f==3||(f==4&& !s)else bif t==2 then s&&(f==0||f==2)else bif t==1 then !s&&(f==0||f==2||f==1)else bif t==4 then !s else false
def aUR f t s:XA f t s=some (moveB f t s):=by
 unfold XA moveB;simp only[Mc,Ac,tJ,U3]
theorem ahb f t s:eS f t s=some (moveB f t s):=by
 rw[←aUR];by_cases j:f<0
 ·unfold eS XA
  grind
 by_cases q:f>4
 ·unfold eS XA
  grind
 by_cases u:t<0
 ·unfold eS XA;rw[IX u,G6 j,G6 q,show(t==3)=false by simp;omega,show(t==0)=false by simp;omega,show(t==2)=false by simp;omega,show(t==1)=false by simp;omega,show(t==4)=false by simp;omega];rfl
 by_cases z:t>4
 ·unfold eS XA;rw[IX z,G6 u,G6 j,G6 q,show(t==3)=false by simp;omega,show(t==0)=false by simp;omega,show(t==2)=false by simp;omega,show(t==1)=false by simp;omega,show(t==4)=false by simp;omega];rfl
 have I:f=0\/f=1\/f=2\/f=3\/f=4:=AB
 have J:t=0\/t=1\/t=2\/t=3\/t=4:=AB
 rcases I with rfl|rfl|rfl|rfl|rfl<;>rcases J with rfl|rfl|rfl|rfl|rfl<;>cases s<;>decide
def XW (l:AA AQ):Int×AA BL:=match l.find? λx=>x.Kind==4 with |some x=>(x.Content.N,x.Content.Allow)|none=>(0,[])
theorem aiY l(hl:l.length<=1000)(hs:EZ l):aB6 l=some (XW l):=by
 unfold aB6 aUU XW;rw[Jh l (fuel_lt AB) (λx=>x.Kind==4) (λi=>some (match l[i]? with |some x=>(x.Content.N,x.Content.Allow)|none=>(0,[]))) (some (0,[]))]
 ·rw[Kw]
  grind
 ·intro k i h;have ha:=(hs _ (EU h)).allow;unfold aFT;rw[Ch h,ES h,Dw QD];rfl
 intro k;unfold aFT;rw[EJ]
theorem alp l(hl:l.length<=1000)(hs:EZ l):a4z l=some (XW l):=by
 unfold a4z aLL XW;rw[Jh l (fuel_lt AB) (λx=>x.Kind==4) (λi=>some (match l[i]? with |some x=>(x.Content.N,x.Content.Allow)|none=>(0,[]))) (some (0,[]))]
 ·rw[Kw]
  grind
 ·intro k i h;have ha:=(hs _ (EU h)).allow;unfold aGO;rw[Ch h,CQ h,ES h];simp only[Ac];rw[Dw QD];rfl
 intro k;unfold aGO;rw[EJ]
def a1g (j now:Int):Int:=bif now==3||j==1 then 0 else bif now==1&&(j==0||j==2||j==3)then 0 else 21
def a0e (j now:Int):Int:=bif j==2&&(now==0||now==2)then 0 else 21
def alD r n:a1r r n=some (a1g r n):=by
 unfold a1r a0i a8U a1g;cases n==3<;>cases r==1<;>cases r==2<;>cases r==3<;>cases r==0<;>cases n==1<;>rfl
def acQ r n:aB7 r n=some (a1g r n):=by
 unfold aB7 a1g;cases n==3<;>cases r==1<;>cases r==2<;>cases r==3<;>cases r==0<;>cases n==1<;>rfl
theorem aZH r n:a5W r n=some (a0e r n):=by
 unfold a5W a9t a0e bne
 grind
theorem abX r n:a3j r n=some (a0e r n):=by
 unfold a3j a0e
 grind
def Yq (m now:Int)(l:AA AQ):Int:=bif m==3 then a1g (XW l).1 now else bif m==2 then a0e (XW l).1 now else 0
theorem aZ4 m now l(hl:l.length<=1000)(hs:EZ l):a7i m now l=some (Yq m now l):=by
 unfold a7i Yq;rw[aiY l hl hs];simp only[Ac];rw[alD,aZH]
 grind
theorem ak0 e now l(hl:l.length<=1000)(hs:EZ l):a3K e l now=some (Yq e.Content.N now l):=by
 unfold a3K Yq;rw[alp l hl hs];simp only[Ac];rw[acQ,abX]
 grind
def JE (k:Int):AY:=decide (k>=1)&&(k<=10)
def aQ2 k:jk k=some (JE k):=by
 unfold jk JE;cases decide (k>=1)<;>rfl
def a3J k:V4 k=some (JE k):=by
 unfold V4 JE;cases decide (k>=1)<;>rfl
def jJ (v:Ci)(k:Int):Int:=match v.Kinds.find? λx=>x.Kind==k with |some x=>x.N|none=>bif JE k then v.State else v.Message
theorem aKb v k(h:v.Kinds.length<=1000):nS v k=some (jJ v k):=by
 unfold nS aMk jJ;rw[Jh v.Kinds (fuel_lt AB) (λx=>x.Kind==k) (λi=>some (match v.Kinds[i]? with |some x=>x.N|none=>0)) (some (cond (JE k) v.State v.Message))]
 ·rw[Kw]
  grind
 ·intro k2 i h;unfold aJx;rw[Ch h,ES h]
 intro k2;unfold aJx;rw[EJ,aQ2];cases JE k<;>rfl
theorem zQ v k(h:v.Kinds.length<=1000):qZ v k=some (jJ v k):=by
 unfold qZ aWj jJ;rw[Jh v.Kinds (fuel_lt AB) (λx=>x.Kind==k) (λi=>some (match v.Kinds[i]? with |some x=>x.N|none=>0)) (some (cond (JE k) v.State v.Message))]
 ·rw[Kw]
  grind
 ·intro k2 i h;unfold aJr;rw[Ch h,CQ h,ES h];rfl
 intro k2;unfold aJr;rw[EJ,a3J];cases JE k<;>rfl
def Xy (own j q:Int):AY:=j==q||(decide (j<=own)&&(q<=own))
def numsOf (v:Ci):AA Int:=[v.User,v.Message,v.State,v.gY,v.lg,v.oV,v.iq]
def zU (own:Int)(p:Int×Int):AY:= !Xy own p.1 p.2
def Wj (own:Int)(j q:Ci)(x:KL):AY:= !Xy own (jJ j x.Kind) (jJ q x.Kind)
def Jq (own:Int)(j q:Ci)(u:BL)(x:IQ):AY:= !(Xy own (Fg j x.User) (Fg q x.User)&&(Fg j x.User==Fg q x.User||(x.User=u)||(Fg j x.User<own)))
def yA (j u:Ci)(q:BL):Int:=
 bif ((numsOf j).zip (numsOf u)).any (zU (Fg j q))then 20 else bif (j.Kinds++u.Kinds).any (Wj (Fg j q) j u)then 20 else bif (j.Users++u.Users).any (Jq (Fg j q) j u q)then 20 else 0
theorem aJu own j q:Xk j q own=some (!Xy own j q):=by
 unfold Xk Xy;have h1:(j != q)= !(j==q):=rfl;have h2:decide (j>own)= !decide (j<=own):=by by_cases h:j<=own<;>simp[h]<;>omega
 have h3:decide (q>own)= !decide (q<=own):=by by_cases h:q<=own<;>simp[h]<;>omega
 rw[h1,h2,h3]
 grind
theorem a6a own j q:oh j q own=some (Xy own j q):=by
 unfold oh Xy
 grind
structure ZJ (v:Ci):Prop where
 users:v.Users.length<=100
 kinds:v.Kinds.length<=100
def zJ a b:((numsOf a).zip (numsOf b)).length=7:=rfl
def aeB q u z(Y:ZJ q)(Z:ZJ u):yx q u z=some (yA q u z):=by
 have o1:=Y.users;have o2:=Y.kinds;have n1:=Z.users;have n2:=Z.kinds;unfold yx;rw[fM q z AB];unfold a2E;simp only[Ac];unfold yA;generalize hown:Fg q z=own
 have hU:a7k q u own z false 0=some (cond ((q.Users++u.Users).any (Jq own q u z)) 20 0):=by
  unfold a7k;rw[aI4 ([q.Users,u.Users]:AA (AA IQ)) (fuel_lt BU) (λus=>us.any (Jq own q u z)) (λ_=>some 20) (some 0) false]
  ·have e:(q.Users++u.Users).any (Jq own q u z)=([q.Users,u.Users]:AA (AA IQ)).any (λus=>us.any (Jq own q u z)):=BU
   rw[e]
   have hf:∀L:AA (AA IQ),(if L.findIdx (λus=>us.any (Jq own q u z))<L.length then some (20:Int)else some 0)=some (bif L.any (λus=>us.any (Jq own q u z))then 20 else 0):=λL=>by
    by_cases h:L.findIdx (λus=>us.any (Jq own q u z))<L.length
    ·rw[ET h];have :L.any (λus=>us.any (Jq own q u z))=true:=Ja.2 ((Xe).1 h);rw[this];rfl
    rw[Ee h]
    have :L.any (λus=>us.any (Jq own q u z))=false:=by
     rw[Bool.eq_false_iff];exact λk=>h (Xe.2 (Ja.1 k))
    rw[this];rfl
   exact hf _
  ·intro k i h
   have M:([q.Users,u.Users]:AA (AA IQ))[i].length<=100:=by
    have :([q.Users,u.Users]:AA (AA IQ))[i]∈[q.Users,u.Users]:=EU h;simp only[FP,H9,or_false]at this;rcases this with e|e<;>rw[e]<;>assumption
   unfold a2x;rw[show decide ((i:Int)<2)=true by simp only[Gh,Qp]at h;simp;omega,CQ h];simp only[BZ,Ac];generalize([q.Users,u.Users]:AA (AA IQ))[i]=us at M;unfold aUp;rw[aI4 us (fuel_lt AB) (Jq own q u z) (λ_=>some 20) (k false (Au ((i:Int)+1))) false]
   ·by_cases h2:us.findIdx (Jq own q u z)<us.length
    ·rw[ET h2];have :us.any (Jq own q u z)=true:=Ja.2 ((Xe).1 h2);rw[this];rfl
    rw[Ee h2]
    have :us.any (Jq own q u z)=false:=by
     rw[Bool.eq_false_iff];exact λk=>h2 (Xe.2 (Ja.1 k))
    rw[this];rfl
   ·intro k2 j O;unfold a9o sG;rw[Ch O,fM q _ AB,fM u _ AB];simp only[Ac];rw[aJu,JM];unfold Jq;have h2:decide (Fg q us[j].User>=own)= !decide (Fg q us[j].User<own):=by by_cases h:Fg q us[j].User<own<;>simp[h]<;>omega
    have h3:(Fg q us[j].User != Fg u us[j].User)= !(Fg q us[j].User==Fg u us[j].User):=rfl;simp only[Ac];rw[h2,h3];cases Xy own (Fg q us[j].User) (Fg u us[j].User)<;>cases Fg q us[j].User==Fg u us[j].User<;>cases decide (us[j].User=z)<;>cases decide (Fg q us[j].User<own)<;>rfl
   intro k2;unfold a9o;rw[EJ]
  intro k;unfold a2x sG;rw[show decide (((([q.Users,u.Users]:AA (AA IQ)).length:Nat):Int)<2)=false from rfl];rfl
 have hK:a2z q u own z 0=some (cond ((q.Kinds++u.Kinds).any (Wj own q u)) 20 (cond ((q.Users++u.Users).any (Jq own q u z)) 20 0)):=by
  unfold a2z;rw[H7 ([q.Kinds,u.Kinds]:AA (AA KL)) (fuel_lt BU) (λI=>I.any (Wj own q u)) 20 (a7k q u own z false 0)]
  ·rw[hU];have e:(q.Kinds++u.Kinds).any (Wj own q u)=([q.Kinds,u.Kinds]:AA (AA KL)).any (λI=>I.any (Wj own q u)):=BU
   rw[e];cases([q.Kinds,u.Kinds]:AA (AA KL)).any (λI=>I.any (Wj own q u))<;>rfl
  ·intro k i h
   have U:([q.Kinds,u.Kinds]:AA (AA KL))[i].length<=100:=by
    have :([q.Kinds,u.Kinds]:AA (AA KL))[i]∈[q.Kinds,u.Kinds]:=EU h;simp only[FP,H9,or_false]at this;rcases this with e|e<;>rw[e]<;>assumption
   unfold a6f;rw[show decide ((i:Int)<2)=true by simp only[Gh,Qp]at h;simp;omega,CQ h];simp only[BZ,Ac];generalize([q.Kinds,u.Kinds]:AA (AA KL))[i]=I at U;unfold aMB;rw[H7 I (fuel_lt AB) (Wj own q u) 20 (k (Au ((i:Int)+1)))]
   ·intro k2 j O;unfold a8B;rw[Ch O,aKb q _ AB,aKb u _ AB];simp only[Ac];rw[aJu];rfl
   intro k2;unfold a8B;rw[EJ]
  intro k;unfold a6f;rw[show decide (((([q.Kinds,u.Kinds]:AA (AA KL)).length:Nat):Int)<2)=false from rfl];rfl
 unfold aPw;rw[H7 ((numsOf q).zip (numsOf u)) aTN (zU own) 20 (a2z q u own z 0)]
 ·rw[hK];cases((numsOf q).zip (numsOf u)).any (zU own)<;>rfl
 ·intro k i h;have J:i<7:=by rw[zJ]at h;exact h
  have e1:Ak [q.User,q.Message,q.State,q.gY,q.lg,q.oV,q.iq] (i:Int)=some ((numsOf q)[i]'(J)):=CQ (l:=numsOf q) J;have e2:Ak [u.User,u.Message,u.State,u.gY,u.lg,u.oV,u.iq] (i:Int)=some ((numsOf u)[i]'(J)):=CQ (l:=numsOf u) J;unfold a5k;rw[show decide ((i:Int)<7)=true by simp;omega,e1,e2];simp only[BZ,Ac];rw[aJu,aKU];rfl
 intro k;unfold a5k;rw[zJ,show decide (((7:Nat):Int)<7)=false from rfl];rfl
theorem ahP j z u q(I:ZJ j)(J:ZJ z):tH j z u q=some (Xy (Fg j q) (Fg j u) (Fg z u)&&(Fg j u==Fg z u||(u=q)||(Fg j u<Fg j q))):=by
 have o1:=I.users;have L:=J.users;unfold tH;rw[Zj j q AB,Zj j u AB,Zj z u AB];simp only[Ac];rw[a6a,JM]
 grind
def ag5 j q u(J:ZJ j)(L:ZJ q):a7X j q u=some (yA j q u):=by
 have o1:=J.users;have o2:=J.kinds;have n1:=L.users;have n2:=L.kinds;unfold a7X;rw[Zj j u AB];unfold a6G;simp only[Ac];unfold yA
 have z:∀x:IQ,(tH j q x.User u)=some (!Jq (Fg j u) j q u x):=λx=>by
  rw[ahP j q _ _ J L];unfold Jq;rw[a0Z]
 generalize O:Fg j u=own at z
 have M:aII q j u 0=some (cond (q.Users.any (Jq own j q u)) 20 0):=by
  unfold aII;rw[H7 q.Users (fuel_lt AB) (Jq own j q u) 20 (some 0)]
  ·cases q.Users.any (Jq own j q u)<;>rfl
  ·intro k i h;unfold aJ1;rw[Ch h,z];simp only[Ac,a0Z]
  intro k;unfold aJ1;rw[EJ]
 have Y:aCY j q u 0=some (cond ((j.Users++q.Users).any (Jq own j q u)) 20 0):=by
  unfold aCY;rw[H7 j.Users (fuel_lt AB) (Jq own j q u) 20 (some (cond (q.Users.any (Jq own j q u)) 20 0))]
  ·rw[aAH];cases j.Users.any (Jq own j q u)<;>rfl
  ·intro k i h;unfold aC5;rw[Ch h,z];simp only[Ac,a0Z]
  intro k;unfold aC5;rw[EJ,M]
 have Z:a9l j q own u 0=some (cond ((j.Kinds++q.Kinds).any (Wj own j q)) 20 (cond ((j.Users++q.Users).any (Jq own j q u)) 20 0)):=by
  unfold a9l;have U:Au ((j.Kinds.length:Int)+(q.Kinds.length:Int))=(((j.Kinds++q.Kinds).length:Nat):Int):=by rw[Ef,ZN];omega
  rw[H7 (j.Kinds++q.Kinds) (fuel_lt LV) (Wj own j q) 20 (some (cond ((j.Users++q.Users).any (Jq own j q u)) 20 0))]
  ·cases(j.Kinds++q.Kinds).any (Wj own j q)<;>rfl
  ·intro k i h;unfold aCe a2C;rw[U,dec_lt h];simp only[BZ];by_cases hi:i<j.Kinds.length
   ·rw[dec_lt hi,CQ hi];simp only[BZ,Ac];rw[zQ j _ AB,zQ q _ AB];simp only[Ac];rw[a6a,a2d hi];rfl
   have hj:i-j.Kinds.length<q.Kinds.length:=by rw[Ef]at h;omega
   have w:Au ((i:Int)-(j.Kinds.length:Int))=((i-j.Kinds.length:Nat):Int):=by rw[Ef]at h;rw[ZN];omega
   rw[show decide ((i:Int)<(j.Kinds.length:Int))=false by simp;omega,w,CQ hj];simp only[BH,Ac];rw[zQ j _ AB,zQ q _ AB];simp only[Ac];rw[a6a,List.getElem_append_right AB];rfl
  intro k;unfold aCe;rw[U,DR,Y];rfl
 unfold aTn;rw[H7 ((numsOf j).zip (numsOf q)) aTN (zU own) 20 (a9l j q own u 0)]
 ·rw[Z];cases((numsOf j).zip (numsOf q)).any (zU own)<;>rfl
 ·intro k i h;have I:i<7:=by rw[zJ]at h;exact h
  have e1:Ak [j.User,j.Message,j.State,j.gY,j.lg,j.oV,j.iq] (i:Int)=some ((numsOf j)[i]'(I)):=CQ (l:=numsOf j) I;have e2:Ak [q.User,q.Message,q.State,q.gY,q.lg,q.oV,q.iq] (i:Int)=some ((numsOf q)[i]'(I)):=CQ (l:=numsOf q) I;unfold aGs;rw[show decide ((i:Int)<(([j.User,j.Message,j.State,j.gY,j.lg,j.oV,j.iq]:AA Int).length:Int))=true from dec_lt (n:=7) I,e1,e2];simp only[BZ,Ac];rw[a6a,aKU];rfl
 intro k;unfold aGs;rw[zJ];rfl
def aO (e:AQ)(l:AA AQ)(now:Int):Int:=
 bif !(ML l e.bU==3)then 18 else
 bif e.Content.N==1&&decide (Fg (I5 l) e.bU<(I5 l).gY)then 20 else
 bif e.Content.N==0&&((now==4&&(Fg (I5 l) e.bU<(I5 l).oV))||(Fg (I5 l) e.bU<(I5 l).lg)||(Fg (I5 l) e.Key>=Fg (I5 l) e.bU))then 20 else
 bif e.Content.N==4&&(decide (Fg (I5 l) e.bU<(I5 l).oV)||(Fg (I5 l) e.Key>=Fg (I5 l) e.bU))then 20 else 0
def pJ (e:AQ)(l:AA AQ):Int:=
 bif YF e l then 0 else
 bif decide (e.Key=e.bU)&&ML l e.Key==4 then 19 else
 bif !moveB (ML l e.Key) e.Content.N (decide (e.Key=e.bU))then 18 else
 bif e.Key=e.bU then Yq e.Content.N (ML l e.Key) l else aO e l (ML l e.Key)
def Zw (e:AQ)(l:AA AQ):Int:=
 bif Fg (I5 l) e.bU<jJ (I5 l) e.Kind then 20 else bif e.Kind==3 then yA (I5 l) e.Content.Levels e.bU else 0
def aRs (s:BL):BL:=(splitB s (N8 s)).2.1
def KP (e:AQ)(l:AA AQ):Int:=
 bif e.Kind==1 then(cond (!(Jb l).2&&(aRs e.bU).toList==(aRs e.Room).toList) 0 17)else
 bif !(Jb l).2 then 17 else bif e.Kind==2 then pJ e l else bif !(ML l e.bU==3)then 18 else Zw e l
def aVm (h:EZ l):ZJ (I5 l):=⟨(mQ h).1,(mQ h).2⟩
def Et.levels (h:Et e):ZJ e.Content.Levels:=⟨h.users,h.kinds⟩
theorem aeH e l(hl:l.length<=1000)(hs:EZ l)(q:Et e):a4h e l=some (Zw e l):=by
 have j:=aVm hs;have h1:=j.users;have h2:=j.kinds;unfold a4h Zw;rw[aHP l hl hs];simp only[Ac];rw[fM _ _ AB,aKb _ _ AB];simp only[Ac];rw[aeB _ _ _ j q.levels]
 grind
theorem aeU e l(hl:l.length<=1000)(hs:EZ l)(q:Et e):a5V e l=some (Zw e l):=by
 have j:=aVm hs;have h1:=j.users;have h2:=j.kinds;unfold a5V Zw;rw[aCM l hl];simp only[Ac];rw[Zj _ _ AB,zQ _ _ AB];simp only[Ac];rw[ag5 _ _ _ j q.levels]
 grind
def oD (x:Int):Except BG Unit:=.error (.iface 263 (.agg #[.int .i64 x]))
def aLt x:iW x=some (oD x):=rfl
def aI5 b x:TD b x=some (cond b (.ok ()) (oD x)):=by cases b<;>rfl
def aFO b x f:Nb (cond b (.ok ()) (oD x)) f=bif b then f ()else some (oD x):=by cases b<;>rfl
def aWY x f:Nb (oD x) f=some (oD x):=rfl
def agC (a b:Int):decide (a>=b)= !decide (a<b):=by by_cases h:a<b<;>simp[h]<;>omega
theorem aaN e l now(hl:l.length<=1000)(hs:EZ l):(qQ l e now).bind Xd=some (aO e l now):=by
 have h1:=(mQ hs).1;unfold qQ aO;rw[aJP l _ hl,aHP l hl hs];simp only[Ac];rw[fM _ _ AB,fM _ _ AB];simp only[aI5,Ac,aFO,agC]
 have h2:decide (Fg (I5 l) e.Key<Fg (I5 l) e.bU)= !decide (Fg (I5 l) e.bU<=Fg (I5 l) e.Key):=by
  grind
 have h3:(now != 4)= !(now==4):=rfl;rw[h3];generalize decide (Fg (I5 l) e.Key<Fg (I5 l) e.bU)=t;generalize decide (Fg (I5 l) e.bU<(I5 l).gY)=i;generalize decide (Fg (I5 l) e.bU<(I5 l).oV)=b;generalize decide (Fg (I5 l) e.bU<(I5 l).lg)=k;generalize(now==4)=n;cases ML l e.bU==3 with
 |false=>
  rfl
 |true=>
  by_cases j:e.Content.N=1
  ·rw[j];cases i<;>rfl
  rw[show(e.Content.N==1)=false by simpa using j];by_cases q:e.Content.N=0
  ·rw[q];cases n<;>cases b<;>cases k<;>cases t<;>rfl
  rw[show(e.Content.N==0)=false by simpa using q];cases e.Content.N==4<;>cases b<;>cases t<;>rfl
def agz e l now(hl:l.length<=1000)(hs:EZ l):a5r e l now=some (aO e l now):=by
 have h1:=(mQ hs).1;unfold a5r aO;rw[aDk l _ hl,aCM l hl];simp only[Ac];rw[Zj _ _ AB,Zj _ _ AB];simp only[Ac,Mc,tJ,U3,bne]
theorem ajY e l(hl:l.length<=1000)(hs:EZ l):a3v e l=some (pJ e l):=by
 unfold a3v pJ;rw[amX e l hl];simp only[Ac];cases YF e l with
 |true=>
  rfl
 |false=>
  simp only[BH]
  have q:∀o:AL (Except BG Unit),(o.bind λu=>(Xd u).bind λz=>some z)=o.bind Xd:=λo=>by
   cases o with
   |none=>
    rfl
   |some x=>
    grind
  rw[q];have j:=aaN e l (ML l e.Key) hl hs;unfold aF9;rw[aJP l _ hl,JM];simp only[Ac];rw[ahb,aZ4 _ _ _ hl hs];simp only[Ac,aI5,aLt,aFO,aWY,Mc];have h3:(ML l e.Key != 4)= !(ML l e.Key==4):=rfl;rw[h3];generalize qQ l e (ML l e.Key)=J at j;generalize decide (e.Key=e.bU)=s;cases s with
  |true=>
   cases ML l e.Key==4 with
   |true=>
    rfl
   |false=>
    cases moveB (ML l e.Key) e.Content.N true<;>rfl
  |false=>
   cases moveB (ML l e.Key) e.Content.N false with
   |false=>
    rfl
   |true=>
    exact j
theorem ad9 e l(hl:l.length<=1000)(hs:EZ l):a5m e l=some (pJ e l):=by
 unfold a5m pJ;rw[agi e l hl,aDk l _ hl];simp only[Ac];rw[aUR,ak0 e _ l hl hs,agz e l _ hl hs,JM]
 grind
theorem a5P e l(hl:l.length<=1000)(hs:EZ l)(j:Et e):kU e l=some (KP e l):=by
 have h1:=j.sender;have h2:=j.room;unfold kU KP
 have q:∀o:AL (Except BG Unit),(o.bind λu=>(Xd u).bind λz=>some z)=o.bind Xd:=λo=>by
  cases o with
  |none=>
   rfl
  |some x=>
   grind
 rw[q];unfold aFx a4H a2e aAR;rw[aLs l hl,(lU (s:=e.bU) AB).1,(lU (s:=e.Room) AB).1,aJP l _ hl,aeH e l hl hs j,ajY e l hl hs];simp only[Ac,aI5,aLt,aFO,aWY];show _=some (cond (e.Kind==1) (cond (!(Jb l).2&&(splitB e.bU (N8 e.bU)).2.1.toList==(splitB e.Room (N8 e.Room)).2.1.toList) 0 17) _);cases e.Kind==1 with
 |true=>
  cases(Jb l).2 with
  |true=>
   rfl
  |false=>
   cases(splitB e.bU (N8 e.bU)).2.1.toList==(splitB e.Room (N8 e.Room)).2.1.toList<;>rfl
 |false=>
  cases(Jb l).2 with
  |false=>
   rfl
  |true=>
   cases e.Kind==2 with
   |true=>
    rfl
   |false=>
    cases ML l e.bU==3<;>rfl
theorem a7o e l(hl:l.length<=1000)(hs:EZ l)(j:Et e):gW e l=some (KP e l):=by
 have h1:=j.sender;have h2:=j.room;unfold gW a7F KP;rw[aLk l hl,(lU (s:=e.bU) AB).2,(lU (s:=e.Room) AB).2,aDk l _ hl,aeU e l hl hs j,ad9 e l hl hs];simp only[Ac];show _=some (cond (e.Kind==1) (cond (!(Jb l).2&&(splitB e.bU (N8 e.bU)).2.1.toList==(splitB e.Room (N8 e.Room)).2.1.toList) 0 17) _);cases e.Kind==1 with
 |true=>
  cases(Jb l).2 with
  |true=>
   rfl
  |false=>
   grind
 |false=>
  cases(Jb l).2 with
  |false=>
   rfl
  |true=>
   cases e.Kind==2 with
   |true=>
    rfl
   |false=>
    grind
def wC (named:AA AQ)(k:BK):AQ×AY:=match named.find? (FC k)with |some x=>(x,true)|none=>(Eo,false)
def iw (l:AA AQ)(s:AA BK)(e:AQ)(k:BK):AQ×AY:=bif (Ih s k.Kind k.Key).2 then Ii l (Ih s k.Kind k.Key).1 else wC (ofIds l e.bI) k
def Tt (l:AA AQ)(s:AA BK)(e:AQ)(k:BK):AA AQ:=bif (iw l s e k).2 then[(iw l s e k).1]else[]
def UF (l:AA AQ)(s:AA BK)(e:AQ):AA AQ:=(keysOf e).flatMap (Tt l s e)
def aJG l s e k:(Tt l s e k).length<=1:=by
 unfold Tt;cases(iw l s e k).2<;>simp
def aQm l s e:(UF l s e).length<=5:=by
 have h1:=flat_length (f:=Tt l s e) (n:=1) (aJG l s e) (keysOf e);have h2:=XQ e;unfold UF;omega
variable {s:AA BK}
theorem afa {x}(h:x∈UF l s e):x∈l:=by
 obtain⟨k,_,h⟩:=WL.1 h;unfold Tt iw wC at h;cases j:(Ih s k.Kind k.Key).2 with
 |true=>
  rw[j]at h;simp only[BZ]at h;cases hp:Eh l (Ih s k.Kind k.Key).1 with
  |none=>
   rw[SC hp]at h;exact absurd h H9
  |some y=>
   rw[Ou hp]at h;rw[Je.1 h];exact Jf hp
 |false=>
  rw[j]at h;simp only[BH]at h;cases q:(ofIds l e.bI).find? (FC k)with
  |none=>
   grind
  |some y=>
   rw[q]at h;rw[Je.1 h];exact aBD (YH q)
def EZ.base (h:EZ l)s e:EZ (UF l s e):=λx j=>h x (afa j)
def agN named k(j:named.length<=1000):a7p named k=some (wC named k):=by
 unfold a7p;rw[yj named AB (λa0=>a0R a0 k) (FC k) λe=>by unfold a0R FC;rw[JM];cases e.Kind==k.Kind<;>rfl];exact found_eq named (FC k) rfl
theorem aXX named k(j:named.length<=1000):aAT named k.Kind k.Key=some (wC named k):=by
 unfold aAT aOg;rw[aIn named (fuel_lt AB) (FC k) (λi=>some (match named[i]? with |some x=>(x,true)|none=>(Eo,false))) (some (Eo,false))]
 ·exact aK8 named _
 ·intro k2 i h;unfold aBm;rw[Ch h,CQ h,ES h];simp only[Ac];rw[JM];unfold FC
  grind
 intro k2;unfold aBm;rw[EJ]
theorem aar l s e(hl:l.length<=1000)(j:e.bI.length<=40)(hs:LD s)(hsl:s.length<=1000000):a4S l s e=some (UF l s e):=by
 unfold a4S;have q:=iy l e.bI;have u:=XQ e;have hm:Jg 376 Eo 0 5=some []:=by unfold Jg;rw[ET a6M];rfl
 rw[ahD l _ hl AB,hm,aUH];simp only[Ac];unfold aMf;rw[Iy (keysOf e) AB (λr k=>r++Tt l s e k) (λi r=>r.length<=i) (λr=>some r) (ER _)]
 ·rw[foldl_append (Tt l s e),Ir];rfl
 ·intro k r i h z;have hp:=aJG l s e (keysOf e)[i];refine⟨LV,?_⟩;unfold aDr a1z a4q;rw[Ch h,agN _ _ AB,aIa s _ _ hsl hs];simp only[Ac];rw[OD l _ AB,Dw G7];simp only[Ac];rw[Dw G7];unfold Tt iw
  grind
 intro k r _;unfold aDr;rw[EJ]
theorem amn l s e(hl:l.length<=1000)(j:e.bI.length<=40)(hsl:s.length<=1000000):aAY l s e=some (UF l s e):=by
 unfold aAY;have q:=iy l e.bI;have u:=XQ e;rw[aJz,aBj l _ hl AB];simp only[Ac];unfold aUl;rw[Iy (a0:=[]) (keysOf e) AB (λr k=>r++Tt l s e k) (λi r=>r.length<=i) (λr=>some r) (ER _)]
 ·rw[foldl_append (Tt l s e),Ir];rfl
 ·intro k r i h z;have hp:=aJG l s e (keysOf e)[i];refine⟨LV,?_⟩;unfold aH8 a2i a4Z;rw[dec_lt h,CQ h];simp only[BZ,Ac];rw[aXX _ _ AB,aJD s _ _ hsl];simp only[Ac];rw[MI l _ AB,Dw G7];simp only[Ac];rw[Dw G7];unfold Tt iw
  grind
 intro k r _;unfold aH8;rw[DR];rfl
def TS (l:AA AQ)(s:AA BK)(id:Int):AY:=bP l id&&(JE (ev l id).Kind&&KP (ev l id) (UF l s (ev l id))==0)
def QG (l:AA AQ)(s:AA BK)(id:Int):AA BK:=bif TS l s id then Gy s (ev l id).Kind (ev l id).Key (ev l id).Id else s
def QA (l:AA AQ)(s:AA BK)(ids:AA Int):AA BK:=ids.foldl (QG l) s
def aUi (h:LD s)id:LD (QG l s id):=by
 unfold QG;cases TS l s id with
 |true=>exact YJ h _ _ _
 |false=>exact h
def aIU {l}:∀{ids:AA Int} {s:AA BK},LD s->LD (QA l s ids)
 | [],_,h=>h
 |id::ids,s,h=>aIU (ids:=ids) (aUi h id)
def aEX l s id:(QG l s id).length<=s.length+1:=by
 unfold QG;cases TS l s id with
 |true=>exact RX _ _ _ _
 |false=>exact Nat.le_succ _
theorem aB9 l:∀(ids:AA Int) (s:AA BK),(QA l s ids).length<=s.length+ids.length
 | [],s=>ER _
 |id::ids,s=>by
  have h1:=aB9 l ids (QG l s id);have h2:=aEX l s id;show(QA l (QG l s id) ids).length<=_
  grind
def aTh (hs:EZ l){id}(h:bP l id=true):Et (ev l id):=hs _ (Jf (J7 h).1)
def an1 l s id(hl:l.length<=1000)(hs:EZ l)(u:LD s)(hsl:s.length<=1000000):aAF l s id=some (QG l s id):=by
 unfold aAF aKj xP QG TS;have j:a2f s (.error (.iface 378 (.agg #[])):Except BG (AA BK))=some s:=rfl;rw[OD l _ AB];simp only[Ac];rw[MF];cases I:(Eh l id).isSome with
 |false=>rw[show bP l id=false from I];exact j
 |true=>
  have q:bP l id=true:=I;have J:=aTh hs q;have z:(Ii l id).1=ev l id:=rfl;rw[q,z,aQ2];simp only[Ac,Eu,BH,GZ];cases JE (ev l id).Kind with
  |false=>exact j
  |true=>
   have L:=aQm l s (ev l id);rw[aar l s _ hl J.auth u hsl];simp only[Ac,Eu,BH,GZ];rw[a5P _ _ AB (hs.base s _) J];simp only[Ac];rw[aU s _ _ _ hsl];unfold bne;cases KP (ev l id) (UF l s (ev l id))==0 with
   |true=>rfl
   |false=>exact j
def aMI l s ids(hl:l.length<=1000)(hs:EZ l)(j:LD s)(hsl:s.length+ids.length<=1000000):jv l s ids=some (QA l s ids):=by
 unfold jv a8g;rw[Dw QD];simp only[Ac,Ir];unfold aVX;rw[Iy ids AB (QG l) (λi r=>LD r/\r.length<=s.length+i) (λr=>some r) ⟨j,ER _⟩]
 ·rfl
 ·intro k r i h q;have h1:=aEX l r ids[i];refine⟨⟨aUi q.1 _,AB⟩,?_⟩;unfold aEC;rw[Ch h,an1 l r _ hl hs q.1 AB];rfl
 intro k r _;unfold aEC;rw[EJ]
def aOI l s ids(hl:l.length<=1000)(hs:EZ l)(hsl:s.length+ids.length<=1000000):fE l s ids=some (QA l s ids):=by
 unfold fE;rw[Dw QD];simp only[Ac,Ir];unfold aRL;rw[Iy ids AB (QG l) (λi r=>r.length<=s.length+i) (λr=>some r) (ER _)]
 ·rfl
 ·intro k r i h I;have h1:=aEX l r ids[i];refine⟨AB,?_⟩;unfold aJj a0H a8R QG TS;rw[Ch h,MI l _ AB];simp only[Ac];rw[MF];cases u:(Eh l ids[i]).isSome with
  |false=>rw[show bP l ids[i]=false from u];rfl
  |true=>
   have j:bP l ids[i]=true:=u;have z:=aTh hs j;have q:(Ii l ids[i]).1=ev l ids[i]:=rfl;rw[j,q,a3J];simp only[Ac,BZ,GZ];cases JE (ev l ids[i]).Kind with
   |false=>rfl
   |true=>
    have J:=aQm l r (ev l ids[i]);rw[amn l r _ hl z.auth AB];simp only[Ac,BZ,GZ];rw[a7o _ _ AB (hs.base r _) z];simp only[Ac];rw[aBI r _ _ _ AB];cases KP (ev l ids[i]) (UF l r (ev l ids[i]))==0<;>rfl
 intro k r _;unfold aJj;rw[EJ]
def MO (l:AA AQ)(bg:AA (AA BK)):AA Int:=Xz l (KQ l bg)
def NH (l:AA AQ)(bg:AA (AA BK)):AA Int:=tC l (gU l (MO l bg)).length (gU l (MO l bg))
def JB (l:AA AQ)(bg:AA (AA BK)):AA BK:=QA l (Il bg) (NH l bg)
def VE (l:AA AQ)(bg:AA (AA BK)):AA Int:=bif (Ih (JB l bg) 3 CX).2 then ZW l (Ih (JB l bg) 3 CX).1 else[]
def Ld (l:AA AQ)(bg:AA (AA BK)):AA Int:=Bg l (VE l bg) (PY (KQ l bg) (MO l bg))
def zB (s a:AA BK):AA BK:=a.foldl (λs x=>Gy s x.Kind x.Key x.Id) s
def lastOf (l:AA AQ)(bg:AA (AA BK)):AA BK:=zB (QA l (JB l bg) (Ld l bg)) (Il bg)
structure PG (l:List AQ) (bg:List (List BK)):Prop where
 len:l.length<=100
 small:EZ l
 states:PL bg
variable {bg:AA (AA BK)}
theorem qF (h:PG l bg):(KQ l bg).length<=40000:=by
 have j:=h.len;have q:=a7Z h.states;have u:=OE (Sv bg);have h1:=a9H l bg [] λs hs=>(h.states.2 s hs).1;have h2:=h.states.1;have h3:=MS (λx=>Jo l bg x<bg.length) (allOf l bg);have z:bg.length*(100+l.length)<=100*200:=aAK h2 AB;have I:=aFt (FY (Sv bg)) (PK l bg)
 have J:(PK l bg).length<=20000:=by
  unfold PK;unfold allOf at h3 ⊢
  grind
 unfold KQ;omega
def aaY (h:PG l bg):(IY l (KQ l bg)).length<=40000:=EC (MS _ _) (qF h)
def aJR (h:PG l bg):(NH l bg).length<=100:=by
 have h1:=aUP l (gU l (MO l bg)).length (gU l (MO l bg));have h2:(gU l (MO l bg)).length<=l.length:=lT (kW _ _) λx j=>(O6.1 j).2;have h3:=h.len;unfold NH;omega
def a5M (h:PG l bg):(JB l bg).length<=200:=by
 have h1:=aB9 l (NH l bg) (Il bg);have h2:=aJR h;have h3:=fP h.states;unfold JB;omega
def aId (h:PG l bg):LD (JB l bg):=aIU (aNu h.states)
theorem aMc (h:PG l bg):(VE l bg).length<=100:=by
 have h1:=aNQ l (Ih (JB l bg) 3 CX).1;have h2:=h.len;unfold VE
 grind
def aRu (h:PG l bg):(Ld l bg).length<=40000:=by
 have h1:=aXa l (VE l bg) (PY (KQ l bg) (MO l bg));have h2:=aHu (KQ l bg) (MO l bg);have h3:=qF h;unfold Ld;omega
theorem aaL (h:PG l bg):zG (KQ l bg) (MO l bg) l (JB l bg,NH l bg) (Il bg,FY (Sv bg)) (VE l bg)=some ⟨lastOf l bg,NH l bg,Ld l bg⟩:=by
 have q:=h.len;have h1:=qF h;have h2:=a4L l (KQ l bg);have h3:=aMc h;have u:=aHu (KQ l bg) (MO l bg);have z:=a5M h;have I:=aRu h;have J:=fP h.states;unfold zG aBN aHy;rw[ajq _ _ AB (by unfold MO;omega)];simp only[Ac];rw[anV l _ _ AB h.small AB AB (UD (aHn _ _))];simp only[Ac];show((jv l (JB l bg) (Ld l bg)).bind _).bind _=_;rw[aMI l _ _ AB h.small (aId h) AB];simp only[Ac];unfold aRe;have L:=aB9 l (Ld l bg) (JB l bg);show aQ _ Am 0 (⟨QA l (JB l bg) (Ld l bg),NH l bg,Ld l bg⟩:PV)=_;rw[o8 (Il bg) AB (λv x=>({ v with Ji:=Gy v.Ji x.Kind x.Key x.Id }:PV)) (λi v=>v.Ji.length<=(QA l (JB l bg) (Ld l bg)).length+i) (λv=>some v) (ER _)]
 ·congr 1;unfold lastOf zB
  have key:∀(a:AA BK) (v:PV),a.foldl (λv x=>({ v with Ji:=Gy v.Ji x.Kind x.Key x.Id }:PV)) v=⟨a.foldl (λs x=>Gy s x.Kind x.Key x.Id) v.Ji,v.anr,v.axg⟩:=by
   intro a
   induction a with
   |nil=>
    intro v;rfl
   |cons x a M=>
    grind
  rw[key]
 ·intro k v i hi O;have j:=RX v.Ji (Il bg)[i].Kind (Il bg)[i].Key (Il bg)[i].Id;refine⟨by show(Gy _ _ _ _).length<=_;omega,?_⟩;unfold aK7;rw[Ch hi,aU _ _ _ _ AB];rfl
 intro k v _;unfold aK7;rw[EJ]
def an3 (h:PG l bg):a4m l bg=some ⟨lastOf l bg,NH l bg,Ld l bg⟩:=by
 have u:=h.len;have h1:=qF h;have h2:=a4L l (KQ l bg);have h3:=aaY h;have z:=a5M h;have I:=aJR h;have J:=fP h.states;have j:=aaL h;unfold a4m;rw[aSZ bg h.states,afs l bg AB h.small.anG h.states];simp only[Ac];rw[aXx l _ AB h.small AB AB];simp only[Ac];unfold aKa aF2;rw[abO l _ AB h.small AB];simp only[Ac];have ha:jv l (Il bg) (NH l bg)=some (JB l bg):=aMI l _ _ AB h.small (aNu h.states) AB;unfold NH MO at ha;rw[ha];simp only[Ac];rw[aIa _ _ _ AB (aId h)];simp only[Ac];rw[ake l _ AB h.small];unfold VE at j;cases q:(Ih (JB l bg) 3 CX).2 with
 |true=>rw[q]at j;exact j
 |false=>rw[q]at j;exact j
theorem al5 (h:PG l bg):a0v (KQ l bg) (MO l bg) l (Il bg,FY (Sv bg)) (NH l bg) (JB l bg) (VE l bg)=some ⟨Il bg,NH l bg,JB l bg,Ld l bg,lastOf l bg⟩:=by
 have u:=h.len;have h1:=qF h;have h2:=a4L l (KQ l bg);have h3:=aMc h;have z:=aHu (KQ l bg) (MO l bg);have I:=a5M h;have J:=aRu h;have L:=fP h.states;unfold a0v;rw[a3B _ _ AB (by unfold MO;omega)];simp only[Ac];rw[acF l _ _ AB h.small AB AB (UD (aHn _ _))];simp only[Ac];show(fE l (JB l bg) (Ld l bg)).bind _=_;rw[aOI l _ _ AB h.small AB];simp only[Ac];unfold aNR;have M:=aB9 l (Ld l bg) (JB l bg);show aQ _ Am 0 (⟨Il bg,NH l bg,JB l bg,Ld l bg,QA l (JB l bg) (Ld l bg)⟩:PO)=_;rw[o8 (Il bg) AB (λv x=>({ v with Last:=Gy v.Last x.Kind x.Key x.Id }:PO)) (λi v=>v.Same=Il bg/\v.Last.length<=(QA l (JB l bg) (Ld l bg)).length+i) (λv=>some v) ⟨rfl,ER _⟩]
 ·congr 1;unfold lastOf zB
  have key:∀(a:AA BK) (v:PO),a.foldl (λv x=>({ v with Last:=Gy v.Last x.Kind x.Key x.Id }:PO)) v=⟨v.Same,v.Power,v.First,v.Others,a.foldl (λs x=>Gy s x.Kind x.Key x.Id) v.Last⟩:=by
   intro a
   induction a with
   |nil=>
    intro v;rfl
   |cons x a O=>
    grind
  rw[key]
 ·intro k v i hi j;have q:=RX v.Last (Il bg)[i].Kind (Il bg)[i].Key (Il bg)[i].Id;refine⟨⟨j.1,by show(Gy _ _ _ _).length<=_;omega⟩,?_⟩;unfold aDc;rw[j.1,dec_lt hi,CQ hi];simp only[BZ,Ac];rw[aBI _ _ _ _ AB];rfl
 intro k v j;unfold aDc
 grind
def aju (h:PG l bg):a6u l bg=some ⟨Il bg,NH l bg,JB l bg,Ld l bg,lastOf l bg⟩:=by
 have u:=h.len;have h1:=qF h;have h2:=a4L l (KQ l bg);have z:=a5M h;have I:=aJR h;have J:=fP h.states;have j:=al5 h;unfold a6u;rw[aWU bg h.states,ak4 l bg AB h.small.anG h.states];simp only[Ac];rw[am1 l _ AB h.small AB];simp only[Ac];rw[adM l _ AB h.small AB];simp only[Ac];have ha:fE l (Il bg) (NH l bg)=some (JB l bg):=aOI l _ _ AB h.small AB;unfold NH MO at ha;rw[ha];simp only[Ac];rw[aJD _ _ _ AB];simp only[Ac];rw[aRU l _ AB h.small];unfold VE at j;cases q:(Ih (JB l bg) 3 CX).2 with
 |true=>rw[q]at j;exact j
 |false=>rw[q]at j;exact j
def dN (l:AA AQ)(bg:AA (AA BK)):AA BK:=match bg with
 | []=>[]
 | [s]=>s
 |_=>lastOf l bg
def aLR (h:PG l bg):lY l bg=some (dN l bg):=by
 match bg,h with
 | [],_=>rfl
 | [s],h=>
   have hs:=(h.states.2 s (Gv ..)).1;have j:Ak [s] 0=some s:=rfl;show((Ak [s] 0).bind λq=>(D5 32 [] q).bind λu=>some u)=some s;rw[j];simp only[Ac];rw[Dw QD];rfl
 |s::t::bg,h=>
  unfold lY;have j:(((s::t::bg).length:Int)==0)=false:=aA3
  have z:(((s::t::bg).length:Int)==1)=false:=aA3
  rw[j,z,an3 h];rfl
def aMW (h:PG l bg):a1F l bg=some (dN l bg):=by
 match bg,h with
 | [],_=>rfl
 | [s],_=>rfl
 |s::t::bg,h=>
  unfold a1F;have j:(((s::t::bg).length:Int)==0)=false:=aA3
  have q:(((s::t::bg).length:Int)==1)=false:=aA3
  rw[j,q,aju h];rfl
theorem aBe {x}:∀(a s:AA BK),x∈zB s a->x∈a\/x∈s
 | [],_,h=>.inr h
 |y::a,s,h=>by
  rcases aBe a _ h with h|h
  ·grind
  rcases TQ h with h|h
  ·left;rw[h];cases y;exact Gv ..
  exact .inr h
def aLv (l:AA AQ)(ids:AA Int)(x:BK):Prop:=∃id∈ids,bP l id=true/\JE (ev l id).Kind=true/\x=⟨(ev l id).Kind,(ev l id).Key,(ev l id).Id⟩
theorem aIO {l}{x}:∀(ids:AA Int) (s:AA BK),x∈QA l s ids->x∈s\/aLv l ids x
 | [],_,h=>.inl h
 |id::ids,s,h=>by
  rcases aIO ids _ h with h|⟨j,q,h⟩
  ·have h2:x∈bif TS l s id then Gy s (ev l id).Kind (ev l id).Key (ev l id).Id else s:=h
   cases hm:TS l s id with
   |false=>
    grind
   |true=>
    rw[hm]at h2;rcases TQ h2 with h2|h2
    ·unfold TS at hm;simp only[Di]at hm;exact .inr ⟨id,Gv ..,hm.1,hm.2.1,h2⟩
    exact .inl h2
  exact .inr ⟨j,I7 _ q,h⟩
def ah0 {x}(h:x∈MO l bg):x∈KQ l bg:=(a9y.1 h).1
def al2 {x}(h:x∈lastOf l bg):x∈Il bg\/aLv l (KQ l bg) x:=by
 unfold lastOf at h;rcases aBe _ _ h with h|h
 ·exact .inl h
 rcases aIO _ _ h with h|⟨j,q,h⟩
 ·unfold JB at h;rcases aIO _ _ h with h|⟨j,q,h⟩
  ·exact .inl h
  exact .inr ⟨j,ah0 (O6.1 (aHO _ _ _ q)).1,h⟩
 exact .inr ⟨j,(aDV.1 (akv.1 q).1).1,h⟩
def aWf :∀(a s:AA BK),LD s->LD (zB s a)
 | [],_,h=>h
 |x::a,s,h=>aWf a _ (YJ h x.Kind x.Key x.Id)
def aiF (h:PG l bg):LD (lastOf l bg):=aWf _ _ (aIU (aId h))
structure KF (l:List AQ) (s:List BK):Prop where
 sorted:LD s
 named:∀x∈s,bP l x.Id=true/\JE x.Kind=true/\(ev l x.Id).Kind=x.Kind/\(ev l x.Id).Key=x.Key
def KF.nil l:KF l []:=⟨List.Pairwise.nil,λ_ h=>absurd h H9⟩
def KF.nodup (h:KF l s):(s.map (·.Id)).Nodup:=by
 rw[dX,eM];refine List.Pairwise.imp_of_mem ?_ h.sorted;intro a b ha j hp e;obtain⟨_,_,q,k2⟩:=h.named a ha;obtain⟨_,_,k3,u⟩:=h.named b j;have z:a.Kind=b.Kind:=by rw[←q,←k3,e]
 have I:a.Key=b.Key:=by rw[←k2,←u,e]
 rw[a1k (XI.2 ⟨z,I⟩)]at hp;cases hp
theorem KF.length {l}{s}(h:KF l s):s.length<=l.length:=by
 have :WE l (s.map (·.Id)):=⟨h.nodup,λx j=>by
  obtain⟨y,q,rfl⟩:=FB.1 j
  exact(h.named y q).1⟩
 have :=this.length
 grind
def KF.okay (hl:l.length<=100)(hs:EZ l)(j:bg.length<=100)(h:∀s∈bg,KF l s):PG l bg:=
 ⟨hl,hs,j,λs hm=>⟨EC (h s hm).length hl,(h s hm).sorted⟩⟩
def KF.resolve (j:PG l bg)(h:∀s∈bg,KF l s):KF l (dN l bg):=by
 match bg,j,h with
 | [],_,_=>exact .nil l
 | [s],_,h=>exact h s (Gv ..)
 |s::t::bg,j,h=>
  refine⟨aiF j,λx I=>?_⟩;rcases al2 I with hm|⟨id,_,z,hst,q⟩
  ·exact(h s (Gv ..)).named x ((abn j.states (List.cons_ne_nil _ _)).1 hm s (Gv ..))
  have u:=J7 z;have J:x.Id=id:=by rw[q];exact u.2
  rw[J];exact⟨z,by rw[q];exact hst,by rw[q],by rw[q]⟩
def KF.set (h:KF l s)(u:bP l e.Id=true)(q:ev l e.Id=e)(hst:JE e.Kind=true):KF l (Gy s e.Kind e.Key e.Id):=
 ⟨YJ h.sorted _ _ _,λx j=>by
  rcases TQ j with rfl|j
  ·exact⟨u,hst,by rw[q],by rw[q]⟩
  exact h.named x j⟩
def Fr (l:AA AQ)(e:AQ):AY:=e.bG.all (bP l)&&e.bI.all (bP l)
def U1 (l:AA AQ):AY:=l.all (Fr l)
variable {p:α->AY}
theorem qV {l:AA α}{x}(h:x∈l)(j:p x=false):l.all p=false:=by
 grind
def all_good {l:AA α}(h:∀j,(hj:j<l.length)->p l[j]=true):l.all p=true:=FW.2 (aiy h)
theorem aNT refs l m(h:cD l m)(j:refs.length<=1000):a0I refs m=some (refs.all (bP l)):=by
 unfold a0I aLE;rw[H7 refs (fuel_lt AB) (λx=> !bP l x) false (some true)]
 ·grind
 ·intro k i hi;unfold aFV;rw[Ch hi,h.isSome]
 intro k;unfold aFV;rw[EJ]
def aXV l(hl:l.length<=100)(hs:EZ l):aA6 l=some (U1 l):=by
 refine dK.eq ?_;unfold aA6;refine(vJ l AB).bind λm hm=>?_;unfold aTF;refine ZX (body:=aKK l) (Q:=λb=>b=U1 l) (λn a b=>∃i:Nat,a=i/\i+n=l.length/\b=m/\∀j,(q:j<i)->(hl:j<l.length)->Fr l l[j]=true) ?_ Am l.length 0 m (fuel_lt AB) ⟨0,rfl,AB,rfl,λj q=>AB⟩;rintro n a b k ⟨i,rfl,L,rfl,z⟩ J;unfold aKK;by_cases hi:i<l.length
 ·have I:=hs l[i] (EU hi);have h1:=I.prev;have h2:=I.auth;rw[Ch hi,aNT _ l b hm AB,Ac,CQ hi,Ac,aNT _ l b hm AB];cases hp:l[i].bG.all (bP l)with
  |false=>exact .ret (qV (EU hi) (by unfold Fr;rw[hp];rfl)).symm
  |true=>
   cases ha:l[i].bI.all (bP l)with
   |false=>exact .ret (qV (EU hi) (by unfold Fr;rw[hp,ha];rfl)).symm
   |true=>
    refine J (n-1) _ _ AB ⟨i+1,wrap_succ i AB,AB,rfl,λj q u=>?_⟩;by_cases e:j=i
    ·subst e;unfold Fr;rw[hp,ha];rfl
    exact z j AB u
 have :i=l.length:=AB
 subst this;rw[EJ];exact .ret (all_good λj q=>z j q q).symm
def iE (l:AA AQ):AA Int:=l.foldl (λr e=>e.bI.foldl put (e.bG.foldl put r)) []
variable {i:Nat}
def amu (hi:i<l.length)k3 v(z:Inc v)(hl:v.length<=900000)(ha:l[i].bI.length<=40):
 a9J l (i:Int) k3 v 0=k3 (l[i].bI.foldl put v) (Au ((i:Int)+1)):=by
 unfold a9J;rw[Iy l[i].bI AB put (λj a=>Inc a/\a.length<=v.length+j) (λa=>k3 a (Au ((i:Int)+1))) ⟨z,AB⟩]
 ·intro k a j q u;have hp:=oN a l[i].bI[j];refine⟨⟨TP u.1,AB⟩,?_⟩;unfold aC7;rw[CQ hi,Ac,dec_lt q,BZ,Ac,CQ q,Ac,aHK a _ u.1 AB,Ac]
 intro k a _;unfold aC7;rw[CQ hi,Ac,DR];rfl
def aY2 (hi:i<l.length)k3 v(q:Inc v)(hl:v.length<=800000)(hp:l[i].bG.length<=40)(ha:l[i].bI.length<=40):
 aCJ l (i:Int) k3 v 0=k3 (l[i].bI.foldl put (l[i].bG.foldl put v)) (Au ((i:Int)+1)):=by
 unfold aCJ;rw[Iy l[i].bG AB put (λj a=>Inc a/\a.length<=v.length+j) (λa=>a9J l (i:Int) k3 a 0) ⟨q,AB⟩]
 ·have h:=sV l[i].bG v;exact amu hi k3 _ (a9B q) AB ha
 ·intro k a j u z;have hp:=oN a l[i].bG[j];refine⟨⟨TP z.1,AB⟩,?_⟩;unfold aJo;rw[CQ hi,Ac,dec_lt u,BZ,Ac,CQ u,Ac,aHK a _ z.1 AB,Ac]
 intro k a _;unfold aJo;rw[CQ hi,Ac,DR];rfl
theorem aAy :∀(l:AA AQ) (r:AA Int),Inc r->(∀e∈l,e.bG.length<=40/\e.bI.length<=40)->
 Inc (l.foldl (λr e=>e.bI.foldl put (e.bG.foldl put r)) r)/\(l.foldl (λr e=>e.bI.foldl put (e.bG.foldl put r)) r).length<=r.length+l.length*80/\
 ∀x,x∈l.foldl (λr e=>e.bI.foldl put (e.bG.foldl put r)) r↔x∈r\/∃e∈l,x∈e.bG\/x∈e.bI
 | [],r,h,_=>⟨h,BU,λx=>BU⟩
 |e::l,r,h,hs=>by
  have q:=hs e (Gv ..);obtain⟨h1,h2,h3⟩:=aAy l (e.bI.foldl put (e.bG.foldl put r)) (a9B (a9B h)) λx j=>hs x (I7 _ j);have u:=sV e.bG r;have z:=sV e.bI (e.bG.foldl put r);rw[Gf];refine⟨h1,by rw[Gh];omega,λx=>(h3 x).trans ?_⟩;rw[aJa,aJa]
  grind
def EZ.lists (hs:EZ l):∀e∈l,e.bG.length<=40/\e.bI.length<=40:=λe j=>⟨(hs e j).prev,(hs e j).auth⟩
def akO (h:i<l.length):(l.take (i+1)).foldl (λr e=>e.bI.foldl put (e.bG.foldl put r)) ([]:AA Int)=l[i].bI.foldl put (l[i].bG.foldl put ((l.take i).foldl (λr e=>e.bI.foldl put (e.bG.foldl put r)) [])):=by
 rw[Ur,ES h,SN,Uw];rfl
def aYu l(hl:l.length<=1000)(hs:EZ l):aAP l=some (iE l):=by
 unfold aAP aWJ;refine dK.eq (JJ l.length (fuel_lt AB) (λi a=>a=(l.take i).foldl (λr e=>e.bI.foldl put (e.bG.foldl put r)) []) rfl (λi a k hi ha j=>?_) λa k ha=>?_)
 ·subst ha;obtain⟨h1,h2,_⟩:=aAy (l.take i) [] .nil λe q=>hs.lists e (dZ q);have hp:=hs.lists l[i] (EU hi);unfold aEq;rw[dec_lt hi,BZ,aY2 hi k _ h1 (by rw[Hl]at h2;simp only[Qp]at h2;omega) hp.1 hp.2,wrap_succ i AB];exact j _ (akO hi).symm
 unfold aEq;rw[DR];refine .ret ?_;rw[ha,Gw];rfl
def anS (hs:EZ l):(iE l).length<=l.length*80:=by
 have :=(aAy l [] .nil hs.lists).2.1;unfold iE;simpa using this
def aWV (hs:EZ l){x}:x∈iE l↔∃e∈l,x∈e.bG\/x∈e.bI:=by
 have :=(aAy l [] .nil hs.lists).2.2 x;unfold iE;rw[this];simp
theorem aXt:U1 l=true↔∀e∈l,(∀x∈e.bG,bP l x=true)/\∀x∈e.bI,bP l x=true:=by
 unfold U1 Fr
 grind
theorem aiZ l(hl:l.length<=1000)(hs:EZ l):a2R l=some (U1 l):=by
 have h1:=anS hs;unfold a2R;rw[aYu l hl hs,Ac,a07 l _ hl AB,Ac];refine BF some ?_;rw[Oz,aXt];constructor
 ·intro h e u;have j:RP l (iE l)=[]:=Hu aG9
  have key:∀x,x∈e.bG\/x∈e.bI->bP l x=true:=λx q=>by
   cases z:bP l x with
   |true=>
    rfl
   |false=>
    have :=pR.2 ⟨(aWV hs).2 ⟨e,u,q⟩,z⟩;rw[j]at this;cases this
  grind
 intro h
 have j:RP l (iE l)=[]:=aHj.2 λx q=>by
  obtain⟨h3,I⟩:=pR.1 q;obtain⟨e,u,J⟩:=(aWV hs).1 h3
  grind
 rw[j];rfl
def sZ (l:AA AQ):Prop:=∀e∈l,1<=e.Depth/\e.Depth<=100000
def Ho (l:AA AQ)(x:Int):Int:=(Ii l x).1.Depth
def QX (l:AA AQ)(e:AQ):AY:=e.bI.all (λx=>Ho l x<e.Depth)&&bif (e.bG.length:Int)==0 then e.Depth==1 else e.bG.all (λx=>Ho l x<e.Depth)&&e.bG.any λx=>Ho l x==e.Depth-1
def Hf (l:AA AQ):Int:=bif U1 l then bif l.all (QX l)then 0 else 15 else 14
def aOy (h:sZ l)x:0<=Ho l x/\Ho l x<=100000:=by
 unfold Ho Ii;cases j:Eh l x with
 |none=>exact⟨a0U 0,Bl⟩
 |some e=>have :=h e (Jf j);exact⟨by show 0<=e.Depth;omega,this.2⟩
def a5i (a b:Int):decide (a>=b)= !decide (a<b):=by by_cases h:a<b<;>simp[h];omega
def qN (l:AA α)p:l.any (λx=> !p x)= !l.all p:=by rw[List.all_eq_not_any_not,a0Z]
def amo l e(hl:l.length<=1000)(M:Et e)(hd:sZ l)(O:1<=e.Depth/\e.Depth<=100000):a0J l e=some (QX l e):=by
 have h1:=M.prev;have h2:=M.auth;have w:Au (e.Depth-1)=e.Depth-1:=Nr AB AB
 have z:a5U e l ((e.bG.length:Int)==0) 0=some (cond ((e.bG.length:Int)==0) true (e.bG.all (λx=>Ho l x<e.Depth)&&e.bG.any λx=>Ho l x==e.Depth-1)):=by
  unfold a5U;refine dK.eq (JJ e.bG.length (fuel_lt AB) (λi a=>(∀j,(u:j<i)->(hl:j<e.bG.length)->decide (Ho l e.bG[j]<e.Depth)=true)/\a=(((e.bG.length:Int)==0)||(e.bG.take i).any λx=>Ho l x==e.Depth-1)) ⟨λj u=>AB,BU⟩ (λi a k hi ha U=>?_) λa k ha=>?_)
  ·have Y:((e.bG.length:Int)==0)=false:=by simp;intro Z;rw[Z]at hi;simp at hi
   unfold a8P;rw[Ch hi,MI l _ AB,Ac,a5i];refine dK.bif (λq=>.ret ?_) λq=>?_
   ·have q:decide (Ho l e.bG[i]<e.Depth)=false:=by unfold Ho;simpa using q
    rw[Y,qV (EU hi) q];rfl
   have q:decide (Ho l e.bG[i]<e.Depth)=true:=by unfold Ho;simpa using q
   rw[show(cond a (some true) (some ((Ii l e.bG[i]).1.Depth==Au (e.Depth-1))))=some (a||(Ho l e.bG[i]==e.Depth-1)) by rw[w];cases a<;>rfl,Ac,wrap_succ i AB];refine U _ ⟨λj u I=>?_,?_⟩
   ·by_cases ej:j=i
    ·subst ej;exact q
    exact ha.1 j AB I
   rw[ha.2,Ur,ES hi,SN,aAH,Bool.or_assoc];simp
  unfold a8P;rw[EJ];refine .ret ?_;rw[ha.2,Gw,all_good λj u=>ha.1 j u u];cases((e.bG.length:Int)==0)<;>simp
 unfold a0J
 have J:aFB e l 0=some (e.bI.all (λx=>Ho l x<e.Depth)&&(cond ((e.bG.length:Int)==0) true (e.bG.all (λx=>Ho l x<e.Depth)&&e.bG.any λx=>Ho l x==e.Depth-1))):=by
  unfold aFB;rw[H7 e.bI (fuel_lt AB) (λx=> !decide (Ho l x<e.Depth)) false (a5U e l ((e.bG.length:Int)==0) 0)]
  ·rw[z,qN];cases e.bI.all (λx=>Ho l x<e.Depth)<;>rfl
  ·intro k i hi;unfold a9K;rw[Ch hi,MI l _ AB,Ac,a5i];rfl
  intro k;unfold a9K;rw[EJ]
 rw[J];unfold QX;have L:(e.Depth != 1)= !(e.Depth==1):=rfl;rw[L];cases((e.bG.length:Int)==0)<;>cases(e.Depth==1)<;>cases e.bI.all (λx=>Ho l x<e.Depth)<;>rfl
def aI8 {m}(h:cD l m){x}(j:bP l x=true):∃e,Ak l ((DF m x).getD 0)=some e/\e.Depth=Ho l x:=⟨_,h.get (J7 j).1,rfl⟩
theorem abu (p:AA Int)(f:Int->Int)d a(j:∃y∈p,f y=a)(ha:∀y∈p,f y<=a):(p.all (λx=>f x<d)&&p.any λx=>f x==d-1)=bif d>a then d-a==1 else false:=by
 grind
theorem ait l m e(hm:cD l m)(U:Et e)(I:Fr l e=true)(hd:sZ l)(Y:1<=e.Depth/\e.Depth<=100000):a9f l m e=some (QX l e,m):=by
 have h1:=U.prev;have h2:=U.auth;unfold Fr at I;simp only[Di,FW]at I;unfold a9f aQs;rw[H7 e.bI (fuel_lt AB) (λx=> !decide (Ho l x<e.Depth)) (false,m) (some ((cond ((e.bG.length:Int)==0) (e.Depth==1) (e.bG.all (λx=>Ho l x<e.Depth)&&e.bG.any λx=>Ho l x==e.Depth-1)),m))]
 ·rw[qN];unfold QX;cases e.bI.all (λx=>Ho l x<e.Depth)<;>rfl
 ·intro k i hi;unfold aIg;obtain⟨x,O,q⟩:=aI8 hm (I.2 _ (EU hi));rw[Ch hi,O,Ac,a5i,q]
 intro k;unfold aIg;rw[EJ];cases J:((e.bG.length:Int)==0)with
 |true=>
  rfl
 |false=>
  have hp:0<e.bG.length:=by
   grind
  obtain⟨x,O,q⟩:=aI8 hm (I.1 _ (EU hp));have Z:Ak e.bG 0=some e.bG[0]:=CQ (i:=0) hp;rw[BH,BH,Z,Ac,O,Ac,q];unfold aLW;refine dK.eq (JJ e.bG.length (fuel_lt AB) (λi a=>(0<=a/\a<=100000)/\(∃y∈e.bG,Ho l y=a)/\∀y∈e.bG.take i,Ho l y<=a) ⟨aOy hd _,⟨_,EU hp,rfl⟩,λy L=>yB⟩ (λi a k2 hi ha hk=>?_) λa k2 ha=>?_)
  ·unfold aBM;obtain⟨y,L,u⟩:=aI8 hm (I.1 _ (EU hi));have hb:=aOy hd e.bG[i];rw[Ch hi,L,Ac,wrap_succ i AB,u]
   have M:Y1 a (Ho l e.bG[i])=a/\Ho l e.bG[i]<=a\/Y1 a (Ho l e.bG[i])=Ho l e.bG[i]/\a<=Ho l e.bG[i]:=by
    unfold Y1;by_cases h:Ho l e.bG[i]>a
    ·grind
    rw[G6 h];exact .inl ⟨rfl,AB⟩
   refine hk _ ⟨AB,?_,λz J=>?_⟩
   ·rcases M with h|h
    ·rw[h.1];exact ha.2.1
    rw[h.1];exact⟨_,EU hi,rfl⟩
   rw[Ur,ES hi,SN,Ia,Je]at J;rcases J with J|rfl
   ·have :=ha.2.2 z J;omega
   omega
  obtain⟨hb,⟨y,L,u⟩,j⟩:=ha;rw[Gw]at j;unfold aBM;rw[EJ,Nr AB AB,abu e.bG (Ho l) e.Depth a ⟨y,L,u⟩ j];cases decide (e.Depth>a)<;>exact .ret rfl
def aDs l(hl:l.length<=100)(hs:EZ l)(hd:sZ l):Zq l=some (Hf l):=by
 unfold Zq Hf;rw[aXV l hl hs,Ac];cases L:U1 l with
 |false=>rfl
 |true=>
  have M:∀e∈l,Fr l e=true:=FW.1 L;refine dK.eq ((vJ l AB).bind λm hm=>?_);unfold aW1;refine ZX (body:=aHa l) (Q:=λb=>b=bif l.all (QX l)then 0 else 15) (λn a b=>∃i:Nat,a=i/\i+n=l.length/\b=m/\∀j,(u:j<i)->(hl:j<l.length)->QX l l[j]=true) ?_ Am l.length 0 m (fuel_lt AB) ⟨0,rfl,AB,rfl,λj u=>AB⟩;rintro n a b k ⟨i,rfl,U,rfl,I⟩ O;unfold aHa;by_cases hi:i<l.length
  ·have q:=EU hi;rw[Ch hi,ait l b l[i] hm (hs _ q) (M _ q) hd (hd _ q),Ac];cases J:QX l l[i]with
   |false=>exact .ret (by rw[qV q J];rfl)
   |true=>
    refine O (n-1) _ _ AB ⟨i+1,wrap_succ i AB,AB,rfl,λj u z=>?_⟩;by_cases e:j=i
    ·subst e;exact J
    exact I j AB z
  have :i=l.length:=AB
  subst this;rw[EJ];exact .ret (by rw[all_good λj u=>I j u u];rfl)
def aCs l(hl:l.length<=100)(hs:EZ l)(hd:sZ l):iQ l=some (Hf l):=by
 unfold iQ Hf;rw[aiZ l AB hs,Ac];cases M:U1 l with
 |false=>rfl
 |true=>
  show aHz l 0=_;unfold aHz;refine dK.eq (ay l.length (fuel_lt AB) (λi=>∀j,(u:j<i)->(hl:j<l.length)->QX l l[j]=true) (λj u=>AB) (λi k hi z L=>?_) λk z=>?_)
  ·have q:=EU hi;unfold aCP;rw[Ch hi,amo l l[i] AB (hs _ q) hd (hd _ q),Ac,wrap_succ i AB];cases J:QX l l[i]with
   |false=>exact .ret (by rw[qV q J];rfl)
   |true=>
    refine L λj u I=>?_;by_cases e:j=i
    ·subst e;exact J
    exact z j AB I
  unfold aCP;rw[DR];exact .ret (by rw[all_good λj u=>z j u u];rfl)
variable {β:Type}{lt:α->α->AY}
section
variable {R:Type}
def LW (lt:α->α->AY)(A:AA α)(x:α):AA α:=(A.reverse.dropWhile (lt x)).reverse++x::(A.reverse.takeWhile (lt x)).reverse
def aUD {A}{a x}(h:lt x a=true):LW lt (A++[a]) x=LW lt A x++[a]:=by
 unfold LW;rw[aFF,List.reverse_singleton,List.singleton_append,aMP h,List.takeWhile_cons_of_pos h,List.reverse_cons,JK];rfl
def aT2 {A}{a x}(h:lt x a=false):LW lt (A++[a]) x=A++a::[x]:=by
 have h':¬lt x a=true:=by rw[h];simp
 unfold LW;rw[aFF,List.reverse_singleton,List.singleton_append,aN4 h',List.takeWhile_cons_of_neg h'];simp
def afN A x:(LW lt A x).length=A.length+1:=by
 unfold LW;have :=BF List.length (yL (p:=lt x) (l:=A.reverse));simp only[Ef,List.length_reverse,Gh]at this ⊢;omega
def aLz A x:(LW lt A x).Perm (x::A):=by
 unfold LW;refine a1t.trans (List.Perm.cons x ?_);rw[←aFF,yL,List.reverse_reverse]
def aj8 {lt'}{f:α->β}(h:∀x a,lt x a=lt' (f x) (f a))A x:(LW lt A x).map f=LW lt' (A.map f) (f x):=by
 have e:lt x=lt' (f x)∘f:=funext λa=>h x a;unfold LW;have h1:(A.map f).reverse=A.reverse.map f:=aEA.symm;rw[h1,List.dropWhile_map,List.takeWhile_map,JY,Gz,aEA,aEA,e]
def aNI {lt'}{f:α->β}(h:∀x a,lt x a=lt' (f x) (f a)):∀(l A:AA α),(l.foldl (LW lt) A).map f=(l.map f).foldl (LW lt') (A.map f)
 | [],A=>rfl
 |x::l,A=>by rw[Gf,aNI h l,Gz,Gf,aj8 h]
def a3l :∀(l A:AA α),(l.foldl (LW lt) A).length=A.length+l.length
 | [],A=>rfl
 |x::l,A=>by rw[Gf,a3l l,afN,Gh];omega
def aUh :∀(l A:AA α),(l.foldl (LW lt) A).Perm (A++l)
 | [],A=>by rw[Tv];exact .refl _
 |x::l,A=>by
  rw[Gf];exact(aUh l (LW lt A x)).trans (((aLz A x).append_right l).trans (a1t (l₁:=A) (l₂:=l) (a:=x)).symm)
def aAm A(x:α)B:Ak (A++x::B) (A.length:Int)=some x:=by rw[a2N];simp
def aCX A(a x:α)B:Ak (A++a::x::B) ((A.length+1:Nat):Int)=some x:=by rw[a2N];simp
def set_mid A(x y:α)B:(A++x::B).set A.length y=A++y::B:=BU
def aTU A(a x y:α)B:(A++a::x::B).set (A.length+1) y=A++a::y::B:=by
 have :=set_mid (A++[a]) x y B;simpa using this
def bubble {body}(j:AA α->AL R)N(U:∀k x B,(x::B).length=N->body k 0 (x::B)=j (x::B))(hs:∀k A a x B,(A++a::x::B).length=N->body k ((A.length+1:Nat):Int) (A++a::x::B)=bif lt x a then k (A.length:Int) (A++x::a::B)else j (A++a::x::B)):
 ∀n (A:AA α) (x:α) (B:AA α),A.length=n->(A++x::B).length=N->∀m,n<m->aQ body m (A.length:Int) (A++x::B)=j (LW lt A x++B):=by
 intro n
 induction n with
 |zero=>
  intro A x B I J m hm;obtain⟨m,rfl⟩:∃L,m=L+1:=⟨m-1,AB⟩
  obtain rfl:=Hu I;exact U _ x B J
 |succ n Y=>
  intro A x B I J m hm;obtain⟨m,rfl⟩:∃L,m=L+1:=⟨m-1,AB⟩
  have q:A≠[]:=λe=>by subst e;cases I
  obtain⟨A',a,rfl⟩:∃A' a,A=A'++[a]:=⟨A.dropLast,A.getLast q,(List.dropLast_concat_getLast q).symm⟩
  have M:A'.length=n:=qh
  have O:A'++[a]++x::B=A'++a::x::B:=BU
  have u:(A'++a::x::B).length=N:=by rw[←O];exact J
  have Z:(A'++[a]).length=A'.length+1:=BU
  rw[O,Z];show body (aQ body m) _ _=_;rw[hs _ A' a x B u];cases z:lt x a with
  |true=>
   rw[BZ,Y A' x (a::B) M (by simp at u ⊢;omega) m AB,aUD z];simp
  |false=>rw[BH,aT2 z];simp
end
def NS (a b:AQ):AY:=decide (a.Depth<b.Depth)||((a.Depth==b.Depth)&&(a.Id<b.Id))
def Uc (l:AA AQ):AA AQ:=l.foldl (LW NS) []
def J9 (l:AA AQ):AA Int:=(Uc l).map (·.Id)
def aIN l:(Uc l).length=l.length:=by unfold Uc;rw[a3l];simp
def aIm l:(Uc l).Perm l:=by have :=aUh (lt:=NS) l [];rwa [Ir]at this
theorem al1 a b:a6z a b=some (NS a b):=by
 unfold a6z NS
 grind
variable {l:AA α}
def aVr {f}{b:β}(h:i<l.length):(l.take (i+1)).foldl f b=f ((l.take i).foldl f b) l[i]:=by
 rw[Ur,ES h,SN,Uw];rfl
def map_take {f:α->β}(h:i<l.length):(l.take (i+1)).map f=(l.take i).map f++[f l[i]]:=by
 rw[Ur,ES h,SN,JY];rfl
def afW l(hl:l.length<=1000000):a5R l=some (l.map (·.Id)):=by
 unfold a5R aQj;refine dK.eq (JJ l.length (fuel_lt AB) (λi a=>a=(l.take i).map (·.Id)) rfl (λi a k hi ha j=>?_) λa k ha=>?_)
 ·unfold aIL;have hlen:a.length<=i:=zZ
  rw[Ch hi,Dw G7,Ac,wrap_succ i AB];exact j _ a4M
 unfold aIL;rw[EJ];exact .ret aj
def akj l(hl:l.length<=1000):a5K l=some (J9 l):=by
 unfold a5K aT3;refine dK.eq (JJ l.length (fuel_lt AB) (λi a=>a=(l.take i).foldl (LW NS) []) rfl (λi a k hi ha u=>?_) λa k ha=>?_)
 ·have hlen:a.length=i:=by rw[ha,a3l,Hl];simp;omega
  unfold aIP;rw[Ch hi,Dw G7,Ac];unfold aTC;have j:=bubble (lt:=NS) (body:=a6R k (i:Int)) (λv=>k v ((i+1:Nat):Int)) (i+1) (λk2 x B q=>?_) (λk2 A b x B q=>?_) i a l[i] [] hlen Ei Am (fuel_lt AB)
  ·rw[hlen]at j;rw[j,Tv];exact u _ (by rw[aVr hi,ha])
  ·unfold a6R zl;rw[wrap_succ i AB];rfl
  have hA:A.length+2<=i+1:=by rw[←q];simp
  have z:Au (((A.length+1:Nat):Int)-1)=(A.length:Int):=OW
  unfold a6R zl;rw[IX (show((A.length+1:Nat):Int)>0 by omega),BZ,aCX,Ac,z,aAm,Ac,al1,Ac,wrap_succ i AB];cases NS x b with
  |false=>rfl
  |true=>
   simp only[BZ,Ac,Uu];rw[aTU,aAm,Ac,set_mid]
 unfold aIP;rw[DR,BH];have e:a=Uc l:=by rw[ha,Gw];rfl
 rw[e,afW _ (by rw[aIN];omega)];exact .ret rfl
def a1D (e:AQ):UE:=⟨e.Depth,e.Id⟩
def oM (a b:UE):AY:=decide (a.ql<b.ql)||((a.ql==b.ql)&&(a.nY<b.nY))
theorem abq a x:(cond (a.ql<x.ql) (some true) ((cond (a.ql==x.ql) (some (decide (a.nY<=x.nY))) (some false)).bind λj=>some j))=some (!oM x a):=by
 unfold oM;by_cases h1:a.ql<x.ql
 ·rw[IX h1,BZ,G6 AB,show(x.ql==a.ql)=false by simp;omega];rfl
 rw[G6 h1,BH];by_cases h2:a.ql=x.ql
 ·rw[h2,G6 (show ¬x.ql<x.ql by omega)];simp only[MC,BZ,Ac,RY,GZ];by_cases h3:a.nY<=x.nY
  ·grind
  grind
 rw[show(a.ql==x.ql)=false by simpa using h2,IX (show x.ql<a.ql by omega)];rfl
def akp l(hl:l.length<=1000):a6I l=some (J9 l):=by
 have J:Jg 16 a7B 0 (l.length:Int)=some []:=by unfold Jg;rw[ET ⟨a0U _,AB,AB⟩];rfl
 unfold a6I;rw[J,Ac];unfold aQc;refine dK.eq (JJ l.length (fuel_lt AB) (λi a=>a=((l.take i).map a1D).foldl (LW oM) []) rfl (λi a k hi ha L=>?_) λa k ha=>?_)
 ·have hlen:a.length=i:=by rw[ha,a3l,DY,Hl];simp;omega
  unfold aCV;rw[Ch hi,CQ hi,Ac,Dw G7,Ac];unfold aUy;have M:Au (((a++[(⟨l[i].Depth,l[i].Id⟩:UE)]).length:Int)-1)=(a.length:Int):=aFI
  rw[M];have O:=bubble (lt:=oM) (body:=zx k (i:Int)) (λv=>k v ((i+1:Nat):Int)) (i+1) (λk2 x B u=>?_) (λk2 A b x B u=>?_) i a (a1D l[i]) [] hlen Ei Am (fuel_lt AB)
  ·show dK (aQ (zx k (i:Int)) Am (a.length:Int) (a++[a1D l[i]])) _;rw[O,Tv];exact L _ (by rw[map_take hi,Uw,ha];rfl)
  ·unfold zx a0o;rw[wrap_succ i AB];rfl
  have hA:A.length+2<=i+1:=by rw[←u];simp
  have U:Au (((A.length+1:Nat):Int)-1)=(A.length:Int):=OW
  unfold zx a0o;rw[IX (show((A.length+1:Nat):Int)>0 by omega),BZ,U,aAm,Ac,aCX,Ac,abq,Ac,wrap_succ i AB];cases oM x b with
  |false=>rfl
  |true=>
   simp only[Eu,BH,BZ,Ac,Uu];rw[set_mid,aCX,Ac,aTU]
 unfold aCV;rw[EJ];have e:a=(Uc l).map a1D:=by rw[ha,Gw];exact(aNI (lt:=NS) (lt':=oM) (f:=a1D) (λ_ _=>rfl) l []).symm
 have Y:a.length=l.length:=by rw[e,DY,aIN]
 have Z:Jg 8 0 (a.length:Int) (a.length:Int)=some (List.replicate a.length (0:Int)):=by unfold Jg;rw[ET ⟨AB,a0U _,AB⟩];simp
 have e2:J9 l=a.map (·.nY):=by rw[e,fV];rfl
 rw[Z,Ac,e2];unfold aWi;refine Sm (body:=aBF a) (Q:=λr=>r=a.map (·.nY)) (λn (x:Int) (o:AA Int) (p:AA UE)=>∃i:Nat,x=i/\i+n=a.length/\o=(a.take i).map (·.nY)++List.replicate (a.length-i) 0/\p=a) ?_ Am a.length 0 (List.replicate a.length 0) a (fuel_lt AB) ⟨0,rfl,AB,BU,rfl⟩;rintro n x o p k2 ⟨i,rfl,hn,I,rfl⟩ q;unfold aBF;by_cases hi:i<p.length
 ·have hm:((p.take i).map (·.nY)).length=i:=by rw[DY,Hl];omega
  obtain⟨z,hz⟩:∃z,p.length-i=z+1:=⟨p.length-i-1,AB⟩
  have j:o=(p.take i).map (·.nY)++0::List.replicate z 0:=by rw[I,hz,List.replicate_succ]
  have g2:Ak o (i:Int)=some 0:=by have :=aAm ((p.take i).map (·.nY)) 0 (List.replicate z 0);rw[hm]at this;rw[j];exact this
  have s2:o.set i p[i].nY=(p.take i).map (·.nY)++p[i].nY::List.replicate z 0:=by have :=set_mid ((p.take i).map (·.nY)) 0 p[i].nY (List.replicate z 0);rw[hm]at this;rw[j];exact this
  rw[Ch hi,g2,Ac];refine q (n-1) _ _ _ AB ⟨i+1,wrap_succ i AB,AB,?_,rfl⟩;rw[Uu,s2,map_take hi,show p.length-(i+1)=z by omega];simp
 have :i=p.length:=AB
 subst this;rw[EJ];exact .ret (by rw[I];simp)
def JV (l:AA AQ)(x y:Int):AY:=bP l y&&(y != x&&EP (ev l y).bG x)
def Jk (l:AA AQ)(ids:AA Int):AA Int:=(FY ids).filter λx=> !ids.any (JV l x)
theorem ajP {a b:AA α}p(h:∀x,x∈a↔x∈b):a.any p=b.any p:=by
 grind
def ai5 ids p:FY (ids.filter p)=(FY ids).filter p:=
 DU (Nz _) ((Nz ids).sublist Vd) λx=>by rw[MR,Hg,Hg,MR]
def a02 l ids:(Jk l ids).length<=ids.length:=EC (MS _ _) (OE ids)
theorem pK (h:i<l.length):(l.take (i+1)).filter p=(l.take i).filter p++bif p l[i]then[l[i]]else[]:=by
 rw[Ur,ES h,SN,RZ]
 grind
def yQ (h:i<l.length):(l.take (i+1)).any p=((l.take i).any p||p l[i]):=by
 rw[Ur,ES h,SN,aAH];simp
theorem aUr l ids(hl:l.length<=100)(hs:EZ l)(hi0:ids.length<=1000):a1e l ids=some (Jk l ids):=by
 unfold a1e;refine dK.eq ((vJ l AB).bind λm hm=>?_);unfold aRI;refine Sm (body:=aER ids l) (Q:=λr=>r=Jk l ids) (λn a b c=>∃i:Nat,a=i/\i+n=ids.length/\b=m/\∀x,(DF c x).getD false=(ids.take i).any (JV l x)) ?_ Am ids.length 0 m [] (fuel_lt AB) ⟨0,rfl,AB,rfl,λx=>rfl⟩;rintro n a b c k ⟨i,rfl,hn,rfl,M⟩ U;unfold aER;by_cases hi:i<ids.length
 ·have hj:∀Y,(∀x,(DF Y x).getD false=((ids.take i).any (JV l x)||JV l x ids[i]))->dK (a4e k (i:Int) b Y) (λr=>r=Jk l ids):=λY h8=>U (n-1) _ _ _ AB ⟨i+1,wrap_succ i AB,AB,rfl,λx=>by rw[h8,yQ hi]⟩;rw[Ch hi,hm.isSome];cases q:bP l ids[i]with
  |false=>
   exact hj c λx=>by rw[M];unfold JV;rw[q];simp
  |true=>
   obtain⟨hg,_⟩:=J7 q;rw[hm.get hg,Ac];have hp:=(hs _ (Jf hg)).prev;simp only[Eu,BH];unfold aTy;refine Sm (body:=aHJ (ev l ids[i]) ids[i] k (i:Int)) (Q:=λr=>r=Jk l ids) (λO a2 b2 c2=>∃j:Nat,a2=j/\j+O=(ev l ids[i]).bG.length/\b2=b/\∀x,(DF c2 x).getD false=((ids.take i).any (JV l x)||(ids[i] != x&&EP ((ev l ids[i]).bG.take j) x))) ?_ Am (ev l ids[i]).bG.length 0 b c (fuel_lt AB) ⟨0,rfl,AB,rfl,λx=>by rw[M,a5L];unfold EP;simp⟩;rintro O a2 b2 c2 k2 ⟨j,rfl,hn2,rfl,u⟩ z;unfold aHJ;by_cases I:j<(ev l ids[i]).bG.length
   ·have J:∀x,EP ((ev l ids[i]).bG.take (j+1)) x=(EP ((ev l ids[i]).bG.take j) x||(x==(ev l ids[i]).bG[j])):=λx=>by
     rw[Oz,ZE,La,La,Ur,ES I,SN,Ia,Je,NP]
    rw[Ch I];cases L:(ev l ids[i]).bG[j] != ids[i]with
    |true=>
     refine z (O-1) _ _ _ AB ⟨j+1,wrap_succ j AB,AB,rfl,λx=>?_⟩;rw[Qe,J];cases hx:x==(ev l ids[i]).bG[j]with
     |true=>
      have e:=eq_of_beq hx;subst e;rw[show(ids[i] != (ev l ids[i]).bG[j])=true by rw[bne_comm];exact L];simp
     |false=>
      grind
    |false=>
     refine z (O-1) _ _ _ AB ⟨j+1,wrap_succ j AB,AB,rfl,λx=>?_⟩;rw[J,u];have e:(ev l ids[i]).bG[j]=ids[i]:=by simpa using L
     rw[e];cases hx:x==ids[i]with
     |false=>
      simp
     |true=>
      grind
   have :j=(ev l ids[i]).bG.length:=AB
   subst this;rw[EJ];exact hj _ λx=>by rw[u,Gw];unfold JV;rw[q];rfl
 have :i=ids.length:=AB
 subst this;rw[EJ];unfold aR2;rw[Gw]at M;refine JJ ids.length (fuel_lt AB) (λi a=>a=(ids.take i).filter λx=> !ids.any (JV l x)) rfl (λi a k2 hi ha U=>?_) λa k2 ha=>?_
 ·have Z:a.length<=i:=aIV
  unfold aCN a4r;rw[Ch hi,wrap_succ i AB,M];have hf:=pK (p:=λx=> !ids.any (JV l x)) hi;cases hb:ids.any (JV l ids[i])with
  |true=>
   grind
  |false=>
   simp only[JZ,BZ];rw[Dw G7,Ac];exact U _ (by rw[hf,ha,hb];rfl)
 have Z:a.length<=ids.length:=aIV
 unfold aCN;rw[EJ,kJ _ AB];exact .ret (by rw[ha,Gw,ai5];rfl)
def agW {l}(h:Inc l)(hi:i<l.length)(q:j<l.length)(e:l[i]=l[j]):i=j:=by
 rcases a0m i j with h1|h1|h1
 ·have :=JU.1 h i j hi q h1;omega
 ·exact h1
 have :=JU.1 h j i q hi h1;omega
def aHh l ids(hl:l.length<=1000)(hs:EZ l)(hi0:ids.length<=1000):a7E l ids=some (Jk l ids):=by
 have I:=Nz ids;have hlen:=OE ids;have J:∀x,(FY ids).any (JV l x)=ids.any (JV l x):=λx=>ajP _ λ_=>MR;unfold a7E Jk;rw[aJt _ AB,Ac];have q:(λx=> !ids.any (JV l x))=λx=> !(FY ids).any (JV l x):=funext λx=>by rw[J]
 rw[q];generalize FY ids=S at I hlen;clear J q;unfold aQy;refine dK.eq (JJ S.length (fuel_lt AB) (λi a=>a=(S.take i).filter λx=> !S.any (JV l x)) rfl (λi a k hi ha hk=>?_) λa k ha=>?_)
 ·have hal:a.length<=i:=aIV
  have hf:=pK (p:=λx=> !S.any (JV l x)) hi;unfold aIK;rw[dec_lt hi,BZ];unfold aL0;refine Sm (body:=aKB S l (i:Int) k) (Q:=_) (λn b x c=>∃j:Nat,x=j/\j+n=S.length/\c=a/\b= !(S.take j).any (JV l S[i])) ?_ Am S.length true 0 a (fuel_lt AB) ⟨0,rfl,AB,rfl,BU⟩;rintro n b x c k2 ⟨j,rfl,hn,rfl,M⟩ O;unfold aKB;by_cases U:j<S.length
  ·have u:∀Y,Y=(!((S.take j).any (JV l S[i])||JV l S[i] S[j]))->dK (a2F k2 (j:Int) Y c) (λx=>x=(S.filter λx=> !S.any (JV l x))):=λY h'=>O (n-1) _ _ _ AB ⟨j+1,wrap_succ j AB,AB,rfl,by rw[yQ U];exact h'⟩;rw[Ch U,MI l _ AB,Ac,MF]
   have Z:(((j:Int) != (i:Int)))=(S[j] != S[i]):=by
    rw[Oz];simp only[bne_iff_ne,ne_eq];constructor
    ·intro h e;exact h (by rw[agW I U hi e])
    intro h e;have :j=i:=AB
    subst this;exact h rfl
   rw[Z];cases z:(Eh l S[j]).isSome with
   |false=>
    unfold jM;exact u b (by rw[M];unfold JV bP;rw[z];simp)
   |true=>
    cases hq:S[j] != S[i]with
    |false=>
     unfold jM;exact u b (by rw[M];unfold JV;rw[hq];simp)
    |true=>
     simp only[BZ]
     have hpl:(Ii l S[j]).1.bG.length<=40:=by
      obtain⟨e,he⟩:=SB.1 z;rw[Ou he];exact(hs e (Jf he)).prev
     rw[CQ hi,Ac,Xw _ _ AB,Ac];unfold jM;cases hh:EP (Ii l S[j]).1.bG S[i]with
     |true=>exact u false (by unfold JV bP ev;rw[z,hq,hh];simp)
     |false=>exact u b (by rw[M];unfold JV bP ev;rw[z,hq,hh];simp)
  have :j=S.length:=AB
  subst this;rw[EJ,M,Gw];unfold a6l;rw[wrap_succ i AB];cases L:S.any (JV l S[i])with
  |true=>exact hk _ (by rw[hf,ha,L];simp)
  |false=>
   simp only[JZ,BZ];rw[CQ hi,Ac,Dw G7,Ac];exact hk _ (by rw[hf,ha,L];rfl)
 unfold aIK;rw[DR];exact .ret aj
def TT (x y:AQ):AY:=y.Kind==x.Kind&&(y.Key=x.Key)
def LY (q:AA BK):AA AQ->AA AQ->AY
 |_,[]=>true
 |j,x::xs=>(q.any λk=>FC k x)&& !j.any (TT x)&&LY q (j++[x]) xs
def RF (x:AQ):AY:=x.Kind==1&&(x.Key=CX)
def Rq (l:AA AQ)(e:AQ):Int:=
 bif !e.bI.all (bP l)then 14 else bif !(ofIds l e.bI).all (λx=>x.Room=e.Room)then 13
 else bif LY (keysOf e) [] (ofIds l e.bI)&&(e.Kind==1||(ofIds l e.bI).any RF)then 0 else 16
variable {k:BK}
def gq {x}:FC k x=true↔x.Kind=k.Kind/\x.Key=k.Key:=by unfold FC;simp
def aTb {x y}:TT x y=true↔y.Kind=x.Kind/\y.Key=x.Key:=by unfold TT;simp
variable {j:AA BK}
def aQp {X:AA AQ}(h:i<X.length):LY j (X.take i) (X.drop i)=((j.any λk=>FC k X[i])&& !(X.take i).any (TT X[i])&&LY j (X.take (i+1)) (X.drop (i+1))):=by
 rw[Nc h,Ur,ES h];rfl
def aQd (X:AA AQ):LY j (X.take X.length) (X.drop X.length)=true:=by rw[PN];rfl
def aP7 (X:AA AQ)k key(h:X.length<=1000):aJ (X.map λx=>(⟨x.Kind,x.Key,0⟩:BK)) k key=some (X.any λy=>y.Kind==k&&(y.Key=key)):=by
 unfold aJ aDx;rw[H7 (X.map λx=>(⟨x.Kind,x.Key,0⟩:BK)) (fuel_lt Z4) (λy=>y.Kind==k&&(y.Key=key)) true (some false)]
 ·rw[List.any_map];show(bif X.any (λy=>y.Kind==k&&(y.Key=key))then some true else some false)=_;cases X.any (λy=>y.Kind==k&&(y.Key=key))<;>rfl
 ·intro q i hi;unfold a1V;rw[Ch hi,CQ hi,Ac,JM];cases((X.map λx=>(⟨x.Kind,x.Key,0⟩:BK))[i].Kind==k)<;>rfl
 intro q;unfold a1V;rw[DR];rfl
theorem ags j x(h:j.length<=1000):aJ j x.Kind x.Key=some (j.any λk=>FC k x):=by
 unfold aJ aDx;rw[H7 j (fuel_lt AB) (λk=>FC k x) true (some false)]
 ·grind
 ·intro q i hi;unfold a1V;rw[Ch hi,CQ hi,Ac,JM];have u:(j[i].Kind==x.Kind)=(x.Kind==j[i].Kind):=by rw[Oz,NP,NP];exact eq_comm
  have z:decide (j[i].Key=x.Key)=decide (x.Key=j[i].Key):=aG3.2 eq_comm;unfold FC
  grind
 intro q;unfold a1V;rw[DR];rfl
def aaE X e(O:X.length<=40):aFh X (keysOf e) e [] 0=some (cond (LY (keysOf e) [] X&&(e.Kind==1||X.any RF)) 0 16):=by
 have I:=XQ e;unfold aFh;refine dK.eq (JJ X.length (fuel_lt AB) (λi a=>a=(X.take i).map (λx=>(⟨x.Kind,x.Key,0⟩:BK))/\LY (keysOf e) [] X=LY (keysOf e) (X.take i) (X.drop i)) ⟨rfl,rfl⟩ (λi a k hi ha J=>?_) λa k ha=>?_)
 ·obtain⟨rfl,j⟩:=ha;unfold aDJ;rw[Ch hi,CQ hi,Ac,ags _ _ AB,Ac];rw[aQp hi]at j
  have u:∀b,LY (keysOf e) [] X=(!b&&LY (keysOf e) (X.take (i+1)) (X.drop (i+1)))->dK (vH X (i:Int) ((X.take i).map λx=>(⟨x.Kind,x.Key,0⟩:BK)) k b) (· =bif LY (keysOf e) [] X&&(e.Kind==1||X.any RF)then 0 else 16):=λb z=>by
   unfold vH;cases b with
   |true=>exact .ret wB
   |false=>
    simp only[BH];rw[CQ hi,Ac,Ac,Dw (by simp only[OC,DY,Hl];omega),Ac,wrap_succ i AB];exact J _ ⟨by rw[map_take hi],wB⟩
  cases hm:(keysOf e).any λk=>FC k X[i]with
  |false=>
   rw[JZ,BZ];exact u true (by rw[j,hm];rfl)
  |true=>
   rw[Eu,BH];have L:(λy:AQ=>y.Kind==X[i].Kind&&(y.Key=X[i].Key))=TT X[i]:=rfl;rw[Ac,Ac,aP7 _ _ _ iZ,Ac,L];exact u _ (by rw[j,hm,GZ])
 obtain⟨rfl,j⟩:=ha;rw[aQd]at j;unfold aDJ;rw[DR,BH,Gw,j,aP7 _ _ _ AB];have M:(X.any λy=>y.Kind==1&&(y.Key=CX))=X.any RF:=rfl;rw[M];have q:(e.Kind != 1)= !(e.Kind==1):=rfl;rw[q];cases e.Kind==1<;>cases X.any RF<;>exact .ret rfl
def agv X e(j:X.length<=40):aHl X e 0=some (bif !X.all (λx=>x.Room=e.Room)then 13 else bif LY (keysOf e) [] X&&(e.Kind==1||X.any RF)then 0 else 16):=by
 unfold aHl;rw[H7 X (fuel_lt AB) (λx=> !decide (x.Room=e.Room)) 13 (some (cond (LY (keysOf e) [] X&&(e.Kind==1||X.any RF)) 0 16))]
 ·rw[qN];cases X.all (λx=>x.Room=e.Room)<;>rfl
 ·intro k i hi;unfold aCj;rw[Ch hi,JM]
 intro k;unfold aCj;rw[EJ,aJz,Ac,aaE X e j]
theorem ag9 l e(hl:l.length<=100)(j:Et e):a3x l e=some (Rq l e):=by
 have h1:=j.auth;have q:=iy l e.bI;unfold a3x aTW Rq;rw[H7 e.bI (fuel_lt AB) (λx=> !bP l x) 14 (some (bif !(ofIds l e.bI).all (λx=>x.Room=e.Room)then 13 else bif LY (keysOf e) [] (ofIds l e.bI)&&(e.Kind==1||(ofIds l e.bI).any RF)then 0 else 16))]
 ·rw[qN]
  grind
 ·intro k i hi;unfold aCK;rw[Ch hi,MI l _ AB,Ac,MF];rfl
 intro k;unfold aCK;rw[DR,BH,aBj l _ AB AB,Ac,agv _ e AB]
def ala k e:Y7 (KR k) e=some (FC k e):=by
 unfold Y7 FC KR;cases h:(e.Kind==k.Kind)with
 |false=>rfl
 |true=>show some (e.Key.toList==k.Key.toList)=_;rw[JM,GZ]
theorem agh (j:AA BK)x(h:j.length<=100):a7I (j.map KR) x=some (if j.findIdx (λk=>FC k x)<j.length then((j.findIdx (λk=>FC k x):Nat):Int)else -1):=by
 unfold a7I aWS
 have u:∀k (i:Nat),i<j.length->a8N (j.map KR) x k (i:Int)=bif FC (j.getD i ⟨0,CX,0⟩) x then some (i:Int)else k (Au ((i:Int)+1)):=λk i hi=>by
  unfold a8N;have q:i<(j.map KR).length:=a3n
  rw[Ch q,P9];show((Y7 (KR j[i]) x).bind _)=_;rw[ala,Ac];simp[List.getD,hi]
 rw[Jh j (fuel_lt AB) (λk=>FC k x) (λi=>some (i:Int)) (some (-1))]
 ·split<;>rfl
 ·grind
 intro k;unfold a8N;rw[show((j.map KR).length:Int)=(j.length:Int) by rw[DY],DR];rfl
def aP6 {α}{p}:∀l:AA α,l.Pairwise (λa b=>¬(p a=true/\p b=true))->l.findIdx p<l.length->l.filter (λx=> !p x)=l.take (l.findIdx p)++l.drop (l.findIdx p+1)
 | [],_,h=>absurd h (Zu _)
 |a::l,hp,h=>by
  obtain⟨h1,h2⟩:=QZ.1 hp;rw[V3]at h ⊢;cases ha:p a with
  |true=>
   rw[List.filter_cons_of_neg (by simp[ha]),pU.2 λb j=>by
    cases q:p b with
    |false=>rfl
    |true=>exact absurd ⟨ha,q⟩ (h1 b j)]
   rfl
  |false=>
   rw[ha]at h;rw[List.filter_cons_of_pos (by simp[ha]),aP6 l h2 Oa];rfl
theorem ae4:∀l:AA α,decide (l.findIdx p<l.length)=l.any p
 | []=>
  rfl
 |a::l=>by
  grind
def aXz e:LD (keysOf e):=by
 have z:LD (NT e):=YJ (YJ (YJ List.Pairwise.nil _ _ _) _ _ _) _ _ _;unfold keysOf;cases e.Kind==1<;>cases e.Kind==2<;>cases(e.Content.N==3||e.Content.N==1||e.Content.N==2)<;>simp only[BZ,BH]
 ·exact z
 ·exact z
 ·exact YJ z _ _ _
 ·exact YJ (YJ z _ _ _) _ _ _
 all_goals exact List.Pairwise.nil
theorem aeQ (h:k∈keysOf e)(h1:k.Kind=1):k.Key=CX:=by
 have z:∀x∈NT e,x.Kind=1->x.Key=CX:=λx j q=>by
  unfold NT at j;rcases TQ j with rfl|j
  ·cases q
  rcases TQ j with rfl|j
  ·cases q
  rcases TQ j with rfl|j
  ·rfl
  cases j
 unfold keysOf at h;cases h2:e.Kind==1 with
 |true=>
  grind
 |false=>
  cases h3:e.Kind==2 with
  |false=>
   grind
  |true=>
   rw[h2,h3]at h;cases u:(e.Content.N==3||e.Content.N==1||e.Content.N==2)with
   |true=>
    rw[u]at h;rcases TQ h with rfl|h
    ·cases h1
    rcases TQ h with rfl|h
    ·cases h1
    exact z k h h1
   |false=>
    rw[u]at h;rcases TQ h with rfl|h
    ·cases h1
    exact z k h h1
theorem aLx {u}:∀(X j:AA AQ),LY u j X=true->∀x∈X,∃k∈u,FC k x=true
 | [],_,_,_,h=>absurd h H9
 |y::X,j,h,x,q=>by
  unfold LY at h;simp only[Di]at h;rcases FP.1 q with rfl|q
  ·grind
  exact aLx X _ h.2 x q
theorem any_congr {q}(h:∀x∈l,p x=q x):l.any p=l.any q:=by
 grind
def aak l e(hl:l.length<=100)(he:Et e):zq l e=some (Rq l e):=by
 have h1:=he.auth;have hk5:=XQ e;have hsk:=aXz e;unfold zq aTz;refine dK.eq (JJ e.bI.length (fuel_lt AB) (λi a=>a=ofIds l (e.bI.take i)/\∀x∈e.bI.take i,bP l x=true) ⟨rfl,λx U=>by simp at U⟩ (λi a k hi ha J=>?_) λa k ha=>?_)
 ·obtain⟨rfl,u⟩:=ha;have hal:=iy l (e.bI.take i);rw[Hl]at hal;unfold a5c;rw[Ch hi,OD l _ AB,Ac,wrap_succ i AB];cases Y:Eh l e.bI[i]with
  |none=>
   rw[SC Y];refine .ret ?_;unfold Rq;rw[qV (EU hi) (show bP l e.bI[i]=false by unfold bP;rw[Y];rfl)];rfl
  |some x=>
   rw[Ou Y];simp only[Eu,BH];rw[Dw G7,Ac];refine J _ ⟨?_,λy I=>?_⟩
   ·unfold ofIds;rw[Ur,ES hi,SN,iY,SK,Y];rfl
   rw[Ur,ES hi,SN,Ia,Je]at I;rcases I with I|rfl
   ·exact u y I
   unfold bP;rw[Y];rfl
 obtain⟨rfl,u⟩:=ha;rw[Gw]at u ⊢;have U:=iy l e.bI;have Z:e.bI.all (bP l)=true:=FW.2 u;unfold a5c;rw[EJ];unfold Rq;rw[Z];simp only[Eu,BH];generalize ofIds l e.bI=X at U;unfold aPt;rw[H7 X (fuel_lt AB) (λx=> !decide (x.Room=e.Room)) 13 (some (cond (LY (keysOf e) [] X&&(e.Kind==1||X.any RF)) 0 16))]
 ·rw[qN];cases X.all (λx=>x.Room=e.Room)<;>exact .ret rfl
 ·intro k2 i hi;unfold a9q;rw[Ch hi,JM]
 intro k2;unfold a9q;rw[EJ,aVf,Ac];unfold aLh;refine dK.eq (Sm (body:=a4j X) (Q:=(· =bif LY (keysOf e) [] X&&(e.Kind==1||X.any RF)then 0 else 16)) (λn b ks x=>∃i:Nat,x=i/\i+n=X.length/\ks=((keysOf e).filter λk=> !(X.take i).any (FC k)).map KR/\b=(e.Kind==1||(X.take i).any λx=>x.Kind==1)/\LY (keysOf e) [] X=LY (keysOf e) (X.take i) (X.drop i)) ?_ Am X.length (e.Kind==1) ((keysOf e).map KR) 0 (fuel_lt AB) ⟨0,rfl,AB,by rw[a5L];exact BF (List.map KR) (pU.2 λ_ _=>rfl).symm,BU,rfl⟩);rintro n b ks x k3 ⟨i,rfl,hn,hks,hb,z⟩ hk3;unfold a4j;by_cases hi:i<X.length
 ·rw[aQp hi]at z;have hlk:((keysOf e).filter λk=> !(X.take i).any (FC k)).length<=5:=EC (MS _ _) hk5;rw[Ch hi,hks,agh _ _ AB,Ac];have L:=ae4 (p:=λk=>FC k X[i]) ((keysOf e).filter λk=> !(X.take i).any (FC k))
  have M:(((keysOf e).filter λk=> !(X.take i).any (FC k)).any λk=>FC k X[i])=((keysOf e).any (λk=>FC k X[i])&& !(X.take i).any (TT X[i])):=by
   rw[Oz,Ja,Di,Ja,Vx,←bV,Ja];constructor
   ·rintro⟨k,J,hm⟩;obtain⟨hk1,hk2⟩:=Hg.1 J;refine⟨⟨k,hk1,hm⟩,?_⟩;rintro⟨y,I,hs⟩;obtain⟨m1,m2⟩:=gq.1 hm;obtain⟨s1,s2⟩:=aTb.1 hs;rw[Ja.2 ⟨y,I,gq.2 ⟨s1.trans m1,s2.trans m2⟩⟩]at hk2;cases hk2
   rintro⟨⟨k,J,hm⟩,hno⟩;refine⟨k,Hg.2 ⟨J,?_⟩,hm⟩;rw[Vx,←bV,Ja];rintro⟨y,I,hs⟩;obtain⟨m1,m2⟩:=gq.1 hm;obtain⟨s1,s2⟩:=gq.1 hs;exact hno ⟨y,I,aTb.2 ⟨s1.trans m1.symm,s2.trans m2.symm⟩⟩
  rw[←M,←L]at z;by_cases q:((keysOf e).filter λk=> !(X.take i).any (FC k)).findIdx (λk=>FC k X[i])<((keysOf e).filter λk=> !(X.take i).any (FC k)).length
  ·rw[ET q,G6 AB,BH];rw[IX q,GZ]at z;have hlm:(((keysOf e).filter λk=> !(X.take i).any (FC k)).map KR).length=((keysOf e).filter λk=> !(X.take i).any (FC k)).length:=DY ..
   have hpw:((keysOf e).filter λk=> !(X.take i).any (FC k)).Pairwise (λa b=>¬(FC a X[i]=true/\FC b X[i]=true)):=by
    refine(List.Pairwise.sublist Vd hsk).imp λ{a b} hab h=>?_;obtain⟨a1,a2⟩:=gq.1 h.1;obtain⟨b1,b2⟩:=gq.1 h.2;rw[a1k (XI.2 ⟨a1.symm.trans b1,a2.symm.trans b2⟩)]at hab;cases hab
   have hd:=aP6 _ hpw q
   have O:((keysOf e).filter λk=> !(X.take i).any (FC k)).filter (λk=> !FC k X[i])=(keysOf e).filter λk=> !(X.take (i+1)).any (FC k):=by
    rw[List.filter_filter];refine Z7 λk _=>?_;rw[yQ hi];cases(X.take i).any (FC k)<;>cases FC k X[i]<;>rfl
   rw[O]at hd;generalize((keysOf e).filter λk=> !(X.take i).any (FC k))=K at q hd hlm hlk;generalize K.findIdx (λk=>FC k X[i])=j at q hd;have s1:I8 (K.map KR) 0 (j:Int)=some (((K.map KR).drop 0).take (j-0)):=bF (lo:=0) (FQ _) AB;have s2:I8 (K.map KR) (Au ((j:Int)+1)) ((K.map KR).length:Int)=some (((K.map KR).drop (j+1)).take ((K.map KR).length-(j+1))):=by rw[wrap_succ j AB];exact bF AB (ER _)
   rw[s1,Ac,s2,Ac,Dw (by simp only[Hl,Lh];omega),Ac];have hb3:(cond b (some true) ((Ak X (i:Int)).bind λx28=>some (x28.Kind==1)))=some (b||X[i].Kind==1):=by rw[CQ hi];cases b<;>rfl
   rw[hb3,Ac];refine hk3 (n-1) _ _ _ AB ⟨i+1,wrap_succ i AB,AB,?_,?_,z⟩
   ·rw[hd,JY,Yw,iU,Nat.sub_zero,a5t,RU (l:=(K.map KR).drop (j+1)) (by rw[Lh];omega)]
   rw[yQ hi,hb,Bool.or_assoc]
  rw[Ee q];rw[G6 q,xk]at z;exact .ret wB
 have :i=X.length:=AB
 subst this;rw[aQd]at z;rw[EJ,z,hb,Gw,GZ]
 have hc:(X.any λx=>x.Kind==1)=X.any RF:=any_congr λx U=>by
  obtain⟨k,J,hm⟩:=aLx X [] z x U;obtain⟨m1,m2⟩:=gq.1 hm;unfold RF;cases hq:x.Kind==1 with
  |false=>rfl
  |true=>rw[m2,aeQ J (by rw[←m1];exact eq_of_beq hq)];simp
 rw[hc];cases(e.Kind==1||X.any RF)<;>exact .ret rfl
def JX (l:AA AQ)(s:AA BK):AA AQ:=ofIds l (s.map (·.Id))
def oq l s:(JX l s).length<=s.length:=by have :=iy l (s.map (·.Id));rwa [DY]at this
variable {l:AA AQ}
def aHV (hs:EZ l)ids:EZ (ofIds l ids):=λx j=>hs x (aBD j)
theorem a8K (h:i<s.length):JX l (s.take (i+1))=JX l (s.take i)++(Eh l s[i].Id).toList:=by
 unfold JX ofIds;rw[map_take h,iY,SK,List.filterMap_nil]
 grind
def aLD l s(hl:l.length<=100)(h:s.length<=1000):mO l s=some (JX l s):=by
 unfold mO xA;rw[Ac];unfold aUK;refine dK.eq (a9c (body:=aE0 s) (Q:=(· =JX l s)) (λn a b c _ _=>∃i:Nat,b=i/\i+n=s.length/\c=l/\a=JX l (s.take i)) ?_ Am s.length [] 0 l [] [] (fuel_lt AB) ⟨0,rfl,AB,rfl,rfl⟩);rintro n a b c d f k ⟨i,rfl,z,rfl,ha⟩ u;unfold aE0;by_cases hi:i<s.length
 ·have q:=oq c (s.take i);rw[Hl]at q;rw[Ch hi,OD c _ AB,Ac,wrap_succ i AB];cases j:Eh c s[i].Id with
  |none=>rw[SC j];exact u (n-1) _ _ _ _ _ AB ⟨i+1,rfl,AB,rfl,by rw[a8K hi,j,ha];simp⟩
  |some x=>
   rw[Ou j];simp only[BZ];rw[Dw (by rw[ha];simp only[OC];omega),Ac];exact u (n-1) _ _ _ _ _ AB ⟨i+1,rfl,AB,rfl,by rw[a8K hi,j,ha];rfl⟩
 have :i=s.length:=AB
 subst this;rw[EJ];exact .ret aj
def aLV l s(hl:l.length<=100)(h:s.length<=1000):nZ l s=some (JX l s):=by
 unfold nZ aVp;refine dK.eq (JJ s.length (fuel_lt AB) (λi a=>a=JX l (s.take i)) rfl (λi a k hi ha u=>?_) λa k ha=>?_)
 ·have q:=oq l (s.take i);rw[Hl]at q;unfold aEa a2M;rw[Ch hi,MI l _ AB,Ac,wrap_succ i AB];cases j:Eh l s[i].Id with
  |none=>rw[SC j];exact u _ (by rw[a8K hi,j,ha];simp)
  |some x=>
   rw[Ou j];simp only[BZ];rw[Dw (by rw[ha];simp only[OC];omega),Ac];exact u _ (by rw[a8K hi,j,ha];rfl)
 unfold aEa;rw[DR];exact .ret aj
structure FM where
 id:Int
 before:List BK
 after:List BK
 err:Int
def FX (t:AA FM)(x:Int):Option FM:=t.find? λy=>y.id==x
def JF (t:AA FM)(x:Int):AA BK:=((FX t x).map (·.after)).getD []
def errOf (t:AA FM)(x:Int):Int:=((FX t x).map (·.err)).getD 0
def jZ (l:AA AQ)(e:AQ):Int:=bif Rq l e != 0 then Rq l e else KP e (Tq l e)
def PI (l:AA AQ)(t:AA FM)(e:AQ)(s:AA BK):Int:=
 bif jZ l e != 0 then jZ l e else bif e.bI.any (λx=>errOf t x != 0)then 16 else KP e (JX l s)
def stB (l:AA AQ)(t:AA FM)(e:AQ):AA BK:=dN l (e.bG.map (JF t))
def ZM (e:AQ)(s:AA BK)(r:Int):FM:=⟨e.Id,s,bif r==0&&JE e.Kind then Gy s e.Kind e.Key e.Id else s,r⟩
def Jy (l:AA AQ)(t:AA FM)(e:AQ):FM:=ZM e (stB l t e) (PI l t e (stB l t e))
def Ig (l:AA AQ)(ids:AA Int):AA FM:=ids.foldl (λt id=>t++[Jy l t (ev l id)]) []
def DK (l:AA AQ):AA FM:=Ig l (J9 l)
def aBU l{ids:AA Int}(h:i<ids.length):Ig l (ids.take (i+1))=Ig l (ids.take i)++[Jy l (Ig l (ids.take i)) (ev l ids[i])]:=aVr h
variable {t:AA FM}
theorem Fn0 {x}:FX t x=none↔x∉t.map (·.id):=by
 unfold FX
 grind
variable {y:FM}
theorem a2O (h:FX t y.id=none)x:FX (t++[y]) x=bif x==y.id then some y else FX t x:=by
 unfold FX at h ⊢
 grind
def aAG l:∀(ids:AA Int) (t:AA FM),(∀x∈ids,bP l x=true)->(ids.foldl (λt id=>t++[Jy l t (ev l id)]) t).map (·.id)=t.map (·.id)++ids
 | [],t,_=>BU
 |x::ids,t,h=>by
  have j:(Jy l t (ev l x)).id=x:=(J7 (h x (Gv ..))).2;rw[Gf,aAG l ids _ λy q=>h y (I7 _ q),JY,Gz,List.map_nil,j,JK];rfl
def OL (l:AA AQ)(t:AA FM):Prop:=∀y∈t,KF l y.before/\KF l y.after
def OL.after (h:OL l t)x:KF l (JF t x):=by
 unfold JF;cases hl:FX t x with
 |none=>exact .nil l
 |some y=>exact(h y (YH hl)).2
def OL.states (h:OL l t)(ids:AA Int):∀s∈ids.map (JF t),KF l s:=λs hs=>by
 obtain⟨x,_,rfl⟩:=FB.1 hs;exact h.after x
def OL.okay {l}{t}(h:OL l t)(hl:l.length<=100)(hs:EZ l)(ids:AA Int)(hi:ids.length<=100):PG l (ids.map (JF t)):=KF.okay hl hs a3n (h.states ids)
def OL.stB (h:OL l t)(hl:l.length<=100)(hs:EZ l)(j:e.bG.length<=40):KF l (stB l t e):=KF.resolve (h.okay hl hs _ AB) (h.states _)
def OL.line (h:OL l t)(hl:l.length<=100)(hs:EZ l)(u:e.bG.length<=40)(z:JE e.Kind=true->bP l e.Id=true/\ev l e.Id=e):OL l (t++[Jy l t e]):=λy j=>by
 rcases Ia.1 j with j|j
 ·exact h y j
 rw[Je.1 j];have hp:=h.stB hl hs u;refine⟨hp,?_⟩;show KF l (cond (PI l t e (Go.Proofs.YtfmoknlmaldmlaaGreat.stB l t e)==0&&JE e.Kind) (Gy _ e.Kind e.Key e.Id) _);cases q:(PI l t e (Go.Proofs.YtfmoknlmaldmlaaGreat.stB l t e)==0&&JE e.Kind)with
 |false=>exact hp
 |true=>
  have hst:JE e.Kind=true:=by rw[Di]at q;exact q.2
  obtain⟨I,k2⟩:=z hst;exact hp.set I k2 hst
def aaJ {id}(h:JE (ev l id).Kind=true):bP l (ev l id).Id=true/\ev l (ev l id).Id=ev l id:=by
 cases j:Eh l id with
 |none=>unfold ev at h;rw[SC j]at h;exact absurd h Bl
 |some e=>
  have q:bP l id=true:=by unfold bP;rw[j];rfl
  have :=(J7 q).2;rw[this];exact⟨q,rfl⟩
def aXU :Et Eo:=⟨FQ _,FQ _,FQ _,FQ _,FQ _,FQ _,FQ _,FQ _,FQ _,FQ _,FQ _,FQ _,λ_ h=>absurd h H9,λ_ h=>absurd h H9,λ_ h=>absurd h H9⟩
def a4p (hs:EZ l)id:Et (ev l id):=by
 unfold ev Ii;cases h:Eh l id with
 |none=>exact aXU
 |some e=>exact hs e (Jf h)
def a8p {l}(hl:l.length<=100)(hs:EZ l):∀(ids:AA Int) (t:AA FM),OL l t->OL l (ids.foldl (λt id=>t++[Jy l t (ev l id)]) t)
 | [],t,h=>h
 |x::ids,t,h=>by rw[Gf];exact a8p hl hs ids _ (h.line hl hs (a4p hs x).prev aaJ)
structure Qh (t:List FM) (m1 m2:List (Int×List BK)) (m3:List (Int×Int)):Prop where
 b:∀x,DF m1 x=(FX t x).map (·.before)
 a:∀x,DF m2 x=(FX t x).map (·.after)
 r:∀x,DF m3 x=(FX t x).map (·.err)
variable {j q:AA (Int×AA BK)}{u:AA (Int×Int)}
def Qh.after (h:Qh t q j u)x:(DF j x).getD []=JF t x:=by rw[h.a];rfl
def Qh.err {u}{j}(h:Qh t q u j)x:(DF j x).getD 0=errOf t x:=by rw[h.r];rfl
theorem aXK {u}{z}(h:Qh t q u z)l e s(hl:l.length<=100)(hs:EZ l)(j:Et e)(hsl:s.length<=100):
 a7J q u z l e s=some (PI l t e s):=by
 have h1:=j.auth;have h2:=oq l s;unfold a7J PI jZ;rw[aak l e hl j,Ac];cases I:Rq l e != 0 with
 |true=>
  grind
 |false=>
  simp only[BH];rw[aQi l e AB AB,Ac,a5P e _ (EC (a4u l e) AB) (hs.from e) j,Ac];cases ha:KP e (Tq l e) != 0 with
  |true=>
   rfl
  |false=>
   simp only[BH];unfold aNy;rw[H7 e.bI (fuel_lt AB) (λx=>errOf t x != 0) 16 (some (KP e (JX l s)))]
   ·cases e.bI.any (λx=>errOf t x != 0)<;>rfl
   ·intro k i hi;unfold aCH;rw[Ch hi,h.err]
   intro k;unfold aCH;rw[EJ,aLD l s hl AB,Ac,a5P e (JX l s) AB (aHV hs _) j];rfl
variable {I:AA (Int×AA BK)}
def Qh.snoc {J}{L}(h:Qh t I J L)(z:FX t y.id=none)(h1:∀x,DF j x=bif x==y.id then some y.before else DF I x)(h2:∀x,DF q x=bif x==y.id then some y.after else DF J x)(h3:∀x,DF u x=bif x==y.id then some y.err else DF L x):Qh (t++[y]) j q u:=by
 refine⟨λx=>?_,λx=>?_,λx=>?_⟩
 ·rw[h1,a2O z,h.b];cases x==y.id<;>rfl
 ·rw[h2,a2O z,h.a];cases x==y.id<;>rfl
 rw[h3,a2O z,h.r];cases x==y.id<;>rfl
def add_eq {z}{J}(h:Qh t z I J)l e(hl:l.length<=100)(hs:EZ l)(L:Et e)(M:OL l t)(O:FX t e.Id=none):
 dK (a2g z I J l e) (λr=>Qh (t++[Jy l t e]) r.1 r.2.1 r.2.2):=by
 have h1:=L.prev;unfold a2g aWT;refine JJ e.bG.length (fuel_lt AB) (λi a=>a=(e.bG.take i).map (JF t)) rfl (λi a k hi ha U=>?_) λa k ha=>?_
 ·have Y:a.length<=i:=zZ
  unfold aEE;rw[Ch hi,Dw G7,Ac,wrap_succ i AB,h.after];exact U _ a4M
 rw[Gw]at ha;subst ha;unfold aEE;have hp:KF l (stB l t e):=M.stB hl hs h1;have Z:=hp.length;have u:lY l (e.bG.map (JF t))=some (stB l t e):=aLR (M.okay hl hs _ AB);rw[EJ,u,Ac,aXK h l e _ hl hs L AB,Ac];have j:Jy l t e=ZM e (stB l t e) (PI l t e (stB l t e)):=rfl;rw[j];generalize PI l t e (stB l t e)=r;have q:∀(c d f:AY) {R:Type} (g:AY->AL R),((cond c (some d) (some false)).bind λx9=>(cond x9 (some f) (some false)).bind g)=g (c&&(d&&f)):=λc d f R g=>by cases c<;>cases d<;>rfl
 rw[q];show dK (cond (r==0&&JE e.Kind) _ _) _;unfold ZM;cases hc:(r==0&&JE e.Kind)with
 |true=>
  simp only[BZ];rw[aU _ _ _ _ AB,Ac];refine .ret (h.snoc O (λx=>Qe ..) (λx=>?_) λx=>Qe ..);rw[Qe,Qe];cases x==e.Id<;>rfl
 |false=>exact .ret (h.snoc O (λx=>Qe ..) (λx=>Qe ..) λx=>Qe ..)
def run_go l ids(hl:l.length<=100)(hs:EZ l)(u:∀x∈ids,bP l x=true)(z:ids.Nodup)(J:ids.length<=1000):dK (aJw ids l 0 [] [] []) (λo=>∃T,o=some T/\Qh (Ig l ids) T.1 T.2.1 T.2.2):=by
 unfold aJw;refine aHp (body:=aIo ids l) (Q:=λo=>∃T,o=some T/\Qh (Ig l ids) T.1 T.2.1 T.2.2) (λn a b c d=>∃i:Nat,a=i/\i+n=ids.length/\Qh (Ig l (ids.take i)) b c d) ?_ Am ids.length 0 [] [] [] (fuel_lt AB) ⟨0,rfl,AB,⟨λx=>rfl,λx=>rfl,λx=>rfl⟩⟩;rintro n a b c d k ⟨i,rfl,Z,hm⟩ L;unfold aIo;by_cases hi:i<ids.length
 ·have I:=u _ (EU hi)
  have q:FX (Ig l (ids.take i)) (ev l ids[i]).Id=none:=by
   rw[Fn0,(J7 I).2];unfold Ig;rw[aAG l _ _ λx M=>u x (dZ M),List.map_nil,Ir];intro hm;obtain⟨j,O,e⟩:=GY hm;rw[Hl]at O;rw[lH]at e;have :=JU.1 (dX.1 z) j i AB hi AB;exact this e
  rw[Ch hi,OD l _ AB,Ac];refine(add_eq hm l _ hl hs (a4p hs ids[i]) (a8p hl hs _ _ λy U=>absurd U H9) q).bind λr Y=>?_;exact L (n-1) _ _ _ _ AB ⟨i+1,wrap_succ i AB,AB,by rw[aBU l hi];exact Y⟩
 have :i=ids.length:=AB
 subst this;rw[EJ];exact .ret ⟨_,rfl,by rw[Gw]at hm;exact hm⟩
structure Kq (l:List AQ):Prop where
 len:l.length<=100
 small:EZ l
 nodup:(l.map (·.Id)).Nodup
 dep:sZ l
theorem Hz {x}:bP l x=true↔x∈l.map (·.Id):=by
 unfold bP Eh
 grind
def aLZ l:(J9 l).Perm (l.map (·.Id)):=(aIm l).map _
def rE {x}:x∈J9 l↔bP l x=true:=by rw[(aLZ l).mem_iff,Hz]
def a7z l:(J9 l).length=l.length:=by unfold J9;rw[DY,aIN]
def Kq.order (h:Kq l):(J9 l).Nodup:=(aLZ l).nodup_iff.2 h.nodup
def Q9 (l:AA AQ)(c:Int):AA FM:=bif c==0&&Hf l==0 then DK l else[]
def run_eq l(z:Nk l=some c)(h:c=0->Kq l):
 dK (dc l) (λo=>(Q9 l c=[]/\o=none)\/(Q9 l c=DK l/\Kq l/\∃T,o=some T/\Qh (DK l) T.1 T.2.1 T.2.2)):=by
 unfold dc Q9;rw[z,Ac];by_cases u:c=0
 ·subst u;have j:=h rfl;rw[aDs l j.len j.small j.dep];cases hd:Hf l==0 with
  |false=>
   have q:(Hf l != 0)=true:=by unfold bne;rw[hd];rfl
   simp only[PW,BH,Ac,q,BZ];exact .ret (.inl ⟨rfl,rfl⟩)
  |true=>
   have q:(Hf l != 0)=false:=by unfold bne;rw[hd];rfl
   simp only[PW,BH,Ac,q];rw[akp l (by have :=j.len;omega),Ac];exact(run_go l (J9 l) j.len j.small (λx I=>rE.1 I) j.order (by rw[a7z];have :=j.len;omega)).mono λo J=>.inr ⟨rfl,j,J⟩
 have L:(c != 0)=true:=SY
 have M:(c==0)=false:=SY
 rw[L,M];exact .ret (.inl ⟨rfl,rfl⟩)
def aEn (h:Kq l):OL l (DK l):=a8p h.len h.small _ _ λy j=>absurd j H9
def aD4 l:(DK l).map (·.id)=J9 l:=by
 have :=aAG l (J9 l) [] λx j=>rE.1 j;simpa[DK,Ig]using this
def qH {x}(h:bP l x=true):∃y,FX (DK l) x=some y:=by
 cases hl:FX (DK l) x with
 |some y=>exact⟨y,rfl⟩
 |none=>rw[Fn0,aD4]at hl;exact absurd (rE.2 h) hl
def GX (t:AA FM)(x:Int):AY:=match FX t x with
 |some y=>y.err==0
 |none=>false
def Gx (l:AA AQ)(t:AA FM):AA Int:=(l.filter λe=>GX t e.Id).map (·.Id)
def OA (l:AA AQ)(t:AA FM):AA BK:=dN l ((Jk l (Gx l t)).map (JF t))
def Y6 l t:(Gx l t).length<=l.length:=by unfold Gx;rw[DY];exact MS _ _
def aNn l:Gx l []=[]:=by
 unfold Gx;rw[aHQ.2 λe _=>by unfold GX FX;simp];rfl
def aOf l:OA l []=[]:=by unfold OA;rw[aNn];rfl
theorem a6k (h:i<l.length):Gx (l.take (i+1)) t=Gx (l.take i) t++bif GX t l[i].Id then[l[i].Id]else[]:=by
 unfold Gx;rw[pK h,JY]
 grind
def aN6 {x}(h:bP l x=true):GX (DK l) x=(errOf (DK l) x==0):=by
 obtain⟨y,j⟩:=qH h;unfold GX errOf;rw[j];rfl
def aRl (h:Qh (DK l) j q u)(hl:l.length<=100):dW j q u l=some (Gx l (DK l)):=by
 unfold dW
 have hp:a7S l j q u=some (Gx l (DK l)):=by
  unfold a7S aWE;refine dK.eq (JJ l.length (fuel_lt AB) (λi a=>a=Gx (l.take i) (DK l)) rfl (λi a k hi ha z=>?_) λa k ha=>?_)
  ·have J:a.length<=i:=aQ9
   unfold aCd aCx a8o;rw[Ch hi,Ac,h.err,←aN6 (Hz.2 (FB.2 ⟨_,EU hi,rfl⟩)),wrap_succ i AB];cases I:GX (DK l) l[i].Id with
   |true=>
    rw[BZ,CQ hi,Ac,Dw G7,Ac];exact z _ (by rw[a6k hi,I,ha];rfl)
   |false=>exact z _ (by rw[a6k hi,I,ha];simp)
  unfold aCd;rw[EJ];exact .ret aj
 rw[hp];rfl
def aVu (u:Nk l=some c)(h:c=0->Kq l):ny l=some (OA l (Q9 l c)):=by
 unfold ny;refine dK.eq ((run_eq l u h).bind λo j=>?_);rcases j with⟨h1,rfl⟩|⟨h1,j,T,rfl,q⟩
 ·rw[h1,aOf];exact .ret rfl
 rw[h1];have hl:=j.len;have ha:=Y6 l (DK l);have z:=a02 l (Gx l (DK l));show dK ((dW T.1 T.2.1 T.2.2 l).bind _) _;rw[aRl q hl,Ac,aUr l _ hl j.small AB,Ac];unfold OA;generalize Jk l (Gx l (DK l))=H at z;unfold aNx;refine JJ H.length (fuel_lt AB) (λi a=>a=(H.take i).map (JF (DK l))) rfl (λi a k hi ha I=>?_) λa k ha=>?_
 ·have J:a.length<=i:=zZ
  unfold aGo;rw[Ch hi,Dw G7,Ac,q.after,wrap_succ i AB];exact I _ a4M
 rw[Gw]at ha;unfold aGo;rw[EJ,ha,aLR ((aEn j).okay hl j.small _ AB),Ac];exact .ret rfl
def vP (h:c=0->Kq l):KF l (OA l (Q9 l c)):=by
 unfold Q9;cases q:(c==0&&Hf l==0)with
 |false=>rw[BH,aOf];exact .nil l
 |true=>
  rw[Di]at q;have j:=h (eq_of_beq q.1);have u:=aEn j;have ha:=Y6 l (DK l);have z:=a02 l (Gx l (DK l));have hl:=j.len;rw[BZ];exact KF.resolve (u.okay hl j.small _ AB) (u.states _)
def ac6 (J:∀a b c,lt b a=false->lt c b=false->lt c a=false)(ha:∀a b,lt a b=true->lt b a=false)x:
 ∀n (A:AA α),A.length=n->A.Pairwise (λa b=>lt b a=false)->(LW lt A x).Pairwise λa b=>lt b a=false:=by
 intro n
 induction n with
 |zero=>
  intro A q _;obtain rfl:=Hu q;exact aCG ..
 |succ n L=>
  intro A q hA;rcases List.eq_nil_or_concat A with rfl|⟨B,a,rfl⟩
  ·cases q
  rw[List.concat_eq_append]at q hA ⊢;have q:B.length=n:=Xj
  obtain⟨h1,_,h3⟩:=Zd.1 hA;cases u:lt x a with
  |true=>
   rw[aUD u];refine Zd.2 ⟨L B q h1,aCG ..,λy j z I=>?_⟩;rw[Je.1 I];rcases FP.1 ((aLz B x).mem_iff.1 j)with rfl|j
   ·exact ha _ _ u
   exact h3 y j a (Je.2 rfl)
  |false=>
   rw[aT2 u,show B++a::[x]=(B++[a])++[x] by simp];refine Zd.2 ⟨hA,aCG ..,λy j z I=>?_⟩;rw[Je.1 I];rcases Ia.1 j with j|j
   ·exact J y a x (h3 y j a (Je.2 rfl)) u
   rw[Je.1 j];exact u
theorem aC0 {a b}:NS b a=false↔a.Depth<b.Depth\/(a.Depth=b.Depth/\a.Id<=b.Id):=by
 unfold NS
 grind
def aZC l:(Uc l).Pairwise λa b=>NS b a=false:=by
 have key:∀(l A:AA AQ),A.Pairwise (λa b=>NS b a=false)->(l.foldl (LW NS) A).Pairwise λa b=>NS b a=false:=by
  intro l
  induction l with
  |nil=>exact λA h=>h
  |cons x l j=>
   intro A h;rw[Gf];refine j _ (ac6 (λa b c h1 h2=>?_) (λa b h=>?_) x _ A rfl h)
   ·rw[aC0]at *;omega
   rw[aC0];unfold NS at h;rw[ZE,Di,Io,Io,NP]at h;omega
 exact key l [] .nil
theorem dQ (q:(l.map (·.Id)).Nodup)(h:e∈l):ev l e.Id=e:=by
 have u:bP l e.Id=true:=Hz.2 (FB.2 ⟨e,h,rfl⟩);obtain⟨h1,h2⟩:=J7 u;have h3:=Jf h1;obtain⟨i,hi,z⟩:=GY h3;obtain⟨j,I,J⟩:=GY h;have hp:=JU.1 (dX.1 q)
 grind
theorem aaj (u:(l.map (·.Id)).Nodup)(hi:i<(J9 l).length){a}(z:bP l a=true)(hd:(ev l a).Depth<(ev l (J9 l)[i]).Depth):a∈(J9 l).take i:=by
 obtain⟨h1,h2⟩:=J7 z;have hm:ev l a∈Uc l:=(aIm l).mem_iff.2 (Jf h1);obtain⟨j,I,M⟩:=GY hm;have q:i<(Uc l).length:=by simpa[J9]using hi
 have J:(J9 l)[i]=(Uc l)[i].Id:=P9 (λx:AQ=>x.Id);have O:ev l (J9 l)[i]=(Uc l)[i]:=by rw[J];exact dQ u ((aIm l).mem_iff.1 (EU q))
 have L:j<i:=by
  rcases a0m j i with h|h|h
  ·exact h
  ·grind
  have :=JU.1 (aZC l) i j q I h;rw[aC0]at this
  grind
 refine aRZ.2 ⟨j,AB,?_⟩;unfold J9
 grind
theorem abM {x}(h:FX t x=some y)z:FX (t++[z]) x=some y:=by
 unfold FX at *
 grind
theorem ku (hd:Hf l=0)(j:e∈l):(∀a∈e.bI,bP l a=true/\(ev l a).Depth<e.Depth)/\∀a∈e.bG,bP l a=true/\(ev l a).Depth<e.Depth:=by
 unfold Hf at hd;cases q:U1 l with
 |false=>
  grind
 |true=>
  rw[q,BZ]at hd;cases u:l.all (QX l)with
  |false=>
   grind
  |true=>
   have h1:=FW.1 q e j;have h2:=FW.1 u e j;unfold Fr at h1;unfold QX at h2;rw[Di,FW,FW]at h1;rw[Di,FW]at h2;refine⟨λa ha=>⟨h1.2 a ha,Ov (h2.1 a ha)⟩,λa ha=>⟨h1.1 a ha,?_⟩⟩
   have hp:((e.bG.length:Int)==0)=false:=by
    grind
   have h3:=h2.2;rw[hp,BH,Di,FW]at h3;exact Ov (h3.1 a ha)
structure He (x y:AQ):Prop where
 id:y.Id=x.Id
 room:y.Room=x.Room
 sender:y.bU=x.bU
 kind:y.Kind=x.Kind
 key:y.Key=x.Key
 time:y.Time=x.Time
 depth:y.Depth=x.Depth
 prev:y.bG=x.bG
 auth:y.bI=x.bI
 n:x.Kind=2\/x.Kind=4->y.Content.N=x.Content.N
 levels:x.Kind=3->y.Content.Levels=x.Content.Levels
def He.refl x:He x x:=⟨rfl,rfl,rfl,rfl,rfl,rfl,rfl,rfl,rfl,λ_=>rfl,λ_=>rfl⟩
inductive Iq :List AQ->List AQ->Prop
 |nil:Iq [] []
 |cons {x y:AQ} {xs ys:List AQ} (h:He x y) (t:Iq xs ys):Iq (x::xs) (y::ys)
variable {a b:AA AQ}
def Iq.append {c d}(h:Iq a b)(k:Iq c d):Iq (a++c) (b++d):=by
 induction h with
 |nil=>exact k
 |cons h _ j=>exact .cons h j
def Iq.flat {α}{f g}:∀(l:AA α),(∀x∈l,Iq (f x) (g x))->Iq (l.flatMap f) (l.flatMap g)
 | [],_=>.nil
 |x::l,h=>by
  rw[Oj,Oj];exact(h x (Gv ..)).append (Iq.flat l λy j=>h y (I7 _ j))
variable {p:AQ->AY}
theorem Iq.any (hp:∀x y,He x y->p y=p x)(h:Iq a b):b.any p=a.any p:=by
 induction h with
 |nil=>
  rfl
 |cons h _ j=>
  grind
theorem Iq.all (hp:∀x y,He x y->p y=p x)(h:Iq a b):b.all p=a.all p:=by
 induction h with
 |nil=>
  rfl
 |cons h _ j=>
  grind
theorem Iq.find (hp:∀x y,He x y->p y=p x)(h:Iq a b):(a.find? p=none/\b.find? p=none)\/∃x y,a.find? p=some x/\b.find? p=some y/\He x y/\p x=true:=by
 induction h with
 |nil=>
  grind
 | @cons x y xs ys h _ j=>
   rw[YA,YA,hp _ _ h];cases q:p x with
   |true=>
    grind
   |false=>
    exact j
variable {y:AQ}
def Iq.one {x}(h:He x y):Iq [x] [y]:=.cons h .nil
def aBB {x}(h:He x y):FC k y=FC k x:=by unfold FC;rw[h.kind,h.key]
def ad5 {x}(h:He x y):Qi y=Qi x:=by
 unfold Qi;rw[h.kind,h.key,h.sender];cases j:x.Kind==2 with
 |false=>rfl
 |true=>rw[h.n (.inl (eq_of_beq j))]
def aHd {x}(h:He x y):keysOf y=keysOf x:=by
 unfold keysOf NT;rw[h.kind,h.key,h.sender];cases j:x.Kind==2 with
 |false=>rfl
 |true=>rw[h.n (.inl (eq_of_beq j))]
theorem adi (h:Iq a b):(Jb b).2=(Jb a).2/\He (Jb a).1 (Jb b).1:=by
 unfold Jb;rcases h.find (p:=λx=>x.Kind==1) (λx y h=>by rw[h.kind])with⟨h1,h2⟩|⟨x,y,h1,h2,h3,_⟩
 ·rw[h1,h2];exact⟨rfl,.refl _⟩
 grind
def aO6 {u}{x}(h:He x y):Qa u y=Qa u x:=by unfold Qa;rw[h.kind,h.key]
def aJW (h:Iq a b)u:ML b u=ML a u:=by
 unfold ML;rcases h.find (p:=Qa u) (λx y h=>aO6 h)with⟨h1,h2⟩|⟨x,y,h1,h2,h3,j⟩
 ·rw[h1,h2]
 rw[h1,h2];unfold Qa at j;rw[Di]at j;exact h3.n (.inl (eq_of_beq j.1))
def aZz (h:Iq a b):Ue b=Ue a:=by
 unfold Ue;rcases h.find (p:=λx=>x.Kind==1) (λx y h=>by rw[h.kind])with⟨h1,h2⟩|⟨x,y,h1,h2,h3,_⟩
 ·rw[h1,h2]
 rw[h1,h2];exact h3.sender
def aBT (h:Iq a b):I5 b=I5 a:=by
 unfold I5;rcases h.find (p:=λx=>x.Kind==3) (λx y h=>by rw[h.kind])with⟨h1,h2⟩|⟨x,y,h1,h2,h3,j⟩
 ·rw[h1,h2,aZz h]
 rw[h1,h2];exact h3.levels (eq_of_beq j)
def alR (h:Iq a b):(XW b).1=(XW a).1:=by
 unfold XW;rcases h.find (p:=λx=>x.Kind==4) (λx y h=>by rw[h.kind])with⟨h1,h2⟩|⟨x,y,h1,h2,h3,j⟩
 ·rw[h1,h2]
 rw[h1,h2];exact h3.n (.inr (eq_of_beq j))
def aF7 {f}(j:He e f)(h:Iq a b):KP f b=KP e a:=by
 unfold KP;obtain⟨J,L⟩:=adi h;rw[j.kind,j.sender,j.room,J];cases e.Kind==1 with
 |true=>rfl
 |false=>
 cases(Jb a).2 with
 |false=>rfl
 |true=>
 cases M:e.Kind==2 with
 |true=>
  have I:=j.n (.inl (eq_of_beq M));simp only[BH,Eu,BZ]
  have q:YF f b=YF e a:=by
   unfold YF;rw[J,j.prev,j.sender,j.key,I,L.id,L.sender,h.any λx y h=>aO6 h]
  have u:∀m now,Yq m now b=Yq m now a:=λm now=>by unfold Yq;rw[alR h]
  have z:∀now,aO f b now=aO e a now:=λnow=>by
   unfold aO;rw[aJW h,j.sender,j.key,I,aBT h]
  unfold pJ;rw[q,j.key,j.sender,I,aJW h,u,z]
 |false=>
  simp only[BH,Eu];rw[aJW h]
  have hl:Zw f b=Zw e a:=by
   unfold Zw;rw[aBT h,j.sender,j.kind];cases h3:e.Kind==3 with
   |false=>rfl
   |true=>rw[j.levels (eq_of_beq h3)]
  rw[hl]
structure Hw (l l':List AQ) (S:List Int):Prop where
 nodup:S.Nodup
 mem:∀x∈S,bP l x=true/\bP l' x=true/\He (ev l x) (ev l' x)
 prev:∀x∈S,∀a∈(ev l x).bG,a∈S
 auth:∀x∈S,∀a∈(ev l x).bI,a∈S
section
variable {l l':AA AQ} {S:AA Int} (h:Hw l l' S)
include h
theorem Hw.ids {ids:AA Int}(hi:∀x∈ids,x∈S):Iq (ofIds l ids) (ofIds l' ids):=by
 induction ids with
 |nil=>exact .nil
 |cons x ids j=>
  obtain⟨q,k2,k3⟩:=h.mem x (hi x (Gv ..));unfold ofIds at j ⊢;rw[SK,SK,(J7 q).1,(J7 k2).1];exact .cons k3 (j λy u=>hi y (I7 _ u))
theorem Hw.jq {x:Int}(j:x∈S):jq l' x=jq l x:=(h.mem x j).2.2.auth
theorem Hw.ch {ids:AA Int}(hi:∀x∈ids,x∈S){x:Int}(q:NJ l ids x):x∈S/\NJ l' ids x:=by
 induction q with
 |one h1 h2 _=>
  have hs:=h.auth _ (hi _ h1) _ h2;exact⟨hs,.one h1 (by rw[h.jq (hi _ h1)];exact h2) (h.mem _ hs).2.1⟩
 |more _ h2 _ j=>
  have hs:=h.auth _ j.1 _ h2;exact⟨hs,.more j.2 (by rw[h.jq j.1];exact h2) (h.mem _ hs).2.1⟩
theorem Hw.ch' {ids:AA Int}(hi:∀x∈ids,x∈S){x:Int}(q:NJ l' ids x):x∈S/\NJ l ids x:=by
 induction q with
 |one h1 h2 _=>
  rw[h.jq (hi _ h1)]at h2;have hs:=h.auth _ (hi _ h1) _ h2;exact⟨hs,.one h1 h2 (h.mem _ hs).1⟩
 |more _ h2 _ j=>
  rw[h.jq j.1]at h2;have hs:=h.auth _ j.1 _ h2;exact⟨hs,.more j.2 h2 (h.mem _ hs).1⟩
theorem Hw.chain {ids:AA Int}(hi:∀x∈ids,x∈S):chainOf l' ids=chainOf l ids:=DU (aAu _ _) (aAu _ _) λx=>by
 rw[lq,lq];exact⟨λj=>(h.ch' hi j).2,λj=>(h.ch hi j).2⟩
theorem Hw.aFb {ids:AA Int}(hi:∀x∈ids,x∈S):∀x∈chainOf l ids,x∈S:=λ_ j=>(h.ch hi (lq.1 j)).1
theorem Hw.from {e f:AQ}(j:He e f)(hi:∀x∈e.bI,x∈S):Iq (Tq l e) (Tq l' f):=by
 unfold Tq;rw[aHd j,j.auth];refine Iq.flat _ λk _=>?_;rcases(h.ids hi).find (p:=FC k) (λx y h=>aBB h)with⟨h1,h2⟩|⟨x,y,h1,h2,h3,_⟩
 ·rw[h1,h2];exact .nil
 rw[h1,h2];exact .one h3
theorem Hw.fits {e f:AQ}(L:He e f)(hi:∀x∈e.bI,x∈S):Rq l' f=Rq l e:=by
 have hs:=h.ids hi
 have h1:e.bI.all (bP l')=e.bI.all (bP l):=by
  rw[Oz,FW,FW];exact⟨λ_ x z=>(h.mem x (hi x z)).1,λ_ x z=>(h.mem x (hi x z)).2.1⟩
 have h2:∀(I:AA BK) {xs ys:AA AQ},Iq xs ys->∀{q j:AA AQ},Iq q j->LY I j ys=LY I q xs:=by
  intro I xs ys M
  induction M with
  |nil=>intro q j _;rfl
  | @cons x y xs ys z _ O=>
    intro q j hp;have hm:(I.any λk=>FC k y)=I.any λk=>FC k x:=BF (λp=>I.any p) (funext λk=>aBB z)
    have hl:j.any (TT y)=q.any (TT x):=by
     rw[show TT y=TT x from funext λu=>by unfold TT;rw[z.kind,z.key]];exact hp.any λu v J=>by unfold TT;rw[J.kind,J.key]
    unfold LY;rw[O (hp.append (.one z)),hm,hl]
 unfold Rq;rw[L.auth,L.kind,L.room,aHd L,h1,hs.all (λx y h=>by rw[h.room]),h2 _ hs .nil,hs.any (λx y h=>by unfold RF;rw[h.kind,h.key])]
omit h in
theorem find_congr {p q:Int->AY}:∀(l:AA Int),(∀x∈l,p x=q x)->l.find? p=l.find? q
 | [],_=>rfl
 |x::l,h=>by rw[YA,YA,h x (Gv ..),find_congr l λy j=>h y (I7 _ j)]
omit h in
theorem qm :∀{a b:AA Int},a.Nodup->(∀x∈a,x∈b)->a.length<=b.length
 | [],_,_,_=>FQ _
 |x::a,b,q,hs=>by
  have u:=hs x (Gv ..);obtain⟨h1,h2⟩:=KX.1 q;have :=qm (b:=b.erase x) h2 λy j=>(List.mem_erase_of_ne λe=>h1 (by rw[←e];exact j)).2 (hs y (I7 _ j))
  grind
theorem Hw.power {x:Int}(j:x∈S):QJ l' (ev l' x)=QJ l (ev l x):=by
 unfold QJ;rw[(h.mem x j).2.2.auth];refine find_congr _ λa ha=>?_;obtain⟨q,k2,k3⟩:=h.mem a (h.auth x j a ha);rw[q,k2,k3.kind]
theorem Hw.Dj:∀(n m:Nat) (seen:AA Int) (id:Int),id∈S->seen.Nodup->(∀x∈seen,x∈S)->S.length<=seen.length+n->S.length<=seen.length+m->Dj l' m seen id=Dj l n seen id:=by
 have q:∀(seen:AA Int) (id:Int),id∈S->seen.Nodup->(∀x∈seen,x∈S)->S.length<=seen.length->id∈seen:=λseen id j I hs hl=>by
  refine oZ λz=>?_
  have :=qm (a:=id::seen) (b:=S) (KX.2 ⟨z,I⟩) λx J=>by
   rcases FP.1 J with rfl|J
   ·exact j
   exact hs x J
  rw[Gh]at this;omega
 have u:∀(l:AA AQ) (n:Nat) (seen:AA Int) (id:Int),id∈seen->Go.Proofs.YtfmoknlmaldmlaaGreat.Dj l n seen id=seen:=λl n seen id j=>by
  cases n with
  |zero=>rfl
  |succ n=>unfold Go.Proofs.YtfmoknlmaldmlaaGreat.Dj;rw[La.2 j];rfl
 intro n
 induction n with
 |zero=>
  intro m seen id j I hs h1 _;have :=q seen id j I hs AB;rw[u l' m seen id this,u l 0 seen id this]
 |succ n M=>
  intro m seen id j I hs h1 h2;by_cases z:id∈seen
  ·rw[u l' m seen id z,u l (n+1) seen id z]
  obtain⟨m,rfl⟩:∃O,m=O+1:=by
   cases m with
   |zero=>exact absurd (q seen id j I hs AB) z
   |succ m=>exact⟨m,rfl⟩
  obtain⟨U,k2,k3⟩:=h.mem id j;unfold Go.Proofs.YtfmoknlmaldmlaaGreat.Dj;rw[Pz.2 z,U,k2,h.power j];cases hp:QJ l (ev l id)with
  |none=>rfl
  |some x=>
   have J:x∈S:=h.auth id j x (YH hp);refine M m (seen++[id]) x J (rM.2 ⟨I,BU,λa ha b Y=>?_⟩) (λy L=>?_) aEw aEw
   ·rw[Je.1 Y];exact λe=>z (e▸ha)
   rcases Ia.1 L with L|L
   ·exact hs y L
   rw[Je.1 L];exact j
theorem Hw.way {x:Int}(j:x∈S):ZW l' x=ZW l x:=by
 have h1:S.length<=l.length:=by
  have :=qm (b:=l.map (·.Id)) h.nodup λx j=>Hz.1 (h.mem x j).1
  grind
 have h2:S.length<=l'.length:=by
  have :=qm (b:=l'.map (·.Id)) h.nodup λx j=>Hz.1 (h.mem x j).2.1
  grind
 exact h.Dj _ _ [] x j .nil (λ_ h=>absurd h H9) V9 LP
theorem Hw.item {j:AA Int}{x:Int}(q:x∈S):Fa l' j x=Fa l j x:=by
 unfold Fa TJ;rw[h.way q,(h.mem x q).2.2.time]
theorem Hw.Bg {j ids:AA Int}(hi:∀x∈ids,x∈S):Bg l' j ids=Bg l j ids:=by
 unfold Go.Proofs.YtfmoknlmaldmlaaGreat.Bg;rw[Z7 (q:=bP l) λx u=>by rw[(h.mem x (hi x u)).1,(h.mem x (hi x u)).2.1],sI λx u=>h.item (hi x (Hg.1 u).1)]
theorem Hw.IY {full:AA Int}(hi:∀x∈full,x∈S):IY l' full=IY l full:=by
 unfold Go.Proofs.YtfmoknlmaldmlaaGreat.IY;refine Z7 λx j=>?_;obtain⟨q,k2,k3⟩:=h.mem x (hi x j);unfold Y0;rw[q,k2,ad5 k3]
theorem Hw.Xz {full:AA Int}(hi:∀x∈full,x∈S):Xz l' full=Xz l full:=by
 unfold Go.Proofs.YtfmoknlmaldmlaaGreat.Xz;rw[h.IY hi,h.chain (ids:=Go.Proofs.YtfmoknlmaldmlaaGreat.IY l full) λx j=>hi x (Hg.1 j).1]
theorem Hw.gU {ids:AA Int}(hi:∀x∈ids,x∈S):gU l' ids=gU l ids:=by
 unfold Go.Proofs.YtfmoknlmaldmlaaGreat.gU;exact Z7 λx j=>by rw[(h.mem x (hi x (MR.1 j))).1,(h.mem x (hi x (MR.1 j))).2.1]
theorem Hw.one {x:Int}(j:x∈S):chainOf l' [x]=chainOf l [x]:=h.chain λy q=>by rw[Je.1 q];exact j
theorem Hw.node {x:Int}(j:x∈S):GV l' x=GV l x:=by
 obtain⟨_,_,k3⟩:=h.mem x j;unfold GV a7f;rw[aBT (h.from k3 (h.auth x j)),k3.sender,k3.time,h.one j]
omit h in
theorem ajJ (l:AA AQ)(left:AA Int)(b:AL Int)(x:Int):IV l left b x=some x\/IV l left b x=b:=by
 unfold IV
 grind
theorem Hw.best {left:AA Int}:∀(xs:AA Int) (b:AL Int),(∀x∈xs,x∈S)->(∀y,b=some y->y∈S)->xs.foldl (IV l' left) b=xs.foldl (IV l left) b
 | [],_,_,_=>
     rfl
 |x::xs,b,j,z=>by
  have q:=j x (Gv ..)
  have e:IV l' left b x=IV l left b x:=by
   unfold IV dz;rw[h.one q];cases b with
   |none=>
    rfl
   |some y=>
    simp only[h.node q,h.node (z y rfl)]
  rw[Gf,Gf,e];refine Hw.best xs _ (λy u=>j y (I7 _ u)) λy u=>?_;rcases ajJ l left b x with I|I
  ·grind
  grind
theorem Hw.tC:∀(n:Nat) (left:AA Int),(∀x∈left,x∈S)->tC l' n left=tC l n left
 |0,_,_=>rfl
 |n+1,left,hi=>by
  unfold Go.Proofs.YtfmoknlmaldmlaaGreat.tC Um;rw[h.best left none hi λ_ h=>H6];cases left.foldl (IV l left) none with
  |none=>rfl
  |some b=>exact BF _ (Hw.tC n _ λx j=>hi x (Hg.1 j).1)
def Ln (S:AA Int)(s:AA BK):Prop:=∀x∈s,x.Id∈S
theorem Hw.pick {s:AA BK}(hs:Ln S s){e f:AQ}(j:He e f)(hi:∀x∈e.bI,x∈S):Iq (UF l s e) (UF l' s f):=by
 unfold UF;rw[aHd j];refine Iq.flat _ λk _=>?_;unfold Tt iw;cases q:(Ih s k.Kind k.Key).2 with
 |true=>
  have hm:=aKN (s:=s) (k:=k.Kind) (key:=k.Key) (n:=(Ih s k.Kind k.Key).1) (Prod.ext rfl q);obtain⟨u,k2,k3⟩:=h.mem _ (hs _ hm)
  have z:Ii l (Ih s k.Kind k.Key).1=(ev l (Ih s k.Kind k.Key).1,true):=by
   have :=(J7 u).1;unfold ev Ii at this ⊢;rw[this]
  have I:Ii l' (Ih s k.Kind k.Key).1=(ev l' (Ih s k.Kind k.Key).1,true):=by
   have :=(J7 k2).1;unfold ev Ii at this ⊢;rw[this]
  simp only[BZ];rw[z,I];exact .one k3
 |false=>
  simp only[BH];unfold wC;rw[j.auth];rcases(h.ids hi).find (p:=FC k) (λx y h=>aBB h)with⟨h1,h2⟩|⟨x,y,h1,h2,h3,_⟩
  ·rw[h1,h2];exact .nil
  rw[h1,h2];exact .one h3
theorem Hw.apply {s:AA BK}(hs:Ln S s){x:Int}(j:x∈S):QG l' s x=QG l s x/\Ln S (QG l s x):=by
 obtain⟨u,k2,k3⟩:=h.mem x j
 have e:TS l' s x=TS l s x:=by
  unfold TS;rw[u,k2,k3.kind,aF7 k3 (h.pick hs k3 (h.auth x j))]
 unfold QG;rw[e,k3.kind,k3.key,k3.id];refine⟨rfl,?_⟩;cases TS l s x with
 |false=>exact hs
 |true=>
  intro y q;rcases TQ q with rfl|q
  ·show(ev l x).Id∈S;rw[(J7 u).2];exact j
  exact hs y q
theorem Hw.applies:∀(ids:AA Int) (s:AA BK),Ln S s->(∀x∈ids,x∈S)->QA l' s ids=QA l s ids/\Ln S (QA l s ids)
 | [],_,hs,_=>⟨rfl,hs⟩
 |x::ids,s,hs,hi=>by
  obtain⟨h1,h2⟩:=h.apply hs (hi x (Gv ..));unfold QA;rw[Gf,Gf,h1];exact Hw.applies ids _ h2 λy j=>hi y (I7 _ j)
theorem Hw.closure {s:AA BK}(hs:Ln S s):Fh l' s=Fh l s/\∀x∈Fh l s,x∈S:=by
 have hi:∀x∈Ve s,x∈S:=λx j=>by
  obtain⟨y,q,rfl⟩:=FB.1 j;exact hs y q
 unfold Fh;refine⟨by rw[h.chain hi],λx j=>?_⟩;rcases XK.1 j with j|j
 ·exact hi x j
 exact h.aFb hi x j
theorem Hw.full {bg:AA (AA BK)}(hs:∀s∈bg,Ln S s):KQ l' bg=KQ l bg/\∀x∈KQ l bg,x∈S:=by
 have I:∀(q:AA (AA BK)) (a:AA Int),(∀s∈q,Ln S s)->q.foldl (λa s=>JL a (Fh l' s)) a=q.foldl (λa s=>JL a (Fh l s)) a:=by
  intro q
  induction q with
  |nil=>
   exact λ_ _=>rfl
  |cons s q M=>
   intro a J;rw[Gf,Gf,(h.closure (J s (Gv ..))).1];exact M _ λs hm=>J s (I7 _ hm)
 have L:∀x,Jo l' bg x=Jo l bg x:=λx=>by
  unfold Jo;exact List.countP_congr λs hm=>by rw[(h.closure (hs s hm)).1]
 have hd:PK l' bg=PK l bg:=by
  unfold PK allOf
  grind
 unfold KQ;rw[hd];refine⟨rfl,λx j=>?_⟩;rcases XK.1 j with j|j
 ·rw[MR]at j;unfold Sv at j;obtain⟨z,u,rfl⟩:=FB.1 j;obtain⟨s,hm,u⟩:=WL.1 u;exact hs s hm z (Hg.1 u).1
 obtain⟨⟨s,hm,j⟩,_⟩:=agZ.1 j;exact(h.closure (hs s hm)).2 x j
omit h in
theorem agf {bg:AA (AA BK)}(hs:∀s∈bg,Ln S s):Ln S (Il bg):=by
 cases bg with
 |nil=>exact λ_ h=>absurd h H9
 |cons s bg=>exact λx j=>hs s (Gv ..) x (Hg.1 j).1
theorem Hw.last {bg:AA (AA BK)}(hs:∀s∈bg,Ln S s):lastOf l' bg=lastOf l bg/\Ln S (lastOf l bg):=by
 obtain⟨f1,Z⟩:=h.full hs;have u:=agf hs;have J:MO l' bg=MO l bg:=by unfold MO;rw[f1,h.Xz Z]
 have I:∀x∈MO l bg,x∈S:=λx j=>Z x (a9y.1 j).1
 have hpo:NH l' bg=NH l bg:=by
  unfold NH;rw[J,h.gU I];exact h.tC _ _ λx j=>I x (O6.1 j).1
 have M:∀x∈NH l bg,x∈S:=λx j=>I x (O6.1 (aHO l _ _ j)).1;obtain⟨a1,a2⟩:=h.applies (NH l bg) (Il bg) u M;have q:JB l' bg=JB l bg:=by unfold JB;rw[hpo,a1]
 have O:VE l' bg=VE l bg:=by
  unfold VE;rw[q];cases hg:(Ih (JB l bg) 3 CX).2 with
  |false=>rfl
  |true=>exact h.way (a2 _ (aKN (n:=(Ih (JB l bg) 3 CX).1) (Prod.ext rfl hg)))
 have L:∀x∈PY (KQ l bg) (MO l bg),x∈S:=λx j=>Z x (aDV.1 j).1
 have U:Ld l' bg=Ld l bg:=by
  unfold Ld;rw[O,f1,J,h.Bg L]
 have Y:∀x∈Ld l bg,x∈S:=λx j=>by
  unfold Ld Go.Proofs.YtfmoknlmaldmlaaGreat.Bg at j;obtain⟨y,hy,rfl⟩:=FB.1 j;obtain⟨z,hz,rfl⟩:=FB.1 ((jg ..).mem_iff.1 hy);exact L z (Hg.1 hz).1
 obtain⟨b1,b2⟩:=h.applies (Ld l bg) (JB l bg) a2 Y;unfold lastOf;rw[q,U,b1];refine⟨rfl,λx j=>?_⟩;rcases aBe _ _ j with j|j
 ·exact u x j
 exact b2 x j
theorem Hw.resolve {bg:AA (AA BK)}(hs:∀s∈bg,Ln S s):dN l' bg=dN l bg/\Ln S (dN l bg):=by
 match bg,hs with
 | [],_=>exact⟨rfl,λ_ h=>absurd h H9⟩
 | [s],hs=>exact⟨rfl,hs s (Gv ..)⟩
 |s::r::bg,hs=>exact h.last hs
theorem Hw.verdict {t t':AA FM}{x:Int}(q:x∈S){s:AA BK}(hs:Ln S s)(M:∀a∈(ev l x).bI,errOf t' a=errOf t a):PI l' t' (ev l' x) s=PI l t (ev l x) s:=by
 obtain⟨O,k2,k3⟩:=h.mem x q
 have I:jZ l' (ev l' x)=jZ l (ev l x):=by
  unfold jZ;rw[h.fits k3 (h.auth x q),aF7 k3 (h.from k3 (h.auth x q))]
 have j:(ev l' x).bI.any (λx=>errOf t' x != 0)=(ev l x).bI.any (λx=>errOf t x != 0):=by
  rw[k3.auth,Oz,Ja,Ja]
  grind
 have u:KP (ev l' x) (JX l' s)=KP (ev l x) (JX l s):=aF7 k3 (h.ids λy J=>by
  obtain⟨z,L,rfl⟩:=FB.1 J
  exact hs z L)
 unfold PI;rw[I,j,u]
theorem Hw.line {t t':AA FM}{x:Int}(q:x∈S)(hp:∀a∈(ev l x).bG,JF t' a=JF t a/\Ln S (JF t a))(z:∀a∈(ev l x).bI,errOf t' a=errOf t a):
 Jy l' t' (ev l' x)=Jy l t (ev l x)/\Ln S (Jy l t (ev l x)).before/\Ln S (Jy l t (ev l x)).after:=by
 obtain⟨I,k2,k3⟩:=h.mem x q
 have j:stB l' t' (ev l' x)=stB l t (ev l x)/\Ln S (stB l t (ev l x)):=by
  have hm:(ev l x).bG.map (JF t')=(ev l x).bG.map (JF t):=sI λa ha=>(hp a ha).1;unfold stB;rw[k3.prev,hm]
  exact h.resolve λs hs=>by
   grind
 unfold Jy ZM;rw[j.1,h.verdict q j.2 z,k3.id,k3.kind,k3.key];refine⟨rfl,j.2,?_⟩;show Ln S (cond (PI l t (ev l x) (stB l t (ev l x))==0&&JE (ev l x).Kind) _ _);cases(PI l t (ev l x) (stB l t (ev l x))==0&&JE (ev l x).Kind)with
 |false=>
  exact j.2
 |true=>
  intro y u;rcases TQ u with rfl|u
  ·show(ev l x).Id∈S;rw[(J7 I).2];exact q
  exact j.2 y u
end
theorem abQ l{t'}(hp:∀a∈e.bG,JF t' a=JF t a)(u:∀a∈e.bI,errOf t' a=errOf t a):Jy l t' e=Jy l t e:=by
 have q:stB l t' e=stB l t e:=by
  unfold stB;rw[show e.bG.map (JF t')=e.bG.map (JF t)from sI hp]
 have j:e.bI.any (λx=>errOf t' x != 0)=e.bI.any (λx=>errOf t x != 0):=by
  rw[Oz,Ja,Ja]
  grind
 unfold Jy PI;rw[q,j]
def aX5 l:∀(ids:AA Int) {t:AA FM} {x:Int} {y:FM},FX t x=some y->FX (ids.foldl (λt id=>t++[Jy l t (ev l id)]) t) x=some y
 | [],_,_,_,h=>h
 |id::ids,_,_,_,h=>by rw[Gf];exact aX5 l ids (abM h _)
def aSr {ids}{x}{y}(h:FX (Ig l (ids.take i)) x=some y):FX (Ig l ids) x=some y:=by
 have :Ig l ids=(ids.drop i).foldl (λt id=>t++[Jy l t (ev l id)]) (Ig l (ids.take i)):=by
  unfold Ig;rw[←Uw,Vf]
 rw[this];exact aX5 l _ h
def aBR (Y:Kq l)(hd:Hf l=0){x}(M:bP l x=true):FX (DK l) x=some (Jy l (DK l) (ev l x)):=by
 obtain⟨i,hi,J⟩:=GY (rE.2 M)
 have u:∀j,(Ig l ((J9 l).take j)).map (·.id)=(J9 l).take j:=λj=>by
  unfold Ig;rw[aAG l _ _ λx hx=>rE.1 (dZ hx)];rfl
 have z:(ev l x).Id=x:=(J7 M).2;have hm:ev l x∈l:=Jf (J7 M).1
 have I:∀a,bP l a=true->(ev l a).Depth<(ev l x).Depth->∃y,FX (Ig l ((J9 l).take i)) a=some y/\FX (DK l) a=some y:=λa k1 k2=>by
  have :=aaj Y.nodup hi k1 (by rw[J];exact k2);cases hl:FX (Ig l ((J9 l).take i)) a with
  |some y=>exact⟨y,rfl,aSr hl⟩
  |none=>rw[Fn0,u]at hl;exact absurd this hl
 have q:FX (Ig l ((J9 l).take i)) (Jy l (Ig l ((J9 l).take i)) (ev l x)).id=none:=by
  show FX _ (ev l x).Id=none;rw[z,Fn0,u];intro L;obtain⟨j,hj,e⟩:=GY L;rw[Hl]at hj;rw[lH,←J]at e;exact JU.1 (dX.1 Y.order) j i AB hi AB e
 have h1:FX (Ig l ((J9 l).take (i+1))) x=some (Jy l (Ig l ((J9 l).take i)) (ev l x)):=by
  rw[aBU l hi,J,a2O q];have :(x==(Jy l (Ig l ((J9 l).take i)) (ev l x)).id)=true:=by show(x==(ev l x).Id)=true;rw[z];exact MC _
  rw[this];rfl
 have h2:=aSr h1
 have h3:Jy l (DK l) (ev l x)=Jy l (Ig l ((J9 l).take i)) (ev l x):=by
  obtain⟨Z,dp⟩:=ku hd hm;refine abQ l (λa ha=>?_) λa ha=>?_
  ·obtain⟨y,O,U⟩:=I a (dp a ha).1 (dp a ha).2;unfold JF;rw[O,U]
  obtain⟨y,O,U⟩:=I a (Z a ha).1 (Z a ha).2;unfold errOf;rw[O,U]
 rw[h3];exact h2
variable {S:AA Int}{l':AA AQ}
def aKL (h:Hw l l' S)(q:Kq l)(hd:Hf l=0)(u:Kq l')(z:Hf l'=0):∀x∈S,FX (DK l') x=FX (DK l) x/\Ln S (JF (DK l) x):=by
 have key:∀(n:Nat) (x:Int),x∈S->(ev l x).Depth<(n:Int)->FX (DK l') x=FX (DK l) x/\Ln S (JF (DK l) x):=by
  intro n
  induction n with
  |zero=>
   intro x j M;have :=(q.dep _ (Jf (J7 (h.mem x j).1).1)).1;omega
  |succ n L=>
   intro x j M;obtain⟨I,k2,k3⟩:=h.mem x j;obtain⟨O,U⟩:=ku hd (Jf (J7 I).1)
   obtain⟨Y,q2,Z⟩:=h.line j (t:=DK l) (t':=DK l') (λa ha=>by
    obtain⟨J,e2⟩:=L a (h.prev x j a ha) (by have :=(U a ha).2;omega)
    exact⟨by unfold JF;rw[J],e2⟩) λa ha=>by
    obtain⟨J,_⟩:=L a (h.auth x j a ha) (by have :=(O a ha).2;omega);unfold errOf;rw[J]
   rw[aBR q hd I,aBR u z k2,Y];exact⟨rfl,by unfold JF;rw[aBR q hd I];exact Z⟩
 intro x j;have :=(q.dep _ (Jf (J7 (h.mem x j).1).1)).2;exact key 100001 x j AB
theorem aiS (h:Hw l l' S)(J:Kq l)(hd:Hf l=0)(u:Kq l')(z:Hf l'=0)(ha:∀x∈Gx l (DK l),x∈S)(L:Gx l' (DK l')=Gx l (DK l)):OA l' (DK l')=OA l (DK l):=by
 have I:=aKL h J hd u z
 have M:Jk l' (Gx l (DK l))=Jk l (Gx l (DK l)):=by
  unfold Jk;refine Z7 λx _=>?_;congr 1;rw[Oz,Ja,Ja]
  have e:∀y∈Gx l (DK l),JV l' x y=JV l x y:=λy O=>by
   obtain⟨U,k2,k3⟩:=h.mem y (ha y O);unfold JV;rw[U,k2,k3.prev]
  grind
 have j:∀x∈Jk l (Gx l (DK l)),x∈S:=λx q=>ha x (MR.1 (Hg.1 q).1)
 have hm:(Jk l (Gx l (DK l))).map (JF (DK l'))=(Jk l (Gx l (DK l))).map (JF (DK l)):=sI λx q=>by
  unfold JF;rw[(I x (j x q)).1]
 unfold OA;rw[L,M,hm]
 exact(h.resolve λs hs=>by
  obtain⟨x,q,rfl⟩:=FB.1 hs
  exact(I x (j x q)).2).1
def aE5 l t:Gx l t=(l.map (·.Id)).filter (GX t):=by
 unfold Gx;rw[List.filter_map];rfl
variable {S:Type}{b c d l:AA Int}{j:AY}{n s:BL}{u:Nat}
section
def Uk (n:Int):Int:=if n<0 then bits .xor .u64 IntKind.u64.max (IntKind.u64.wrap (IntKind.u64.wrap n*2))else IntKind.u64.wrap (IntKind.u64.wrap n*2)
def Fn2 n:0<=Uk n/\Uk n<18446744073709551616:=by
 unfold Uk;have h2:∀x:Int,0<=IntKind.u64.wrap x/\IntKind.u64.wrap x<18446744073709551616:=λx=>by rw[sH];omega
 split
 ·obtain⟨j,u⟩:=h2 (IntKind.u64.wrap n*2);generalize IntKind.u64.wrap (IntKind.u64.wrap n*2)=y at *;obtain⟨k,rfl⟩:=Int.eq_ofNat_of_zero_le j;have :(IntKind.u64.max:Int)=((18446744073709551615:Nat):Int):=Bl
  rw[this,bits_xor_u64_nat _ _ AB AB];have :18446744073709551615^^^k<2^64:=Nat.xor_lt_two_pow AB AB;constructor
  ·exact aDO _
  have q:(2:Nat)^64=18446744073709551616:=Bl
  omega
 exact h2 _
def Q8 (u:Nat):AA Int:=if u<128 then[(u:Int)]else((u % 128+128:Nat):Int)::Q8 (u/128)
termination_by u
decreasing_by omega
def qE (h:u<128):Q8 u=[(u:Int)]:=by rw[Q8,ET h]
def aIp (h:¬u<128):Q8 u=((u % 128+128:Nat):Int)::Q8 (u/128):=by rw[Q8,Ee h]
def aNG :∀(j u:Nat),u<128^(j+1)->(Q8 u).length<=j+1
 |0,u,h=>by rw[qE Oa];simp
 |j+1,u,h=>by
  by_cases q:u<128
  ·rw[qE q];simp
  rw[aIp q]
  have :u/128<128^(j+1):=by
   rw[Nat.div_lt_iff_lt_mul AB];rw[Nat.pow_succ]at h;exact h
  have :=aNG j (u/128) this;simp;omega
def enc (n:Int):AA Int:=Q8 (Uk n).toNat
def RN n:(enc n).length<=10:=by
 have h:=(Fn2 n).2;refine aNG 9 _ ?_;have :(128:Nat)^10=1180591620717411303424:=Bl
 rw[this];have :=(Fn2 n).1;omega
def aa5 (k:Nat):bits .or .u8 ((k:Int) % 256) 128=((k % 128+128:Nat):Int):=by
 have h:=u8_or_nat (k % 256) 128 AB AB;rw[show((k:Int) % 256)=((k % 256:Nat):Int)from by omega];have j:(128:Int)=((128:Nat):Int):=rfl;rw[j,h];congr 1;have key:∀x,x<256->x|||128=x % 128+128:=OY
 rw[key _ AB];omega
def wV (u c:Int):Int:=(IntKind.u64.wrap (bits .xor .u64 u (IntKind.u64.wrap c)*1099511628211)).tmod 4611686018427387904
def aOK x:bits .and .u64 (IntKind.u64.wrap x) 4611686018427387903=(IntKind.u64.wrap x).tmod 4611686018427387904:=by
 rw[sH];have h:=bits_mask .u64 64 Bl (λn q h1=>by rw[sH];omega) 62 Bl (x % 18446744073709551616) AB AB;have e:((2:Int)^62-1)=4611686018427387903:=Bl
 have j:((2:Int)^62)=4611686018427387904:=Bl
 rw[aPY AB];simpa[e,j]using h
def adk u c:bits .and .u64 (IntKind.u64.wrap (bits .xor .u64 u (IntKind.u64.wrap c)*1099511628211)) 4611686018427387903=wV u c:=aOK _
def a9b op k x y(h:op=.and\/op=.or\/op=.xor):FD op k x y=bits op k x y:=by
 rcases h with rfl|rfl|rfl<;>rfl
def Ox {b}{l m:AA α}(j:b<=100)(h:(l++m).length<=1099511627776):D5 b l m=some (l++m):=by
 refine Dw ?_;rw[Ef]at h;have :(l.length+m.length)*b<=1099511627776*100:=aAK h j;omega
def alM (u:Nat):FD .or .u8 (IntKind.u8.wrap (u:Int)) 128=((u % 128+128:Nat):Int):=by
 rw[a9b _ _ _ _ (.inr (.inl rfl)),show IntKind.u8.wrap (u:Int)=(u:Int) % 256 from by rw[oH],aa5]
theorem ajD (u:Nat):Qc .shr .u64 (u:Int) 7=some ((u/128:Nat):Int):=by
 unfold Qc;rw[Ee AB];show some ((u:Int).fdiv (2^7))=_
 grind
theorem aWZ {n}(h:u<128^(n+1+1)):u/128<128^(n+1):=by
 grind
def anD :∀(n u:Nat),u<128^(n+1)->∀m b,n<m->(b++Q8 u).length<=1099511627776->aQ XT m b (u:Int)=some (b++Q8 u):=by
 intro n
 induction n with
 |zero=>
  intro u q m b hm j;obtain⟨m,rfl⟩:∃z,m=z+1:=⟨m-1,AB⟩
  have h:u<128:=Xj
  rw[qE h]at j ⊢;show XT (aQ XT m) b (u:Int)=_;simp only[XT,show decide ((u:Int)>=128)=false from by simp;omega,BH];rw[show IntKind.u8.wrap (u:Int)=(u:Int)from by rw[oH];omega,Ox AB j];rfl
 |succ n J=>
  intro u q m b hm j;obtain⟨m,rfl⟩:∃z,m=z+1:=⟨m-1,AB⟩
  show XT (aQ XT m) b (u:Int)=_;by_cases h:u<128
  ·rw[qE h]at j ⊢;simp only[XT,show decide ((u:Int)>=128)=false from by simp;omega,BH];rw[show IntKind.u8.wrap (u:Int)=(u:Int)from by rw[oH];omega,Ox AB j];rfl
  rw[aIp h]at j ⊢;have e:(b++((u % 128+128:Nat):Int)::Q8 (u/128))=(b++[((u % 128+128:Nat):Int)])++Q8 (u/128):=BU
  have I:(b++[((u % 128+128:Nat):Int)]).length<=1099511627776:=by simp only[Ef,Gh,Qp]at j ⊢;omega
  simp only[XT,show decide ((u:Int)>=128)=true from by simp;omega,BZ,alM,Ox (show 1<=100 by omega) I,ajD,Ac];rw[e];exact J (u/128) (aWZ q) m _ AB (by rw[←e];exact j)
def aaB :∀(n u:Nat),u<128^(n+1)->u<18446744073709551616->∀m b,n<m->(b++Q8 u).length<=1099511627776->aQ XL m (u:Int) b=some (b++Q8 u):=by
 intro n
 induction n with
 |zero=>
  intro u q _ m b hm j;obtain⟨m,rfl⟩:∃z,m=z+1:=⟨m-1,AB⟩
  have h:u<128:=Xj
  rw[qE h]at j ⊢;show XL (aQ XL m) (u:Int) b=_;simp only[XL,show decide ((u:Int)>=128)=false from by simp;omega,BH];rw[show IntKind.u8.wrap (u:Int)=(u:Int)from by rw[oH];omega,Ox AB j];rfl
 |succ n J=>
  intro u q L m b hm j;obtain⟨m,rfl⟩:∃z,m=z+1:=⟨m-1,AB⟩
  show XL (aQ XL m) (u:Int) b=_;by_cases h:u<128
  ·rw[qE h]at j ⊢;simp only[XL,show decide ((u:Int)>=128)=false from by simp;omega,BH];rw[show IntKind.u8.wrap (u:Int)=(u:Int)from by rw[oH];omega,Ox AB j];rfl
  rw[aIp h]at j ⊢;have e:(b++((u % 128+128:Nat):Int)::Q8 (u/128))=(b++[((u % 128+128:Nat):Int)])++Q8 (u/128):=BU
  have I:(b++[((u % 128+128:Nat):Int)]).length<=1099511627776:=by simp only[Ef,Gh,Qp]at j ⊢;omega
  have M:Xm (u:Int) 128=some ((u % 128:Nat):Int):=by unfold Xm;rw[Ee AB,aPY AB];congr 1
  have O:yu .u64 (u:Int) 128=some ((u/128:Nat):Int):=by
   unfold yu;rw[Ee AB,Int.tdiv_eq_ediv_of_nonneg AB];congr 1;rw[sH];omega
  have U:IntKind.u8.wrap (IntKind.u64.wrap (((u % 128:Nat):Int)+128))=((u % 128+128:Nat):Int):=by rw[sH,oH];omega
  simp only[XL,show decide ((u:Int)>=128)=true from by simp;omega,BZ,M,U,O,Ox (show 1<=100 by omega) I,Ac];rw[e];exact J (u/128) (aWZ q) AB m _ AB (by rw[←e];exact j)
def aOU x:Qc .shl .u64 x 1=some (IntKind.u64.wrap (x*2)):=rfl
def aQf x:fA .u64 x=bits .xor .u64 IntKind.u64.max x:=rfl
theorem aRx n:(Uk n).toNat<128^(9+1):=by
 have j:=Fn2 n
 grind
def aOk :9<Am:=oO
theorem number_eq {n}(h:(b++enc n).length<=1099511627776):aV b n=some (b++enc n):=by
 have u:=Fn2 n
 have j:aS4 b (Uk n)=some (b++enc n):=by
  have :=anD 9 (Uk n).toNat (aRx n) Am b aOk h
  rwa [Int.toNat_of_nonneg u.1]at this
 unfold aV;rw[aOU,Ac];unfold a2q;unfold Uk at j;by_cases q:n<0
 ·rw[ET q]at j;rw[show decide (n<0)=true by simpa using q,BZ,aQf];exact j
 grind
def afC n:([]++enc n).length<=1099511627776:=by have :=RN n;simp only[Ir];omega
theorem aRv n:a0x n=some (enc n):=by
 have u:=Fn2 n
 have j:aOs (Uk n) []=some (enc n):=by
  have :=aaB 9 (Uk n).toNat (aRx n) AB Am [] aOk (afC n)
  rwa [Int.toNat_of_nonneg u.1]at this
 unfold a0x;rw[aOU,Ac];unfold aAb;unfold Uk at j;by_cases q:n<0
 ·rw[ET q]at j;rw[show decide (n<0)=true by simpa using q,BZ,aQf];exact j
 grind
def xg {m}(h:b.length+m<=1099511627776):Yh b (m:Int)=some b:=by
 unfold Yh;rw[Nr AB AB];unfold Jg;rw[ET ⟨AB,AB,AB⟩];simp[gCopy]
def a6P {a}(h:(a++b).length<=1099511627776):a.length<=1099511627776:=by rw[Ef]at h;omega
def JR (s:BL):AA Int:=enc s.size++DI s
def text_eq (h:(b++JR s).length<=1099511627776):a00 b s=some (b++JR s):=by
 unfold JR at h ⊢;rw[←JK]at h ⊢;unfold a00;rw[number_eq (a6P h),Ac,Ox AB h];rfl
def wW {n}(h:b.length+10<=1099511627776):Oq b n=some (b++enc n):=by
 have :=RN n;unfold Oq;rw[show(10:Int)=((10:Nat):Int)from rfl,xg AB,Ac,number_eq LV];rfl
def aG {n}(h:b.length+10<=1099511627776):NI b n=some (b++enc n):=by
 have :=RN n;unfold NI;rw[Ox AB aB3,Ac,aRv,Ac,Ir,Ox AB LV];rfl
def xZ s:(JR s).length<=s.size+10:=by
 have :=RN s.size;unfold JR;rw[Ef,JH];omega
def ajs (h:b.length+s.size+10<=1099511627776):UM b s=some (b++JR s):=by
 have :=xZ s;unfold UM;rw[Nr AB AB,show(s.size:Int)+10=((s.size+10:Nat):Int) by omega,xg AB,Ac,text_eq LV];rfl
def aUt (h:b.length+s.size+10<=1099511627776):Rs b s=some (b++JR s):=by
 have :=xZ s;unfold Rs;rw[aG AB,Ac,Ox AB (by unfold JR at this;rw[Ef]at this;rw[Ef,Ef];omega)];simp[JR]
def aXc (h:b.length+10<=1099511627776):dM b j=some (b++[bif j then 1 else 0]):=by
 unfold dM;rw[show(1:Int)=((1:Nat):Int)from rfl,xg AB,Ac];cases j<;>simp only[BZ,BH]<;>rw[Ox AB aHc]<;>rfl
def anW (h:b.length+10<=1099511627776):rW b j=some (b++[bif j then 1 else 0]):=by
 unfold rW;rw[Ox AB aB3,Ac,Ir];cases j<;>simp only[BZ,BH]<;>rw[Ox AB aHc]<;>rfl
def aDF {body}(l:AA α)(hl:l.length<Am)g(z:∀k b (i:Nat) (h:i<l.length),(b++g l[i]).length<=1099511627776->body k b (i:Int)=k (b++g l[i]) (Au ((i:Int)+1)))(I:∀k b,body k b (l.length:Int)=some b)(b:AA Int)(j:(b++l.flatMap g).length<=1099511627776):
 aQ body Am b 0=some (b++l.flatMap g):=by
 have L:Am=9223372036854775808:=rfl
 have key:∀n (i:Nat) b,i+n=l.length->(b++(l.drop i).flatMap g).length<=1099511627776->∀m,n<m->aQ body m b (i:Int)=some (b++(l.drop i).flatMap g):=by
  intro n
  induction n with
  |zero=>
   intro i b hi j m hm;obtain⟨m,rfl⟩:∃u,m=u+1:=⟨m-1,AB⟩
   have :i=l.length:=AB
   subst this;show body (aQ body m) _ _=_;rw[I,PN];simp
  |succ n J=>
   intro i b hi j m hm;obtain⟨m,rfl⟩:∃u,m=u+1:=⟨m-1,AB⟩
   have q:i<l.length:=AB
   rw[Nc q,Oj,←JK]at j ⊢;show body (aQ body m) _ _=_;rw[z _ _ i q (a6P j),wrap_succ i AB];exact J (i+1) _ AB j m AB
 exact key l.length 0 b AB j Am hl
def Ri (l:AA Int):AA Int:=enc l.length++l.flatMap enc
def SP (l:AA BL):AA Int:=enc l.length++l.flatMap JR
def aZG (h:(b++Ri l).length<=1099511627776)(hl:l.length<=1000):a6j b l=some (b++Ri l):=by
 have q:Am=9223372036854775808:=rfl;unfold Ri at h ⊢;rw[←JK]at h ⊢;unfold a6j;rw[number_eq (a6P h),Ac];unfold aPQ;refine aDF l AB enc (λk b i hi j=>?_) (λk b=>?_) _ h
 ·simp only[aJX,dec_lt hi,BZ,CQ hi,number_eq j,Ac]
 simp only[aJX,DR,BH]
def ajB {l}(h:(b++SP l).length<=1099511627776)(hl:l.length<=1000000000):a3W b l=some (b++SP l):=by
 have q:Am=9223372036854775808:=rfl;unfold SP at h ⊢;rw[←JK]at h ⊢;unfold a3W;rw[number_eq (a6P h),Ac];unfold aWg;refine aDF l AB JR (λk b i hi j=>?_) (λk b=>?_) _ h
 ·simp only[aFk,dec_lt hi,BZ,CQ hi,text_eq j,Ac]
 simp only[aFk,DR,BH]
def a7s {α}{g:α->AA Int}{m}:∀{l:AA α},(∀x∈l,(g x).length<=m)->(l.flatMap g).length<=l.length*m
 | [],_=>BU
 |x::l,h=>by
  rw[Oj,Ef,Gh,ig];have :=h x Gv;have :=a7s (l:=l) (λy j=>h y (I7 _ j));omega
def aFz l:(Ri l).length<=l.length*10+10:=by
 have h1:=RN l.length;have h2:=a7s (g:=enc) (m:=10) (l:=l) (λx _=>RN x);unfold Ri;rw[Ef];omega
def agL (j:b.length+20000<=1099511627776)(hl:l.length<=1000):aA b l=some (b++Ri l):=by
 have h1:=aFz l;unfold aA;rw[Nr (x:=2*(l.length:Int)) AB AB,Nr AB AB,show 2*(l.length:Int)+10=((2*l.length+10:Nat):Int) by omega,xg AB,Ac,aZG LV hl];rfl
def aa4 (q:b.length+20000<=1099511627776)(hl:l.length<=1000):qp b l=some (b++Ri l):=by
 have u:Am=9223372036854775808:=rfl;have h1:=aFz l;have h:(b++Ri l).length<=1099511627776:=LV
 unfold Ri at h ⊢;rw[←JK]at h ⊢;unfold qp;rw[aG AB,Ac];unfold aVe;refine aDF l AB enc (λk b i hi j=>?_) (λk b=>?_) _ h
 ·simp only[aEZ,dec_lt hi,BZ,CQ hi,aRv,Ox (show 1<=100 by omega) j,Ac]
 simp only[aEZ,DR,BH]
def SV (l:AA BL):Nat:=(l.map λs=>s.size).sum+l.length
def Wx (l:AA IQ):Nat:=(l.map λu=>u.User.size).sum+l.length
def TY (c:D9):Nat:=c.Text.size+c.Via.size+SV c.Allow+SV c.iD+Wx c.Levels.Users+c.Levels.Kinds.length
def ai9 l:(SP l).length<=10*SV l+10:=by
 have h1:=RN l.length
 have key:∀l:AA BL,(l.flatMap JR).length<=10*SV l:=by
  intro l
  induction l with
  |nil=>exact FQ _
  |cons s l j=>
   have h2:=xZ s;unfold SV at j ⊢;rw[Oj,Ef,Gz,a1l,Gh];omega
 have :=key l;unfold SP;rw[Ef];omega
structure Qd (c:D9):Prop where
 allow:c.Allow.length<=100
 deny:c.iD.length<=100
 users:c.Levels.Users.length<=100
 kinds:c.Levels.Kinds.length<=100
 text:c.Text.size<=2000
 via:c.Via.size<=2000
 allows:∀x∈c.Allow,x.size<=2000
 denies:∀x∈c.iD,x.size<=2000
 names:∀x∈c.Levels.Users,x.User.size<=2000
def Et.content (h:Et e):Qd e.Content:=⟨h.allow,h.deny,h.users,h.kinds,h.text,h.via,h.allows,h.denies,h.names⟩
section
variable {b:AA Int} {k:Nat}
def VN (h:b.length<=k)(j:k<=1000000000)n:Oq b n=some (b++enc n)/\NI b n=some (b++enc n)/\(b++enc n).length<=k+10:=by
 have :=RN n;exact⟨wW AB,aG AB,LV⟩
def aMh (h:b.length<=k)(q:k<=1000000000)j:dM b j=some (b++[bif j then 1 else 0])/\rW b j=some (b++[bif j then 1 else 0])/\(b++[bif j then(1:Int)else 0]).length<=k+10:=
 ⟨aXc AB,anW AB,aHc⟩
def Y8 (h:b.length<=k)(j:k<=1000000000)m(hs:s.size<=m)(hm:m<=1000000000):UM b s=some (b++JR s)/\Rs b s=some (b++JR s)/\(b++JR s).length<=k+m+10:=by
 have :=xZ s;exact⟨ajs AB,aUt AB,LV⟩
def aLS (h:b.length<=k)(j:k<=1000000000)(hl:l.length<=100):aA b l=some (b++Ri l)/\qp b l=some (b++Ri l)/\(b++Ri l).length<=k+1010:=by
 have :=aFz l;exact⟨agL AB AB,aa4 AB AB,LV⟩
end
def tq {R}{body}(l:AA α)(hl:l.length<Am)g C(j:AA Int->AL R)b(I:(b++l.flatMap g).length<=C)(J:∀k a (i:Nat) (h:i<l.length),(a++g l[i]).length<=C->body k a (i:Int)=k (a++g l[i]) (Au ((i:Int)+1)))(L:∀k a,a.length<=C->body k a (l.length:Int)=j a):
 aQ body Am b 0=j (b++l.flatMap g):=by
 have O:Am=9223372036854775808:=rfl
 have key:∀n (i:Nat) b,i+n=l.length->(b++(l.drop i).flatMap g).length<=C->∀m,n<m->aQ body m b (i:Int)=j (b++(l.drop i).flatMap g):=by
  intro n
  induction n with
  |zero=>
   intro i b hi q m hm;obtain⟨m,rfl⟩:∃z,m=z+1:=⟨m-1,AB⟩
   have :i=l.length:=AB
   subst this;show body (aQ body m) _ _=_;rw[PN,List.flatMap_nil,Tv]at q ⊢;exact L _ _ q
  |succ n M=>
   intro i b hi q m hm;obtain⟨m,rfl⟩:∃z,m=z+1:=⟨m-1,AB⟩
   have u:i<l.length:=AB
   rw[Nc u,Oj,←JK]at q ⊢;show body (aQ body m) _ _=_;rw[J _ _ i u (by rw[Ef]at q;omega),wrap_succ i AB];exact M (i+1) _ AB q m AB
 exact key l.length 0 b AB I Am hl
def aGS s:s.size<=(JR s).length:=by
 unfold JR;rw[Ef,JH];omega
section
variable {b:AA Int} {k:Nat}
theorem aLT (h:b.length<=k)(u:k<=1000000000){l}m(hl:SV l<=m)(hm:m<=10000000):xE b l=some (b++SP l)/\yK b l=some (b++SP l)/\(b++SP l).length<=k+10*m+10:=by
 have z:Am=9223372036854775808:=rfl;have h1:=ai9 l;have h2:l.length<=SV l:=Nat.le_add_left ..;have h3:(b++SP l).length<=k+10*m+10:=LV
 refine⟨?_,?_,h3⟩
 ·unfold xE;rw[Nr (x:=8*(l.length:Int)) AB AB,Nr AB AB,show 8*(l.length:Int)+10=((8*l.length+10:Nat):Int) by omega,xg AB,Ac,ajB AB AB];rfl
 have j:(b++SP l).length<=2000000000:=AB
 unfold SP at j ⊢;rw[←JK]at j ⊢;unfold yK aVT;rw[aG AB,Ac];refine tq (body:=a5Z l) l AB JR 2000000000 some _ j (λk a i hi q=>?_) λk a _=>?_
 ·have :=aGS l[i];rw[Ef]at q;unfold a5Z;rw[Ch hi,aUt AB,Ac]
 unfold a5Z
 grind
end
def UJ (u:IQ):AA Int:=JR u.User++enc u.N
def Qw (u:KL):AA Int:=enc u.Kind++enc u.N
def L9 (l:Ci):AA Int:=[l.User,l.Message,l.State,l.gY,l.lg,l.oV,l.iq]
def afg (b:AA Int)(l:Ci):AA Int:=b++enc l.Users.length++l.Users.flatMap UJ++enc l.Kinds.length++l.Kinds.flatMap Qw++(L9 l).flatMap enc
def XU (c:D9):AA Int:=afg ([]++JR c.Text++enc c.N++enc c.Target++[bif c.Thread then 1 else 0]++JR c.Via++SP c.Allow++SP c.iD) c.Levels
def abm u:(Qw u).length<=20:=by
 have :=RN u.Kind;have :=RN u.N;unfold Qw;rw[Ef];omega
theorem aWC {R}{body}(l:AA α)(hl:l.length<=1000)g m(hm:∀x∈l,(g x).length<=m)(j:AA Int->AL R)b(q:∀k a (i:Nat) (h:i<l.length),a.length<=b.length+i*m->body k a (i:Int)=k (a++g l[i]) (Au ((i:Int)+1)))(u:∀k a,a.length<=b.length+l.length*m->body k a (l.length:Int)=j a):aQ body Am b 0=j (b++l.flatMap g)/\(b++l.flatMap g).length<=b.length+l.length*m:=by
 constructor
 ·rw[Iy l AB (λa x=>a++g x) (λi a=>a.length<=b.length+i*m) j AB (λk a i h z=>⟨?_,q k a i h z⟩) u,foldl_append g]
  grind
 have :=a7s hm
 grind
set_option maxRecDepth 20000
set_option maxHeartbeats 1000000
def afv l:(l.flatMap UJ).length<=20*Wx l:=by
 induction l with
 |nil=>exact FQ _
 |cons s l j=>
  have h1:=xZ s.User;have h2:=RN s.N;have h3:(UJ s).length=(JR s.User).length+(enc s.N).length:=Ef ..;unfold Wx at j ⊢;rw[Oj,Ef,Gz,a1l,Gh];omega
def alS c b(z:b.length<=90000000):(aHI c b 0=some (b++(L9 c.Levels).flatMap enc)/\aDI (L9 c.Levels) b 0=some (b++(L9 c.Levels).flatMap enc))/\(b++(L9 c.Levels).flatMap enc).length<=b.length+70:=by
 have q:∀i:Nat,(h:i<(L9 c.Levels).length)->Ak ([c.Levels.User,c.Levels.Message,c.Levels.State,c.Levels.gY,c.Levels.lg,c.Levels.oV,c.Levels.iq]:AA Int) (i:Int)=some (L9 c.Levels)[i]:=λi h=>CQ h
 have h1:=aWC (body:=aG7 c) (L9 c.Levels) (by simp[L9]) enc 10 (λx _=>RN x) some b (λk a i h j=>by
  have u:i<7:=h;unfold aG7
  rw[IX (show(i:Int)<7 by omega),BZ,q i h,Ac,wW AB,Ac]) λk a j=>rfl
 have h2:=aWC (body:=a4F (L9 c.Levels)) (L9 c.Levels) (by simp[L9]) enc 10 (λx _=>RN x) some b (λk a i h j=>by
  have u:i<7:=h;unfold a4F
  rw[Ch h,aG AB,Ac]) λk a j=>by unfold a4F;rw[DR];rfl
 exact⟨⟨h1.1,h2.1⟩,h1.2⟩
theorem agP c b(z:b.length<=60000000)(I:c.Levels.Kinds.length<=1048576):(aDv c b 0=some (b++c.Levels.Kinds.flatMap Qw++(L9 c.Levels).flatMap enc)/\aKg c b 0=some (b++c.Levels.Kinds.flatMap Qw++(L9 c.Levels).flatMap enc))/\(b++c.Levels.Kinds.flatMap Qw++(L9 c.Levels).flatMap enc).length<=b.length+c.Levels.Kinds.length*20+70:=by
 have J:Am=9223372036854775808:=rfl
 have hl:(b++c.Levels.Kinds.flatMap Qw).length<=b.length+c.Levels.Kinds.length*20:=by
  have :=a7s (g:=Qw) (m:=20) (l:=c.Levels.Kinds) λx _=>abm x
  grind
 have h1:=tq (body:=a2p c) c.Levels.Kinds AB Qw 90000000 (λa=>aHI c a 0) b AB (λk a i h j=>by
  have ha:a.length<=90000000:=by rw[Ef]at j;omega
  obtain⟨q,_,u⟩:=VN ha AB c.Levels.Kinds[i].Kind;unfold a2p
  rw[Ch h,q,Ac,wW AB,Ac,JK];rfl) λk a j=>by unfold a2p;rw[DR];rfl
 have h2:=tq (body:=a6Z c) c.Levels.Kinds AB Qw 90000000 (λa=>aDI (L9 c.Levels) a 0) b AB (λk a i h j=>by
  have ha:a.length<=90000000:=by rw[Ef]at j;omega
  obtain⟨_,q,u⟩:=VN ha AB c.Levels.Kinds[i].Kind;unfold a6Z
  rw[Ch h,q,Ac,CQ h,Ac,aG AB,Ac,JK];rfl) λk a j=>by unfold a6Z aIX;rw[DR,BH,Ac];rfl
 have h3:=alS c (b++c.Levels.Kinds.flatMap Qw) AB;exact⟨⟨h1.trans h3.1.1,h2.trans h3.1.2⟩,EC h3.2 AB⟩
def afy c b(M:b.length<=30000000)(O:Wx c.Levels.Users<=1048576)(u:c.Levels.Kinds.length<=1048576):(aNW c b 0=some (b++c.Levels.Users.flatMap UJ++enc c.Levels.Kinds.length++c.Levels.Kinds.flatMap Qw++(L9 c.Levels).flatMap enc)/\aOq c b 0=some (b++c.Levels.Users.flatMap UJ++enc c.Levels.Kinds.length++c.Levels.Kinds.flatMap Qw++(L9 c.Levels).flatMap enc))/\(b++c.Levels.Users.flatMap UJ++enc c.Levels.Kinds.length++c.Levels.Kinds.flatMap Qw++(L9 c.Levels).flatMap enc).length<=90000000:=by
 have U:Am=9223372036854775808:=rfl;have Y:=afv c.Levels.Users;have z:c.Levels.Users.length<=Wx c.Levels.Users:=Nat.le_add_left ..;have hl:(b++c.Levels.Users.flatMap UJ).length<=b.length+20*Wx c.Levels.Users:=LV
 have h1:=tq (body:=a4I c) c.Levels.Users AB UJ 90000000 (λa=>aDv c (a++enc c.Levels.Kinds.length) 0) b AB (λk a i h j=>by
  have I:=aGS c.Levels.Users[i].User;have ha:a.length+(JR c.Levels.Users[i].User).length<=90000000:=aUb
  obtain⟨q,_,J⟩:=Y8 (b:=a) (k:=90000000) AB AB (s:=c.Levels.Users[i].User) 90000000 AB AB;unfold a4I
  rw[Ch h,q,Ac,wW AB,Ac,JK];rfl) λk a j=>by unfold a4I;rw[DR,BH,wW AB,Ac]
 have h2:=tq (body:=a5T c) c.Levels.Users AB UJ 90000000 (λa=>aKg c (a++enc c.Levels.Kinds.length) 0) b AB (λk a i h j=>by
  have I:=aGS c.Levels.Users[i].User;have ha:a.length+(JR c.Levels.Users[i].User).length<=90000000:=aUb
  obtain⟨_,q,J⟩:=Y8 (b:=a) (k:=90000000) AB AB (s:=c.Levels.Users[i].User) 90000000 AB AB;unfold a5T
  rw[Ch h,q,Ac,CQ h,Ac,aG AB,Ac,JK];rfl) λk a j=>by unfold a5T;rw[DR,BH,aG AB,Ac]
 have Z:=RN (c.Levels.Kinds.length:Int);have L:(b++c.Levels.Users.flatMap UJ++enc c.Levels.Kinds.length).length<=60000000:=LV
 have h3:=agP c (b++c.Levels.Users.flatMap UJ++enc c.Levels.Kinds.length) L u;exact⟨⟨h1.trans h3.1.1,h2.trans h3.1.2⟩,EC h3.2 AB⟩
def aTs {c}(h:TY c<=1048576):qI c=some (XU c)/\oL c=some (XU c)/\(XU c).length<=90000000:=by
 unfold TY at h;obtain⟨j,q,h1⟩:=Y8 (b:=[]) (k:=0) (ER _) AB (s:=c.Text) 1048576 AB AB;obtain⟨u,z,h2⟩:=VN h1 AB c.N;obtain⟨I,J,h3⟩:=VN h2 AB c.Target;obtain⟨L,M,O⟩:=aMh h3 AB c.Thread;obtain⟨U,Y,Z⟩:=Y8 O AB (s:=c.Via) 1048576 AB AB;obtain⟨a6,b6,h6⟩:=aLT Z AB (l:=c.Allow) 1048576 AB AB;obtain⟨a7,b7,h7⟩:=aLT h6 AB (l:=c.iD) 1048576 AB AB;obtain⟨a8,b8,h8⟩:=VN h7 AB (c.Levels.Users.length:Int);obtain⟨⟨a9,b9⟩,h9⟩:=afy c _ (EC h8 AB) AB AB;refine⟨?_,?_,h9⟩
 ·unfold qI;rw[j,Ac,u,Ac,I,Ac,L,Ac,U,Ac,a6,Ac,a7,Ac,a8,Ac];exact a9
 unfold oL;rw[q,Ac,z,Ac,J,Ac,M,Ac,Y,Ac,b6,Ac,b7,Ac,b8,Ac];exact b9
theorem aIY {l}(h:∀s∈l,s.size<=2000)(k:l.length<=100):SV l<=200100:=by
 have key:∀l:AA BL,(∀s∈l,s.size<=2000)->(l.map λs=>s.size).sum<=2000*l.length:=by
  intro l
  induction l with
  |nil=>
   grind
  |cons s l j=>
   intro h;have h1:=h s (Gv ..);have h2:=j λs hs=>h s (I7 _ hs);rw[Gz,a1l,Gh];omega
 have :=key l h;unfold SV;omega
def Qd.atw {c}(h:Qd c):TY c<=1048576:=by
 have h1:=aIY h.allows h.allow;have h2:=aIY h.denies h.deny;have h3:=aIY (l:=c.Levels.Users.map (·.User)) (by simpa using h.names) (by rw[DY];exact h.users);have j:Wx c.Levels.Users=SV (c.Levels.Users.map (·.User)):=by unfold Wx SV;rw[fV,DY];rfl
 have :=h.kinds;have :=h.text;have :=h.via;unfold TY;omega
def agj {c}(j:Qd c):qI c=some (XU c)/\oL c=some (XU c)/\(XU c).length<=90000000:=aTs j.atw
def a9e (e:AQ):AA Int:=
 []++enc e.Id++JR e.Room++JR e.bU++enc e.Kind++[bif e.State then 1 else 0]++JR e.Key++enc e.Time++enc e.Depth++Ri e.bG++Ri e.bI++JR (Tz (XU e.Content))++enc e.Hash++JR e.sF.Server++enc e.sF.Sum
def aaD l:(Tz l).size=l.length:=by
 have key:∀(l:AA Int) (r:BL),(l.foldl (λr n=>r.push (UInt8.ofNat n.toNat)) r).size=r.size+l.length:=by
  intro l
  induction l with
  |nil=>intro r;rfl
  |cons x l j=>intro r;rw[Gf,j,ByteArray.size_push,Gh];omega
 unfold Tz;rw[key];simp
def a6D {body}(l:AA α)(hl:l.length<1000)f(u:∀k (i:Nat) (h:i<l.length) s,body k (i:Int) s=(f s l[i]).bind λx=>k (Au ((i:Int)+1)) x)(z:∀k s,body k (l.length:Int) s=some s)(s:S):aQ body Am 0 s=l.foldlM f s:=by
 have J:Am=9223372036854775808:=rfl
 have key:∀n (i:Nat) s,i+n=l.length->∀m,n<m->aQ body m (i:Int) s=(l.drop i).foldlM f s:=by
  intro n
  induction n with
  |zero=>
   intro i s hi m hm;obtain⟨m,rfl⟩:∃q,m=q+1:=⟨m-1,AB⟩
   have :i=l.length:=AB
   subst this;rw[PN];exact z _ _
  |succ n I=>
   intro i s hi m hm;obtain⟨m,rfl⟩:∃q,m=q+1:=⟨m-1,AB⟩
   have j:i<l.length:=AB
   rw[Nc j,VZ];show body (aQ body m) _ _=(f s l[i]).bind _;rw[u _ i j,wrap_succ i AB];congr 1;funext x;exact I (i+1) x AB m AB
 exact key l.length 0 s AB Am AB
def aSf w l(hl:l.length<1000):VU w l=l.foldlM nK w:=by
 unfold VU aSE;exact a6D l hl _ (λk i h s=>by simp only[aCk,dec_lt h,BZ,CQ h,Ac]) (λk s=>by simp only[aCk,DR,BH]) w
def aLK w l(hl:l.length<1000):X9 w l=l.foldlM lM w:=by
 unfold X9 aNm;exact a6D l hl _ (λk i h s=>by simp only[aCo,dec_lt h,BZ,CQ h,Ac]) (λk s=>by simp only[aCo,DR,BH]) w
def aYq w l(hl:l.length<1000):zT w l=l.foldlM uD w:=by
 unfold zT aR9;exact a6D l hl _ (λk i h s=>by simp only[aBz,dec_lt h,BZ,CQ h,Ac]) (λk s=>by simp only[aBz,DR,BH]) w
def ajn w l(hl:l.length<1000):zL w l=l.foldlM l9 w:=by
 unfold zL aUk;exact a6D l hl _ (λk i h s=>by simp only[aGJ,dec_lt h,BZ,CQ h,Ac]) (λk s=>by simp only[aGJ,DR,BH]) w
def aCb {n}(h:Oq b n=some c):nK ⟨b⟩ n=some ⟨c⟩:=by unfold nK;rw[h];rfl
def aCD (h:UM b n=some c):lM ⟨b⟩ n=some ⟨c⟩:=by unfold lM;rw[h];rfl
def ahX {n}(h:dM b n=some c):uD ⟨b⟩ n=some ⟨c⟩:=by unfold uD;rw[h];rfl
def aWm {n}(h:aA b n=some c):l9 ⟨b⟩ n=some ⟨c⟩:=by unfold l9;rw[h];rfl
def a8t {n}(h:Oq b n=some c):VU ⟨b⟩ [n]=some ⟨c⟩:=by
 rw[aSf _ _ BU,VZ,aCb h];rfl
def aXT {n}(h:Oq b n=some c)(k:Oq c m=some d):VU ⟨b⟩ [n,m]=some ⟨d⟩:=by
 rw[aSf _ _ BU,VZ,aCb h];show(nK ⟨c⟩ m).bind _=_;rw[aCb k];rfl
def aFY (h:UM b n=some c):X9 ⟨b⟩ [n]=some ⟨c⟩:=by
 rw[aLK _ _ BU,VZ,aCD h];rfl
def alk {m}(h:UM b n=some c)(k:UM c m=some d):X9 ⟨b⟩ [n,m]=some ⟨d⟩:=by
 rw[aLK _ _ BU,VZ,aCD h];show(lM ⟨c⟩ m).bind _=_;rw[aCD k];rfl
def ad8 {n}(h:dM b n=some c):zT ⟨b⟩ [n]=some ⟨c⟩:=by
 rw[aYq _ _ BU,VZ,ahX h];rfl
def anM {n m}(h:aA b n=some c)(k:aA c m=some d):zL ⟨b⟩ [n,m]=some ⟨d⟩:=by
 rw[ajn _ _ BU,VZ,aWm h];show(l9 ⟨c⟩ m).bind _=_;rw[aWm k];rfl
def abx (j:Et e):a0f e=some (a9e e)/\a1h e=some (a9e e)/\(a9e e).length<=200000000:=by
 obtain⟨ac,bc,hc⟩:=agj j.content;obtain⟨a1,b1,h1⟩:=VN (b:=[]) (k:=0) (ER _) AB e.Id;obtain⟨a2,b2,h2⟩:=Y8 h1 AB 2000 j.room AB;obtain⟨a3,b3,h3⟩:=Y8 h2 AB 2000 j.sender AB;obtain⟨a4,b4,h4⟩:=VN h3 AB e.Kind;obtain⟨a5,b5,h5⟩:=aMh h4 AB e.State;obtain⟨a6,b6,h6⟩:=Y8 h5 AB 2000 j.key AB;obtain⟨a7,b7,h7⟩:=VN h6 AB e.Time;obtain⟨a8,b8,h8⟩:=VN h7 AB e.Depth;obtain⟨a9,b9,h9⟩:=aLS h8 AB (EC j.prev AB);obtain⟨q,u,z⟩:=aLS h9 AB (EC j.auth AB);obtain⟨I,J,L⟩:=Y8 z AB (s:=Tz (XU e.Content)) 90000000 (by rw[aaD];exact hc) AB;obtain⟨M,O,U⟩:=VN L AB e.Hash;obtain⟨Y,Z,h13⟩:=Y8 U AB 2000 j.server AB;obtain⟨a14,b14,h14⟩:=VN h13 AB e.sF.Sum;refine⟨?_,?_,EC h14 AB⟩
 ·unfold a0f
  rw[show VU aHv [e.Id]=_ from a8t a1,Ac,alk a2 a3,Ac,a8t a4,Ac,ad8 a5,Ac,aFY a6,Ac,aXT a7 a8,Ac,anM a9 q,Ac,
   ac,Ac,aFY I,Ac,a8t M,Ac,aFY Y,Ac,a8t a14,Ac]
  rfl
 unfold a1h;rw[b1,Ac,b2,Ac,b3,Ac,b4,Ac,b5,Ac,b6,Ac,b7,Ac,b8,Ac,b9,Ac,u,Ac,bc,Ac,J,Ac,O,Ac,Z,Ac,b14,Ac];rfl
end
def a4P (l:AA Int):Int:=Au (l.foldl wV ((IntKind.u64.wrap 860922984064492325).tmod 4611686018427387904))
def aPC (hl:l.length<=1000000000):ug l=some (a4P l):=by
 unfold ug aGw;rw[Ac];unfold aFi aWb
 rw[a9b _ _ _ _ (.inl rfl),aOK,Iy l AB wV (λ_ _=>True) (λs=>some (Au s)) trivial (λk s i h _=>⟨trivial,by
  simp only[aBH,dec_lt h,BZ,CQ h,Ac,a9b _ _ _ _ (.inl rfl),a9b _ _ _ _ (.inr (.inr rfl)),adk]⟩) λk s _=>by
  simp only[aBH,DR,BH]]
 rfl
def aWz (hl:l.length<=1000000000):yY l=some (a4P l):=by
 unfold yY;rw[show aI9=some 860922984064492325 from rfl,Ac];unfold aBW aVC
 rw[show Xm (IntKind.u64.wrap 860922984064492325) 4611686018427387904=some ((IntKind.u64.wrap 860922984064492325).tmod 4611686018427387904)from rfl,Ac,Iy l AB wV (λ_ _=>True) (λs=>some (Au s)) trivial (λk s i h _=>⟨trivial,by
  have e:Xm (IntKind.u64.wrap ((FD .xor .u64 s (IntKind.u64.wrap l[i]))*1099511628211)) 4611686018427387904=some (wV s l[i]):=rfl
  simp only[aFP,dec_lt h,BZ,CQ h,Ac,e]⟩) λk s _=>by
  simp only[aFP,DR,BH]]
 rfl
def PE (k:Int)(c:D9):D9:=
 if k=1 then c else if k=2 then{ Ew with N:=c.N,Via:=c.Via }else if k=3 then{ Ew with Levels:=c.Levels }else if k=4 then{ Ew with N:=c.N,Allow:=c.Allow }else
 if k=5 then{ Ew with N:=c.N }else if k=6 then{ Ew with Allow:=c.Allow,iD:=c.iD }else if k=14 then{ Ew with Target:=c.Target }else Ew
def aR5 {R}(a b:Int)(x y:R):(cond (a==b) x y)=if a=b then x else y:=by
 by_cases h:a=b
 ·subst h;simp
 have :(a==b)=false:=Oa
 rw[this,Ee h];rfl
def aRh {R}p[Decidable p](x y:R):(if p then some x else some y)=some (if p then x else y):=by split<;>rfl
def aFN k c:yM k c=some (PE k c):=by
 unfold yM PE;simp only[aR5,aRh]
def vZ {l}(h:l.length<=1048576):Tf l=some l:=by
 unfold Tf;rw[Ox AB aB3];rfl
def aQb {l}(h1:l.Users.length<=1048576)(h2:l.Kinds.length<=1048576):eB l=some l:=by
 unfold eB;rw[Ox AB aB3,Ac,Ox AB (by rw[Ir];exact EC h2 AB)];rfl
def a2D (k:Int):Int:=if k=2 then 18 else if k=3 then 128 else if k=4 then 34 else if k=5 then 2 else if k=6 then 96 else if k=14 then 4 else 0
def aZ9 k:pV k=some (a2D k):=by
 by_cases h2:k=2
 ·subst h2;rfl
 by_cases h3:k=3
 ·subst h3;rfl
 by_cases q:k=4
 ·subst q;rfl
 by_cases u:k=5
 ·subst u;rfl
 by_cases j:k=6
 ·subst j;rfl
 unfold pV qB a2D;simp only[aR5,h2,h3,q,u,j,Lc,show(k==6)=false from by simpa using j,BH,aRh]
variable {c:D9}
def aTE k(h:TY c<=1048576):pG k c=some (PE k c):=by
 unfold TY SV Wx at h;have q:c.Allow.length<=1048576:=AB
 have J:c.iD.length<=1048576:=AB
 have L:c.Levels.Users.length<=1048576:=AB
 have M:c.Levels.Kinds.length<=1048576:=AB
 by_cases h1:k=1
 ·subst h1;show(Tf c.Allow).bind (λO=>(Tf c.iD).bind λU=>(eB c.Levels).bind λY=>some ({ { { c with Allow:=O }with iD:=U }with Levels:=Y }))=_;rw[vZ q,Ac,vZ J,Ac,aQb L M];rfl
 unfold pG;rw[show(k==1)=false from by simpa using h1,BH,aZ9,Ac];by_cases h2:k=2
 ·subst h2;rfl
 by_cases h3:k=3
 ·subst h3;show(eB c.Levels).bind (λx=>some { Ew with Levels:=x })=_;rw[aQb L M];rfl
 by_cases u:k=4
 ·subst u;show(Tf c.Allow).bind (λx=>some { Ew with N:=c.N,Allow:=x })=_;rw[vZ q];rfl
 by_cases z:k=5
 ·subst z;rfl
 by_cases I:k=6
 ·subst I;show(Tf c.Allow).bind (λx=>(Tf c.iD).bind λy=>some { Ew with Allow:=x,iD:=y })=_;rw[vZ q,Ac,vZ J];rfl
 by_cases j:k=14
 ·subst j;rfl
 have Z:a2D k=0:=by unfold a2D;simp only[h2,h3,u,z,I,j,Lc]
 have e2:PE k c=Ew:=by unfold PE;simp only[h1,h2,h3,u,z,I,j,Lc]
 rw[Z,e2];rfl
def aOz k(j:Qd c):pG k c=some (PE k c):=aTE k j.atw
def Qd.strip (h:Qd c)k:Qd (PE k c):=by
 have j:(0:Nat)<=2000:=AB
 unfold PE
 repeat' split
 all_goals first|exact h|exact⟨by simp[Ew,L8,h.allow],by simp[Ew,L8,h.deny],by simp[Ew,L8,h.users],by simp[Ew,L8,h.kinds],by first|exact h.text|exact j,by first|exact h.via|exact j,by first|exact h.allows|simp[Ew],by first|exact h.denies|simp[Ew],by first|exact h.names|simp[Ew,L8]⟩
def Ro (e:AQ):AQ:={ e with Content:=PE e.Kind e.Content }
def WI (e:AQ):Prop:=Et { e with sF:=jF }
def WI.content {e}(h:WI e):Qd e.Content:=Et.content (e:={ e with sF:=jF }) h
def Et.x (h:Et e):WI e:=⟨h.prev,h.auth,h.allow,h.deny,h.users,h.kinds,h.room,h.sender,h.key,h.text,h.via,FQ _,h.allows,h.denies,h.names⟩
def aiu (j:WI e):eI e=some (Ro e)/\Y5 e=some (Ro e):=by
 unfold eI Y5;rw[aOz _ j.content,aFN];exact⟨rfl,rfl⟩
def Xn (e:AQ):Int:=a4P (XU e.Content)
def a7w (e:AQ):AQ:={ { Ro e with Id:=0 }with sF:=jF }
def aUB (e:AQ):Int:=a4P (a9e (a7w e))
def WI.bare (h:WI e):Et (a7w e):=by
 have j:=h.content.strip e.Kind;exact⟨h.prev,h.auth,j.allow,j.deny,j.users,j.kinds,h.room,h.sender,h.key,j.text,j.via,by show(0:Nat)<=2000;omega,j.allows,j.denies,j.names⟩
def amR (h:TY e.Content<=1048576):wL e=some (Xn e)/\a8S e=some (Xn e):=by
 obtain⟨a,b,hl⟩:=aTs h;unfold wL a8S;rw[a,b,Ac,Ac,aPC AB,aWz AB];exact⟨rfl,rfl⟩
def a7l (h:TY e.Content<=1048576):Td e=some (Xn e==e.Hash)/\Rz e=some (Xn e==e.Hash):=by
 obtain⟨a,b⟩:=amR h;unfold Td Rz;rw[a,b];exact⟨rfl,rfl⟩
def aQD (j:WI e):a0Y e=some (aUB e)/\a7e e=some (aUB e):=by
 obtain⟨a,b⟩:=aiu j;obtain⟨c,d,h⟩:=abx j.bare;unfold a0Y a7e;rw[a,b,Ac,Ac];show(a0f (a7w e)).bind _=_/\(a1h (a7w e)).bind _=_;rw[c,d,Ac,Ac,aPC AB,aWz AB];exact⟨rfl,rfl⟩
def SG (s:BL):Int:=bif IU s 64 then 0 else 3
def TA (s:BL):Int:=bif IU s 33 then 0 else 3
def aP (hs:s.size<=9223372036854775807):iL s=some (SG s)/\Yi s=some (SG s):=by
 unfold iL uM Yi SG;rw[aC1 hs (marks:=a3e) (by rw[show DI a3e=[64]from rfl];intro m hm;simp only[FP,H9,or_false]at hm;omega),a8d hs Bl,show((DI a3e).any λm=>IU s m)=(IU s 64||false)from rfl];cases IU s 64<;>exact⟨rfl,rfl⟩
def jR (hs:s.size<=9223372036854775807):gJ s=some (TA s)/\kE s=some (TA s):=by
 unfold gJ uM kE TA;rw[aC1 hs (marks:=a3a) (by rw[show DI a3a=[33]from rfl];intro m hm;simp only[FP,H9,or_false]at hm;omega),a8d hs Bl,show((DI a3a).any λm=>IU s m)=(IU s 33||false)from rfl];cases IU s 33<;>exact⟨rfl,rfl⟩
def agD (h:Xx l=true):(58:Int)∉l:=by
 intro hm;unfold Xx TB at h;simp only[Di,FW]at h;have :=h.2 58 hm;exact absurd this Bl
theorem ae6 s(hs:s.size<=2000):(splitB s (N8 s)).1.size<=2000/\(58:Int)∉DI (splitB s (N8 s)).1/\(splitB s (N8 s)).2.1.size<=2000:=by
 have q:CX.size<=2000:=Bl
 cases h:N8 s with
 |false=>
  exact⟨q,by show(58:Int)∉DI CX;decide,q⟩
 |true=>
  have j:Xh s=true:=by
   unfold N8 IU at h
   grind
  refine⟨EC (extract_size _ _ _) hs,agD ?_,EC (extract_size _ _ _) hs⟩;unfold Xh at j;simp only[Di]at j;exact j.1.2
def any_false (l:AA α):(l.any λ_=>false)=false:=BU
def aCR {body}(l:AA α)(hl:l.length<=1000)(rest:AL AY)(j:∀k (i:Nat) (h:i<l.length),body k (i:Int)=k (Au ((i:Int)+1)))(q:∀k,body k (l.length:Int)=rest):bn body Am 0=rest:=by
 rw[H7 l (aDY AB) (λ_=>false) false rest (λk i h=>by rw[j k i h];rfl) q,any_false];rfl
def aeF {l}(h:l.length<=1000):Uz l l=some true:=by
 unfold Uz a7h;rw[show((l.length:Int) != (l.length:Int))=false from by simp,BH];exact aCR l h _ (λk i h=>aQG) (λk=>aEu)
structure KZ (c:D9):Prop where
 allow:c.Allow.length<=9223372036854775807
 deny:c.iD.length<=9223372036854775807
 users:c.Levels.Users.length<=9223372036854775807
 kinds:c.Levels.Kinds.length<=9223372036854775807
 text:c.Text.size<=9223372036854775807
 via:c.Via.size<=9223372036854775807
 allows:∀x∈c.Allow,x.size<=9223372036854775807
 denies:∀x∈c.iD,x.size<=9223372036854775807
 names:∀x∈c.Levels.Users,x.User.size<=9223372036854775807
structure LU (e:AQ):Prop where
 prev:e.bG.length<=9223372036854775807
 auth:e.bI.length<=9223372036854775807
 room:e.Room.size<=9223372036854775807
 sender:e.bU.size<=9223372036854775807
 key:e.Key.size<=9223372036854775807
 server:e.sF.Server.size<=9223372036854775807
 content:KZ e.Content
def Qd.wide (h:Qd c):KZ c:=by
 obtain⟨I,J,L,M,O,U,q,u,z⟩:=h;exact⟨AB,AB,AB,AB,AB,AB,λx j=>by have :=q x j;omega,λx j=>by have :=u x j;omega,λx j=>by have :=z x j;omega⟩
def Et.wide {e}(h:Et e):LU e:=by
 have h1:=h.prev;have h2:=h.auth;have h3:=h.room;have j:=h.sender;have q:=h.key;have u:=h.server;exact⟨AB,AB,AB,AB,AB,AB,h.content.wide⟩
theorem a5d k:a19 k=some (decide (k>=1)&&(k<=14))/\nP k=some (decide (k>=1)&&(k<=14)):=by
 unfold a19 nP
 grind
def U7 (n:Int):AY:=decide (n< -1000)||(n>1000)
theorem a2K n:oG n=some (U7 n)/\UN n=some (U7 n):=by
 unfold oG UN U7
 grind
def SH (c:Int):AY:=decide (c<33)||(c>126)
theorem a9p (s:BL):(s.toList==CX.toList)=((s.size:Int)==0):=by
 rw[JM];by_cases h:s=CX
 ·subst h;rfl
 have :¬s.size=0:=λj=>h (bytes_inj (by
  have h1:DI s=[]:=Hu (by rw[JH];exact j)
  rw[h1];rfl))
 grind
def a5C (s:BL):Int:=if s.size=0 then 9 else if s.size>64 then 7 else bif (DI s).any SH then 3 else 0
theorem aG4 (hs:s.size<=9223372036854775807):a0r s=some (a5C s)/\qx s=some (a5C s):=by
 have j:aGM s 0=some (cond ((DI s).any SH) 3 0):=by
  unfold aGM;rw[H7 (DI s) dA SH 3 (some 0) (λk i h=>?_) (λk=>?_),Mc]
  ·have h':i<s.size:=Xr
   simp only[aFD,dec_lt h',BZ,WO h,Ac,SH]
   grind
  simp only[aFD,JH,DR,BH]
 have q:aDU s 0=some (cond ((DI s).any SH) 3 0):=by
  unfold aDU;rw[H7 (DI s) dA SH 3 (some 0) (λk i h=>?_) (λk=>?_),Mc]
  ·have h':i<s.size:=Xr
   simp only[aJk,dec_lt h',BZ,WO h,Ac,SH]
   grind
  simp only[aJk,JH,DR,BH]
 unfold a0r qx a5C;rw[a9p,j,q]
 grind
def a1P (s:BL):AY:=decide ((s.size:Int)>=1)&&((s.size:Int)<=32)&& !(DI s).any SH
theorem agb (hs:s.size<=9223372036854775807):a2G s=some (a1P s):=by
 unfold a2G aMR;rw[H7 (DI s) dA SH false (some (decide ((s.size:Int)>=1)&&((s.size:Int)<=32))) (λk i h=>?_) (λk=>?_)]
 ·unfold a1P
  grind
 ·have h':i<s.size:=Xr
  simp only[aFH,dec_lt h',BZ,WO h,Ac,SH]
  grind
 simp only[aFH,JH,DR,BH]
 grind
def Wq (k:Int)(s:BL):AY:=if k=2 then SG s==0 else if k=9 then a1P s else true
theorem aW0 {k}(hs:s.size<=9223372036854775807):a1s k s=some (Wq k s):=by
 have q:aFU s 0=some (cond ((DI s).any SH) false true):=by
  unfold aFU;rw[H7 (DI s) dA SH false (some true) (λk i h=>?_) (λk=>?_),Mc]
  ·have h':i<s.size:=Xr
   simp only[aFg,dec_lt h',BZ,WO h,Ac,SH]
   grind
  simp only[aFg,JH,DR,BH]
 unfold a1s Wq;rw[(aP hs).2,q];by_cases h2:k=2
 ·subst h2;rfl
 rw[show(k==2)=false from by simpa using h2,Ee h2,BH];by_cases j:k=9
 ·subst j;unfold a1P
  grind
 rw[show(k != 9)=true from by simpa using j,Ee j];rfl
def ae8 (j:LU e):aAX e=some (TA e.Room==0&&SG e.bU==0&&Wq e.Kind e.Key):=by
 have h1:=j.room;have h2:=j.sender;have h3:=j.key;unfold aAX Wq;rw[(jR AB).1,(aP (s:=e.bU) AB).1,(aP (s:=e.Key) AB).1,agb AB];simp only[Ac,bne];cases TA e.Room==0 with
 |false=>rfl
 |true=>
  cases SG e.bU==0 with
  |false=>rfl
  |true=>
   by_cases k2:e.Kind=2
   ·rw[k2];rfl
   by_cases q:e.Kind=9
   ·rw[q];rfl
   rw[show(e.Kind==2)=false from by simpa using k2,show(e.Kind==9)=false from by simpa using q,Ee k2,Ee q];rfl
def EI {R}(x y:AL R):Prop:=∃r,x=some r/\y=some r
section
variable {A R:Type}
def EI.ret (r:R):EI (some r) (some r):=⟨r,rfl,rfl⟩
def EI.bind {a b}{f g:A->AL R}(h:EI a b)(k:∀x,EI (f x) (g x)):EI (a.bind f) (b.bind g):=by
 obtain⟨x,rfl,rfl⟩:=h;exact k x
theorem EI.bif {c}{x y j q:AL R}(h1:c=true->EI x j)(h2:c=false->EI y q):EI (cond c x y) (cond c j q):=by
 grind
def Ij:=@EI.bif
def EI.loop {f g:(Int->AL R)->Int->AL R}n(u:n<=9223372036854775807)(hs:∀k k' (i:Nat),i<n->EI (k ((i+1:Nat):Int)) (k' ((i+1:Nat):Int))->EI (f k (i:Int)) (g k' (i:Int)))(j:∀k k',EI (f k (n:Int)) (g k' (n:Int))):EI (bn f Am 0) (bn g Am 0):=by
 have z:Am=9223372036854775808:=rfl
 have key:∀m (i:Nat),i+m=n->∀a,m<a->EI (bn f a (i:Int)) (bn g a (i:Int)):=by
  intro m
  induction m with
  |zero=>
   intro i hi a ha;obtain⟨a,rfl⟩:∃a',a=a'+1:=⟨a-1,AB⟩
   have :i=n:=AB
   subst this;exact j _ _
  |succ m q=>
   intro i hi a ha;obtain⟨a,rfl⟩:∃a',a=a'+1:=⟨a-1,AB⟩
   exact hs _ _ i AB (q (i+1) AB a AB)
 exact key n 0 AB Am AB
end
def zM (h:i<=9223372036854775806):Au ((i:Int)+1)=((i+1:Nat):Int):=wrap_succ i AB
def zV {l:AA α}(h:i<l.length)(hl:l.length<=9223372036854775807)(j:decide ((i:Int)>0)=true):Ak l (Au ((i:Int)-1))=some (l[i-1]' AB):=by
 have j:0<i:=Vj
 rw[Nr AB AB,show(i:Int)-1=((i-1:Nat):Int) by omega];exact CQ AB
def aQS (hl:l.length<=9223372036854775807):EI (Rep l) (jm l):=by
 unfold Rep aR3 jm aDb;refine EI.loop l.length hl (λk k' i h j=>?_) (λk k'=>?_)
 ·simp only[aE3,a4Q,gG,dec_lt h,BZ,CQ h,Ac,zM (show i<=9223372036854775806 by omega)];cases decide (l[i]<0)with
  |true=>exact .ret _
  |false=>
   simp only[BH];cases q:decide ((i:Int)>0)with
   |true=>
    simp only[BZ,zV h hl q,Ac,ge_iff_le];cases decide (l[i]<=l[i-1])with
    |true=>exact .ret _
    |false=>exact j
   |false=>exact j
 simp only[aE3,a4Q,DR,BH];exact .ret _
variable {l:AA BL}
def aPs (hl:l.length<=9223372036854775807)(hs:∀s∈l,s.size<=9223372036854775807):EI (Ya l) (UR l):=by
 unfold Ya UR;refine Ij (λ_=>.ret _) λ_=>?_;unfold aOY aGH;refine EI.loop l.length hl (λk k' i h j=>?_) (λk k'=>?_)
 ·obtain⟨q,u⟩:=aG4 (s:=l[i]) (by have :=hs _ (EU h);omega);simp only[aBn,zi,dec_lt h,BZ,CQ h,Ac,q,u,zM (show i<=9223372036854775806 by omega)];exact Ij (λ_=>.ret _) λ_=>j
 simp only[aBn,zi,DR,BH];exact .ret _
def alg (j:KZ c):EI (YN 4 c) (jl c):=by
 have hl:=j.allow;unfold YN jl;rw[show((4:Int)==6)=false from rfl,BH];refine EI.bind (Ij (λ_=>.ret _) λ_=>.ret _) λx=>Ij (λ_=>.ret _) λ_=>Ij (λ_=>.ret _) λ_=>?_;unfold aWx aL9;refine EI.loop c.Allow.length AB (λk k' i h q=>?_) (λk k'=>?_)
 ·obtain⟨u,z⟩:=jR (s:=c.Allow[i]) (by have :=j.allows _ (EU h);omega);simp only[aHr,a7Q,yO,dec_lt h,BZ,CQ h,Ac,u,z,zM (show i<=9223372036854775806 by omega)];refine Ij (λ_=>.ret _) λ_=>?_;cases I:decide ((i:Int)>0)with
  |true=>
   simp only[BZ,zV h (show c.Allow.length<=9223372036854775807 by omega) I,Ac];exact Ij (λ_=>.ret _) λ_=>q
  |false=>exact q
 simp only[aHr,a7Q,DR,BH];exact .ret _
def ahC {l}(hl:l.length<=9223372036854775807)(hs:∀u∈l,u.User.size<=9223372036854775807):EI (aAi l) (Yn l):=by
 unfold aAi Yn;refine Ij (λ_=>.ret _) λ_=>?_;unfold aMU aGz;refine EI.loop l.length hl (λk k' i h j=>?_) (λk k'=>?_)
 ·obtain⟨q,z⟩:=aP (s:=l[i].User) (by have :=hs _ (EU h);omega);obtain⟨I,J⟩:=a2K l[i].N;simp only[aBp,wJ,a2Y,rZ,dec_lt h,BZ,CQ h,Ac,q,z,I,J,zM (show i<=9223372036854775806 by omega)];refine Ij (λ_=>.ret _) λ_=>?_;cases L:decide ((i:Int)>0)with
  |true=>
   simp only[BZ,zV h hl L,Ac];exact Ij (λ_=>.ret _) λ_=>Ij (λ_=>.ret _) λ_=>j
  |false=>
   simp only[BH];exact Ij (λ_=>.ret _) λ_=>j
 simp only[aBp,wJ,DR,BH];exact .ret _
def aaS {l}(hl:l.length<=9223372036854775807):EI (a8j l) (dD l):=by
 unfold a8j dD;refine Ij (λ_=>.ret _) λ_=>?_;unfold aR6 aCA;refine EI.loop l.length hl (λk k' i h j=>?_) (λk k'=>?_)
 ·obtain⟨q,u⟩:=a5d l[i].Kind;obtain⟨z,I⟩:=a2K l[i].N;simp only[aBv,a5g,a4C,a3I,dec_lt h,BZ,CQ h,Ac,q,u,z,I,zM (show i<=9223372036854775806 by omega)];refine Ij (λ_=>.ret _) λ_=>?_;cases J:decide ((i:Int)>0)with
  |true=>
   simp only[BZ,zV h hl J,Ac];exact Ij (λ_=>.ret _) λ_=>Ij (λ_=>.ret _) λ_=>j
  |false=>
   simp only[BH];exact Ij (λ_=>.ret _) λ_=>j
 simp only[aBv,a5g,DR,BH];exact .ret _
def aaf {l}(h1:l.Users.length<=9223372036854775807)(h2:l.Kinds.length<=9223372036854775807)(h3:∀u∈l.Users,u.User.size<=9223372036854775807):EI (dw l) (Yg l):=by
 have j:aKm l 0=some (cond ((L9 l).any U7) 2 0):=by
  unfold aKm;rw[H7 (L9 l) (by have :Am=9223372036854775808:=rfl;simp[L9,this]) U7 2 (some 0) (λk i h=>?_) (λk=>rfl),Mc];have z:i<7:=h;have q:Ak ([l.User,l.Message,l.State,l.gY,l.lg,l.oV,l.iq]:AA Int) (i:Int)=some ((L9 l)[i]'(h)):=CQ h;simp only[aOM,show decide ((i:Int)<7)=true from by simp;omega,BZ,q,Ac,(a2K _).1]
 unfold dw Yg;refine EI.bind (ahC AB h3) λx=>Ij (λ_=>.ret _) λ_=>EI.bind (aaS AB) λy=>Ij (λ_=>.ret _) λ_=>?_;rw[j];simp only[(a2K _).2,Ac,L9,List.any_cons,List.any_nil];cases U7 l.User<;>cases U7 l.Message<;>cases U7 l.State<;>cases U7 l.gY<;>cases U7 l.lg<;>cases U7 l.oV<;>cases U7 l.iq<;>exact .ret _
def Uy {l:AA α}(h:((l.length:Int)==0)=true):l=[]:=Hu aG9
def P5 (l:Ci):AY:=((l.Users.length:Int)==0)&&((l.Kinds.length:Int)==0)&&(l.User==0)&&(l.Message==0)&&(l.State==0)&&(l.gY==0)&&(l.lg==0)&&(l.oV==0)&&(l.iq==0)
theorem bare_eq l:a4v l=some (P5 l):=by
 unfold a4v P5
 grind
def aRY l:XP l L8=some (P5 l):=by
 unfold XP P5;show(cond ((l.Users.length:Int) != 0) (some true) (some ((l.Kinds.length:Int) != 0))).bind _=_;simp only[bne];cases u:((l.Users.length:Int)==0)with
 |false=>rfl
 |true=>
  cases z:((l.Kinds.length:Int)==0)with
  |false=>rfl
  |true=>
   have j:=Uy u;have q:=Uy z
   have h3:bT l L8 0=some ((l.User==0)&&(l.Message==0)&&(l.State==0)&&(l.gY==0)&&(l.lg==0)&&(l.oV==0)&&(l.iq==0)):=by
    unfold bT;refine aCR l.Kinds (by rw[q];simp) _ (λk i h=>by rw[q]at h;simp at h) (λk=>?_);simp only[nH,DR,BH,Mc,Ac,U3];rfl
   have h1:a0S l L8 0=some ((l.User==0)&&(l.Message==0)&&(l.State==0)&&(l.gY==0)&&(l.lg==0)&&(l.oV==0)&&(l.iq==0)):=by
    unfold a0S;refine aCR l.Users (by rw[j];simp) _ (λk i h=>by rw[j]at h;simp at h) (λk=>?_);simp only[mG,DR,BH];exact h3
   simp only[Eu,BH,Ac,h1,GZ]
def ads l:a4i l=some (P5 l):=by
 unfold a4i;rw[aRY];rfl
def aec l:Uz l []=some ((l.length:Int)==0):=by
 cases h:((l.length:Int)==0)with
 |true=>rw[Uy h];exact aeF (l:=[]) BU
 |false=>
  unfold Uz;show(cond ((l.length:Int) != 0) (some false) _)=_;simp only[bne,h,JZ,BZ]
def lZ (a0 j q u z I J L:AY):AY:=a0&&j&&q&&u&&z&&I&&J&&L
theorem aSi c:VJ c Ew=some (lZ (c.Text.toList==CX.toList) (c.N==0) (c.Target==0) (!c.Thread) (c.Via.toList==CX.toList) ((c.Allow.length:Int)==0) ((c.iD.length:Int)==0) (P5 c.Levels)):=by
 unfold VJ lZ;show(cond (c.Text.toList==CX.toList) (some (c.N==0)) (some false)).bind _=_;simp only[show Ew.Allow=[]from rfl,show Ew.iD=[]from rfl,show Ew.Levels=L8 from rfl,show Ew.Target=0 from rfl,show Ew.Thread=false from rfl,show Ew.Via=CX from rfl,aec,aRY,Mc,Ac,U3];congr 1
 grind
def a2h (a0 j q u z I J L:AY):Int:=
 let v:=bif !a0 then FD .or .i64 0 1 else 0
 let v:=bif !j then FD .or .i64 v 2 else v
 let v:=bif !q then FD .or .i64 v 4 else v
 let v:=bif !u then FD .or .i64 v 8 else v
 let v:=bif !z then FD .or .i64 v 16 else v
 let v:=bif !I then FD .or .i64 v 32 else v
 let v:=bif !J then FD .or .i64 v 64 else v
 bif !L then FD .or .i64 v 128 else v
theorem pos_eq (l:AA α):decide ((l.length:Int)>0)= !((l.length:Int)==0):=by
 grind
def aa9 c:a0X c=some (a2h (c.Text.toList==CX.toList) (c.N==0) (c.Target==0) (!c.Thread) (c.Via.toList==CX.toList) ((c.Allow.length:Int)==0) ((c.iD.length:Int)==0) (P5 c.Levels)):=by
 unfold a0X aAx a4G aAk a7N a8A a4x a4y a9h a2h;rw[bare_eq,pos_eq,pos_eq];simp only[Ac,bne,a0Z];generalize(c.Text.toList==CX.toList)=j;generalize(c.N==0)=q;generalize(c.Target==0)=u;generalize c.Thread=z;generalize(c.Via.toList==CX.toList)=I;generalize((c.Allow.length:Int)==0)=J;generalize((c.iD.length:Int)==0)=L;generalize P5 c.Levels=M;cases j<;>cases q<;>cases u<;>cases z<;>cases I<;>cases J<;>cases L<;>cases M<;>rfl
def afS :∀a0 j q u z I J L:AY,(a2h a0 j q u z I J L==0)=lZ a0 j q u z I J L:=OY
def NU (j q u z I J L M a0 O U Y Z a5 a6 a7:AY):AY:=(a0||j)&&(O||q)&&(U||u)&&(Y||z)&&(Z||I)&&(a5||J)&&(a6||L)&&(a7||M)
variable {I J L q u z:AY}{K:Int}
def aT6 {M}(O:Cj K Js=some j)(h1:Cj K KW=some q)(h2:Cj K Ko=some u)(h3:Cj K Np=some z)(U:Cj K Nq=some I)(Y:Cj K MV=some J)(Z:Cj K Nw=some L)(h7:Cj K O7=some M):iR K c=some (NU j q u z I J L M (c.Text.toList==CX.toList) (c.N==0) (c.Target==0) (!c.Thread) (c.Via.toList==CX.toList) ((c.Allow.length:Int)==0) ((c.iD.length:Int)==0) (P5 c.Levels)):=by
 unfold iR NU;simp only[O,h1,h2,h3,U,Y,Z,h7,ads,Mc,Ac,tJ,U3]
def IL (x r:AL Int):AL Int:=x.bind λv=>bif v != 0 then some v else r
variable {r:AL Int}
def F7 {x}(h:x=some 0):IL x r=r:=by rw[h];rfl
def OV {x y s}(h:EI x y)(k:EI r s):EI (IL x r) (IL y s):=EI.bind h λ_=>Ij (λ_=>.ret _) λ_=>k
def a6i x:IL x (some 0)=x:=by
 cases x with
 |none=>rfl
 |some v=>
  show(cond (v != 0) (some v) (some 0))=some v;by_cases h:v=0
  ·subst h;rfl
  rw[show(v != 0)=true from by simpa using h];rfl
def aGi (x:AL A):(x.bind λv=>some v)=x:=by cases x<;>rfl
def P8 (K:Int)(c:D9):AL Int:=IL (Zz K c) (IL (Om K c.N) (IL (Xo K c) (IL (Zf c) (cond (K==4) (jl c) (IL (UR c.Allow) (IL (UR c.iD) (Yg c.Levels)))))))
theorem frame {M kp}{br}{O U}(hU:su K=some M)(hk:(decide (K>=1)&&(K<=14))=true)(Y:pV K=some kp)(hb:a6g K=some br)(h0:Cj K Js=some q)(h1:Cj K KW=some u)(h2:Cj K Ko=some z)(h3:Cj K Np=some I)(h4:Cj K Nq=some J)(h5:Cj K MV=some L)(h6:Cj K Nw=some O)(h7:Cj K O7=some U)(hM:∀a0 a1 a2 a3 a4 a5 a6 a7:AY,(FD .andNot .i64 (a2h a0 a1 a2 a3 a4 a5 a6 a7) M != 0)= !NU q u z I J L O U a0 a1 a2 a3 a4 a5 a6 a7)(hbr:(br=true->kp=0))(hA:kp=0->br=false->Ns M K 0 c=some 0)(j:NU q u z I J L O U (c.Text.toList==CX.toList) (c.N==0) (c.Target==0) (!c.Thread) (c.Via.toList==CX.toList) ((c.Allow.length:Int)==0) ((c.iD.length:Int)==0) (P5 c.Levels)=true->EI (Ns M K 0 c) (P8 K c)):EI (NV K c) (KU K c):=by
 have ht:KU K c=(nP K).bind λx1=>(cond (!x1) (some true) ((iR K c).bind λx4=>some (!x4))).bind λx2=>(cond x2 (some 1) ((a6g K).bind λx6=>(cond x6 ((VJ c Ew).bind λx9=>some x9) (some false)).bind λx7=>(cond x7 (some 0) (P8 K c)))):=by
  unfold KU P8 IL;simp only[aGi]
 rw[ht];unfold NV;obtain⟨Z,k2⟩:=a5d K;rw[hk]at Z k2;rw[hU,Z,k2,aa9,Y,hb,aT6 h0 h1 h2 h3 h4 h5 h6 h7,aSi];simp only[Ac,Eu,BH,hM,afS];cases ho:NU q u z I J L O U (c.Text.toList==CX.toList) (c.N==0) (c.Target==0) (!c.Thread) (c.Via.toList==CX.toList) ((c.Allow.length:Int)==0) ((c.iD.length:Int)==0) (P5 c.Levels)with
 |false=>
  exact .ret _
 |true=>
  simp only[Eu,BH];have j:=j ho;cases ha:lZ (c.Text.toList==CX.toList) (c.N==0) (c.Target==0) (!c.Thread) (c.Via.toList==CX.toList) ((c.Allow.length:Int)==0) ((c.iD.length:Int)==0) (P5 c.Levels)with
  |false=>
   simp only[BH,Ac];cases br<;>exact j
  |true=>
   simp only[BZ,Ac];cases hz:kp==0 with
   |false=>
    cases br with
    |false=>
     exact j
    |true=>
     grind
   |true=>
    cases br with
    |true=>
     exact .ret _
    |false=>
     have e:=hA (eq_of_beq hz) rfl;rw[e]at j;exact j
def U8 (M b:Int)(x r:AL Int):AL Int:=bif FD .and .i64 M b==0 then r else IL x r
def jc {B R}(body:(S->B->AL R)->S->B->AL R)n a b:aQ body (n+1) a b=body (aQ body n) a b:=rfl
def af7 M K c:Ns M K 0 c=U8 M 1 (Sr K c) (U8 M 2 (Q7 K c) (U8 M 4 (TW K c) (U8 M 8 (gZ K c) (U8 M 16 (er K c) (U8 M 32 (YN K c)
 (cond (FD .and .i64 M 64 != 0) (Ya c.iD) (cond (FD .and .i64 M 128 != 0) (dw c.Levels) (some 0)))))))):=by
 have j:Am=9223372036854775801+1+1+1+1+1+1+1:=rfl;have q:∀k,cO M K k 0 c=U8 M 1 (Sr K c) (k 1 c):=λk=>rfl;have u:∀k,cO M K k 1 c=U8 M 2 (Q7 K c) (k 2 c):=λk=>rfl;have z:∀k,cO M K k 2 c=U8 M 4 (TW K c) (k 3 c):=λk=>rfl;have I:∀k,cO M K k 3 c=U8 M 8 (gZ K c) (k 4 c):=λk=>rfl;have J:∀k,cO M K k 4 c=U8 M 16 (er K c) (k 5 c):=λk=>rfl;have L:∀k,cO M K k 5 c=U8 M 32 (YN K c) (k 6 c):=λk=>rfl;have O:∀k,cO M K k 6 c=(cond (FD .and .i64 M 64 != 0) ((Ya c.iD).bind λx=>some x) (cond (FD .and .i64 M 128 != 0) ((dw c.Levels).bind λx=>some x) (some 0))):=λk=>rfl;unfold Ns;rw[j,jc,q,jc,u,jc,z,jc,I,jc,J,jc,L,jc,O,aGi,aGi]
theorem text0 (h:(c.Text.toList==CX.toList)=true)(j:K≠12):Zz K c=some 0:=by
 have q:(c.Text.size:Int)=0:=by rw[a9p]at h;exact eq_of_beq h
 unfold Zz
 grind
theorem Vs (h:Cj K Ko=some false)(h3:(!c.Thread)=true):Xo K c=some 0:=by
 unfold Xo
 grind
def Sj (h:(c.Via.toList==CX.toList)=true):Zf c=some 0:=by unfold Zf;rw[h];rfl
def L6 (h:((l.length:Int)==0)=true):UR l=some 0:=by
 rw[Uy h];unfold UR aGH;show bn (zi []) Am 0=some 0;rw[H7 ([]:AA BL) Bl (λ_=>false) 0 (some 0) (λk i h=>JD) (λk=>rfl)];rfl
def Tc {l}(h:P5 l=true):Yg l=some 0:=by
 unfold P5 at h;simp only[Di]at h;obtain⟨⟨⟨⟨⟨⟨⟨⟨h1,h2⟩,h3⟩,j⟩,q⟩,u⟩,z⟩,I⟩,J⟩:=h
 have L:Yn []=some 0:=by
  unfold Yn aGz;show bn (wJ []) Am 0=some 0;rw[H7 ([]:AA BL) Bl (λ_=>false) 0 (some 0) (λk i h=>JD) (λk=>rfl)];rfl
 have M:dD []=some 0:=by
  unfold dD aCA;show bn (a5g []) Am 0=some 0;rw[H7 ([]:AA BL) Bl (λ_=>false) 0 (some 0) (λk i h=>JD) (λk=>rfl)];rfl
 unfold Yg;rw[Uy h1,Uy h2,L,M,eq_of_beq h3,eq_of_beq j,eq_of_beq q,eq_of_beq u,eq_of_beq z,eq_of_beq I,eq_of_beq J];rfl
def eu (q:KZ c):EI (Sr K c) (Zz K c):=by
 have h1:=q.text;obtain⟨u,z⟩:=aG4 (s:=c.Text) AB;unfold Sr a4N Zz;rw[u,z];have e:=a9p c.Text;by_cases j:K=9
 ·subst j;cases h:(c.Text.toList==CX.toList)with
  |false=>exact .ret _
  |true=>
   have I:(c.Text.size:Int)=0:=by rw[e]at h;exact eq_of_beq h
   rw[I];exact .ret _
 rw[show(K==9)=false from by simpa using j];cases K==12<;>cases(c.Text.toList==CX.toList)<;>cases decide ((c.Text.size:Int)>32)<;>cases decide ((c.Text.size:Int)>400)<;>exact .ret _
def agQ (j:KZ c):EI (er K c) (Zf c):=by
 have h1:=j.via;obtain⟨q,u⟩:=aP (s:=c.Via) AB;unfold er Zf;rw[q,u];exact Ij (λ_=>.ret _) λ_=>Ij (λ_=>.ret _) λ_=>.ret _
def aFd (h:Cj K Ko=some true)(h3:(!c.Thread)=true):EI (TW K c) (Xo K c):=by
 unfold TW Xo;rw[h,show c.Thread=false from by simpa using h3];cases decide (c.Target<0)<;>cases c.Target==0<;>cases K != 11<;>exact .ret _
def aeO (h:Cj K Ko=some true):EI (IL (TW K c) (gZ K c)) (Xo K c):=by
 unfold TW gZ Xo IL;rw[h];cases decide (c.Target<0)<;>cases c.Target==0<;>cases K != 11<;>cases c.Thread<;>exact .ret _
theorem amh (j:KZ c):EI (YN 6 c) (UR c.Allow):=by
 have h1:=j.allow;have :=aPs (l:=c.Allow) AB j.allows;show EI ((Ya c.Allow).bind λx=>some x) _
 grind
def yN (a b:Int):decide (a>=b)= !decide (a<b):=by by_cases h:a<b<;>simp[h]<;>omega
def xI (a b:Int):decide (a<=b)= !decide (a>b):=by by_cases h:a>b<;>simp[h]<;>omega
def aZ0 (hc:KZ c):EI (NV 1 c) (KU 1 c):=by
 have q:Cj 1 Js=some false:=A8
 have h1:Cj 1 KW=some false:=A8
 have h2:Cj 1 Ko=some false:=A8
 have h3:Cj 1 Np=some false:=A8
 have u:Cj 1 Nq=some false:=A8
 have z:Cj 1 MV=some false:=A8
 have I:Cj 1 Nw=some false:=A8
 have J:Cj 1 O7=some false:=A8
 refine frame (M:=0) (kp:=0) (br:=false) rfl rfl rfl rfl q h1 h2 h3 u z I J OY (λh=>H6) (λh h'=>rfl) λj=>?_;unfold NU at j;simp only[Qv,Nv,LZ,GZ,Di]at j;obtain⟨⟨⟨⟨⟨⟨⟨L,e1⟩,e2⟩,O⟩,U⟩,Y⟩,Z⟩,e7⟩:=j;have hL:Ns 0 1 0 c=(some 0):=RI
 rw[hL];unfold P8;rw[F7 (text0 L Bl),F7 (show Om 1 c.N=some 0 from rfl),F7 (Vs h2 O),F7 (Sj U),show((1:Int)==4)=false from rfl,BH,F7 (L6 Y),F7 (L6 Z),Tc e7];exact .ret _
def abd c:EI (Q7 2 c) (Om 2 c.N):=by
 show EI ((cond (c.N<0) (some true) (some (decide (c.N>4)))).bind λj=>(cond j (some 2) (some 0))) ((cond (c.N>=0) (some (decide (c.N<=4))) (some false)).bind λq=>(cond (!q) (some 2) (some 0)));rw[yN,xI];cases decide (c.N<0)<;>cases decide (c.N>4)<;>exact .ret _
def afY (q:KZ c):EI (NV 2 c) (KU 2 c):=by
 have u:Cj 2 Js=some true:=A8
 have h1:Cj 2 KW=some true:=A8
 have h2:Cj 2 Ko=some false:=A8
 have h3:Cj 2 Np=some false:=A8
 have z:Cj 2 Nq=some true:=A8
 have I:Cj 2 MV=some false:=A8
 have J:Cj 2 Nw=some false:=A8
 have L:Cj 2 O7=some false:=A8
 refine frame (M:=19) (kp:=18) (br:=false) rfl rfl rfl rfl u h1 h2 h3 z I J L OY (λh=>H6) (λh h'=>H6) λj=>?_;unfold NU at j;simp only[Qv,Nv,LZ,GZ,Di]at j;obtain⟨⟨⟨⟨e2,O⟩,U⟩,Y⟩,Z⟩:=j;have hL:Ns 19 2 0 c=(IL (Sr 2 c) (IL (Q7 2 c) (IL (er 2 c) (some 0)))):=RI
 rw[hL];unfold P8;rw[F7 (Vs h2 O),show((2:Int)==4)=false from rfl,BH,F7 (L6 U),F7 (L6 Y),Tc Z];exact OV (eu q) (OV (abd c) (OV (agQ q) (.ret _)))
def akz (j:KZ c):EI (NV 3 c) (KU 3 c):=by
 have u:Cj 3 Js=some false:=A8
 have h1:Cj 3 KW=some false:=A8
 have h2:Cj 3 Ko=some false:=A8
 have h3:Cj 3 Np=some false:=A8
 have z:Cj 3 Nq=some false:=A8
 have I:Cj 3 MV=some false:=A8
 have J:Cj 3 Nw=some false:=A8
 have L:Cj 3 O7=some true:=A8
 refine frame (M:=128) (kp:=128) (br:=false) rfl rfl rfl rfl u h1 h2 h3 z I J L OY (λh=>H6) (λh h'=>H6) λq=>?_;unfold NU at q;simp only[Qv,Nv,LZ,GZ,Di]at q;obtain⟨⟨⟨⟨⟨⟨O,e1⟩,e2⟩,U⟩,Y⟩,Z⟩,e6⟩:=q;have hL:Ns 128 3 0 c=(dw c.Levels):=RI
 rw[hL];unfold P8;rw[F7 (text0 O Bl),F7 (show Om 3 c.N=some 0 from rfl),F7 (Vs h2 U),F7 (Sj Y),show((3:Int)==4)=false from rfl,BH,F7 (L6 Z),F7 (L6 e6)];exact aaf j.users j.kinds j.names
def adp c:EI (Q7 4 c) (Om 4 c.N):=by
 show EI ((cond (c.N<0) (some true) (some (decide (c.N>3)))).bind λj=>(cond j (some 2) (some 0))) ((cond (c.N>=0) (some (decide (c.N<=3))) (some false)).bind λq=>(cond (!q) (some 2) (some 0)));rw[yN,xI];cases decide (c.N<0)<;>cases decide (c.N>3)<;>exact .ret _
def akX (q:KZ c):EI (NV 4 c) (KU 4 c):=by
 have u:Cj 4 Js=some false:=A8
 have h1:Cj 4 KW=some true:=A8
 have h2:Cj 4 Ko=some false:=A8
 have h3:Cj 4 Np=some false:=A8
 have z:Cj 4 Nq=some false:=A8
 have I:Cj 4 MV=some true:=A8
 have J:Cj 4 Nw=some false:=A8
 have L:Cj 4 O7=some false:=A8
 refine frame (M:=34) (kp:=34) (br:=false) rfl rfl rfl rfl u h1 h2 h3 z I J L OY (λh=>H6) (λh h'=>H6) λj=>?_;unfold NU at j;simp only[Qv,Nv,LZ,GZ,Di]at j;obtain⟨⟨⟨⟨⟨O,e2⟩,U⟩,Y⟩,e6⟩,e7⟩:=j;have Z:Ns 34 4 0 c=(IL (Q7 4 c) (IL (YN 4 c) (some 0))):=RI
 rw[Z];unfold P8;rw[F7 (text0 O Bl),F7 (Vs h2 U),F7 (Sj Y),show((4:Int)==4)=true from rfl,BZ];rw[a6i];exact OV (adp c) (alg q)
def ajH c:EI (Q7 5 c) (Om 5 c.N):=by
 show EI ((cond (c.N<0) (some true) (some (decide (c.N>3)))).bind λj=>(cond j (some 2) (some 0))) ((cond (c.N>=0) (some (decide (c.N<=3))) (some false)).bind λq=>(cond (!q) (some 2) (some 0)));rw[yN,xI];cases decide (c.N<0)<;>cases decide (c.N>3)<;>exact .ret _
def aZ5 (hc:KZ c):EI (NV 5 c) (KU 5 c):=by
 have q:Cj 5 Js=some false:=A8
 have h1:Cj 5 KW=some true:=A8
 have h2:Cj 5 Ko=some false:=A8
 have h3:Cj 5 Np=some false:=A8
 have u:Cj 5 Nq=some false:=A8
 have z:Cj 5 MV=some false:=A8
 have I:Cj 5 Nw=some false:=A8
 have J:Cj 5 O7=some false:=A8
 refine frame (M:=2) (kp:=2) (br:=false) rfl rfl rfl rfl q h1 h2 h3 u z I J OY (λh=>H6) (λh h'=>H6) λj=>?_;unfold NU at j;simp only[Qv,Nv,LZ,GZ,Di]at j;obtain⟨⟨⟨⟨⟨⟨L,e2⟩,O⟩,U⟩,Y⟩,Z⟩,e7⟩:=j;have hL:Ns 2 5 0 c=(IL (Q7 5 c) (some 0)):=RI
 rw[hL];unfold P8;rw[F7 (text0 L Bl),F7 (Vs h2 O),F7 (Sj U),show((5:Int)==4)=false from rfl,BH,F7 (L6 Y),F7 (L6 Z),Tc e7];exact OV (ajH c) (.ret _)
def aZy (j:KZ c):EI (NV 6 c) (KU 6 c):=by
 have u:Cj 6 Js=some false:=A8
 have h1:Cj 6 KW=some false:=A8
 have h2:Cj 6 Ko=some false:=A8
 have h3:Cj 6 Np=some false:=A8
 have z:Cj 6 Nq=some false:=A8
 have I:Cj 6 MV=some true:=A8
 have J:Cj 6 Nw=some true:=A8
 have L:Cj 6 O7=some false:=A8
 refine frame (M:=96) (kp:=96) (br:=false) rfl rfl rfl rfl u h1 h2 h3 z I J L OY (λh=>H6) (λh h'=>H6) λq=>?_;unfold NU at q;simp only[Qv,Nv,LZ,GZ,Di]at q;obtain⟨⟨⟨⟨⟨O,e1⟩,e2⟩,U⟩,Y⟩,Z⟩:=q;have hL:Ns 96 6 0 c=(IL (YN 6 c) (Ya c.iD)):=RI
 rw[hL];unfold P8;rw[F7 (text0 O Bl),F7 (show Om 6 c.N=some 0 from rfl),F7 (Vs h2 U),F7 (Sj Y),show((6:Int)==4)=false from rfl,BH,Tc Z];have h1:=j.deny;rw[a6i];exact OV (amh j) (aPs AB j.denies)
def aeL (q:KZ c):EI (NV 7 c) (KU 7 c):=by
 have u:Cj 7 Js=some true:=A8
 have h1:Cj 7 KW=some false:=A8
 have h2:Cj 7 Ko=some false:=A8
 have h3:Cj 7 Np=some false:=A8
 have z:Cj 7 Nq=some false:=A8
 have I:Cj 7 MV=some false:=A8
 have J:Cj 7 Nw=some false:=A8
 have L:Cj 7 O7=some false:=A8
 refine frame (M:=1) (kp:=0) (br:=true) rfl rfl rfl rfl u h1 h2 h3 z I J L OY (λh=>rfl) (λh h'=>ji) λj=>?_;unfold NU at j;simp only[Qv,Nv,LZ,GZ,Di]at j;obtain⟨⟨⟨⟨⟨⟨e1,e2⟩,O⟩,U⟩,Y⟩,Z⟩,e7⟩:=j;have hL:Ns 1 7 0 c=(IL (Sr 7 c) (some 0)):=RI
 rw[hL];unfold P8;rw[F7 (show Om 7 c.N=some 0 from rfl),F7 (Vs h2 O),F7 (Sj U),show((7:Int)==4)=false from rfl,BH,F7 (L6 Y),F7 (L6 Z),Tc e7];exact OV (eu q) (.ret _)
def ag3 c:EI (Q7 8 c) (Om 8 c.N):=by
 show EI ((cond (c.N<0) (some true) (some (decide (c.N>1000000000)))).bind λj=>(cond j (some 2) (some 0))) ((cond (c.N>=0) (some (decide (c.N<=1000000000))) (some false)).bind λq=>(cond (!q) (some 2) (some 0)));rw[yN,xI];cases decide (c.N<0)<;>cases decide (c.N>1000000000)<;>exact .ret _
def ajE (hc:KZ c):EI (NV 8 c) (KU 8 c):=by
 have q:Cj 8 Js=some false:=A8
 have h1:Cj 8 KW=some true:=A8
 have h2:Cj 8 Ko=some false:=A8
 have h3:Cj 8 Np=some false:=A8
 have u:Cj 8 Nq=some false:=A8
 have z:Cj 8 MV=some false:=A8
 have I:Cj 8 Nw=some false:=A8
 have J:Cj 8 O7=some false:=A8
 refine frame (M:=2) (kp:=0) (br:=true) rfl rfl rfl rfl q h1 h2 h3 u z I J OY (λh=>rfl) (λh h'=>ji) λj=>?_;unfold NU at j;simp only[Qv,Nv,LZ,GZ,Di]at j;obtain⟨⟨⟨⟨⟨⟨L,e2⟩,O⟩,U⟩,Y⟩,Z⟩,e7⟩:=j;have hL:Ns 2 8 0 c=(IL (Q7 8 c) (some 0)):=RI
 rw[hL];unfold P8;rw[F7 (text0 L Bl),F7 (Vs h2 O),F7 (Sj U),show((8:Int)==4)=false from rfl,BH,F7 (L6 Y),F7 (L6 Z),Tc e7];exact OV (ag3 c) (.ret _)
def adr c:EI (Q7 9 c) (Om 9 c.N):=by
 show EI ((cond (c.N==1) (some true) (some (c.N==2))).bind λj=>(cond j (some true) (some (c.N==6))).bind λq=>(cond q (some 0) (some 2))) ((cond (c.N==1) (some true) (some (c.N==2))).bind λu=>(cond u (some true) (some (c.N==6))).bind λz=>(cond (!z) (some 2) (some 0)));cases c.N==1<;>cases c.N==2<;>cases c.N==6<;>exact .ret _
def ag6 (q:KZ c):EI (NV 9 c) (KU 9 c):=by
 have u:Cj 9 Js=some true:=A8
 have h1:Cj 9 KW=some true:=A8
 have h2:Cj 9 Ko=some false:=A8
 have h3:Cj 9 Np=some false:=A8
 have z:Cj 9 Nq=some false:=A8
 have I:Cj 9 MV=some false:=A8
 have J:Cj 9 Nw=some false:=A8
 have L:Cj 9 O7=some false:=A8
 refine frame (M:=3) (kp:=0) (br:=true) rfl rfl rfl rfl u h1 h2 h3 z I J L OY (λh=>rfl) (λh h'=>ji) λj=>?_;unfold NU at j;simp only[Qv,Nv,LZ,GZ,Di]at j;obtain⟨⟨⟨⟨⟨e2,O⟩,U⟩,Y⟩,Z⟩,e7⟩:=j;have hL:Ns 3 9 0 c=(IL (Sr 9 c) (IL (Q7 9 c) (some 0))):=RI
 rw[hL];unfold P8;rw[F7 (Vs h2 O),F7 (Sj U),show((9:Int)==4)=false from rfl,BH,F7 (L6 Y),F7 (L6 Z),Tc e7];exact OV (eu q) (OV (adr c) (.ret _))
def alz c:EI (Q7 10 c) (Om 10 c.N):=by
 show EI ((cond (c.N<1) (some true) (some (decide (c.N>10000)))).bind λj=>(cond j (some 2) (some 0))) ((cond (c.N>=1) (some (decide (c.N<=10000))) (some false)).bind λq=>(cond (!q) (some 2) (some 0)));rw[yN,xI];cases decide (c.N<1)<;>cases decide (c.N>10000)<;>exact .ret _
def acT (hc:KZ c):EI (NV 10 c) (KU 10 c):=by
 have q:Cj 10 Js=some false:=A8
 have h1:Cj 10 KW=some true:=A8
 have h2:Cj 10 Ko=some false:=A8
 have h3:Cj 10 Np=some false:=A8
 have u:Cj 10 Nq=some false:=A8
 have z:Cj 10 MV=some false:=A8
 have I:Cj 10 Nw=some false:=A8
 have J:Cj 10 O7=some false:=A8
 refine frame (M:=2) (kp:=0) (br:=true) rfl rfl rfl rfl q h1 h2 h3 u z I J OY (λh=>rfl) (λh h'=>ji) λj=>?_;unfold NU at j;simp only[Qv,Nv,LZ,GZ,Di]at j;obtain⟨⟨⟨⟨⟨⟨L,e2⟩,O⟩,U⟩,Y⟩,Z⟩,e7⟩:=j;have hL:Ns 2 10 0 c=(IL (Q7 10 c) (some 0)):=RI
 rw[hL];unfold P8;rw[F7 (text0 L Bl),F7 (Vs h2 O),F7 (Sj U),show((10:Int)==4)=false from rfl,BH,F7 (L6 Y),F7 (L6 Z),Tc e7];exact OV (alz c) (.ret _)
def aed (q:KZ c):EI (NV 11 c) (KU 11 c):=by
 have u:Cj 11 Js=some true:=A8
 have h1:Cj 11 KW=some false:=A8
 have h2:Cj 11 Ko=some true:=A8
 have h3:Cj 11 Np=some true:=A8
 have z:Cj 11 Nq=some false:=A8
 have I:Cj 11 MV=some false:=A8
 have J:Cj 11 Nw=some false:=A8
 have L:Cj 11 O7=some false:=A8
 refine frame (M:=13) (kp:=0) (br:=true) rfl rfl rfl rfl u h1 h2 h3 z I J L OY (λh=>rfl) (λh h'=>ji) λj=>?_;unfold NU at j;simp only[Qv,Nv,LZ,GZ,Di]at j;obtain⟨⟨⟨⟨e1,O⟩,U⟩,Y⟩,Z⟩:=j;have hL:Ns 13 11 0 c=(IL (Sr 11 c) (IL (TW 11 c) (IL (gZ 11 c) (some 0)))):=RI
 rw[hL];unfold P8;rw[F7 (show Om 11 c.N=some 0 from rfl),F7 (Sj O),show((11:Int)==4)=false from rfl,BH,F7 (L6 U),F7 (L6 Y),Tc Z];rw[a6i,a6i];exact OV (eu q) (aeO h2)
def aXQ (q:KZ c):EI (NV 12 c) (KU 12 c):=by
 have u:Cj 12 Js=some true:=A8
 have h1:Cj 12 KW=some false:=A8
 have h2:Cj 12 Ko=some true:=A8
 have h3:Cj 12 Np=some false:=A8
 have z:Cj 12 Nq=some false:=A8
 have I:Cj 12 MV=some false:=A8
 have J:Cj 12 Nw=some false:=A8
 have L:Cj 12 O7=some false:=A8
 refine frame (M:=5) (kp:=0) (br:=true) rfl rfl rfl rfl u h1 h2 h3 z I J L OY (λh=>rfl) (λh h'=>ji) λj=>?_;unfold NU at j;simp only[Qv,Nv,LZ,GZ,Di]at j;obtain⟨⟨⟨⟨⟨e1,O⟩,U⟩,Y⟩,Z⟩,e7⟩:=j;have hL:Ns 5 12 0 c=(IL (Sr 12 c) (IL (TW 12 c) (some 0))):=RI
 rw[hL];unfold P8;rw[F7 (show Om 12 c.N=some 0 from rfl),F7 (Sj U),show((12:Int)==4)=false from rfl,BH,F7 (L6 Y),F7 (L6 Z),Tc e7];exact OV (eu q) (OV (aFd h2 O) (.ret _))
def akq (q:KZ c):EI (NV 13 c) (KU 13 c):=by
 have u:Cj 13 Js=some true:=A8
 have h1:Cj 13 KW=some false:=A8
 have h2:Cj 13 Ko=some true:=A8
 have h3:Cj 13 Np=some false:=A8
 have z:Cj 13 Nq=some false:=A8
 have I:Cj 13 MV=some false:=A8
 have J:Cj 13 Nw=some false:=A8
 have L:Cj 13 O7=some false:=A8
 refine frame (M:=5) (kp:=0) (br:=true) rfl rfl rfl rfl u h1 h2 h3 z I J L OY (λh=>rfl) (λh h'=>ji) λj=>?_;unfold NU at j;simp only[Qv,Nv,LZ,GZ,Di]at j;obtain⟨⟨⟨⟨⟨e1,O⟩,U⟩,Y⟩,Z⟩,e7⟩:=j;have hL:Ns 5 13 0 c=(IL (Sr 13 c) (IL (TW 13 c) (some 0))):=RI
 rw[hL];unfold P8;rw[F7 (show Om 13 c.N=some 0 from rfl),F7 (Sj U),show((13:Int)==4)=false from rfl,BH,F7 (L6 Y),F7 (L6 Z),Tc e7];exact OV (eu q) (OV (aFd h2 O) (.ret _))
def adh (q:KZ c):EI (NV 14 c) (KU 14 c):=by
 have u:Cj 14 Js=some true:=A8
 have h1:Cj 14 KW=some false:=A8
 have h2:Cj 14 Ko=some true:=A8
 have h3:Cj 14 Np=some false:=A8
 have z:Cj 14 Nq=some false:=A8
 have I:Cj 14 MV=some false:=A8
 have J:Cj 14 Nw=some false:=A8
 have L:Cj 14 O7=some false:=A8
 refine frame (M:=5) (kp:=4) (br:=false) rfl rfl rfl rfl u h1 h2 h3 z I J L OY (λh=>H6) (λh h'=>H6) λj=>?_;unfold NU at j;simp only[Qv,Nv,LZ,GZ,Di]at j;obtain⟨⟨⟨⟨⟨e1,O⟩,U⟩,Y⟩,Z⟩,e7⟩:=j;have hL:Ns 5 14 0 c=(IL (Sr 14 c) (IL (TW 14 c) (some 0))):=RI
 rw[hL];unfold P8;rw[F7 (show Om 14 c.N=some 0 from rfl),F7 (Sj U),show((14:Int)==4)=false from rfl,BH,F7 (L6 Y),F7 (L6 Z),Tc e7];exact OV (eu q) (OV (aFd h2 O) (.ret _))
theorem ajv k(j:KZ c):EI (NV k c) (KU k c):=by
 cases q:decide (k>=1)&&decide (k<=14)with
 |false=>
  obtain⟨u,k2⟩:=a5d k;rw[q]at u k2
  have f:∀n:Int,1<=n->n<=14->(k==n)=false:=λn h1 h2=>by
   grind
  have hm:su k=some 0:=by
   unfold su xY zF;rw[f 2 Bl Bl,f 3 Bl Bl,f 4 Bl Bl,f 5 Bl Bl,f 8 Bl Bl,f 10 Bl Bl,f 6 Bl Bl,f 7 Bl Bl,f 9 Bl Bl,f 11 Bl Bl,f 12 Bl Bl,f 13 Bl Bl,f 14 Bl Bl];rfl
  unfold NV KU;rw[hm,u,k2];exact .ret _
 |true=>
  simp only[Di,Io]at q;have :k=1\/k=2\/k=3\/k=4\/k=5\/k=6\/k=7\/k=8\/k=9\/k=10\/k=11\/k=12\/k=13\/k=14:=AB
  rcases this with rfl|rfl|rfl|rfl|rfl|rfl|rfl|rfl|rfl|rfl|rfl|rfl|rfl|rfl
  ·exact aZ0 j
  ·exact afY j
  ·exact akz j
  ·exact akX j
  ·exact aZ5 j
  ·exact aZy j
  ·exact aeL j
  ·exact ajE j
  ·exact ag6 j
  ·exact acT j
  ·exact aed j
  ·exact aXQ j
  ·exact akq j
  exact adh j
end Go.Proofs.YtfmoknlmaldmlaaGreat
