/- Part 6 of the laws' proofs (short forms by wip/shrink2.py). -/
import Derived.Test.YtfmoknlmaldmlaaGreatRc5
set_option linter.defProp false
set_option linter.unnecessarySimpa false
set_option linter.unusedSectionVars false
set_option linter.unusedVariables false
set_option linter.unusedSimpArgs false
namespace Go.Proofs.YtfmoknlmaldmlaaGreat
open Go.RowKit Go.Proofs.Tryz
def EU (l:AA Aa):Prop:=∀e∈l,Hg e
variable {l:AA Aa}
def EU.amk (h:EU l):RQ l:=λe j=>(h e j).auth
variable {A α:Type}
theorem aL3 {R:Type}{body:(A->Int->AB R)->A->Int->AB R}(l:AA α)(hl:l.length<Am)(p:α->AV)(g:Nat->AB R)(rest:AB R)(a0:A)(u:∀k (i:Nat) (h:i<l.length),body k a0 (i:Int)=bif p l[i]then g i else k a0 (Az ((i:Int)+1)))(z:∀k,body k a0 (l.length:Int)=rest):
 aP body Am a0 0=if l.findIdx p<l.length then g (l.findIdx p)else rest:=by
 have J:Am=9223372036854775808:=rfl
 have key:∀n (i:Nat),i+n=l.length->∀m,n<m->aP body m a0 (i:Int)=if(l.drop i).findIdx p+i<l.length then g ((l.drop i).findIdx p+i)else rest:=by
  intro n
  induction n with
  |zero=>
   intro i hi m hm;obtain⟨m,rfl⟩:∃q,m=q+1:=⟨m-1,AL⟩
   have :i=l.length:=AL
   subst this;show body (aP body m) _ _=_;rw[z,Ox,EZ BU]
  |succ n I=>
   intro i hi m hm;obtain⟨m,rfl⟩:∃q,m=q+1:=⟨m-1,AL⟩
   have j:i<l.length:=AL
   show body (aP body m) _ _=_;rw[u _ i j,wrap_succ i AL,I (i+1) AL m AL,MW j,Ws];cases p l[i]with
   |true=>
    grind
   |false=>
    simp only[BN];rw[show(l.drop (i+1)).findIdx p+(i+1)=(l.drop (i+1)).findIdx p+1+i by omega]
 grind
variable {k:Int}{key:BL}{s:AA BM}
theorem V4 {id:Int}{x:BM}(h:x∈GL s k key id):x=⟨k,key,id⟩\/x∈s:=by
 unfold GL at h
 grind
def xB (s:AA BM):Prop:=∀x∈s,x.Id=0
def iH (h:xB s):xB (GL s k key 0):=λx j=>by
 rcases V4 j with rfl|j
 ·rfl
 exact h x j
def zM (l:AA BM)(k:Int)(key:BL)(j:Int):AB Ba:=
 (cond (j<(l.length:Int)) ((Aj l j).bind λq=>some (q.Kind==k)) (some false)).bind λu=>(cond u ((Aj l j).bind λz=>some (z.Key.toList==key.toList)) (some false)).bind λI=>(cond I (some l) ((Hq l 0 j).bind λJ=>(DC 32 [] J).bind λL=>(DC 32 L [(⟨k,key,0⟩:BM)]).bind λM=>(Hq l j ((l).length)).bind λO=>(DC 32 M O).bind λU=>some U))
def a0i (s:AA BM)(k:Int)(key:BL)(hs:s.length<=1000000)(u:xB s):Wx s k key=some (GL s k key 0):=by
 unfold Wx aRH
 have j:zM s k key ((FN s ⟨k,key,0⟩:Nat):Int)=some (GL s k key 0):=by
  have hp:=zo s ⟨k,key,0⟩;unfold zM GL
  have q:((Hq s 0 ((FN s ⟨k,key,0⟩:Nat):Int)).bind λz=>(DC 32 [] z).bind λI=>(DC 32 I [(⟨k,key,0⟩:BM)]).bind λJ=>(Hq s ((FN s ⟨k,key,0⟩:Nat):Int) ((s).length)).bind λL=>(DC 32 J L).bind λM=>some M)=some (s.take (FN s ⟨k,key,0⟩)++⟨k,key,0⟩::s.drop (FN s ⟨k,key,0⟩)):=by
   rw[xU hp];simp only[Ac];rw[Dp EY];simp only[Ac,IE];rw[Dp EY];simp only[Ac];rw[Xk hp];simp only[Ac];rw[Dp EY];simp
  rw[q];by_cases hl:FN s ⟨k,key,0⟩<s.length
  ·rw[dec_lt hl,CM hl];simp only[Bj,Ac]
   have O:KT s ⟨k,key,0⟩=(s[FN s ⟨k,key,0⟩].Kind==k&&(s[FN s ⟨k,key,0⟩].Key=key)):=by
    unfold KT;rw[EM hl];rfl
   rw[O,JA];cases Y:s[FN s ⟨k,key,0⟩].Kind==k with
   |false=>rfl
   |true=>
    simp only[Bj,Ac,GV];cases hd:decide (s[FN s ⟨k,key,0⟩].Key=key)with
    |true=>
     simp only[Bj];have h1:s[FN s ⟨k,key,0⟩].Kind=k:=by simpa using Y
     have h2:s[FN s ⟨k,key,0⟩].Key=key:=by simpa using hd
     have h3:=u _ (Et hl)
     have Z:(⟨k,key,0⟩:BM)=s[FN s ⟨k,key,0⟩]:=by
      have :∀(y:BM),y.Kind=k->y.Key=key->y.Id=0->(⟨k,key,0⟩:BM)=y:=λy a b c=>by cases y;simp only at a b c;rw[a,b,c]
      exact this _ h1 h2 h3
     congr 1
     conv=>rhs;arg 2;arg 1;rw[Z]
     rw[←MW hl,ZT]
    |false=>rfl
  have u:FN s ⟨k,key,0⟩=s.length:=AL
  have O:KT s ⟨k,key,0⟩=false:=by unfold KT;rw[u,Ns (Ec _)]
  rw[O,u,DN];rfl
 rw[JY s (fuel_lt AL) (λx=> !Fe x ⟨k,key,0⟩) (λi=>zM s k key (i:Int)) (zM s k key (s.length:Int))]
 ·split
  ·exact j
  rename_i h;have u:FN s ⟨k,key,0⟩=s.length:=aPx
  rw[u]at j;exact j
 ·intro k2 i h;unfold aCY
  have e:(cond ((i:Int)<(s.length:Int)) ((Aj s (i:Int)).bind λx5=>(cond (x5.Kind<k) (some true) ((Aj s (i:Int)).bind λx8=>(cond (x8.Kind==k) ((Aj s (i:Int)).bind λU=>some (Op.bytesLess (U.Key.toList) (key.toList))) (some false)).bind λx9=>some x9)).bind λx6=>some x6) (some false))=some (Fe s[i] ⟨k,key,0⟩):=by
   rw[dec_lt h,CM h];simp only[Bj,Ac];unfold Fe;cases decide (s[i].Kind<k)<;>cases s[i].Kind==k<;>rfl
  rw[e];simp only[Ac];cases Fe s[i] ⟨k,key,0⟩<;>rfl
 intro k2;unfold aCY;rw[DN];simp only[BN,Ac];unfold zM;rw[DN];rfl
def Ls (e:Aa):AA BM:=GL (GL (GL [] 1 Ci 0) 3 Ci 0) 2 e.bQ 0
def keysOf (e:Aa):AA BM:=
 bif e.Kind==1 then[]else bif e.Kind==2 then(cond (e.Content.N==3||e.Content.N==1||e.Content.N==2) (GL (GL (Ls e) 2 e.Key 0) 4 Ci 0) (GL (Ls e) 2 e.Key 0))else Ls e
def aI1 (e:Aa):(Ls e).length<=3:=by
 have h1:=Po [] 1 Ci 0;have h2:=Po (GL [] 1 Ci 0) 3 Ci 0;have h3:=Po (GL (GL [] 1 Ci 0) 3 Ci 0) 2 e.bQ 0;unfold Ls;simp only[QX]at h1;omega
def aNL (e:Aa):xB (Ls e):=iH (iH (iH λx j=>absurd j Gh))
theorem Xp (e:Aa):(keysOf e).length<=5:=by
 have h1:=aI1 e;have h2:=Po (Ls e) 2 e.Key 0;have h3:=Po (GL (Ls e) 2 e.Key 0) 4 Ci 0;unfold keysOf
 grind
def aNC (e:Aa):vM e=some (keysOf e):=by
 have h1:=aI1 e;have h2:=Po (Ls e) 2 e.Key 0;have j:=Po [] 1 Ci 0;have q:=Po (GL [] 1 Ci 0) 3 Ci 0;simp only[QX]at j;unfold vM keysOf;rw[Yi [] 1 Ci 0 BU];simp only[Ac];rw[Yi _ 3 Ci 0 AL];simp only[Ac];rw[Yi _ 2 e.bQ 0 AL];simp only[Ac];show(cond (e.Kind==1) (some []) (cond (e.Kind==2) ((Ro (Ls e) 2 e.Key 0).bind _) (l9 (Ls e))))=_;rw[Yi (Ls e) 2 e.Key 0 AL];simp only[Ac];rw[Yi _ 4 Ci 0 AL];unfold l9;cases e.Kind==1<;>cases e.Kind==2<;>cases e.Content.N==3<;>cases e.Content.N==1<;>cases e.Content.N==2<;>rfl
def aKa (e:Aa):jg e=some (keysOf e):=by
 have h1:=aI1 e;have h2:=Po (Ls e) 2 e.Key 0;have q:=Po [] 1 Ci 0;have z:=Po (GL [] 1 Ci 0) 3 Ci 0;have z0:xB []:=λx u=>absurd u Gh;simp only[QX]at q;unfold jg keysOf;rw[a0i [] 1 Ci BU z0];simp only[Ac];rw[a0i _ 3 Ci AL (iH z0)];simp only[Ac];rw[a0i _ 2 e.bQ AL (iH (iH z0))];simp only[Ac];show(cond (e.Kind==1) (some []) (cond (e.Kind != 2) (some (Ls e)) ((Wx (Ls e) 2 e.Key).bind _)))=_;rw[a0i (Ls e) 2 e.Key AL (aNL e)];simp only[Ac];rw[a0i _ 4 Ci AL (iH (aNL e))];unfold a6v;have j:(e.Kind != 2)= !(e.Kind==2):=rfl;rw[j];cases e.Kind==1<;>cases e.Kind==2<;>cases e.Content.N==3<;>cases e.Content.N==1<;>cases e.Content.N==2<;>rfl
def FM (k:BM)(x:Aa):AV:=x.Kind==k.Kind&&(x.Key=k.Key)
def XD (l:AA Aa)(e:Aa):AA Aa:=(keysOf e).flatMap λk=>((ofIds l e.bJ).find? (FM k)).toList
def flat_length {α β:Type}{f:α->AA β}{n:Nat}(h:∀x,(f x).length<=n):∀l:AA α,(l.flatMap f).length<=n*l.length
 | []=>BU
 |x::l=>by
  have h1:=h x;have h2:=flat_length h l;rw[OZ,Ed,GN,Nat.mul_succ];omega
def aBW (l:AA Aa)(e:Aa):(XD l e).length<=5:=by
 have h1:=flat_length (f:=λk=>((ofIds l e.bJ).find? (FM k)).toList) (n:=1) (λk=>toList_le _) (keysOf e);have h2:=Xp e;unfold XD;omega
variable {ids:AA Int}{x:Aa}
def aJI (h:x∈ofIds l ids):x∈l:=by
 obtain⟨i,_,h⟩:=eA.1 h;exact NK h
variable {e:Aa}
def aa2 (h:x∈XD l e):x∈l:=by
 obtain⟨k,_,h⟩:=Vy.1 h;have :(ofIds l e.bJ).find? (FM k)=some x:=O5
 exact aJI (ZW this)
def JQ (x:BM):UW:=⟨x.Kind,x.Key⟩
theorem aRz (e:Aa):sZ e=some ((keysOf e).map JQ):=by
 unfold sZ;rw[aNC];simp only[Ac];have j:=Xp e;unfold aP5;rw[H8 (keysOf e) AL (λr x=>r++[JQ x]) (λi r=>r.length<=i) (λr=>some r) (Ec _)]
 ·rw[foldl_append (λx=>[JQ x]),IE];congr 1
  induction keysOf e with
  |nil=>
   rfl
  |cons x s q=>
   grind
 ·intro k r i h u;refine⟨a3L,?_⟩;unfold aGj;rw[D8 h,Dp Fp];rfl
 intro k r _;unfold aGj;rw[EG]
theorem aWx (l:AA Aa)(p:Aa->AV):∀ids:AA Int,(ofIds l ids).find? p=(ids.find? λi=>match En l i with |some x=>p x|none=>false).bind (En l)
 | []=>
  rfl
 |i::ids=>by
  have j:=aWx l p ids;unfold ofIds at j ⊢
  grind
def aMG (l:AA Aa)(e:Aa)(hl:l.length<=1000)(I:e.bJ.length<=40):tq l e=some (XD l e):=by
 unfold tq;rw[aRz];simp only[Ac];have J:=Xp e;unfold aU4;rw[H8 (a0:=[]) ((keysOf e).map JQ) Yn (λr k=>r++((ofIds l e.bJ).find? λx=>x.Kind==k.adD&&(x.Key=k.adE)).toList) (λi r=>r.length<=i) (λr=>some r) (Ec _)]
 ·congr 1;rw[foldl_append (λk:UW=>((ofIds l e.bJ).find? λx=>x.Kind==k.adD&&(x.Key=k.adE)).toList),IE,List.flatMap_map];rfl
 ·intro k r i h L;have M:=toList_le ((ofIds l e.bJ).find? λx=>x.Kind==((keysOf e).map JQ)[i].adD&&(x.Key=((keysOf e).map JQ)[i].adE));refine⟨L8,?_⟩;have hi:i<5:=by rw[Di]at h;omega
  unfold aEk;rw[D8 h];generalize((keysOf e).map JQ)[i]=K;unfold aWc
  rw[aL3 e.bJ (fuel_lt AL) (λid=>match En l id with |some x=>x.Kind==K.adD&&(x.Key=K.adE)|none=>false)
   (λj=>vF k (i:Int) (r++(match e.bJ[j]? with |some id=>(En l id).toList|none=>[]))) (vF k (i:Int) r)]
  ·rw[aWx,Jj];by_cases q:e.bJ.findIdx (λid=>match En l id with |some x=>x.Kind==K.adD&&(x.Key=K.adE)|none=>false)<e.bJ.length
   ·rw[ES q,EM q];rfl
   rw[EZ q,Ns AL];simp only[Option.bind_none,Option.toList_none,Rs];rfl
  ·intro k2 j u;unfold aFi;rw[D8 u,NG l _ AL,EM u];simp only[Ac];cases z:En l e.bJ[j]with
   |none=>rw[RS z];rfl
   |some x=>
    rw[NS z];simp only[Bj,Qw];unfold WO;rw[JA];rw[Dp Fp];cases x.Kind==K.adD<;>cases decide (x.Key=K.adE)<;>rfl
  intro k2;unfold aFi;rw[EG]
 intro k r _;unfold aEk;rw[EG]
theorem aOh (l:AA Aa)(e:Aa)(hl:l.length<=1000)(Z:e.bJ.length<=40):yE l e=some (XD l e):=by
 unfold yE;rw[aKa,aDB l _ hl AL];simp only[Ac];have hk:=Xp e;have L:=bT l e.bJ;unfold aXM;rw[H8 (a0:=[]) (keysOf e) AL (λr k=>r++((ofIds l e.bJ).find? (FM k)).toList) (λi r=>r.length<=i) (λr=>some r) (Ec _)]
 ·rw[foldl_append (λk:BM=>((ofIds l e.bJ).find? (FM k)).toList),IE];rfl
 ·intro k r i h hI;have M:=toList_le ((ofIds l e.bJ).find? (FM (keysOf e)[i]));refine⟨L8,?_⟩;have hi:i<5:=AL
  unfold aGw;rw[dec_lt h];simp only[Bj];generalize ofIds l e.bJ=O at L M;unfold aWM
  have u:∀m (a:AA Aa) (j:Int),0<m->iK (Qe O (keysOf e) (i:Int) k) m a true j=k a (Az ((i:Int)+1)):=by
   intro m a j hm;obtain⟨m,rfl⟩:∃I,m=I+1:=⟨m-1,AL⟩
   show Qe O (keysOf e) (i:Int) k (iK (Qe O (keysOf e) (i:Int) k) m) a true j=_;unfold Qe
   grind
  have key:∀n (j:Nat),j+n=O.length->∀m,n+1<m->iK (Qe O (keysOf e) (i:Int) k) m r false (j:Int)=k (r++((O.drop j).find? (FM (keysOf e)[i])).toList) (Az ((i:Int)+1)):=by
   intro n
   induction n with
   |zero=>
    intro j U m hm;obtain⟨m,rfl⟩:∃I,m=I+1:=⟨m-1,AL⟩
    have :j=O.length:=AL
    subst this;show Qe O (keysOf e) (i:Int) k (iK (Qe O (keysOf e) (i:Int) k) m) r false _=_;unfold Qe;rw[DN,Ox];simp
   |succ n Y=>
    intro j U m hm;obtain⟨m,rfl⟩:∃I,m=I+1:=⟨m-1,AL⟩
    have z:j<O.length:=AL
    have J:=Y (j+1) AL m AL;show Qe O (keysOf e) (i:Int) k (iK (Qe O (keysOf e) (i:Int) k) m) r false _=_;have q:=u m;generalize iK (Qe O (keysOf e) (i:Int) k) m=K at J q;unfold Qe a7d a5z;rw[dec_lt z,CM z,CM h];simp only[Bj,Ip,Ac];rw[JA,wrap_succ j AL,MW z,xO,J];rw[Dp Fp];simp only[Ac];rw[q _ _ AL];unfold FM;cases O[j].Kind==(keysOf e)[i].Kind<;>cases decide (O[j].Key=(keysOf e)[i].Key)<;>rfl
  have :=key O.length 0 AL Am jl;exact this
 intro k r _;unfold aGw;rw[DN];rfl
def XI (c:BL):Cm:=bif !(c.toList==Ci.toList)then{ WX with Users:=[⟨c,100⟩] }else WX
def Yq (l:AA Aa):BL:=match l.find? λx=>x.Kind==1 with |some x=>x.bQ|none=>Ci
def Ht (l:AA Aa):Cm:=match l.find? λx=>x.Kind==3 with |some x=>x.Content.Levels|none=>XI (Yq l)
theorem aap (c:BL):a4Y c=some (XI c):=by
 unfold a4Y XI aA1
 grind
def aYb (c:BL):a3x c=some (XI c):=by
 unfold a3x XI aAu;cases c.toList==Ci.toList<;>rfl
def aX6 (l:AA Aa)(k:Int)(hl:l.length<=1000):wV l k=some (if l.findIdx (λe=>e.Kind==k)<l.length then((l.findIdx (λe=>e.Kind==k):Nat):Int)else -1):=by
 unfold wV;rw[a5M l AL (λa0=>a5E a0 k) (λe=>e.Kind==k) λ_=>rfl];rfl
def aDz (l:AA Aa)(hl:l.length<=1000)(hs:EU l):lF l=some (Ht l,Yq l):=by
 have q:∀c,pS l c=some (match l.find? λx=>x.Kind==3 with |some x=>x.Content.Levels|none=>XI c,c):=by
  intro c;unfold pS;rw[aX6 l 3 hl,Jj];simp only[Ac];by_cases h:l.findIdx (λe=>e.Kind==3)<l.length
  ·rw[ES h,show decide (((l.findIdx (λe=>e.Kind==3):Nat):Int)>=0)=true by simp,CM h,EM h];simp only[Bj,Ac];have u:=hs _ (Et h);have h1:=u.users;have h2:=u.kinds;unfold a3e a2l;rw[Dp RD,Dp RD];rfl
  rw[EZ h,Ns AL,aap];rfl
 unfold lF;rw[aX6 l 1 hl];simp only[Ac];by_cases h:l.findIdx (λe=>e.Kind==1)<l.length
 ·have j:Yq l=l[l.findIdx (λe=>e.Kind==1)].bQ:=by unfold Yq;rw[Jj,EM h]
  rw[ES h,show decide (((l.findIdx (λe=>e.Kind==1):Nat):Int)>=0)=true by simp,CM h];simp only[Bj,Ac];rw[q,←j];rfl
 have j:Yq l=Ci:=by unfold Yq;rw[Jj,Ns AL]
 rw[EZ h];show pS l Ci=_;rw[q,←j];rfl
def aGN (l:AA Aa)(hl:l.length<=1000):pG l=some (Ht l,Yq l):=by
 have I:∀c,aBq l c 0 Jw=some (match l.find? λx=>x.Kind==3 with |some x=>x.Content.Levels|none=>XI c,c):=by
  intro c;unfold aBq
  have O:∀{R:Type} {body:(Int->Cm->AB R)->Int->Cm->AB R} (p:Aa->AV) (g:Nat->AB R) (rest:AB R) (a0:Cm)
   (Y:∀k (i:Nat) (h:i<l.length),body k (i:Int) a0=bif p l[i]then g i else k (Az ((i:Int)+1)) a0) (Z:∀k,body k (l.length:Int) a0=rest),
   aP body Am 0 a0=if l.findIdx p<l.length then g (l.findIdx p)else rest:=by
   intro R body p g rest a0 Y Z;have hf:Am=9223372036854775808:=rfl
   have key:∀n (i:Nat),i+n=l.length->∀m,n<m->aP body m (i:Int) a0=if(l.drop i).findIdx p+i<l.length then g ((l.drop i).findIdx p+i)else rest:=by
    intro n
    induction n with
    |zero=>
     intro i hi m hm;obtain⟨m,rfl⟩:∃z,m=z+1:=⟨m-1,AL⟩
     have :i=l.length:=AL
     subst this;show body (aP body m) _ _=_;rw[Z,Ox,EZ BU]
    |succ n U=>
     intro i hi m hm;obtain⟨m,rfl⟩:∃z,m=z+1:=⟨m-1,AL⟩
     have q:i<l.length:=AL
     show body (aP body m) _ _=_;rw[Y _ i q,wrap_succ i AL,U (i+1) AL m AL,MW q,Ws];cases p l[i]with
     |true=>simp only[Bj,Js];rw[ES q]
     |false=>
      simp only[BN];rw[show(l.drop (i+1)).findIdx p+(i+1)=(l.drop (i+1)).findIdx p+1+i by omega]
   have :=key l.length 0 AL Am AL;simpa using this
  rw[O (λx=>x.Kind==3) (λi=>some ((match l[i]? with |some x=>x.Content.Levels|none=>Jw),c)) (some (XI c,c))]
  ·rw[Jj];by_cases h:l.findIdx (λe=>e.Kind==3)<l.length
   ·rw[ES h,EM h]
   rw[EZ h,Ns AL]
  ·intro k i h;unfold aJQ;rw[D8 h,CM h,EM h];rfl
  intro k;unfold aJQ;rw[EG,aYb];rfl
 unfold pG aP1;obtain⟨F,M⟩:∃F:BL->AB (Cm×BL),∀c,aBq l c 0 Jw=F c:=⟨_,λ_=>rfl⟩
 simp only[M]at I
 have J:∀m (c:BL) (j:Int),0<m->iK (Qo l) m c true j=F c:=by
  intro m c j hm;obtain⟨m,rfl⟩:∃z,m=z+1:=⟨m-1,AL⟩
  show Qo l (iK (Qo l) m) c true j=_;unfold Qo;simp only[M];cases decide (j<(l.length:Int))<;>rfl
 have key:∀n (j:Nat),j+n=l.length->∀m,n+1<m->iK (Qo l) m Ci false (j:Int)=F (match(l.drop j).find? λx=>x.Kind==1 with |some x=>x.bQ|none=>Ci):=by
  intro n
  induction n with
  |zero=>
   intro j hj m hm;obtain⟨m,rfl⟩:∃z,m=z+1:=⟨m-1,AL⟩
   have :j=l.length:=AL
   subst this;show Qo l (iK (Qo l) m) Ci false _=_;unfold Qo;simp only[M];rw[DN,Ox];rfl
  |succ n U=>
   intro j hj m hm;obtain⟨m,rfl⟩:∃z,m=z+1:=⟨m-1,AL⟩
   have q:j<l.length:=AL
   have L:=U (j+1) AL m AL;show Qo l (iK (Qo l) m) Ci false _=_;have u:=J m;generalize iK (Qo l) m=K at L u;unfold Qo a3U;simp only[M];rw[dec_lt q,CM q];simp only[Bj,Ip,Ac];rw[wrap_succ j AL,MW q,xO,L,u _ _ AL];cases l[j].Kind==1<;>rfl
 have :=key l.length 0 AL Am jl;rw[show((0:Nat):Int)=0 from rfl]at this;rw[this,I];rfl
def FH (v:Cm)(u:BL):Int:=match v.Users.find? λx=>decide (x.User=u)with |some x=>x.N|none=>v.User
theorem aF (v:Cm)(u:BL)(h:v.Users.length<=1000):UO v u=some (FH v u):=by
 unfold UO aTK FH;rw[JY v.Users (fuel_lt AL) (λx=>x.User=u) (λi=>some (match v.Users[i]? with |some x=>x.N|none=>0)) (some v.User)]
 ·rw[Jj]
  grind
 ·intro k i h;unfold aJB;rw[D8 h,JA,EM h]
 intro k;unfold aJB;rw[EG]
theorem Yz (v:Cm)(u:BL)(h:v.Users.length<=1000):Tc v u=some (FH v u):=by
 unfold Tc aSi FH;rw[JY v.Users (fuel_lt AL) (λx=>x.User=u) (λi=>some (match v.Users[i]? with |some x=>x.N|none=>0)) (some v.User)]
 ·rw[Jj]
  grind
 ·intro k i h;unfold aFN;rw[D8 h,JA,EM h,CM h];rfl
 intro k;unfold aFN;rw[EG]
def lZ (h:EU l):(Ht l).Users.length<=100/\(Ht l).Kinds.length<=100:=by
 unfold Ht;cases j:l.find? λx=>x.Kind==3 with
 |some x=>
  have :=h x (ZW j);exact⟨this.users,this.kinds⟩
 |none=>
  simp only;unfold XI;cases(Yq l).toList==Ci.toList with
  |true=>
   show WX.Users.length<=100/\WX.Kinds.length<=100;exact⟨Bd,Bd⟩
  |false=>
   show 1<=100/\WX.Kinds.length<=100;exact⟨Bd,Bd⟩
def aJS (l:AA Aa)(e:Aa):Int:=FH (Ht (XD l e)) e.bQ
def EU.from (h:EU l)(e:Aa):EU (XD l e):=λx j=>h x (aa2 j)
def adI (l:AA Aa)(e:Aa)(hl:l.length<=1000)(hs:EU l)(j:e.bJ.length<=40):a6w l e=some (aJS l e):=by
 have h1:=aBW l e;have h2:=(lZ (hs.from e)).1;unfold a6w;rw[aMG l e hl j];simp only[Ac];rw[aDz _ AL (hs.from e)];simp only[Ac];rw[aF _ _ AL];rfl
def aWS (l:AA Aa)(e:Aa)(hl:l.length<=1000)(hs:EU l)(j:e.bJ.length<=40):a0m l e=some (aJS l e):=by
 have h1:=aBW l e;have h2:=(lZ (hs.from e)).1;unfold a0m;rw[aOh l e hl j];simp only[Ac];rw[aGN _ AL];simp only[Ac];rw[Yz _ _ AL];rfl
def TU (e:Aa):AV:=bif e.Kind==2 then(e.Content.N==0||e.Content.N==4)&& !(decide (e.Key=e.bQ))else e.Kind==3||e.Kind==4
theorem aaY (e:Aa):a2J e=some (TU e):=by
 unfold a2J a4F TU;rw[JA];by_cases h2:e.Kind=2
 ·simp[h2]
  grind
 grind
theorem aaP (e:Aa):a1u e=some (TU e):=by
 unfold a1u TU;rw[JA]
 grind
theorem aQt (l:AA Int)(x:Int)(h:l.length<=1099511627776):yN l x=some (if l.findIdx (· ==x)<l.length then((l.findIdx (· ==x):Nat):Int)else -1):=by
 unfold yN aOY;rw[JY l (fuel_lt h) (· ==x) (λi=>some (i:Int)) (some (-1))]
 ·split<;>rfl
 ·intro k i hi;unfold aD6;rw[D8 hi]
  grind
 intro k;unfold aD6;rw[EG]
theorem aNl (l:AA Int)(x:Int):decide (l.findIdx (· ==x)<l.length)=ET l x:=by
 rw[U8,Lm,Iu,dZ]
 grind
def uN (l:AA Int)(x:Int)(h:l.length<=1099511627776):oq l x=some (ET l x):=by
 unfold oq;rw[aQt l x h,←aNl];by_cases hl:l.findIdx (· ==x)<l.length
 ·rw[ES hl,Lp hl];simp
 rw[EZ hl,JF hl];rfl
def aSo (l:AA Int)(x:Int)(h:l.length<=1099511627776):qC l x=some (ET l x):=by
 unfold qC;rw[uN l x h];rfl
def ev (l:AA Aa)(id:Int):Aa:=(IZ l id).1
def Z4 (l:AA Aa)(id:Int):AV:=dJ l id&&TU (ev l id)
def Qz (l:AA Aa)(full:AA Int):AA Int:=full.filter (Z4 l)
def YS (l:AA Aa)(full:AA Int):AA Int:=F7 (Qz l full++full.filter (ET (chainOf l (Qz l full))))
variable {x:Int}
theorem aIU {full:AA Int}:x∈YS l full↔x∈full/\(Z4 l x=true\/OD l (Qz l full) x):=by
 unfold YS;rw[MP,Je,Ji,Lm,aLJ];unfold Qz
 grind
def aTM (l:AA Aa)(full:AA Int):Inc (YS l full):=Ll _
def aJN (p:Int->AV):∀(S r:AA Int),S.foldl (λr x=>bif p x then r++[x]else r) r=r++S.filter p
 | [],r=>BU
 |x::S,r=>by
  rw[Gu,aJN p S,U4];cases p x<;>simp
theorem afi (l:AA Aa)(full:AA Int)(hl:l.length<=1000)(hs:EU l)(I:full.length<=120000)(j:(Qz l full).length<=100000):a1E l full=some (YS l full):=by
 unfold a1E aTI;rw[H8 (a0:=[]) full AL (λr x=>bif Z4 l x then r++[x]else r) (λi r=>r.length<=i) (λr=>(YF l r).bind λq=>aFd full q r 0) (Ec _)]
 ·have z:full.foldl (λr x=>bif Z4 l x then r++[x]else r) []=Qz l full:=by rw[aJN];rfl
  have J:=iE l (Qz l full);rw[z,aJG l _ hl hs.amk j];simp only[Ac];unfold aFd;rw[H8 full AL (λr x=>bif ET (chainOf l (Qz l full)) x then r++[x]else r) (λi r=>r.length<=(Qz l full).length+i) (λr=>some (F7 r)) (Ec _)]
  ·rw[aJN];rfl
  ·intro k r i h u;refine⟨?_,?_⟩
   ·cases ET (chainOf l (Qz l full)) full[i]with
    |false=>
     grind
    |true=>
     show(r++[full[i]]).length<=(Qz l full).length+(i+1);simp;omega
   unfold aJK a6J;rw[D8 h,aSo _ _ AL];simp only[Ac];rw[Dp Fp]
   grind
  intro k r u;unfold aJK;rw[EG,Zv _ AL];rfl
 ·intro k r i h u;refine⟨?_,?_⟩
  ·cases Z4 l full[i]with
   |false=>
    grind
   |true=>
    show(r++[full[i]]).length<=i+1;simp;omega
  unfold aLl a6s;rw[D8 h,NG l _ AL];simp only[Ac];rw[Dp Fp];unfold Z4 dJ ev;rw[aaY,Nj];cases(En l full[i]).isSome<;>cases TU (IZ l full[i]).1<;>rfl
 intro k r _;unfold aLl;rw[EG]
def OD.aIH {i:Int}(hi:i∈ids)(h:OD l [i] x):OD l ids x:=by
 induction h with
 |one h j q=>rw[Np.1 h]at j;exact .one hi j q
 |more h j q u=>exact .more u j q
def OD.split:OD l ids x↔∃i∈ids,OD l [i] x:=by
 constructor
 ·intro h
  induction h with
  |one h j q=>exact⟨_,h,.one (Np.2 rfl) j q⟩
  |more h j q u=>obtain⟨i,h1,h2⟩:=u;exact⟨i,h1,.more h2 j q⟩
 rintro⟨i,h1,h2⟩;exact .aIH h1 h2
def OD.dJ (h:OD l ids x):dJ l x=true:=by cases h<;>assumption
def eM (h r:AA Int)(y:Int):AA Int:=bif ET h y then put r y else r
def a5S (h:AA Int):∀(c r:AA Int),Inc r->Inc (c.foldl (eM h) r)/\∀x,x∈c.foldl (eM h) r↔x∈r\/x∈c/\x∈h
 | [],r,j=>⟨j,λx=>BU⟩
 |y::c,r,j=>by
  rw[Gu];unfold eM;cases u:ET h y with
  |true=>
   obtain⟨h1,h2⟩:=a5S h c (put r y) (Pn j);refine⟨h1,λx=>(h2 x).trans ?_⟩;rw[XY,FI];constructor
   ·rintro((h3|rfl)|h3)
    ·exact .inl h3
    ·exact .inr ⟨.inl rfl,Lm.1 u⟩
    exact .inr ⟨.inr h3.1,h3.2⟩
   rintro(h3|⟨rfl|h3,q⟩)
   ·exact .inl (.inl h3)
   ·exact .inl (.inr rfl)
   exact .inr ⟨h3,q⟩
  |false=>
   obtain⟨h1,h2⟩:=a5S h c r j;refine⟨h1,λx=>(h2 x).trans ⟨λh3=>h3.imp id λh3=>⟨Ii _ h3.1,h3.2⟩,λh3=>h3.imp id λh3=>⟨?_,h3.2⟩⟩⟩;rcases FI.1 h3.1 with rfl|q
   ·exact absurd h3.2 (PW.1 u)
   exact q
def dL (l:AA Aa)(h r:AA Int)(x:Int):AA Int:=bif TU (ev l x)then(chainOf l [x]).foldl (eM h) (put r x)else r
def aG8 (l:AA Aa)(h:AA Int):∀(c r:AA Int),Inc r->Inc (c.foldl (dL l h) r)/\∀x,x∈c.foldl (dL l h) r↔x∈r\/∃i∈c,TU (ev l i)=true/\(x=i\/OD l [i] x/\x∈h)
 | [],r,u=>⟨u,λx=>BU⟩
 |y::c,r,u=>by
  rw[Gu];unfold dL;cases z:TU (ev l y)with
  |true=>
   obtain⟨I,J⟩:=a5S h (chainOf l [y]) (put r y) (Pn u);obtain⟨h1,h2⟩:=aG8 l h c _ I;refine⟨h1,λx=>(h2 x).trans ?_⟩;rw[J x,XY,aLJ];constructor
   ·rintro(((h3|rfl)|h3)|⟨i,h3,q⟩)
    ·exact .inl h3
    ·exact .inr ⟨x,I8 ..,z,.inl rfl⟩
    ·exact .inr ⟨y,I8 ..,z,.inr h3⟩
    exact .inr ⟨i,Ii _ h3,q⟩
   rintro(h3|⟨i,h3,q,j⟩)
   ·exact .inl (.inl (.inl h3))
   rcases FI.1 h3 with rfl|h3
   ·rcases j with rfl|j
    ·exact .inl (.inl (.inr rfl))
    exact .inl (.inr j)
   exact .inr ⟨i,h3,q,j⟩
  |false=>
   obtain⟨h1,h2⟩:=aG8 l h c r u;refine⟨h1,λx=>(h2 x).trans ⟨λh3=>h3.imp id λ⟨i,q,j⟩=>⟨i,Ii _ q,j⟩,λh3=>h3.imp id λ⟨i,q,j,L⟩=>⟨i,?_,j,L⟩⟩⟩;rcases FI.1 q with rfl|q
   ·rw[z]at j;cases j
   exact q
theorem ajp (l:AA Aa)(full:AA Int):(Fr l full).foldl (dL l (Fr l full)) []=YS l full:=by
 obtain⟨h1,h2⟩:=aG8 l (Fr l full) (Fr l full) [] .nil;refine Du h1 (aTM _ _) λx=>(h2 x).trans ?_;rw[aIU,Ny,OD.split];unfold Qz Z4;constructor
 ·rintro(h3|⟨i,h3,j,q⟩)
  ·grind
  have u:=Ny.1 h3
  grind
 rintro⟨h3,j|⟨i,j,q⟩⟩
 ·rw[ED]at j;exact .inr ⟨x,Ny.2 ⟨h3,j.1⟩,j.2,.inl rfl⟩
 rw[Ji,ED]at j;exact .inr ⟨i,Ny.2 ⟨j.1,j.2.1⟩,j.2.2,.inr ⟨q,h3,q.dJ⟩⟩
def aXh (l:AA Aa)(full:AA Int)(hl:l.length<=1000)(hs:EU l)(L:full.length<=100000):a0y l full=some (YS l full):=by
 unfold a0y;rw[aTk l full hl L];simp only[Ac];have M:(Fr l full).length<=l.length:=lD (gy l full) λx q=>(Ny.1 q).2;unfold aQZ;rw[H8 (a0:=[]) (Fr l full) AL (dL l (Fr l full)) (λ_ r=>Inc r/\∀x∈r,dJ l x=true) (λr=>some r) ⟨.nil,λx q=>absurd q Gh⟩]
 ·rw[ajp]
 ·intro k r i h u;have z:dJ l (Fr l full)[i]=true:=(Ny.1 (Et h)).2;have O:=lD u.1 u.2;have g:=a5S (Fr l full) (chainOf l [(Fr l full)[i]]) (put r (Fr l full)[i]) (Pn u.1);refine⟨?_,?_⟩
  ·unfold dL;cases TU (ev l (Fr l full)[i])with
   |false=>exact u
   |true=>
    refine⟨g.1,λx q=>?_⟩;rcases(g.2 x).1 q with h3|h3
    ·rcases XY.1 h3 with h3|rfl
     ·exact u.2 x h3
     exact z
    exact(Ny.1 h3.2).2
  unfold aJY rQ;rw[D8 h,KU l _ AL];simp only[Ac];rw[aaP,CM h];simp only[Ac];rw[kQ _ _ AL];simp only[Ac];rw[aIu l _ hl hs.amk BU];simp only[Ac];unfold dL;show(cond (TU (ev l (Fr l full)[i])) _ _)=_;cases TU (ev l (Fr l full)[i])with
  |false=>rfl
  |true=>
   simp only[Bj];have hc:=iE l [(Fr l full)[i]];unfold aMy
   rw[H8 (chainOf l [(Fr l full)[i]]) AL (eM (Fr l full)) (λ_ r=>Inc r/\∀x∈r,dJ l x=true) (λr=>k r (Az ((i:Int)+1))) ⟨Pn u.1,λx q=>by
    rcases XY.1 q with h3|rfl
    ·exact u.2 x h3
    exact z⟩]
   ·intro k2 U j J I;have Y:=lD I.1 I.2;refine⟨?_,?_⟩
    ·unfold eM;cases Z:ET (Fr l full) (chainOf l [(Fr l full)[i]])[j]with
     |false=>exact I
     |true=>
      refine⟨Pn I.1,λx q=>?_⟩;rcases XY.1 q with h3|rfl
      ·exact I.2 x h3
      exact(Ny.1 (Lm.1 Z)).2
    unfold aDT a1M;rw[D8 J,Xt _ _ AL,CM J];simp only[Ac];rw[kQ _ _ AL];unfold eM;cases ET (Fr l full) (chainOf l [(Fr l full)[i]])[j]<;>rfl
   intro k2 U _;unfold aDT rQ;rw[EG]
 intro k r _;unfold aJY;rw[EG]
def a6X (l:AA Aa)(full:AA Int):(YS l full).length<=l.length:=
 lD (aTM l full) λx j=>by
  rcases(aIU.1 j).2 with h|h
  ·unfold Z4 at h;rw[ED]at h;exact h.1
  exact h.dJ
def GK (l:AA Aa)(id:Int):RN:=⟨id,aJS l (ev l id),(ev l id).Time,chainOf l [id]⟩
def oQ (l:AA Aa)(left:AA Int)(x:Int):AV:= !left.any λy=>ET (chainOf l [x]) y
def fQ (a b:RN):AV:=bif a.SG != b.SG then decide (a.SG>b.SG)else decide (a.CX<b.CX)
def JH (l:AA Aa)(left:AA Int)(b:AB Int)(x:Int):AB Int:=bif oQ l left x&&(match b with |none=>true|some y=>fQ (GK l x) (GK l y))then some x else b
def Vq (l:AA Aa)(left:AA Int):AB Int:=left.foldl (JH l left) none
def OJ (l:AA Aa):Nat->AA Int->AA Int
 |0,_=>[]
 |n+1,left=>match Vq l left with
  |none=>[]
  |some b=>b::OJ l n (left.filter (· != b))
theorem aMD (l:AA Aa):∀ids:AA Int,ids.flatMap (λid=>bif dJ l id then[GK l id]else[])=(ids.filter (dJ l)).map (GK l)
 | []=>
  rfl
 |i::ids=>by
  rw[OZ,aMD l ids,U4]
  grind
theorem ali (l:AA Aa)(ids:AA Int)(hl:l.length<=1000)(hs:EU l)(hi:ids.length<=100000):a6j l ids=some ((Fr l ids).map (GK l)):=by
 unfold a6j;rw[Zv ids AL];simp only[Ac];have hsl:=LU ids;unfold aNk;rw[H8 (a0:=[]) (F7 ids) AL (λr id=>r++bif dJ l id then[GK l id]else[]) (λi r=>r.length<=i) (λr=>some r) (Ec _)]
 ·rw[foldl_append (λid=>bif dJ l id then[GK l id]else[]),IE,aMD];rfl
 ·intro k r i h z;refine⟨?_,?_⟩
  ·grind
  unfold aDw aBj;rw[D8 h,NG l _ AL];simp only[Ac];unfold dJ;cases j:En l (F7 ids)[i]with
  |none=>
   rw[RS j];simp
  |some e=>
   have u:=hs e (NK j);have q:ev l (F7 ids)[i]=e:=by unfold ev;rw[NS j]
   rw[NS j];simp only[Bj,Option.isSome_some];rw[adI l e hl hs u.auth,aJG l _ hl hs.amk BU];simp only[Ac];rw[Dp Fp];unfold GK;rw[q];rfl
 intro k r _;unfold aDw;rw[EG]
theorem aNb (l:AA Aa)(left:AA Int):∀(c:AA Int) (b:AB Int) {x:Int},c.foldl (JH l left) b=some x->b=some x\/x∈c
 | [],b,x,h=>.inl h
 |y::c,b,x,h=>by
  rw[Gu]at h;rcases aNb l left c _ h with h1|h1
  ·have key:∀c:AV,(cond c (some y) b)=some x->b=some x\/x=y:=λc j=>by
    grind
   rcases key _ h1 with h2|h2
   ·exact .inl h2
   grind
  grind
variable {left:AA Int}
def af0 (h:Vq l left=some x):x∈left:=by
 rcases aNb l left left none h with h|h
 ·cases h
 exact h
variable {j:Nat}
theorem aRi (u:left.Nodup)(z:j<left.length):left.take j++left.drop (j+1)=left.filter (· != left[j]):=by
 have e:left=left.take j++left[j]::left.drop (j+1):=by rw[←MW z,ZT]
 have q:(left.take j++left[j]::left.drop (j+1)).Nodup:=by rw[←e];exact u
 have h1:=a3u.1 q;have h2:=LC.1 h1.2.1
 have J:(left.take j).filter (· != left[j])=left.take j:=zf.2 λx I=>by
  grind
 have L:(left.drop (j+1)).filter (· != left[j])=left.drop (j+1):=zf.2 λx I=>by
  grind
 grind
def aMB (q:left.Nodup){b:Int}(u:b∈left):(left.filter (· != b)).length+1=left.length:=by
 obtain⟨j,z,rfl⟩:=Ih u;rw[←aRi q z,Ed,Gz,NP];omega
def aak (h:Inc left)(b:Int):PX left [b]=left.filter (· != b):=by
 unfold PX;rw[ab5 h];congr 1;funext x;by_cases e:x=b
 ·subst e;simp[ET]
 simp[ET,e]
theorem ab6 (l:AA Aa)(hl:l.length<=1000):∀(m:Nat) (left q:AA Int) (N:Nat),left.length=m->Inc left->(∀x∈left,dJ l x=true)->q.length+left.length<=1000000->m<N->aP Yo N (left.map (GK l)) q=some (q++OJ l m left):=by
 intro m
 induction m with
 |zero=>
  intro left q N hm hi hk hacc hN;obtain⟨N,rfl⟩:∃N',N=N'+1:=⟨N-1,AL⟩
  have :left=[]:=Hd hm;subst this;show Yo _ _ _=_;unfold Yo OJ;simp
 |succ m ih=>
  intro left q N hm hi hk hacc hN;obtain⟨N,rfl⟩:∃N',N=N'+1:=⟨N-1,AL⟩
  have hll:=lD hi hk;refine dW.eq ?_;show dW (Yo (aP Yo N) _ _) _;have ih':=λleft' acc' h1 h2 h3 h4=>ih left' acc' N h1 h2 h3 h4 AL;generalize aP Yo N=K at ih';unfold Yo;rw[show decide (((left.map (GK l)).length:Int)>0)=true by rw[Di];simp;omega];simp only[Bj];unfold aNF;refine TD (body:=aLc (left.map (GK l)) K) (λm2 a b c=>∃i:Nat,b=i/\i+m2=left.length/\c=q/\((a= -1/\(left.take i).foldl (JH l left) none=none)\/∃(j:Nat) (I:j<left.length),a=(j:Int)/\(left.take i).foldl (JH l left) none=some left[j])) ?_ Am left.length (-1) 0 q (fuel_lt AL) ⟨0,rfl,AL,rfl,.inl ⟨rfl,rfl⟩⟩;rintro m2 a b c k ⟨i,rfl,hm2,rfl,hI⟩ J;unfold aLc;by_cases M:i<left.length
  ·have U:i<(left.map (GK l)).length:=by rw[Di];exact M
   rw[dec_lt U,CM U,TF];simp only[Bj,Ac]
   have hst:(left.take (i+1)).foldl (JH l left) none=JH l left ((left.take i).foldl (JH l left) none) left[i]:=by
    rw[NU M,Qk];rfl
   unfold aTo;have hc:=iE l [left[i]]
   have hin:∀(k2:Int->Int->AA Int->AB (AA Int)),aP (Z8 (left.map (GK l)) (GK l left[i]) k2 (i:Int) a) Am 0 c=bif oQ l left left[i]then(cond (a<0) (YB k2 (i:Int) a true c) ((Aj (left.map (GK l)) a).bind λx27=>(iF (GK l left[i]) x27).bind λx28=>YB k2 (i:Int) a x28 c))else gu k2 (i:Int) a c:=by
    intro k2
    have key:∀n (j:Nat),j+n=left.length->∀m,n<m->aP (Z8 (left.map (GK l)) (GK l left[i]) k2 (i:Int) a) m (j:Int) c=bif !(left.drop j).any (λy=>ET (chainOf l [left[i]]) y)then(cond (a<0) (YB k2 (i:Int) a true c) ((Aj (left.map (GK l)) a).bind λx27=>(iF (GK l left[i]) x27).bind λx28=>YB k2 (i:Int) a x28 c))else gu k2 (i:Int) a c:=by
     intro n
     induction n with
     |zero=>
      intro j I m hm;obtain⟨m,rfl⟩:∃m',m=m'+1:=⟨m-1,AL⟩
      have :j=left.length:=AL
      subst this;show Z8 _ _ _ _ _ _ _ _=_;unfold Z8;rw[show decide ((left.length:Int)<((left.map (GK l)).length:Int))=false by rw[Di];exact DN _,Ox];rfl
     |succ n ihn=>
      intro j I m hm;obtain⟨m,rfl⟩:∃m',m=m'+1:=⟨m-1,AL⟩
      have hjl:j<left.length:=AL
      have aK7:j<(left.map (GK l)).length:=by rw[Di];exact hjl
      have Y:=ihn (j+1) AL m AL;show Z8 _ _ _ _ _ (aP _ m) _ _=_;generalize aP (Z8 (left.map (GK l)) (GK l left[i]) k2 (i:Int) a) m=L at Y;unfold Z8;rw[D8 aK7,TF];show((qC (chainOf l [left[i]]) left[j]).bind _)=_;rw[aSo _ _ AL,wrap_succ j AL,MW hjl,List.any_cons];simp only[Ac];cases ET (chainOf l [left[i]]) left[j]with
      |true=>
       rfl
      |false=>
       simp only[BN,RJ];exact Y
    exact key left.length 0 AL Am (fuel_lt AL)
   rw[hin];have hw:=wrap_succ i AL;unfold YB gu;rw[hw];cases O:oQ l left left[i]with
   |false=>
    simp only[BN];refine J (m2-1) _ _ _ AL ⟨i+1,rfl,AL,rfl,?_⟩;have e:JH l left ((left.take i).foldl (JH l left) none) left[i]=(left.take i).foldl (JH l left) none:=by unfold JH;rw[O];rfl
    rw[hst,e];exact hI
   |true=>
    simp only[Bj];rcases hI with⟨rfl,Z⟩|⟨j,I,rfl,Z⟩
    ·rw[show decide ((-1:Int)<0)=true by decide];simp only[Bj];refine J (m2-1) _ _ _ AL ⟨i+1,rfl,AL,rfl,.inr ⟨i,M,rfl,?_⟩⟩;rw[hst,Z];unfold JH;rw[O];rfl
    have u:j<(left.map (GK l)).length:=by rw[Di];exact I
    rw[show decide ((j:Int)<0)=false by simp,CM u,TF];simp only[BN,Ac]
    have e1:iF (GK l left[i]) (GK l left[j])=some (fQ (GK l left[i]) (GK l left[j])):=by
     unfold iF fQ
     grind
    rw[e1];simp only[Ac];cases ha:fQ (GK l left[i]) (GK l left[j])with
    |true=>
     simp only[Bj];refine J (m2-1) _ _ _ AL ⟨i+1,rfl,AL,rfl,.inr ⟨i,M,rfl,?_⟩⟩;rw[hst,Z];unfold JH;rw[O];simp only[ha];rfl
    |false=>
     simp only[BN];refine J (m2-1) _ _ _ AL ⟨i+1,rfl,AL,rfl,.inr ⟨j,I,rfl,?_⟩⟩;rw[hst,Z];unfold JH;rw[O];simp only[ha];rfl
  have hie:i=left.length:=AL
  subst hie;rw[show decide ((left.length:Int)<((left.map (GK l)).length:Int))=false by rw[Di];exact DN _];simp only[BN];rw[Gn]at hI;have z:OJ l (m+1) left=match Vq l left with |none=>[]|some b=>b::OJ l m (left.filter (· != b)):=rfl
  rcases hI with⟨rfl,Z⟩|⟨j,I,rfl,Z⟩
  ·rw[show decide ((-1:Int)<0)=true by decide];refine .ret ?_;have h1:Vq l left=none:=Z;rw[z,h1];simp
  have u:j<(left.map (GK l)).length:=by rw[Di];exact I
  rw[show decide ((j:Int)<0)=false by simp,CM u,TF];simp only[BN,Ac];have h1:Vq l left=some left[j]:=Z;rw[Dp Fp];simp only[Ac];rw[xU (Nat.le_of_lt u),wrap_succ j AL,Xk u];simp only[Ac];rw[Dp (by rw[Gz,NP,Di];omega)];simp only[Ac]
  have e2:(left.map (GK l)).take j++(left.map (GK l)).drop (j+1)=(left.filter (· != left[j])).map (GK l):=by
   rw[←aRi (ZN hi) I,J8,YM,fP]
  rw[e2];have hwl:=aMB (ZN hi) (Et I);rw[ih' (left.filter (· != left[j])) (c++[(GK l left[j]).nN]) AL (hi.sublist Uj) (λx hx=>hk x ((Ji.1 hx).1)) Va];refine .ret ?_;rw[z,h1,Il];rfl
def agO (l:AA Aa)(ids:AA Int)(hl:l.length<=1000)(hs:EU l)(hi:ids.length<=100000):a3O l ids=some (OJ l (Fr l ids).length (Fr l ids)):=by
 have q:(Fr l ids).length<=l.length:=lD (gy l ids) λx j=>(Ny.1 j).2;unfold a3O;rw[ali l ids hl hs hi];simp only[Ac];unfold aUB;rw[ab6 l hl _ (Fr l ids) [] Am rfl (gy l ids) (λx j=>(Ny.1 j).2) RD (fuel_lt AL)];rfl
def abL (l:AA Aa)(left:AA Int)(x:Int)(hl:l.length<=1000)(hs:EU l)(j:left.length<=100000):a4Q l left x=some (oQ l left x):=by
 unfold a4Q;rw[aIu l _ hl hs.amk BU];simp only[Ac];have q:=iE l [x];unfold aNc;rw[Gj (chainOf l [x]) (fuel_lt AL) (λy=>ET left y) false (some true)]
 ·unfold oQ
  have e:(chainOf l [x]).any (λy=>ET left y)=left.any λy=>ET (chainOf l [x]) y:=by
   rw[U8,KX,KX];simp only[Lm];exact⟨λ⟨y,a,b⟩=>⟨y,b,a⟩,λ⟨y,a,b⟩=>⟨y,b,a⟩⟩
  rw[e];cases left.any λy=>ET (chainOf l [x]) y<;>rfl
 ·intro k i h;unfold aJO;rw[D8 h,Xt _ _ AL];simp only[Ac]
 intro k;unfold aJO;rw[EG]
def aKb {R A B C D:Type}{Q:R->Prop}{body:(A->B->C->D->AB R)->A->B->C->D->AB R}(I:Nat->A->B->C->D->Prop)(hs:∀m a b c d k,I m a b c d->(∀j a' q u z,j<m->I j a' q u z->dW (k a' q u z) Q)->dW (body k a b c d) Q):
 ∀n m a b c d,m<n->I m a b c d->dW (WV body n a b c d) Q
 |0,m,_,_,_,_,h,_=>AL
 |n+1,m,a,b,c,d,h,hi=>hs m a b c d _ hi λj a' q u z h' J=>aKb I hs n j a' q u z AL J
def Qn (h:dJ l x=true):En l x=some (ev l x)/\(ev l x).Id=x:=by
 unfold dJ at h;obtain⟨e,j⟩:=Qi.1 h;have :ev l x=e:=by unfold ev;rw[NS j]
 rw[this];exact⟨j,aW2 j⟩
theorem alq (l:AA Aa)(x y:Int)(hl:l.length<=1000)(hs:EU l)(j:dJ l x=true)(q:dJ l y=true)(u:y<x):a2f l (ev l x) (ev l y)=some (fQ (GK l x) (GK l y)):=by
 obtain⟨z,J⟩:=Qn j;obtain⟨I,L⟩:=Qn q;unfold a2f;rw[aWS l _ hl hs (hs _ (NK z)).auth,aWS l _ hl hs (hs _ (NK I)).auth];simp only[Ac];unfold fQ GK
 grind
def ake (l:AA Aa)(hl:l.length<=1000)(hs:EU l):∀(m:Nat) (left q:AA Int) (N:Nat),left.length=m->Inc left->(∀x∈left,dJ l x=true)->q.length+left.length<=1000000->m<N->aP (Yp l) N left q=some (q++OJ l m left):=by
 intro m
 induction m with
 |zero=>
  intro left q N hm hi Y hacc hN;obtain⟨N,rfl⟩:∃N',N=N'+1:=⟨N-1,AL⟩
  have :left=[]:=Hd hm;subst this;show Yp _ _ _ _=_;unfold Yp OJ;simp
 |succ m ih=>
  intro left q N hm hi Y hacc hN;obtain⟨N,rfl⟩:∃N',N=N'+1:=⟨N-1,AL⟩
  have hll:=lD hi Y;refine dW.eq ?_;show dW (Yp l (aP (Yp l) N) _ _) _;have ih':=λO acc' h1 h2 h3 h4=>ih O acc' N h1 h2 h3 h4 AL;generalize aP (Yp l) N=K at ih';unfold Yp;rw[show decide ((left.length:Int)>0)=true by simp;omega];simp only[Bj];unfold aMX;refine aKb (body:=aDe left l K) (λZ a b c d=>∃i:Nat,b=i/\i+Z=left.length/\c=q/\((a=false/\(left.take i).foldl (JH l left) none=none)\/∃(j:Nat) (J:j<left.length),j<i/\a=true/\d=ev l left[j]/\(left.take i).foldl (JH l left) none=some left[j])) ?_ Am left.length false 0 q FU (fuel_lt AL) ⟨0,rfl,AL,rfl,.inl ⟨rfl,rfl⟩⟩;rintro Z a b c d k ⟨i,rfl,hm2,rfl,hI⟩ L;unfold aDe;by_cases u:i<left.length
  ·rw[dec_lt u,CM u];simp only[Bj,Ac];rw[KU l _ AL];simp only[Ac];rw[abL l left _ hl hs AL];simp only[Ac]
   have hst:(left.take (i+1)).foldl (JH l left) none=JH l left ((left.take i).foldl (JH l left) none) left[i]:=by
    rw[NU u,Qk];rfl
   unfold a4z;rw[wrap_succ i AL];cases M:oQ l left left[i]with
   |false=>
    simp only[BN,Ac];refine L (Z-1) _ _ _ _ AL ⟨i+1,rfl,AL,rfl,?_⟩;have e:JH l left ((left.take i).foldl (JH l left) none) left[i]=(left.take i).foldl (JH l left) none:=by unfold JH;rw[M];rfl
    rw[hst,e];rcases hI with z|⟨j,J,U,z⟩
    ·exact .inl z
    exact .inr ⟨j,J,AL,z⟩
   |true=>
    simp only[Bj];rcases hI with⟨rfl,z⟩|⟨j,J,U,rfl,rfl,z⟩
    ·simp only[Ip,Bj,Ac];refine L (Z-1) _ _ _ _ AL ⟨i+1,rfl,AL,rfl,.inr ⟨i,u,AL,rfl,rfl,?_⟩⟩;rw[hst,z];unfold JH;rw[M];rfl
    simp only[Eh,BN];have hlt2:left[j]<left[i]:=KJ.1 hi j i J u U;have e1:=alq l left[i] left[j] hl hs (Y _ (Et u)) (Y _ (Et J)) hlt2;rw[show(IZ l left[i]).1=ev l left[i]from rfl,e1];simp only[Ac];cases ha:fQ (GK l left[i]) (GK l left[j])with
    |true=>
     simp only[Bj];refine L (Z-1) _ _ _ _ AL ⟨i+1,rfl,AL,rfl,.inr ⟨i,u,AL,rfl,rfl,?_⟩⟩;rw[hst,z];unfold JH;rw[M];simp only[ha];rfl
    |false=>
     simp only[BN];refine L (Z-1) _ _ _ _ AL ⟨i+1,rfl,AL,rfl,.inr ⟨j,J,AL,rfl,rfl,?_⟩⟩;rw[hst,z];unfold JH;rw[M];simp only[ha];rfl
  have hie:i=left.length:=AL
  subst hie;rw[DN];simp only[BN];rw[Gn]at hI;have I:OJ l (m+1) left=match Vq l left with |none=>[]|some b=>b::OJ l m (left.filter (· != b)):=rfl
  rcases hI with⟨rfl,z⟩|⟨j,J,U,rfl,rfl,z⟩
  ·refine .ret ?_;have h1:Vq l left=none:=z;rw[I,h1];simp
  simp only[Eh,BN];have h1:Vq l left=some left[j]:=z;have hid:=(Qn (Y _ (Et J))).2;rw[hid,Dp Fp];simp only[Ac];rw[a1q _ _ AL BU,aak hi];simp only[Ac];have hwl:=aMB (ZN hi) (Et J);rw[ih' (left.filter (· != left[j])) (c++[left[j]]) AL (hi.sublist Uj) (λx hx=>Y x ((Ji.1 hx).1)) Va];refine .ret ?_;rw[I,h1,Il];rfl
def aXp (l:AA Aa)(ids:AA Int)(hl:l.length<=1000)(hs:EU l)(hi:ids.length<=100000):a6x l ids=some (OJ l (Fr l ids).length (Fr l ids)):=by
 have q:(Fr l ids).length<=l.length:=lD (gy l ids) λx j=>(Ny.1 j).2;unfold a6x;rw[aTk l ids hl hi];simp only[Ac];unfold aPw;rw[ake l hl hs _ (Fr l ids) [] Am rfl (gy l ids) (λx j=>(Ny.1 j).2) RD (fuel_lt AL)];rfl
theorem aOS (l:AA Aa):∀(n:Nat) (left:AA Int) {x:Int},x∈OJ l n left->x∈left
 |0,_,_,h=>absurd h Gh
 |n+1,left,x,h=>by
  unfold OJ at h;cases j:Vq l left with
  |none=>
   grind
  |some b=>
   rw[j]at h;rcases FI.1 h with rfl|h
   ·exact af0 j
   exact(Ji.1 (aOS l n _ h)).1
def aXI (l:AA Aa):∀(n:Nat) (left:AA Int),(OJ l n left).length<=n
 |0,_=>Ec _
 |n+1,left=>by
  unfold OJ;cases Vq l left with
  |none=>exact Ef _
  |some b=>have :=aXI l n (left.filter (· != b));simp only[GN];omega
def Ru (l:AA Aa)(e:Aa):Option Int:=e.bJ.find? λid=>dJ l id&&(ev l id).Kind==3
def bY (l:AA Aa)(e:Aa):Int×AV:=match Ru l e with |some x=>(x,true)|none=>(0,false)
def aUe (l:AA Aa)(e:Aa)(hl:l.length<=1000)(j:e.bJ.length<=40):yY l e=some (bY l e):=by
 unfold yY aNZ;rw[JY e.bJ (fuel_lt AL) (λid=>dJ l id&&(ev l id).Kind==3) (λi=>some (match e.bJ[i]? with |some x=>(x,true)|none=>(0,false))) (some (0,false))]
 ·unfold bY Ru;rw[Jj];by_cases h:e.bJ.findIdx (λid=>dJ l id&&(ev l id).Kind==3)<e.bJ.length
  ·rw[ES h]
  rw[EZ h,Ns AL]
 ·intro k i h;unfold aKi;rw[D8 h,NG l _ AL,EM h];simp only[Ac];unfold dJ ev;rw[Nj];cases(En l e.bJ[i]).isSome<;>rfl
 intro k;unfold aKi;rw[EG]
def alI (l:AA Aa)(e:Aa)(hl:l.length<=1000)(j:e.bJ.length<=40):aAO l e=some (bY l e):=by
 unfold aAO aSh;rw[JY e.bJ (fuel_lt AL) (λid=>dJ l id&&(ev l id).Kind==3) (λi=>some (match e.bJ[i]? with |some x=>(x,true)|none=>(0,false))) (some (0,false))]
 ·unfold bY Ru;rw[Jj];by_cases h:e.bJ.findIdx (λid=>dJ l id&&(ev l id).Kind==3)<e.bJ.length
  ·rw[ES h]
  rw[EZ h,Ns AL]
 ·intro k i h;unfold aIj;rw[D8 h,KU l _ AL,EM h,CM h];simp only[Ac];unfold dJ ev;rw[Nj];cases(En l e.bJ[i]).isSome<;>rfl
 intro k;unfold aIj;rw[EG]
def Ou (l:AA Aa):Nat->AA Int->Int->AA Int
 |0,seen,_=>seen
 |n+1,seen,id=>bif ET seen id|| !dJ l id then seen else match Ru l (ev l id)with
  |none=>seen++[id]
  |some x=>Ou l n (seen++[id]) x
def ig (l:AA Aa)(id:Int):AA Int:=Ou l l.length [] id
structure V9 (l:List Aa) (seen:List Int):Prop where
 nodup:seen.Nodup
 known:∀x∈seen,dJ l x=true
variable {seen:AA Int}
def V9.length (h:V9 l seen):seen.length<=l.length:=by
 rw[←(St seen).length_eq,aOy h.nodup];exact lD (Ll _) λx j=>h.known x (MP.1 j)
theorem V9.snoc (h:V9 l seen){id:Int}(h1:id∉seen)(h2:dJ l id=true):V9 l (seen++[id]):=by
 refine⟨a3u.2 ⟨h.nodup,BU,λa ha b q=>?_⟩,λx j=>?_⟩
 ·grind
 rcases Je.1 j with j|j
 ·exact h.known x j
 grind
def aWk (l:AA Aa):∀(n:Nat) (seen:AA Int) (id:Int),V9 l seen->V9 l (Ou l n seen id)
 |0,_,_,h=>h
 |n+1,seen,id,h=>by
  unfold Ou;cases j:ET seen id|| !dJ l id with
  |true=>exact h
  |false=>
   rw[a1h,PW]at j;have h2:=h.snoc j.1 (by simpa using j.2);simp only[BN];cases Ru l (ev l id)with
   |none=>exact h2
   |some x=>exact aWk l n _ x h2
def aQe (l:AA Aa):∀(n:Nat) (seen:AA Int) (id:Int),∃t,Ou l n seen id=seen++t
 |0,seen,_=>⟨[],by simp[Ou]⟩
 |n+1,seen,id=>by
  unfold Ou;cases ET seen id|| !dJ l id with
  |true=>exact⟨[],BU⟩
  |false=>
   simp only[BN];cases Ru l (ev l id)with
   |none=>exact⟨[id],rfl⟩
   |some x=>
    obtain⟨t,j⟩:=aQe l n (seen++[id]) x;exact⟨id::t,by simp only[j,Il];rfl⟩
def aW9 (l:AA Aa)(id:Int):(ig l id).length<=l.length:=(aWk l _ [] id ⟨WZ,λx j=>absurd j Gh⟩).length
def anE (l:AA Aa)(hl:l.length<=1000)(hs:EU l)(Y Z:AA Int):∀(m:Nat) (seen:AA Int) (id:Int) (N:Nat),seen.length+m=l.length->V9 l seen->m<N->GR ZA N seen seen Y Z id l=some (Ou l m seen id):=by
 intro m
 induction m with
 |zero=>
  intro seen id N hm u hN;obtain⟨N,rfl⟩:∃N',N=N'+1:=⟨N-1,AL⟩
  have I:=u.length;show ZA _ _ _ _ _ _ _=_;unfold ZA;rw[uN _ _ AL,NG l _ AL];simp only[Ac];rw[Nj];cases J:ET seen id with
  |true=>rfl
  |false=>
   cases q:(En l id).isSome with
   |false=>rfl
   |true=>
    have h2:=(u.snoc (PW.1 J) q).length;simp only[Ed,QK]at h2;omega
 |succ m ih=>
  intro seen id N hm u hN;obtain⟨N,rfl⟩:∃N',N=N'+1:=⟨N-1,AL⟩
  have I:=u.length;show ZA (GR ZA N) _ _ _ _ _ _=_;have z:=λj L h1 h2=>ih j L N h1 h2 AL;generalize GR ZA N=K at z;unfold ZA Ou;rw[uN _ _ AL,NG l _ AL];simp only[Ac];rw[Nj];cases J:ET seen id with
  |true=>rfl
  |false=>
   cases q:(En l id).isSome with
   |false=>rw[show dJ l id=false from q];rfl
   |true=>
    obtain⟨e,U⟩:=Qi.1 q;rw[show dJ l id=true from q];simp only[Ip,Eh,MJ,Bj,BN];rw[Dp Fp];simp only[Ac];unfold a6E;simp only[BN];rw[Dp Fp];simp only[Ac];have M:(IZ l id).1=ev l id:=rfl
    have O:(ev l id).bJ.length<=40:=by
     have :ev l id=e:=by unfold ev;rw[NS U]
     rw[this];exact(hs e (NK U)).auth
    rw[M,aUe l _ hl O];simp only[Ac];unfold bY;cases Ru l (ev l id)with
    |none=>rfl
    |some x=>exact z (seen++[id]) x Va (u.snoc (PW.1 J) q)
def ah9 (l:AA Aa)(id:Int)(hl:l.length<=1000)(hs:EU l):a5I l id=some (ig l id):=by
 unfold a5I xg aRf;exact anE l hl hs [] [] l.length [] id Am BU ⟨WZ,λx j=>absurd j Gh⟩ (fuel_lt AL)
def aks (l:AA Aa)(hl:l.length<=1000)(hs:EU l):∀(m:Nat) (seen:AA Int) (id:Int) (i N:Nat),i+m=l.length->seen.length<=i->m<N->iK (Zj l) N seen id (i:Int)=some (Ou l m seen id):=by
 intro m
 induction m with
 |zero=>
  intro seen id i N hm M O;obtain⟨N,rfl⟩:∃N',N=N'+1:=⟨N-1,AL⟩
  have :i=l.length:=AL
  subst this;show Zj _ _ _ _ _=_;unfold Zj;rw[DN];rfl
 |succ m U=>
  intro seen id i N hm M O;obtain⟨N,rfl⟩:∃N',N=N'+1:=⟨N-1,AL⟩
  show Zj _ (iK (Zj l) N) _ _ _=_;have q:=λj u Y h1 h2=>U j u Y N h1 h2 AL;generalize iK (Zj l) N=K at q;unfold Zj Ou;rw[dec_lt AL,KU l _ AL,Xt _ _ AL];simp only[Bj,Ac];rw[Nj];cases z:(En l id).isSome with
  |false=>rw[show dJ l id=false from z];cases ET seen id<;>rfl
  |true=>
   rw[show dJ l id=true from z];cases Z:ET seen id with
   |true=>rfl
   |false=>
    obtain⟨e,L⟩:=Qi.1 z;simp only[Eh,MJ,BN,Ac];rw[Dp Fp];simp only[Ac];have I:(IZ l id).1=ev l id:=rfl
    have J:(ev l id).bJ.length<=40:=by
     have :ev l id=e:=by unfold ev;rw[NS L]
     rw[this];exact(hs e (NK L)).auth
    rw[I,alI l _ hl J,wrap_succ i AL];simp only[Ac];unfold bY;cases Ru l (ev l id)with
    |none=>rfl
    |some x=>exact q (seen++[id]) x (i+1) AL Va
def aWe (l:AA Aa)(id:Int)(hl:l.length<=1000)(hs:EU l):qY l id=some (ig l id):=by
 unfold qY aUV;exact aks l hl hs l.length [] id 0 Am BU (Ec _) (fuel_lt AL)
def iJ (j way:AA Int):Int:=match way.find? (ET j)with |some x=>((j.findIdx (· ==x):Nat):Int)|none=>(j.length:Int)
def SH (l:AA Aa)(j:AA Int)(id:Int):Int:=iJ j (ig l id)
theorem acY (l:AA Aa)(j:AA Int)(hl:l.length<=1000)(hs:EU l)(hm:j.length<=100000):∀(m:Nat) (seen:AA Int) (z id:Int) (N:Nat),seen.length+m=l.length->V9 l seen->seen.find? (ET j)=none->m<N->DK YJ N seen j z id l=some (iJ j (Ou l m seen id)):=by
 have q:∀seen:AA Int,seen.find? (ET j)=none->iJ j seen=(j.length:Int):=λseen h=>by unfold iJ;rw[h]
 intro m
 induction m with
 |zero=>
  intro seen z id N hm M O hN;obtain⟨N,rfl⟩:∃N',N=N'+1:=⟨N-1,AL⟩
  have hwl:=M.length;show YJ _ _ _ _ _ _=_;unfold YJ;rw[uN _ _ AL,NG l _ AL];simp only[Ac];rw[Nj];have he:iJ j (Ou l 0 seen id)=(j.length:Int):=q seen O;rw[he];cases U:ET seen id with
  |true=>
   rfl
  |false=>
   cases L:(En l id).isSome with
   |false=>
    rfl
   |true=>
    have h2:=(M.snoc (PW.1 U) L).length;simp only[Ed,QK]at h2;omega
 |succ m ih=>
  intro seen z id N hm M O hN;obtain⟨N,rfl⟩:∃N',N=N'+1:=⟨N-1,AL⟩
  have hwl:=M.length;show YJ (DK YJ N) _ _ _ _ _=_;have Y:=λJ z' id' h1 h2 h3=>ih J z' id' N h1 h2 h3 AL;generalize DK YJ N=K at Y;unfold YJ vg;rw[uN _ _ AL,NG l _ AL,aQt _ _ AL];simp only[Ac];rw[Nj];have Z:Ou l (m+1) seen id=bif ET seen id|| !dJ l id then seen else match Ru l (ev l id)with |none=>seen++[id]|some x=>Ou l m (seen++[id]) x:=rfl
  cases U:ET seen id with
  |true=>
   grind
  |false=>
   cases L:(En l id).isSome with
   |false=>
    rw[Z,U,show dJ l id=false from L];simp only[RJ,Ip,Bj];rw[q seen O]
   |true=>
    obtain⟨e,he⟩:=Qi.1 L;rw[Z,U,show dJ l id=true from L];simp only[Ip,Eh,MJ,Bj,BN];have u:=aNl j id;by_cases I:j.findIdx (· ==id)<j.length
    ·rw[ES I,show decide (((j.findIdx (· ==id):Nat):Int)>=0)=true by simp];simp only[Bj];rw[Lp I]at u
     have hex:∃t,(match Ru l (ev l id)with |none=>seen++[id]|some x=>Ou l m (seen++[id]) x)=seen++[id]++t:=by
      cases Ru l (ev l id)with
      |none=>
       exact⟨[],BU⟩
      |some x=>
       exact aQe l m (seen++[id]) x
     obtain⟨t,ht⟩:=hex;rw[ht];unfold iJ;rw[aI4,aI4,O];simp[←u]
    rw[EZ I,show decide ((-1:Int)>=0)=false by decide];simp only[BN];rw[JF I]at u;rw[Dp Fp];simp only[Ac];have hev:(IZ l id).1=ev l id:=rfl
    have hea:(ev l id).bJ.length<=40:=by
     have :ev l id=e:=by unfold ev;rw[NS he]
     rw[this];exact(hs e (NK he)).auth
    have hf2:(seen++[id]).find? (ET j)=none:=by rw[aI4,O];simp[←u]
    rw[hev,aUe l _ hl hea];simp only[Ac];unfold bY;cases Ru l (ev l id)with
    |none=>
     grind
    |some x=>
     exact Y (seen++[id]) z x Va (M.snoc (PW.1 U) L) hf2
def akw (l:AA Aa)(j:AA Int)(id:Int)(hl:l.length<=1000)(hs:EU l)(hm:j.length<=100000):a1t l j id=some (SH l j id):=by
 unfold a1t xg aPn;exact acY l j hl hs hm l.length [] 0 id Am BU ⟨WZ,λx q=>absurd q Gh⟩ rfl (fuel_lt AL)
theorem aam (l:AA Int)(x:Int)(h:l.length<=100000):aB4 l x=some ((l.findIdx (· ==x):Nat):Int):=by
 unfold aB4 aUk;rw[JY l (fuel_lt AL) (· ==x) (λi=>some (i:Int)) (some (l.length:Int))]
 ·grind
 ·intro k i hi;unfold aCo;rw[D8 hi]
 intro k;unfold aCo;rw[EG]
theorem aX0 (l:AA Aa)(j:AA Int)(id:Int)(hl:l.length<=1000)(hs:EU l)(hm:j.length<=100000):a0j l j id=some (SH l j id):=by
 unfold a0j;rw[aWe l id hl hs];simp only[Ac];have q:=aW9 l id;unfold aVT SH iJ;generalize ig l id=W at q;rw[JY W (fuel_lt AL) (ET j) (λi=>some (match W[i]? with |some x=>((j.findIdx (· ==x):Nat):Int)|none=>0)) (some (j.length:Int))]
 ·rw[Jj]
  grind
 ·intro k i h;unfold aFp;rw[D8 h,Xt _ _ AL,CM h,EM h];simp only[Ac];rw[aam _ _ hm];rfl
 intro k;unfold aFp;rw[EG]
def FK (l:AA Aa)(j:AA Int)(id:Int):Ku:=⟨id,SH l j id,(ev l id).Time⟩
def uQ (x:Ku):Int×Int×Int:=(x.nN,x.zK,x.CX)
def IL (x y:Ku):AV:=LG (uQ x) (uQ y)
def VQ (l:AA Aa)(j ids:AA Int):AA Int:=(RX IL ((ids.filter (dJ l)).map (FK l j))).map (·.nN)
theorem aN2 (l:AA Aa)(j:AA Int):∀ids:AA Int,ids.flatMap (λid=>bif dJ l id then[FK l j id]else[])=(ids.filter (dJ l)).map (FK l j)
 | []=>
  rfl
 |i::ids=>by
  rw[OZ,aN2 l j ids,U4]
  grind
def am1 (s:AA Ku)(hs:s.length<=1000000)(z:(s.map (·.nN)).Nodup):iW s=some s:=by
 unfold iW;by_cases h2:s.length<2
 ·rw[show decide ((s.length:Int)<2)=true by simp;omega];rfl
 rw[show decide ((s.length:Int)<2)=false by simp;omega];simp only[BN];unfold aPC;refine dW.eq ?_;refine ZJ (body:=aAt) (λm a b=>∃i:Nat,a=i/\i+m=s.length/\0<i/\b=s) ?_ Am (s.length-1) 1 s (fuel_lt AL) ⟨1,rfl,AL,AL,rfl⟩;rintro m a b k ⟨i,rfl,hm,hi,rfl⟩ I;unfold aAt;by_cases j:i<b.length
 ·rw[dec_lt j,CM j];simp only[Bj,Ac];have w:Az ((i:Int)-1)=((i-1:Nat):Int):=OH
  have q:i-1<b.length:=AL
  rw[w,CM q];simp only[Ac]
  have u:b[i].nN≠b[i-1].nN:=by
   have :=KJ.1 z (i-1) i Yn Yn AL;simp only[TF]at this;exact λe=>this e.symm
  have J:wL b[i] b[i-1]=false:=by
   unfold wL;rw[show(b[i].nN==b[i-1].nN)=false by simpa using u];rfl
  rw[J,wrap_succ i AL];exact I (m-1) _ _ AL ⟨i+1,rfl,AL,AL,rfl⟩
 have :i=b.length:=AL
 subst this;rw[DN];exact .ret rfl
def aCi (l:AA Aa)(j:AA Int)(ids:AA Int):(ids.map (FK l j)).map (·.nN)=ids:=by
 rw[gY];exact List.map_id' ids
theorem aXl (l:AA Aa)(j ids:AA Int)(hl:l.length<=1000)(hs:EU l)(hm:j.length<=100000)(hi:ids.length<=100000)(O:ids.Nodup):a1S l j ids=some (VQ l j ids):=by
 unfold a1S aPu;rw[H8 (a0:=[]) ids AL (λr id=>r++bif dJ l id then[FK l j id]else[]) (λi r=>r.length<=i) (λJ=>(a3S J).bind λu=>(iW u).bind λz=>aDP z [] 0) (Ec _)]
 ·rw[foldl_append (λid=>bif dJ l id then[FK l j id]else[]),IE,aN2];have L:=Kt (dJ l) ids;have I:((ids.filter (dJ l)).map (FK l j)).length<=100000:=Yn
  unfold a3S a3Z;rw[ES AL];simp only[Ac];have e:(RX (λx y:Ku=>LG (x.nN,x.zK,x.CX) (y.nN,y.zK,y.CX)) ((ids.filter (dJ l)).map (FK l j)))=RX IL ((ids.filter (dJ l)).map (FK l j)):=rfl;rw[e];unfold VQ;have hp:=kM IL ((ids.filter (dJ l)).map (FK l j))
  have q:((RX IL ((ids.filter (dJ l)).map (FK l j))).map (·.nN)).Nodup:=by
   rw[(hp.map (·.nN)).nodup_iff,aCi]
   grind
  have hsl:(RX IL ((ids.filter (dJ l)).map (FK l j))).length<=100000:=by rw[hp.length_eq];exact I
  generalize RX IL ((ids.filter (dJ l)).map (FK l j))=S at q hsl;rw[am1 S AL q];simp only[Ac];unfold aDP;rw[H8 (a0:=[]) S AL (λr x=>r++[x.nN]) (λi r=>r.length<=i) (λr=>some r) (Ec _)]
  ·rw[foldl_append (λx:Ku=>[x.nN]),IE];congr 1;clear q hsl
   induction S with
   |nil=>
    rfl
   |cons x S U=>
    grind
  ·intro k r i h M;refine⟨a3L,?_⟩;unfold aEf;rw[D8 h,Dp Fp];rfl
  intro k r _;unfold aEf;rw[EG]
 ·intro k r i h M;refine⟨?_,?_⟩
  ·grind
  unfold aIn a5k;rw[D8 h,NG l _ AL];simp only[Ac];rw[Nj,akw l j _ hl hs hm];simp only[Ac];rw[Dp Fp];unfold dJ;cases(En l ids[i]).isSome with
  |true=>
   rfl
  |false=>
   simp
 intro k r _;unfold aIn;rw[EG]
theorem acf (l:AA Aa)(j:AA Int)(a b:Int)(hl:l.length<=1000)(hs:EU l)(hm:j.length<=100000):a5m l j a b=some (!IL (FK l j b) (FK l j a)):=by
 unfold a5m;rw[aX0 l j a hl hs hm,aX0 l j b hl hs hm,KU l a AL,KU l b AL];simp only[Ac]
 have q:(!IL (FK l j b) (FK l j a))=decide (SH l j b<SH l j a\/SH l j a=SH l j b/\((ev l a).Time<(ev l b).Time\/(ev l a).Time=(ev l b).Time/\a<b)):=by
  rw[U8,Vg,Iu];exact aPo (uQ (FK l j b)) (uQ (FK l j a))
 rw[q];show(cond (SH l j a != SH l j b) (some (decide (SH l j a>SH l j b))) (cond ((ev l a).Time != (ev l b).Time) (some (decide ((ev l a).Time<(ev l b).Time))) (some (decide (a<b)))))=_
 grind
def aId (x y z:Ku)(h:IL x y=true)(k:IL y z=true):IL x z=true:=aH0 _ _ _ h k
def aPM (x y:Ku)(h:IL x y=false):IL y x=true:=aSc _ _ h
theorem amD (x y:Ku)(h:IL x y=true)(k:IL y x=true):x=y:=by
 have :=aXL _ _ h k;unfold uQ at this;cases x;cases y
 grind
def Yr (l:AA Aa)(j:AA Int)(q:AA Int)(x:Int):AA Int:=q.take (q.findIdx λa=>IL (FK l j x) (FK l j a))++x::q.drop (q.findIdx λa=>IL (FK l j x) (FK l j a))
def aWv (l:AA Aa)(j q:AA Int)(x:Int):(Yr l j q x).Perm (x::q):=by
 unfold Yr;refine aBy.trans ?_;rw[ZT]
def aXd (l:AA Aa)(j q:AA Int)(x:Int)(h:q.Pairwise λa b=>IL (FK l j a) (FK l j b)=true):(Yr l j q x).Pairwise λa b=>IL (FK l j a) (FK l j b)=true:=by
 unfold Yr
 have I:∀a∈q.take (q.findIdx λa=>IL (FK l j x) (FK l j a)),IL (FK l j a) (FK l j x)=true:=by
  intro a ha;obtain⟨i,hi,rfl⟩:=Ih ha;have z:i<q.findIdx λa=>IL (FK l j x) (FK l j a):=by simp at hi;omega
  have :=List.not_of_lt_findIdx z;rw[a5x];exact aPM _ _ aEv
 have ha:∀d∈q.drop (q.findIdx λa=>IL (FK l j x) (FK l j a)),IL (FK l j x) (FK l j d)=true:=by
  intro d hd;obtain⟨i,hi,rfl⟩:=Ih hd;rw[NP]at hi;have u:(q.findIdx λa=>IL (FK l j x) (FK l j a))<q.length:=AL
  have J:=List.findIdx_getElem (w:=u);rw[List.getElem_drop];rcases X0 i with rfl|hp
  ·simpa using J
  exact aId _ _ _ J (KJ.1 h _ _ u AL AL)
 refine a5h.2 ⟨h.sublist (List.take_sublist _ _),QI.2 ⟨ha,h.sublist (List.drop_sublist _ _)⟩,λa h1 b h2=>?_⟩;rcases FI.1 h2 with rfl|h2
 ·exact I a h1
 exact aId _ _ _ (I a h1) (ha b h2)
def Y9 (l:AA Aa)(j:AA Int)(q:AA Int)(x:Int):AA Int:=bif dJ l x then Yr l j q x else q
theorem aYa (l:AA Aa)(j ids:AA Int):ids.foldl (Y9 l j) []=VQ l j ids:=by
 have key:∀(ids q:AA Int),q.Pairwise (λa b=>IL (FK l j a) (FK l j b)=true)->(ids.foldl (Y9 l j) q).Pairwise (λa b=>IL (FK l j a) (FK l j b)=true)/\(ids.foldl (Y9 l j) q).Perm (ids.filter (dJ l)++q):=by
  intro ids
  induction ids with
  |nil=>
   grind
  |cons x ids u=>
   intro q h;rw[Gu,U4];unfold Y9;cases dJ l x with
   |false=>
    exact u q h
   |true=>
    obtain⟨h1,h2⟩:=u (Yr l j q x) (aXd l j q x h);refine⟨h1,h2.trans ?_⟩;simp only[JK,YT];exact((aWv l j q x).append_left _).trans aBy
 obtain⟨h1,h2⟩:=key ids [] .nil;rw[Rs]at h2;unfold VQ
 have h3:(ids.foldl (Y9 l j) []).map (FK l j)=RX IL ((ids.filter (dJ l)).map (FK l j)):=
  aMw aId aPM amD (h2.map _) (aG3.2 h1)
 rw[←h3,aCi]
theorem ahV (l:AA Aa)(q ids:AA Int)(hl:l.length<=1000)(hs:EU l)(hm:q.length<=100000)(hi:ids.length<=100000)(O:ids.Nodup):aBU l q ids=some (VQ l q ids):=by
 unfold aBU aUn;rw[H8 (a0:=[]) ids AL (Y9 l q) (λi r=>r.length<=i/\∀x∈r,x∈ids.take i) (λr=>some r) ⟨Ec _,λx I=>absurd I Gh⟩]
 ·rw[aYa]
 ·intro k r i h ⟨U,J⟩;have u:ids.take (i+1)=ids.take i++[ids[i]]:=NU h
  have M:ET r ids[i]=false:=PW.2 λhm=>by
   obtain⟨j,z,e⟩:=Ih (J _ hm);rw[a5x]at e;rw[Gz]at z;exact KJ.1 O j i AL h AL e
  refine⟨?_,?_⟩
  ·unfold Y9;cases dJ l ids[i]with
   |false=>
    grind
   |true=>
    have hp:=aWv l q r ids[i];refine⟨?_,λx I=>?_⟩
    ·show(Yr l q r ids[i]).length<=i+1;rw[hp.length_eq,GN];omega
    rw[u];rcases FI.1 (hp.mem_iff.1 I)with rfl|I
    ·exact a6a _ (Np.2 rfl)
    exact qQ _ (J x I)
  unfold aFW a0o;rw[D8 h,KU l _ AL,CM h];simp only[Ac];rw[Xt _ _ AL,M,Nj];unfold Y9 dJ;cases(En l ids[i]).isSome with
  |false=>
   rfl
  |true=>
   simp only[Eh,BN,Ac,Bj];unfold aSn
   have L:∀(k2:Int->AB (AA Int)) (j:Nat),j<=r.length->wG k2 (j:Int) r ids (i:Int) k false=k (r.take j++ids[i]::r.drop j) (Az ((i:Int)+1)):=by
    intro k2 j z;unfold wG a0o;simp only[BN];rw[Xk z];simp only[Ac];rw[Dp EY];simp only[Ac,IE];rw[xU z,CM h];simp only[Ac];rw[Dp EY];simp only[Ac];rw[Dp EY];simp
   rw[JY r (fuel_lt AL) (λa=>IL (FK l q ids[i]) (FK l q a)) (λj=>k (r.take j++ids[i]::r.drop j) (Az ((i:Int)+1))) (k (r.take r.length++ids[i]::r.drop r.length) (Az ((i:Int)+1)))]
   ·unfold Yr;split
    ·rfl
    rename_i h2
    have :(r.findIdx λa=>IL (FK l q ids[i]) (FK l q a))=r.length:=by
     grind
    rw[this]
   ·intro k2 j z;unfold aJU;rw[dec_lt z,CM z,CM h];simp only[Bj,Ac];rw[acf l q _ _ hl hs hm];simp only[Ac];cases IL (FK l q ids[i]) (FK l q r[j])with
    |true=>
     grind
    |false=>
     rfl
   intro k2;unfold aJU;rw[DN];simp only[BN];rw[L k2 r.length (Ec _)]
 intro k r _;unfold aFW;rw[EG]
def afe {j:AA Int}:x∈VQ l j ids↔x∈ids/\dJ l x=true:=by
 unfold VQ;rw[((kM IL ((ids.filter (dJ l)).map (FK l j))).map (·.nN)).mem_iff,aCi,Ji]
theorem aku (l:AA Aa)(j ids:AA Int):(VQ l j ids).length<=ids.length:=by
 unfold VQ;rw[Di,(kM _ _).length_eq,Di]
 grind
def OL (c:Int):AV:=(decide (c>=97)&&(c<=122))||(decide (c>=48)&&(c<=57))
theorem aO6 (c:Int):nE c=some (OL c):=by
 unfold nE OL
 grind
theorem aLY (c:Int):fO c=some (OL c):=by
 unfold fO OL
 grind
def RI (l:AA Int)(p:Int->AV):AV:=decide ((l.length:Int)>=1)&&((l.length:Int)<=32)&&l.all λc=>OL c||p c
def isLocal (c:Int):AV:=c==95||c==46||c==45||c==61
def XO (c:Int):AV:=c==46||c==45
def X8 (l:AA Int):AV:=RI l isLocal
def YW (l:AA Int):AV:=RI l XO&&OL (l.getD 0 0)&&OL (l.getD (l.length-1) 0)
variable {n:Nat}
def aLi (h:n<=9223372036854775807):n<Am:=jl
variable {s:BL}
theorem aWp (hs:s.size<=9223372036854775807)(f:Int->AB AV)(p:Int->AV)(j:∀c,f c=some (p c)):dI s f=some (RI (DL s) p):=by
 have hl:aJw s f 0=some ((DL s).all λc=>OL c||p c):=by
  unfold aJw;rw[Gj (DL s) aA (λc=> !(OL c||p c)) false (some true) ?_ ?_,Md,aLd]
  ·intro k i h;have h':i<s.size:=WJ
   simp only[aGT,dec_lt h',Bj,Vf h,aO6,j,Ac]
   grind
  intro k;simp only[aGT,IX,DN,BN]
 unfold dI RI;rw[hl,IX]
 grind
def afZ (hs:s.size<=9223372036854775807):dI s (λa0=>a07 a0)=some (RI (DL s) isLocal):=aWp hs _ isLocal (λc=>by unfold a07 isLocal;cases c==95<;>cases c==46<;>cases c==45<;>cases c==61<;>rfl)
def aXZ (hs:s.size<=9223372036854775807):dI s (λa0=>vV a0)=some (RI (DL s) XO):=aWp hs _ XO (λc=>by unfold vV XO;cases c==46<;>cases c==45<;>rfl)
def abz (hs:s.size<=9223372036854775807):aAj s=some (X8 (DL s)):=by
 unfold aAj X8;rw[afZ hs];rfl
def aAd (h:0<s.size):Hz s 0=some ((DL s).getD 0 0):=by
 have h':0<(DL s).length:=a0v
 rw[aYF h'];simp[List.getD,h']
def aMF (h:0<s.size)(hs:s.size<=9223372036854775807):Hz s (Az ((s.size:Int)-1))=some ((DL s).getD ((DL s).length-1) 0):=by
 have h':s.size-1<(DL s).length:=by rw[IX];omega
 rw[P5 AL AL,show(s.size:Int)-1=((s.size-1:Nat):Int) by omega,Vf h'];have h2:(DL s).length-1=s.size-1:=by rw[IX]
 rw[h2];simp[List.getD,h']
theorem aVr {l:AA Int}{p:Int->AV}(h:RI l p=true):0<l.length/\l.length<=32:=by
 unfold RI at h
 grind
def ajN (hs:s.size<=9223372036854775807):a3l s=some (YW (DL s)):=by
 unfold a3l YW;rw[aXZ hs];simp only[Ac];cases j:RI (DL s) XO with
 |false=>rfl
 |true=>
  have hp:0<s.size:=by have :=(aVr j).1;rwa [IX]at this
  simp only[Bj,aAd hp,aMF hp hs,aO6,Ac];cases OL ((DL s).getD 0 0)<;>simp
theorem amP (hs:s.size<=9223372036854775807):a0x s=some (cond (YW (DL s)) 0 3):=by
 have hl:aH8 s 0=some (bif (DL s).all λc=>OL c||XO c then 0 else 3):=by
  unfold aH8;rw[Gj (DL s) aA (λc=> !(OL c||XO c)) 3 (some 0) ?_ ?_,Md,←aLd]
  ·grind
  ·intro k i h;have h':i<s.size:=WJ
   simp only[aIN,dec_lt h',Bj,Vf h,aLY,Ac,XO,bne]
   grind
  intro k;simp only[aIN,IX,DN,BN]
 have j:decide ((s.size:Int)>=1)= !decide ((s.size:Int)<1):=by by_cases h:(s.size:Int)<1<;>simp[h]<;>omega
 have q:decide ((s.size:Int)<=32)= !decide ((s.size:Int)>32):=by by_cases h:(s.size:Int)>32<;>simp[h]<;>omega
 unfold a0x YW RI;rw[hl];rw[show((DL s).length:Int)=(s.size:Int) by rw[IX],j,q];by_cases h1:(s.size:Int)<1
 ·simp[h1]
 have hp:0<s.size:=AL
 simp only[aAd hp,aMF hp hs,aLY,Ac];cases decide ((s.size:Int)<1)<;>cases decide ((s.size:Int)>32)<;>cases OL ((DL s).getD 0 0)<;>cases OL ((DL s).getD ((DL s).length-1) 0)<;>cases((DL s).all λc=>OL c||XO c)<;>rfl
theorem akP (hs:s.size<=9223372036854775807):aB8 s=some (X8 (DL s)):=by
 unfold aB8 aMH;rw[Gj (DL s) aA (λc=> !(OL c||isLocal c)) false (some (decide ((s.size:Int)>=1)&&((s.size:Int)<=32))) ?_ ?_]
 ·unfold X8 RI;rw[←aLd,IX]
  grind
 ·intro k i h;have h':i<s.size:=WJ
  simp only[aKQ,dec_lt h',Bj,Vf h,aLY,Ac,isLocal,bne]
  grind
 intro k;simp only[aKQ,IX,DN,BN]
 grind
def aQr (s:BL):(DL s).length=s.data.toList.length:=by simp[DL]
def GX (s:BL):Nat:=(DL s).findIdx (· ==58)
def aLk (s:BL):GX s<=s.size:=by unfold GX;rw[←IX];exact List.findIdx_le_length
theorem aPZ (hs:s.size<=9223372036854775807):uz s=some (GX s:Int):=by
 unfold uz aTZ;rw[JY (DL s) aA (· ==58) (λi=>some (i:Int)) (some (s.size:Int)) ?_ ?_]
 ·have :=aLk s;by_cases h:(DL s).findIdx (· ==58)<(DL s).length
  ·rw[ES h];rfl
  rw[EZ h];congr 2;unfold GX at this ⊢;rw[IX]at h;omega
 ·intro k i h;have h':i<s.size:=WJ
  simp only[aDc,dec_lt h',Bj,Vf h,Ac,bne]
  grind
 intro k;simp only[aDc,IX,DN,BN,Ac]
def Un (s:BL):BL:=s.extract 1 (GX s)
def Rl (s:BL):BL:=s.extract (GX s+1) s.size
def XQ (s:BL):AV:=decide (GX s<s.size)&&X8 (DL (Un s))&&YW (DL (Rl s))
def HY (s:BL)(m:Int):AV:=decide (0<s.size)&&(DL s).getD 0 0==m&&XQ s
def extract_size (s:BL)(a b:Nat):(s.extract a b).size<=s.size:=by rw[aGg];omega
theorem aQC (h:0<s.size)(hm:(DL s).getD 0 0≠58):1<=GX s:=by
 unfold GX;have hl:0<(DL s).length:=a0v
 grind
variable {m:Int}
def a4R (hs:s.size<=9223372036854775807)(hm:m≠58):aV s m=some (HY s m):=by
 unfold aV HY;by_cases j:0<s.size
 ·rw[show decide ((s.size:Int)<1)=false from by simp;omega,show decide (0<s.size)=true by simpa using j];simp only[BN,aAd j,Ac,bne];cases u:(DL s).getD 0 0==m with
  |false=>rfl
  |true=>
   have q:(DL s).getD 0 0=m:=Qy
   have h1:=aQC j (by rw[q];exact hm);have h2:=aLk s;simp only[Eh,BN,aPZ hs,Ac,GV];unfold XQ;by_cases h3:GX s<s.size
   ·have z:OC s 1 (GX s:Int)=some (Un s):=oL (lo:=1) h1 h2
    have I:OC s (Az ((GX s:Int)+1)) (s.size:Int)=some (Rl s):=by
     rw[P5 AL AL,show(GX s:Int)+1=((GX s+1:Nat):Int) by omega];exact oL AL (Ec _)
    rw[show decide ((GX s:Int)<(s.size:Int))=true from by simpa using h3,show decide (GX s<s.size)=true by simpa using h3];have J:(Un s).size<=9223372036854775807:=EK (extract_size _ _ _) hs;have L:(Rl s).size<=9223372036854775807:=EK (extract_size _ _ _) hs;simp only[Bj,z,I,akP J,amP L,Ac];cases X8 (DL (Un s))<;>cases YW (DL (Rl s))<;>rfl
   rw[show decide ((GX s:Int)<(s.size:Int))=false from by simpa using h3,show decide (GX s<s.size)=false by simpa using h3];rfl
 rw[show decide ((s.size:Int)<1)=true from by simp;omega,show decide (0<s.size)=false by simpa using j];rfl
def splitB (s:BL)(b:AV):BL×BL×AV:=bif b then(Un s,Rl s,true)else(Ci,Ci,false)
theorem aYw (b c:UInt8):(b==c)=(((b.toNat:Nat):Int)==((c.toNat:Nat):Int)):=by
 by_cases h:b=c
 ·subst h;simp
 have :¬b.toNat=c.toNat:=λe=>h (UInt8.toNat_inj.1 e)
 grind
def aWb (s:BL)(c:UInt8):s.data.toList.findIdx (· ==c)=(DL s).findIdx (· ==((c.toNat:Nat):Int)):=by
 unfold DL;rw[List.findIdx_map];congr 1;funext b;exact aYw b c
def ams (s:BL):∀x∈DL s,0<=x/\x<256:=by
 intro x j;unfold DL at j;rw[Hl]at j;obtain⟨c,_,rfl⟩:=j;have :=c.toNat_lt;omega
theorem getD_mem (h:0<s.size):(DL s).getD 0 0∈DL s:=by
 have hl:0<(DL s).length:=a0v
 have e:(DL s).getD 0 0=(DL s)[0]:=by simp[List.getD,hl]
 grind
variable {c:Int}
theorem aYL (marks:BL)(j:0<=c)(h1:c<256):decide (Lib.indexByte marks.data.toList c.toNat.toUInt8<0)= !(DL marks).contains c:=by
 have e:(((c.toNat.toUInt8).toNat:Nat):Int)=c:=by
  rw[Nat.toUInt8,UInt8.toNat_ofNat'];omega
 rw[aF6,aWb,e,←aQr marks]
 grind
theorem aMI (s:BL)(a b:Nat):(s.extract 1 s.size).extract a b=s.extract (1+a) (min (1+b) s.size):=by
 refine bytes_inj ?_;simp only[aSY];have :(DL s).take s.size=DL s:=Qa (by rw[IX];omega);rw[this,List.take_drop,aDD]
 grind
def aas (h:0<s.size)(hm:(DL s).getD 0 0≠58):(DL (s.extract 1 s.size)).findIdx (· ==58)+1=GX s:=by
 unfold GX;rw[aSY];have :(DL s).take s.size=DL s:=Qa (by rw[IX];omega);rw[this];have hl:0<(DL s).length:=a0v
 match j:DL s with
 | []=>rw[j]at hl;simp at hl
 |c::l=>
  rw[j]at hm;simp only[List.getD_cons_zero]at hm;rw[Ws,show(c==58)=false from by simpa using hm];rfl
theorem akf (hs:s.size<=9223372036854775807)(h:0<s.size)(hm:(DL s).getD 0 0≠58):∃a b,strings_Cut (s.extract 1 s.size) uJ=some (a,b,decide (GX s<s.size))/\(GX s<s.size->a=Un s/\b=Rl s):=by
 have h1:=aQC h hm;have h2:=aLk s;have I:=aas h hm;have j:(s.extract 1 s.size).size=s.size-1:=by rw[aGg];omega
 have q:a4P (s.extract 1 s.size) uJ=some (if GX s<s.size then((GX s-1:Nat):Int)else -1):=by
  show some (Lib.indexByte (s.extract 1 s.size).data.toList 58)=_;rw[aF6,aWb,←aQr (s.extract 1 s.size)];show some (if(DL (s.extract 1 s.size)).findIdx (· ==58)<_ then(((DL (s.extract 1 s.size)).findIdx (· ==58):Nat):Int)else -1)=_;rw[IX,j]
  grind
 unfold strings_Cut aFF;rw[q,Ac];by_cases h3:GX s<s.size
 ·rw[ES h3,show decide (((GX s-1:Nat):Int)>=0)=true from by simp,show decide (GX s<s.size)=true by simpa using h3];have u:OC (s.extract 1 s.size) 0 ((GX s-1:Nat):Int)=some ((s.extract 1 s.size).extract 0 (GX s-1)):=oL (lo:=0) AL AL
  have z:OC (s.extract 1 s.size) (Az (((GX s-1:Nat):Int)+(uJ.size:Int))) ((s.extract 1 s.size).size:Int)=some ((s.extract 1 s.size).extract (GX s) (s.size-1)):=by
   rw[show(uJ.size:Int)=1 from rfl,P5 AL AL,show((GX s-1:Nat):Int)+1=((GX s:Nat):Int) by omega,j];exact oL AL AL
  simp only[Bj,u,z,Ac];refine⟨_,_,rfl,λ_=>⟨?_,?_⟩⟩
  ·rw[aMI];unfold Un;congr 1;omega
  rw[aMI];unfold Rl;rw[Vk 1 (GX s)];congr 1;omega
 rw[EZ h3,show decide ((-1:Int)>=0)=false from rfl,show decide (GX s<s.size)=false by simpa using h3];exact⟨_,_,rfl,λh=>absurd h h3⟩
theorem aKF (hs:s.size<=9223372036854775807){marks:BL}(u:∀m∈DL marks,m≠58):o9 s marks=some (splitB s ((DL marks).any λm=>HY s m)):=by
 unfold o9;by_cases q:0<s.size
 ·have z:(s.toList==Ci.toList)=false:=by
   rw[JA];simp only[yH];intro e;rw[e]at q;exact absurd q Bd
  have I:=ams s _ (getD_mem q)
  have j:((DL marks).any λm=>HY s m)=((DL marks).contains ((DL s).getD 0 0)&&XQ s):=by
   unfold HY
   grind
  rw[z,j];simp only[BN,aAd q,Ac,strings_IndexByte,aYL marks I.1 I.2];cases J:(DL marks).contains ((DL s).getD 0 0)with
  |false=>
   rfl
  |true=>
   have hm:(DL s).getD 0 0≠58:=u _ a0Y;obtain⟨a,b,L,M⟩:=akf hs q hm;have O:OC s 1 (s.size:Int)=some (s.extract 1 s.size):=oL (lo:=1) AL (Ec _);simp only[Eh,BN,O,L,Ac,GV];unfold XQ;cases h3:decide (GX s<s.size)with
   |false=>
    rfl
   |true=>
    obtain⟨rfl,rfl⟩:=M (VB h3);have U:(Un s).size<=9223372036854775807:=EK (extract_size _ _ _) hs;have Y:(Rl s).size<=9223372036854775807:=EK (extract_size _ _ _) hs;simp only[Eh,BN,abz U,ajN Y,Ac];cases X8 (DL (Un s))<;>cases YW (DL (Rl s))<;>rfl
 have Z:s.size=0:=AL
 have he:s=Ci:=bytes_inj (by
  have h1:DL s=[]:=Hd (by rw[IX];exact Z)
  rw[h1];rfl)
 have j:((DL marks).any λm=>HY s m)=false:=by
  rw[aD5];intro m _;unfold HY;rw[show decide (0<s.size)=false by simpa using q];simp
 rw[j,he,show(Ci.toList==Ci.toList)=true from by simp];rfl
def LH (s:BL):AV:=HY s 64||(HY s 33||false)
def an8 (hs:s.size<=9223372036854775807):o9 s aBS=some (splitB s (LH s)):=
 aKF hs (marks:=aBS) (by rw[show DL aBS=[64,33]from rfl];intro m hm;simp only[FI,Gh,or_false]at hm;omega)
def aNd (h:XQ s=true):GX s<s.size:=by unfold XQ at h;simp only[ED,Iu]at h;exact h.1.1
def kF (hs:s.size<=9223372036854775807):jq s=some (splitB s (LH s)).2.1/\qL s=some (splitB s (LH s)).2.1:=by
 have z:GX s<s.size->OC s (Az ((GX s:Int)+1)) (s.size:Int)=some (Rl s):=λh3=>by
  rw[P5 AL AL,show(GX s:Int)+1=((GX s+1:Nat):Int) by omega];exact oL AL (Ec _)
 unfold jq qL;rw[an8 hs,a4R hs Bd,a4R hs Bd,aPZ hs];refine⟨rfl,?_⟩;unfold LH;cases j:HY s 64 with
 |true=>
  have u:=aNd (s:=s) (by unfold HY at j;simp only[ED]at j;exact j.2);simp only[Ac,Eh,BN,z u,Bool.true_or];rfl
 |false=>
  cases q:HY s 33 with
  |true=>
   have u:=aNd (s:=s) (by unfold HY at q;simp only[ED]at q;exact q.2);simp only[Ac,Eh,Ip,BN,Bj,z u,RJ,Bool.true_or];rfl
  |false=>rfl
theorem aIx {R:Type}{body:(Int->A->AB R)->Int->A->AB R}(l:AA α)(hl:l.length<Am)(p:α->AV)(g:Nat->AB R)(rest:AB R)(a0:A)(u:∀k (i:Nat) (h:i<l.length),body k (i:Int) a0=bif p l[i]then g i else k (Az ((i:Int)+1)) a0)(z:∀k,body k (l.length:Int) a0=rest):
 aP body Am 0 a0=if l.findIdx p<l.length then g (l.findIdx p)else rest:=by
 have J:Am=9223372036854775808:=rfl
 have key:∀n (i:Nat),i+n=l.length->∀m,n<m->aP body m (i:Int) a0=if(l.drop i).findIdx p+i<l.length then g ((l.drop i).findIdx p+i)else rest:=by
  intro n
  induction n with
  |zero=>
   intro i hi m hm;obtain⟨m,rfl⟩:∃q,m=q+1:=⟨m-1,AL⟩
   have :i=l.length:=AL
   subst this;show body (aP body m) _ _=_;rw[z,Ox,EZ BU]
  |succ n I=>
   intro i hi m hm;obtain⟨m,rfl⟩:∃q,m=q+1:=⟨m-1,AL⟩
   have j:i<l.length:=AL
   show body (aP body m) _ _=_;rw[u _ i j,wrap_succ i AL,I (i+1) AL m AL,MW j,Ws];cases p l[i]with
   |true=>
    grind
   |false=>
    simp only[BN];rw[show(l.drop (i+1)).findIdx p+(i+1)=(l.drop (i+1)).findIdx p+1+i by omega]
 grind
def KI (l:AA Aa):Aa×AV:=match l.find? λx=>x.Kind==1 with |some x=>(x,true)|none=>(FU,false)
theorem aIf (l:AA Aa)(p:Aa->AV):(if l.findIdx p<l.length then(some (match l[l.findIdx p]? with |some x=>(x,true)|none=>(FU,false)))else some (FU,false))=some (match l.find? p with |some x=>(x,true)|none=>(FU,false)):=by
 rw[Jj]
 grind
def aW7 (l:AA Aa)(hl:l.length<=1000):a09 l=some (KI l):=by
 unfold a09 aRG;rw[aIx l (fuel_lt AL) (λx=>x.Kind==1) (λi=>some (match l[i]? with |some x=>(x,true)|none=>(FU,false))) (some (FU,false))]
 ·exact aIf l _
 ·intro k i h;unfold aLQ;rw[D8 h,EM h]
 intro k;unfold aLQ;rw[EG]
def aTs (l:AA Aa)(hl:l.length<=1000):zY l=some (KI l):=by
 unfold zY aPc;rw[aIx l (fuel_lt AL) (λx=>x.Kind==1) (λi=>some (match l[i]? with |some x=>(x,true)|none=>(FU,false))) (some (FU,false))]
 ·exact aIf l _
 ·intro k i h;unfold aHx;rw[D8 h,CM h,EM h];rfl
 intro k;unfold aHx;rw[EG]
def VU (u:BL)(x:Aa):AV:=x.Kind==2&&(x.Key=u)
def MB (l:AA Aa)(u:BL):Int:=match l.find? (VU u)with |some x=>x.Content.N|none=>0
def a5w (u:BL)(x:Aa):(cond (x.Kind==2) (some (x.Key.toList==u.toList)) (some false))=some (VU u x):=by
 unfold VU;rw[JA];cases x.Kind==2<;>rfl
theorem aE1 (l:AA Aa)(u:BL)(hl:l.length<=1000):jY l u=some (MB l u):=by
 unfold jY aMQ MB;rw[JY l (fuel_lt AL) (VU u) (λi=>some (match l[i]? with |some x=>x.Content.N|none=>0)) (some 0)]
 ·rw[Jj]
  grind
 ·intro k i h;unfold aHS;rw[D8 h,CM h,EM h];simp only[Ac];rw[a5w];rfl
 intro k;unfold aHS;rw[EG]
theorem aCN (l:AA Aa)(u:BL)(hl:l.length<=1000):ni l u=some (MB l u):=by
 unfold ni aPl MB;rw[JY l (fuel_lt AL) (VU u) (λi=>some (match l[i]? with |some x=>x.Content.N|none=>0)) (some 0)]
 ·rw[Jj]
  grind
 ·intro k i h;unfold aGx;rw[D8 h,CM h,EM h];simp only[Ac];rw[a5w];rfl
 intro k;unfold aGx;rw[EG]
def qF (e:Aa)(l:AA Aa):AV:=
 (KI l).2&&(e.bG.length==1&&(e.bG.getD 0 0==(KI l).1.Id&&(decide (e.bQ=(KI l).1.bQ)&&(decide (e.Key=(KI l).1.bQ)&&(e.Content.N==3&& !l.any (VU e.Key))))))
theorem aXg (e:Aa)(l:AA Aa)(hl:l.length<=1000):a2k e l=some (qF e l):=by
 have u:aJ3 l e 0=some (!l.any (VU e.Key)):=by
  unfold aJ3;rw[Gj l (fuel_lt AL) (VU e.Key) false (some true)]
  ·grind
  ·intro k i h;unfold aFB;rw[D8 h,a5w];rfl
  intro k;unfold aFB;rw[EG]
 unfold a2k qF ZP;rw[aW7 l hl];simp only[Ac];rw[u,JA,JA];cases(KI l).2 with
 |false=>
  rfl
 |true=>
  by_cases hp:e.bG.length=1
  ·have z:0<e.bG.length:=AL
   have j:((e.bG.length:Int) != 1)=false:=by rw[hp];rfl
   have q:(e.bG.length==1)=true:=a6T
   have I:Aj e.bG 0=some (e.bG.getD 0 0):=by
    have :Aj e.bG ((0:Nat):Int)=some e.bG[0]:=CM z
    grind
   rw[j,q,I];simp only[Ac,bne];cases e.bG.getD 0 0==(KI l).1.Id<;>cases decide (e.bQ=(KI l).1.bQ)<;>cases decide (e.Key=(KI l).1.bQ)<;>cases e.Content.N==3<;>rfl
  have j:((e.bG.length:Int) != 1)=true:=EY
  have q:(e.bG.length==1)=false:=a6T
  rw[j,q];rfl
theorem air (e:Aa)(l:AA Aa)(hl:l.length<=1000):aAp e l=some (qF e l):=by
 have u:a2m l e.Key=some (l.any (VU e.Key)):=by
  unfold a2m aN5;rw[Gj l (fuel_lt AL) (VU e.Key) true (some false)]
  ·grind
  ·intro k i h;unfold aCs;rw[D8 h,CM h];simp only[Ac];rw[a5w];rfl
  intro k;unfold aCs;rw[EG]
 unfold aAp qF Xc;rw[aTs l hl];simp only[Ac];rw[u,JA,JA];cases(KI l).2 with
 |false=>
  rfl
 |true=>
  by_cases hp:e.bG.length=1
  ·have z:0<e.bG.length:=AL
   have j:((e.bG.length:Int)==1)=true:=by rw[hp];rfl
   have q:(e.bG.length==1)=true:=a6T
   have I:Aj e.bG 0=some (e.bG.getD 0 0):=by
    have :Aj e.bG ((0:Nat):Int)=some e.bG[0]:=CM z
    grind
   rw[j,q,I];simp only[Ac];cases e.bG.getD 0 0==(KI l).1.Id<;>cases decide (e.bQ=(KI l).1.bQ)<;>cases decide (e.Key=(KI l).1.bQ)<;>cases e.Content.N==3<;>rfl
  have j:((e.bG.length:Int)==1)=false:=EY
  have q:(e.bG.length==1)=false:=a6T
  rw[j,q];rfl
def moveB (f t:Int)(s:AV):AV:=
 bif decide (f<0)||decide (f>4)then false else bif t==3 then s&&f != 4 else bif t==0 then f==1||f==2||f==3||(f==4&& !s)else bif t==2 then s&&(f==0||f==2)else bif t==1 then !s&&(f==0||f==2||f==1)else bif t==4 then !s else false
def aQa (f t:Int)(s:AV):WQ f t s=some (moveB f t s):=by
 unfold WQ moveB;simp only[Md,Ac,lX,Vp]
theorem alH (f t:Int)(s:AV):dc f t s=some (moveB f t s):=by
 rw[←aQa];by_cases j:f<0
 ·unfold dc WQ
  grind
 by_cases q:f>4
 ·unfold dc WQ
  grind
 by_cases u:t<0
 ·unfold dc WQ;rw[Lp u,JF j,JF q,show(t==3)=false by simp;omega,show(t==0)=false by simp;omega,show(t==2)=false by simp;omega,show(t==1)=false by simp;omega,show(t==4)=false by simp;omega];rfl
 by_cases z:t>4
 ·unfold dc WQ;rw[Lp z,JF u,JF j,JF q,show(t==3)=false by simp;omega,show(t==0)=false by simp;omega,show(t==2)=false by simp;omega,show(t==1)=false by simp;omega,show(t==4)=false by simp;omega];rfl
 have I:f=0\/f=1\/f=2\/f=3\/f=4:=AL
 have J:t=0\/t=1\/t=2\/t=3\/t=4:=AL
 rcases I with rfl|rfl|rfl|rfl|rfl<;>rcases J with rfl|rfl|rfl|rfl|rfl<;>cases s<;>decide
def ou (l:AA Aa):Int×AA BL:=match l.find? λx=>x.Kind==4 with |some x=>(x.Content.N,x.Content.Allow)|none=>(0,[])
theorem afs (l:AA Aa)(hl:l.length<=1000)(hs:EU l):a2F l=some (ou l):=by
 unfold a2F aNR ou;rw[JY l (fuel_lt AL) (λx=>x.Kind==4) (λi=>some (match l[i]? with |some x=>(x.Content.N,x.Content.Allow)|none=>(0,[]))) (some (0,[]))]
 ·rw[Jj]
  grind
 ·intro k i h;have ha:=(hs _ (Et h)).allow;unfold aH2;rw[D8 h,EM h,Dp RD];rfl
 intro k;unfold aH2;rw[EG]
theorem afK (l:AA Aa)(hl:l.length<=1000)(hs:EU l):aAq l=some (ou l):=by
 unfold aAq aWQ ou;rw[JY l (fuel_lt AL) (λx=>x.Kind==4) (λi=>some (match l[i]? with |some x=>(x.Content.N,x.Content.Allow)|none=>(0,[]))) (some (0,[]))]
 ·rw[Jj]
  grind
 ·intro k i h;have ha:=(hs _ (Et h)).allow;unfold aJx;rw[D8 h,CM h,EM h];simp only[Ac];rw[Dp RD];rfl
 intro k;unfold aJx;rw[EG]
def tK (j now:Int):Int:=bif now==3||j==1 then 0 else bif now==1&&(j==0||j==2||j==3)then 0 else 21
def sS (j now:Int):Int:=bif j==2&&(now==0||now==2)then 0 else 21
def abG (r n:Int):a1c r n=some (tK r n):=by
 unfold a1c wB aAQ tK;cases n==3<;>cases r==1<;>cases r==2<;>cases r==3<;>cases r==0<;>cases n==1<;>rfl
def aeC (r n:Int):a5L r n=some (tK r n):=by
 unfold a5L tK;cases n==3<;>cases r==1<;>cases r==2<;>cases r==3<;>cases r==0<;>cases n==1<;>rfl
theorem aXy (r n:Int):aA9 r n=some (sS r n):=by
 unfold aA9 aBx sS bne
 grind
theorem aZq (r n:Int):a5Z r n=some (sS r n):=by
 unfold a5Z sS
 grind
def zq (m now:Int)(l:AA Aa):Int:=bif m==3 then tK (ou l).1 now else bif m==2 then sS (ou l).1 now else 0
theorem abV (m now:Int)(l:AA Aa)(hl:l.length<=1000)(hs:EU l):a2O m now l=some (zq m now l):=by
 unfold a2O zq;rw[afs l hl hs];simp only[Ac];rw[abG,aXy]
 grind
theorem ahE (e:Aa)(now:Int)(l:AA Aa)(hl:l.length<=1000)(hs:EU l):aAW e l now=some (zq e.Content.N now l):=by
 unfold aAW zq;rw[afK l hl hs];simp only[Ac];rw[aeC,aZq]
 grind
def Ic (k:Int):AV:=decide (k>=1)&&(k<=10)
def aOz (k:Int):fJ k=some (Ic k):=by
 unfold fJ Ic;cases decide (k>=1)<;>rfl
def a2T (k:Int):UR k=some (Ic k):=by
 unfold UR Ic;cases decide (k>=1)<;>rfl
def aZ (v:Cm)(k:Int):Int:=match v.Kinds.find? λx=>x.Kind==k with |some x=>x.N|none=>bif Ic k then v.State else v.Message
theorem aG2 (v:Cm)(k:Int)(h:v.Kinds.length<=1000):oh v k=some (aZ v k):=by
 unfold oh aMe aZ;rw[JY v.Kinds (fuel_lt AL) (λx=>x.Kind==k) (λi=>some (match v.Kinds[i]? with |some x=>x.N|none=>0)) (some (cond (Ic k) v.State v.Message))]
 ·rw[Jj]
  grind
 ·intro k2 i h;unfold aKP;rw[D8 h,EM h]
 intro k2;unfold aKP;rw[EG,aOz];cases Ic k<;>rfl
theorem tZ (v:Cm)(k:Int)(h:v.Kinds.length<=1000):qN v k=some (aZ v k):=by
 unfold qN aRA aZ;rw[JY v.Kinds (fuel_lt AL) (λx=>x.Kind==k) (λi=>some (match v.Kinds[i]? with |some x=>x.N|none=>0)) (some (cond (Ic k) v.State v.Message))]
 ·rw[Jj]
  grind
 ·intro k2 i h;unfold aDi;rw[D8 h,CM h,EM h];rfl
 intro k2;unfold aDi;rw[EG,a2T];cases Ic k<;>rfl
def Xi (own j q:Int):AV:=j==q||(decide (j<=own)&&(q<=own))
def numsOf (v:Cm):AA Int:=[v.User,v.Message,v.State,v.gV,v.kN,v.oK,v.iq]
def uI (own:Int)(p:Int×Int):AV:= !Xi own p.1 p.2
def VN (own:Int)(j q:Cm)(x:J5):AV:= !Xi own (aZ j x.Kind) (aZ q x.Kind)
def J3 (own:Int)(j q:Cm)(u:BL)(x:H6):AV:= !(Xi own (FH j x.User) (FH q x.User)&&(FH j x.User==FH q x.User||(x.User=u)||(FH j x.User<own)))
def wZ (j u:Cm)(q:BL):Int:=
 bif ((numsOf j).zip (numsOf u)).any (uI (FH j q))then 20 else bif (j.Kinds++u.Kinds).any (VN (FH j q) j u)then 20 else bif (j.Users++u.Users).any (J3 (FH j q) j u q)then 20 else 0
theorem aHn (own j q:Int):Wh j q own=some (!Xi own j q):=by
 unfold Wh Xi;have h1:(j != q)= !(j==q):=rfl;have h2:decide (j>own)= !decide (j<=own):=by by_cases h:j<=own<;>simp[h]<;>omega
 have h3:decide (q>own)= !decide (q<=own):=by by_cases h:q<=own<;>simp[h]<;>omega
 rw[h1,h2,h3]
 grind
theorem a1v (own j q:Int):ku j q own=some (Xi own j q):=by
 unfold ku Xi
 grind
structure YK (v:Cm):Prop where
 users:v.Users.length<=100
 kinds:v.Kinds.length<=100
def vC (a b:Cm):((numsOf a).zip (numsOf b)).length=7:=rfl
def aXY (q u:Cm)(z:BL)(Y:YK q)(Z:YK u):xq q u z=some (wZ q u z):=by
 have o1:=Y.users;have o2:=Y.kinds;have n1:=Z.users;have n2:=Z.kinds;unfold xq;rw[aF q z AL];unfold a2y;simp only[Ac];unfold wZ;generalize hown:FH q z=own
 have hU:aCE q u own z false 0=some (cond ((q.Users++u.Users).any (J3 own q u z)) 20 0):=by
  unfold aCE;rw[aL3 ([q.Users,u.Users]:AA (AA H6)) (fuel_lt BU) (λus=>us.any (J3 own q u z)) (λ_=>some 20) (some 0) false]
  ·have e:(q.Users++u.Users).any (J3 own q u z)=([q.Users,u.Users]:AA (AA H6)).any (λus=>us.any (J3 own q u z)):=BU
   rw[e]
   have hf:∀L:AA (AA H6),(if L.findIdx (λus=>us.any (J3 own q u z))<L.length then some (20:Int)else some 0)=some (bif L.any (λus=>us.any (J3 own q u z))then 20 else 0):=λL=>by
    by_cases h:L.findIdx (λus=>us.any (J3 own q u z))<L.length
    ·rw[ES h];have :L.any (λus=>us.any (J3 own q u z))=true:=KX.2 ((dZ).1 h);rw[this];rfl
    rw[EZ h]
    have :L.any (λus=>us.any (J3 own q u z))=false:=by
     rw[Bool.eq_false_iff];exact λk=>h (dZ.2 (KX.1 k))
    rw[this];rfl
   exact hf _
  ·intro k i h
   have M:([q.Users,u.Users]:AA (AA H6))[i].length<=100:=by
    have :([q.Users,u.Users]:AA (AA H6))[i]∈[q.Users,u.Users]:=Et h;simp only[FI,Gh,or_false]at this;rcases this with e|e<;>rw[e]<;>assumption
   unfold aAK;rw[show decide ((i:Int)<2)=true by simp only[GN,QX]at h;simp;omega,CM h];simp only[Bj,Ac];generalize([q.Users,u.Users]:AA (AA H6))[i]=us at M;unfold aLw;rw[aL3 us (fuel_lt AL) (J3 own q u z) (λ_=>some 20) (k false (Az ((i:Int)+1))) false]
   ·by_cases h2:us.findIdx (J3 own q u z)<us.length
    ·rw[ES h2];have :us.any (J3 own q u z)=true:=KX.2 ((dZ).1 h2);rw[this];rfl
    rw[EZ h2]
    have :us.any (J3 own q u z)=false:=by
     rw[Bool.eq_false_iff];exact λk=>h2 (dZ.2 (KX.1 k))
    rw[this];rfl
   ·intro k2 j O;unfold a6R mX;rw[D8 O,aF q _ AL,aF u _ AL];simp only[Ac];rw[aHn,JA];unfold J3;have h2:decide (FH q us[j].User>=own)= !decide (FH q us[j].User<own):=by by_cases h:FH q us[j].User<own<;>simp[h]<;>omega
    have h3:(FH q us[j].User != FH u us[j].User)= !(FH q us[j].User==FH u us[j].User):=rfl;simp only[Ac];rw[h2,h3];cases Xi own (FH q us[j].User) (FH u us[j].User)<;>cases FH q us[j].User==FH u us[j].User<;>cases decide (us[j].User=z)<;>cases decide (FH q us[j].User<own)<;>rfl
   intro k2;unfold a6R;rw[EG]
  intro k;unfold aAK mX;rw[show decide (((([q.Users,u.Users]:AA (AA H6)).length:Nat):Int)<2)=false from rfl];rfl
 have hK:a3i q u own z 0=some (cond ((q.Kinds++u.Kinds).any (VN own q u)) 20 (cond ((q.Users++u.Users).any (J3 own q u z)) 20 0)):=by
  unfold a3i;rw[Gj ([q.Kinds,u.Kinds]:AA (AA J5)) (fuel_lt BU) (λI=>I.any (VN own q u)) 20 (aCE q u own z false 0)]
  ·rw[hU];have e:(q.Kinds++u.Kinds).any (VN own q u)=([q.Kinds,u.Kinds]:AA (AA J5)).any (λI=>I.any (VN own q u)):=BU
   rw[e];cases([q.Kinds,u.Kinds]:AA (AA J5)).any (λI=>I.any (VN own q u))<;>rfl
  ·intro k i h
   have U:([q.Kinds,u.Kinds]:AA (AA J5))[i].length<=100:=by
    have :([q.Kinds,u.Kinds]:AA (AA J5))[i]∈[q.Kinds,u.Kinds]:=Et h;simp only[FI,Gh,or_false]at this;rcases this with e|e<;>rw[e]<;>assumption
   unfold a4K;rw[show decide ((i:Int)<2)=true by simp only[GN,QX]at h;simp;omega,CM h];simp only[Bj,Ac];generalize([q.Kinds,u.Kinds]:AA (AA J5))[i]=I at U;unfold aTL;rw[Gj I (fuel_lt AL) (VN own q u) 20 (k (Az ((i:Int)+1)))]
   ·intro k2 j O;unfold a2i;rw[D8 O,aG2 q _ AL,aG2 u _ AL];simp only[Ac];rw[aHn];rfl
   intro k2;unfold a2i;rw[EG]
  intro k;unfold a4K;rw[show decide (((([q.Kinds,u.Kinds]:AA (AA J5)).length:Nat):Int)<2)=false from rfl];rfl
 unfold aOR;rw[Gj ((numsOf q).zip (numsOf u)) aSe (uI own) 20 (a3i q u own z 0)]
 ·rw[hK];cases((numsOf q).zip (numsOf u)).any (uI own)<;>rfl
 ·intro k i h;have J:i<7:=by rw[vC]at h;exact h
  have e1:Aj [q.User,q.Message,q.State,q.gV,q.kN,q.oK,q.iq] (i:Int)=some ((numsOf q)[i]'(J)):=CM (l:=numsOf q) J;have e2:Aj [u.User,u.Message,u.State,u.gV,u.kN,u.oK,u.iq] (i:Int)=some ((numsOf u)[i]'(J)):=CM (l:=numsOf u) J;unfold a5Q;rw[show decide ((i:Int)<7)=true by simp;omega,e1,e2];simp only[Bj,Ac];rw[aHn,aDl];rfl
 intro k;unfold a5Q;rw[vC,show decide (((7:Nat):Int)<7)=false from rfl];rfl
theorem ag9 (j z:Cm)(u q:BL)(I:YK j)(J:YK z):oD j z u q=some (Xi (FH j q) (FH j u) (FH z u)&&(FH j u==FH z u||(u=q)||(FH j u<FH j q))):=by
 have o1:=I.users;have L:=J.users;unfold oD;rw[Yz j q AL,Yz j u AL,Yz z u AL];simp only[Ac];rw[a1v,JA]
 grind
def aeN (j q:Cm)(u:BL)(J:YK j)(L:YK q):aAC j q u=some (wZ j q u):=by
 have o1:=J.users;have o2:=J.kinds;have n1:=L.users;have n2:=L.kinds;unfold aAC;rw[Yz j u AL];unfold a5y;simp only[Ac];unfold wZ
 have z:∀x:H6,(oD j q x.User u)=some (!J3 (FH j u) j q u x):=λx=>by
  rw[ag9 j q _ _ J L];unfold J3;rw[xE]
 generalize O:FH j u=own at z
 have M:aHZ q j u 0=some (cond (q.Users.any (J3 own j q u)) 20 0):=by
  unfold aHZ;rw[Gj q.Users (fuel_lt AL) (J3 own j q u) 20 (some 0)]
  ·cases q.Users.any (J3 own j q u)<;>rfl
  ·intro k i h;unfold aF2;rw[D8 h,z];simp only[Ac,xE]
  intro k;unfold aF2;rw[EG]
 have Y:aFq j q u 0=some (cond ((j.Users++q.Users).any (J3 own j q u)) 20 0):=by
  unfold aFq;rw[Gj j.Users (fuel_lt AL) (J3 own j q u) 20 (some (cond (q.Users.any (J3 own j q u)) 20 0))]
  ·rw[a3T];cases j.Users.any (J3 own j q u)<;>rfl
  ·intro k i h;unfold aF4;rw[D8 h,z];simp only[Ac,xE]
  intro k;unfold aF4;rw[EG,M]
 have Z:aC2 j q own u 0=some (cond ((j.Kinds++q.Kinds).any (VN own j q)) 20 (cond ((j.Users++q.Users).any (J3 own j q u)) 20 0)):=by
  unfold aC2;have U:Az ((j.Kinds.length:Int)+(q.Kinds.length:Int))=(((j.Kinds++q.Kinds).length:Nat):Int):=by rw[Ed,ZX];omega
  rw[Gj (j.Kinds++q.Kinds) (fuel_lt L8) (VN own j q) 20 (some (cond ((j.Users++q.Users).any (J3 own j q u)) 20 0))]
  ·cases(j.Kinds++q.Kinds).any (VN own j q)<;>rfl
  ·intro k i h;unfold aDu a4T;rw[U,dec_lt h];simp only[Bj];by_cases hi:i<j.Kinds.length
   ·rw[dec_lt hi,CM hi];simp only[Bj,Ac];rw[tZ j _ AL,tZ q _ AL];simp only[Ac];rw[a1v,List.getElem_append_left hi];rfl
   have hj:i-j.Kinds.length<q.Kinds.length:=by rw[Ed]at h;omega
   have w:Az ((i:Int)-(j.Kinds.length:Int))=((i-j.Kinds.length:Nat):Int):=by rw[Ed]at h;rw[ZX];omega
   rw[show decide ((i:Int)<(j.Kinds.length:Int))=false by simp;omega,w,CM hj];simp only[BN,Ac];rw[tZ j _ AL,tZ q _ AL];simp only[Ac];rw[a1v,List.getElem_append_right AL];rfl
  intro k;unfold aDu;rw[U,DN,Y];rfl
 unfold aWA;rw[Gj ((numsOf j).zip (numsOf q)) aSe (uI own) 20 (aC2 j q own u 0)]
 ·rw[Z];cases((numsOf j).zip (numsOf q)).any (uI own)<;>rfl
 ·intro k i h;have I:i<7:=by rw[vC]at h;exact h
  have e1:Aj [j.User,j.Message,j.State,j.gV,j.kN,j.oK,j.iq] (i:Int)=some ((numsOf j)[i]'(I)):=CM (l:=numsOf j) I;have e2:Aj [q.User,q.Message,q.State,q.gV,q.kN,q.oK,q.iq] (i:Int)=some ((numsOf q)[i]'(I)):=CM (l:=numsOf q) I;unfold aKx;rw[show decide ((i:Int)<(([j.User,j.Message,j.State,j.gV,j.kN,j.oK,j.iq]:AA Int).length:Int))=true from dec_lt (n:=7) I,e1,e2];simp only[Bj,Ac];rw[a1v,aDl];rfl
 intro k;unfold aKx;rw[vC];rfl
def rX (e:Aa)(l:AA Aa)(now:Int):Int:=
 bif !(MB l e.bQ==3)then 18 else
 bif e.Content.N==1&&decide (FH (Ht l) e.bQ<(Ht l).gV)then 20 else
 bif e.Content.N==0&&((now==4&&(FH (Ht l) e.bQ<(Ht l).oK))||(FH (Ht l) e.bQ<(Ht l).kN)||(FH (Ht l) e.Key>=FH (Ht l) e.bQ))then 20 else
 bif e.Content.N==4&&(decide (FH (Ht l) e.bQ<(Ht l).oK)||(FH (Ht l) e.Key>=FH (Ht l) e.bQ))then 20 else 0
def zk (e:Aa)(l:AA Aa):Int:=
 bif qF e l then 0 else
 bif decide (e.Key=e.bQ)&&MB l e.Key==4 then 19 else
 bif !moveB (MB l e.Key) e.Content.N (decide (e.Key=e.bQ))then 18 else
 bif e.Key=e.bQ then zq e.Content.N (MB l e.Key) l else rX e l (MB l e.Key)
def a02 (e:Aa)(l:AA Aa):Int:=
 bif FH (Ht l) e.bQ<aZ (Ht l) e.Kind then 20 else bif e.Kind==3 then wZ (Ht l) e.Content.Levels e.bQ else 0
def aN4 (s:BL):BL:=(splitB s (LH s)).2.1
def TL (e:Aa)(l:AA Aa):Int:=
 bif e.Kind==1 then(cond (!(KI l).2&&(aN4 e.bQ).toList==(aN4 e.Room).toList) 0 17)else
 bif !(KI l).2 then 17 else bif e.Kind==2 then zk e l else bif !(MB l e.bQ==3)then 18 else a02 e l
def aNS (h:EU l):YK (Ht l):=⟨(lZ h).1,(lZ h).2⟩
def Hg.levels (h:Hg e):YK e.Content.Levels:=⟨h.users,h.kinds⟩
theorem afG (e:Aa)(l:AA Aa)(hl:l.length<=1000)(hs:EU l)(q:Hg e):a2u e l=some (a02 e l):=by
 have j:=aNS hs;have h1:=j.users;have h2:=j.kinds;unfold a2u a02;rw[aDz l hl hs];simp only[Ac];rw[aF _ _ AL,aG2 _ _ AL];simp only[Ac];rw[aXY _ _ _ j q.levels]
 grind
theorem aep (e:Aa)(l:AA Aa)(hl:l.length<=1000)(hs:EU l)(q:Hg e):a5p e l=some (a02 e l):=by
 have j:=aNS hs;have h1:=j.users;have h2:=j.kinds;unfold a5p a02;rw[aGN l hl];simp only[Ac];rw[Yz _ _ AL,tZ _ _ AL];simp only[Ac];rw[aeN _ _ _ j q.levels]
 grind
def kR (x:Int):Except BD Unit:=.error (.iface 263 (.agg #[.int .i64 x]))
def aVU (x:Int):eI x=some (kR x):=rfl
def aER (b:AV)(x:Int):Qx b x=some (cond b (.ok ()) (kR x)):=by cases b<;>rfl
def aFY (b:AV)(x:Int)(f:Unit->AB (Except BD Unit)):Le (cond b (.ok ()) (kR x)) f=bif b then f ()else some (kR x):=by cases b<;>rfl
def aRK (x:Int)(f:Unit->AB (Except BD Unit)):Le (kR x) f=some (kR x):=rfl
def acC (a b:Int):decide (a>=b)= !decide (a<b):=by by_cases h:a<b<;>simp[h]<;>omega
theorem akQ (e:Aa)(l:AA Aa)(now:Int)(hl:l.length<=1000)(hs:EU l):(jZ l e now).bind WM=some (rX e l now):=by
 have h1:=(lZ hs).1;unfold jZ rX;rw[aE1 l _ hl,aDz l hl hs];simp only[Ac];rw[aF _ _ AL,aF _ _ AL];simp only[aER,Ac,aFY,acC]
 have h2:decide (FH (Ht l) e.Key<FH (Ht l) e.bQ)= !decide (FH (Ht l) e.bQ<=FH (Ht l) e.Key):=by
  grind
 have h3:(now != 4)= !(now==4):=rfl;rw[h3];generalize decide (FH (Ht l) e.Key<FH (Ht l) e.bQ)=t;generalize decide (FH (Ht l) e.bQ<(Ht l).gV)=i;generalize decide (FH (Ht l) e.bQ<(Ht l).oK)=b;generalize decide (FH (Ht l) e.bQ<(Ht l).kN)=k;generalize(now==4)=n;cases MB l e.bQ==3 with
 |false=>
  rfl
 |true=>
  by_cases j:e.Content.N=1
  ·rw[j];cases i<;>rfl
  rw[show(e.Content.N==1)=false by simpa using j];by_cases q:e.Content.N=0
  ·rw[q];cases n<;>cases b<;>cases k<;>cases t<;>rfl
  rw[show(e.Content.N==0)=false by simpa using q];cases e.Content.N==4<;>cases b<;>cases t<;>rfl
def aYN (e:Aa)(l:AA Aa)(now:Int)(hl:l.length<=1000)(hs:EU l):aBY e l now=some (rX e l now):=by
 have h1:=(lZ hs).1;unfold aBY rX;rw[aCN l _ hl,aGN l hl];simp only[Ac];rw[Yz _ _ AL,Yz _ _ AL];simp only[Ac,Md,lX,Vp,bne]
theorem ade (e:Aa)(l:AA Aa)(hl:l.length<=1000)(hs:EU l):a1Q e l=some (zk e l):=by
 unfold a1Q zk;rw[aXg e l hl];simp only[Ac];cases qF e l with
 |true=>
  rfl
 |false=>
  simp only[BN]
  have q:∀o:AB (Except BD Unit),(o.bind λu=>(WM u).bind λz=>some z)=o.bind WM:=λo=>by
   cases o with
   |none=>
    rfl
   |some x=>
    grind
  rw[q];have j:=akQ e l (MB l e.Key) hl hs;unfold aKL;rw[aE1 l _ hl,JA];simp only[Ac];rw[alH,abV _ _ _ hl hs];simp only[Ac,aER,aVU,aFY,aRK,Md];have h3:(MB l e.Key != 4)= !(MB l e.Key==4):=rfl;rw[h3];generalize jZ l e (MB l e.Key)=J at j;generalize decide (e.Key=e.bQ)=s;cases s with
  |true=>
   cases MB l e.Key==4 with
   |true=>
    rfl
   |false=>
    cases moveB (MB l e.Key) e.Content.N true<;>rfl
  |false=>
   cases moveB (MB l e.Key) e.Content.N false with
   |false=>
    rfl
   |true=>
    exact j
theorem aiN (e:Aa)(l:AA Aa)(hl:l.length<=1000)(hs:EU l):aAV e l=some (zk e l):=by
 unfold aAV zk;rw[air e l hl,aCN l _ hl];simp only[Ac];rw[aQa,ahE e _ l hl hs,aYN e l _ hl hs,JA]
 grind
theorem aLq (e:Aa)(l:AA Aa)(hl:l.length<=1000)(hs:EU l)(j:Hg e):cu e l=some (TL e l):=by
 have h1:=j.sender;have h2:=j.room;unfold cu TL
 have q:∀o:AB (Except BD Unit),(o.bind λu=>(WM u).bind λz=>some z)=o.bind WM:=λo=>by
  cases o with
  |none=>
   rfl
  |some x=>
   grind
 rw[q];unfold aEQ a3Y a2I a2N;rw[aW7 l hl,(kF (s:=e.bQ) AL).1,(kF (s:=e.Room) AL).1,aE1 l _ hl,afG e l hl hs j,ade e l hl hs];simp only[Ac,aER,aVU,aFY,aRK];show _=some (cond (e.Kind==1) (cond (!(KI l).2&&(splitB e.bQ (LH e.bQ)).2.1.toList==(splitB e.Room (LH e.Room)).2.1.toList) 0 17) _);cases e.Kind==1 with
 |true=>
  cases(KI l).2 with
  |true=>
   rfl
  |false=>
   cases(splitB e.bQ (LH e.bQ)).2.1.toList==(splitB e.Room (LH e.Room)).2.1.toList<;>rfl
 |false=>
  cases(KI l).2 with
  |false=>
   rfl
  |true=>
   cases e.Kind==2 with
   |true=>
    rfl
   |false=>
    cases MB l e.bQ==3<;>rfl
theorem aL4 (e:Aa)(l:AA Aa)(hl:l.length<=1000)(hs:EU l)(j:Hg e):lC e l=some (TL e l):=by
 have h1:=j.sender;have h2:=j.room;unfold lC aAh TL;rw[aTs l hl,(kF (s:=e.bQ) AL).2,(kF (s:=e.Room) AL).2,aCN l _ hl,aep e l hl hs j,aiN e l hl hs];simp only[Ac];show _=some (cond (e.Kind==1) (cond (!(KI l).2&&(splitB e.bQ (LH e.bQ)).2.1.toList==(splitB e.Room (LH e.Room)).2.1.toList) 0 17) _);cases e.Kind==1 with
 |true=>
  cases(KI l).2 with
  |true=>
   rfl
  |false=>
   grind
 |false=>
  cases(KI l).2 with
  |false=>
   rfl
  |true=>
   cases e.Kind==2 with
   |true=>
    rfl
   |false=>
    grind
def a6B (named:AA Aa)(k:BM):Aa×AV:=match named.find? (FM k)with |some x=>(x,true)|none=>(FU,false)
def iP (l:AA Aa)(s:AA BM)(e:Aa)(k:BM):Aa×AV:=bif (JM s k.Kind k.Key).2 then IZ l (JM s k.Kind k.Key).1 else a6B (ofIds l e.bJ) k
def Ty (l:AA Aa)(s:AA BM)(e:Aa)(k:BM):AA Aa:=bif (iP l s e k).2 then[(iP l s e k).1]else[]
def WU (l:AA Aa)(s:AA BM)(e:Aa):AA Aa:=(keysOf e).flatMap (Ty l s e)
def aDG (l:AA Aa)(s:AA BM)(e:Aa)(k:BM):(Ty l s e k).length<=1:=by
 unfold Ty;cases(iP l s e k).2<;>simp
def aPU (l:AA Aa)(s:AA BM)(e:Aa):(WU l s e).length<=5:=by
 have h1:=flat_length (f:=Ty l s e) (n:=1) (aDG l s e) (keysOf e);have h2:=Xp e;unfold WU;omega
variable {s:AA BM}
theorem ad1 {x:Aa}(h:x∈WU l s e):x∈l:=by
 obtain⟨k,_,h⟩:=Vy.1 h;unfold Ty iP a6B at h;cases j:(JM s k.Kind k.Key).2 with
 |true=>
  rw[j]at h;simp only[Bj]at h;cases hp:En l (JM s k.Kind k.Key).1 with
  |none=>
   rw[RS hp]at h;exact absurd h Gh
  |some y=>
   rw[NS hp]at h;rw[Np.1 h];exact NK hp
 |false=>
  rw[j]at h;simp only[BN]at h;cases q:(ofIds l e.bJ).find? (FM k)with
  |none=>
   grind
  |some y=>
   rw[q]at h;rw[Np.1 h];exact aJI (ZW q)
def EU.base (h:EU l)(s:AA BM)(e:Aa):EU (WU l s e):=λx j=>h x (ad1 j)
def alo (named:AA Aa)(k:BM)(j:named.length<=1000):a6g named k=some (a6B named k):=by
 unfold a6g;rw[a5M named AL (λa0=>a0J a0 k) (FM k) λe=>by unfold a0J FM;rw[JA];cases e.Kind==k.Kind<;>rfl];exact found_eq named (FM k) rfl
theorem ae9 (named:AA Aa)(k:BM)(j:named.length<=1000):a2r named k.Kind k.Key=some (a6B named k):=by
 unfold a2r aMR;rw[aIx named (fuel_lt AL) (FM k) (λi=>some (match named[i]? with |some x=>(x,true)|none=>(FU,false))) (some (FU,false))]
 ·exact aIf named _
 ·intro k2 i h;unfold aJZ;rw[D8 h,CM h,EM h];simp only[Ac];rw[JA];unfold FM
  grind
 intro k2;unfold aJZ;rw[EG]
theorem abe (l:AA Aa)(s:AA BM)(e:Aa)(hl:l.length<=1000)(j:e.bJ.length<=40)(hs:Jf s)(hsl:s.length<=1000000):aAF l s e=some (WU l s e):=by
 unfold aAF;have q:=bT l e.bJ;have u:=Xp e;have hm:Ir 376 FU 0 5=some []:=by unfold Ir;rw[ES a4b];rfl
 rw[aiz l _ hl AL,hm,aNC];simp only[Ac];unfold aRx;rw[H8 (keysOf e) AL (λr k=>r++Ty l s e k) (λi r=>r.length<=i) (λr=>some r) (Ec _)]
 ·rw[foldl_append (Ty l s e),IE];rfl
 ·intro k r i h z;have hp:=aDG l s e (keysOf e)[i];refine⟨L8,?_⟩;unfold aDM aBn aB9;rw[D8 h,alo _ _ AL,aHN s _ _ hsl hs];simp only[Ac];rw[NG l _ AL,Dp Fp];simp only[Ac];rw[Dp Fp];unfold Ty iP
  grind
 intro k r _;unfold aDM;rw[EG]
theorem aef (l:AA Aa)(s:AA BM)(e:Aa)(hl:l.length<=1000)(j:e.bJ.length<=40)(hsl:s.length<=1000000):aBf l s e=some (WU l s e):=by
 unfold aBf;have q:=bT l e.bJ;have u:=Xp e;rw[aKa,aDB l _ hl AL];simp only[Ac];unfold aW6;rw[H8 (a0:=[]) (keysOf e) AL (λr k=>r++Ty l s e k) (λi r=>r.length<=i) (λr=>some r) (Ec _)]
 ·rw[foldl_append (Ty l s e),IE];rfl
 ·intro k r i h z;have hp:=aDG l s e (keysOf e)[i];refine⟨L8,?_⟩;unfold aJv aBE a3G;rw[dec_lt h,CM h];simp only[Bj,Ac];rw[ae9 _ _ AL,aEM s _ _ hsl];simp only[Ac];rw[KU l _ AL,Dp Fp];simp only[Ac];rw[Dp Fp];unfold Ty iP
  grind
 intro k r _;unfold aJv;rw[DN];rfl
def YV (l:AA Aa)(s:AA BM)(id:Int):AV:=dJ l id&&(Ic (ev l id).Kind&&TL (ev l id) (WU l s (ev l id))==0)
def TK (l:AA Aa)(s:AA BM)(id:Int):AA BM:=bif YV l s id then GL s (ev l id).Kind (ev l id).Key (ev l id).Id else s
def TQ (l:AA Aa)(s:AA BM)(ids:AA Int):AA BM:=ids.foldl (TK l) s
def aRB (h:Jf s)(id:Int):Jf (TK l s id):=by
 unfold TK;cases YV l s id with
 |true=>exact XM h _ _ _
 |false=>exact h
def aF1 {l:AA Aa}:∀{ids:AA Int} {s:AA BM},Jf s->Jf (TQ l s ids)
 | [],_,h=>h
 |id::ids,s,h=>aF1 (ids:=ids) (aRB h id)
def aLF (l:AA Aa)(s:AA BM)(id:Int):(TK l s id).length<=s.length+1:=by
 unfold TK;cases YV l s id with
 |true=>exact Po _ _ _ _
 |false=>exact Nat.le_succ _
theorem aBa (l:AA Aa):∀(ids:AA Int) (s:AA BM),(TQ l s ids).length<=s.length+ids.length
 | [],s=>Ec _
 |id::ids,s=>by
  have h1:=aBa l ids (TK l s id);have h2:=aLF l s id;show(TQ l (TK l s id) ids).length<=_
  grind
def aRo (hs:EU l){id:Int}(h:dJ l id=true):Hg (ev l id):=hs _ (NK (Qn h).1)
def aen (l:AA Aa)(s:AA BM)(id:Int)(hl:l.length<=1000)(hs:EU l)(u:Jf s)(hsl:s.length<=1000000):a3B l s id=some (TK l s id):=by
 unfold a3B aDo uU TK YV;have j:a4m s (.error (.iface 378 (.agg #[])):Except BD (AA BM))=some s:=rfl;rw[NG l _ AL];simp only[Ac];rw[Nj];cases I:(En l id).isSome with
 |false=>rw[show dJ l id=false from I];exact j
 |true=>
  have q:dJ l id=true:=I;have J:=aRo hs q;have z:(IZ l id).1=ev l id:=rfl;rw[q,z,aOz];simp only[Ac,Eh,BN,GV];cases Ic (ev l id).Kind with
  |false=>exact j
  |true=>
   have L:=aPU l s (ev l id);rw[abe l s _ hl J.auth u hsl];simp only[Ac,Eh,BN,GV];rw[aLq _ _ AL (hs.base s _) J];simp only[Ac];rw[Yi s _ _ _ hsl];unfold bne;cases TL (ev l id) (WU l s (ev l id))==0 with
   |true=>rfl
   |false=>exact j
def aWI (l:AA Aa)(s:AA BM)(ids:AA Int)(hl:l.length<=1000)(hs:EU l)(j:Jf s)(hsl:s.length+ids.length<=1000000):gQ l s ids=some (TQ l s ids):=by
 unfold gQ a4D;rw[Dp RD];simp only[Ac,IE];unfold aTw;rw[H8 ids AL (TK l) (λi r=>Jf r/\r.length<=s.length+i) (λr=>some r) ⟨j,Ec _⟩]
 ·rfl
 ·intro k r i h q;have h1:=aLF l r ids[i];refine⟨⟨aRB q.1 _,AL⟩,?_⟩;unfold aFc;rw[D8 h,aen l r _ hl hs q.1 AL];rfl
 intro k r _;unfold aFc;rw[EG]
def aQT (l:AA Aa)(s:AA BM)(ids:AA Int)(hl:l.length<=1000)(hs:EU l)(hsl:s.length+ids.length<=1000000):iO l s ids=some (TQ l s ids):=by
 unfold iO;rw[Dp RD];simp only[Ac,IE];unfold aQ3;rw[H8 ids AL (TK l) (λi r=>r.length<=s.length+i) (λr=>some r) (Ec _)]
 ·rfl
 ·intro k r i h I;have h1:=aLF l r ids[i];refine⟨AL,?_⟩;unfold aGz a04 aBZ TK YV;rw[D8 h,KU l _ AL];simp only[Ac];rw[Nj];cases u:(En l ids[i]).isSome with
  |false=>rw[show dJ l ids[i]=false from u];rfl
  |true=>
   have j:dJ l ids[i]=true:=u;have z:=aRo hs j;have q:(IZ l ids[i]).1=ev l ids[i]:=rfl;rw[j,q,a2T];simp only[Ac,Bj,GV];cases Ic (ev l ids[i]).Kind with
   |false=>rfl
   |true=>
    have J:=aPU l r (ev l ids[i]);rw[aef l r _ hl z.auth AL];simp only[Ac,Bj,GV];rw[aL4 _ _ AL (hs.base r _) z];simp only[Ac];rw[aIM r _ _ _ AL];cases TL (ev l ids[i]) (WU l r (ev l ids[i]))==0<;>rfl
 intro k r _;unfold aGz;rw[EG]
def OB (l:AA Aa)(bF:AA (AA BM)):AA Int:=YS l (LV l bF)
def Ov (l:AA Aa)(bF:AA (AA BM)):AA Int:=OJ l (Fr l (OB l bF)).length (Fr l (OB l bF))
def Ja (l:AA Aa)(bF:AA (AA BM)):AA BM:=TQ l (IY bF) (Ov l bF)
def Yh (l:AA Aa)(bF:AA (AA BM)):AA Int:=bif (JM (Ja l bF) 3 Ci).2 then ig l (JM (Ja l bF) 3 Ci).1 else[]
def O4 (l:AA Aa)(bF:AA (AA BM)):AA Int:=VQ l (Yh l bF) (PX (LV l bF) (OB l bF))
def a0V (s a:AA BM):AA BM:=a.foldl (λs x=>GL s x.Kind x.Key x.Id) s
def lastOf (l:AA Aa)(bF:AA (AA BM)):AA BM:=a0V (TQ l (Ja l bF) (O4 l bF)) (IY bF)
structure O9 (l:List Aa) (bF:List (List BM)):Prop where
 len:l.length<=100
 small:EU l
 states:OO bF
variable {bF:AA (AA BM)}
theorem jm (h:O9 l bF):(LV l bF).length<=40000:=by
 have j:=h.len;have q:=a1m h.states;have u:=LU (Ry bF);have h1:=a1L l bF [] λs hs=>(h.states.2 s hs).1;have h2:=h.states.1;have h3:=Kt (λx=>KG l bF x<bF.length) (allOf l bF);have z:bF.length*(100+l.length)<=100*200:=a1l h2 AL;have I:=aHA (F7 (Ry bF)) (U5 l bF)
 have J:(U5 l bF).length<=20000:=by
  unfold U5;unfold allOf at h3 ⊢
  grind
 unfold LV;omega
def ajy (h:O9 l bF):(Qz l (LV l bF)).length<=40000:=EK (Kt _ _) (jm h)
def aFO (h:O9 l bF):(Ov l bF).length<=100:=by
 have h1:=aXI l (Fr l (OB l bF)).length (Fr l (OB l bF));have h2:(Fr l (OB l bF)).length<=l.length:=lD (gy _ _) λx j=>(Ny.1 j).2;have h3:=h.len;unfold Ov;omega
def aBd (h:O9 l bF):(Ja l bF).length<=200:=by
 have h1:=aBa l (Ov l bF) (IY bF);have h2:=aFO h;have h3:=gZ h.states;unfold Ja;omega
def aEq (h:O9 l bF):Jf (Ja l bF):=aF1 (aVh h.states)
theorem aQi (h:O9 l bF):(Yh l bF).length<=100:=by
 have h1:=aW9 l (JM (Ja l bF) 3 Ci).1;have h2:=h.len;unfold Yh
 grind
def aOH (h:O9 l bF):(O4 l bF).length<=40000:=by
 have h1:=aku l (Yh l bF) (PX (LV l bF) (OB l bF));have h2:=aG7 (LV l bF) (OB l bF);have h3:=jm h;unfold O4;omega
theorem acz (h:O9 l bF):vT (LV l bF) (OB l bF) l (Ja l bF,Ov l bF) (IY bF,F7 (Ry bF)) (Yh l bF)=some ⟨lastOf l bF,Ov l bF,O4 l bF⟩:=by
 have q:=h.len;have h1:=jm h;have h2:=a6X l (LV l bF);have h3:=aQi h;have u:=aG7 (LV l bF) (OB l bF);have z:=aBd h;have I:=aOH h;have J:=gZ h.states;unfold vT aGq aJo;rw[aaq _ _ AL (by unfold OB;omega)];simp only[Ac];rw[aXl l _ _ AL h.small AL AL (ZN (aDy _ _))];simp only[Ac];show((gQ l (Ja l bF) (O4 l bF)).bind _).bind _=_;rw[aWI l _ _ AL h.small (aEq h) AL];simp only[Ac];unfold aOC;have L:=aBa l (O4 l bF) (Ja l bF);show aP _ Am 0 (⟨TQ l (Ja l bF) (O4 l bF),Ov l bF,O4 l bF⟩:OQ)=_;rw[XP (IY bF) AL (λv x=>({ v with IG:=GL v.IG x.Kind x.Key x.Id }:OQ)) (λi v=>v.IG.length<=(TQ l (Ja l bF) (O4 l bF)).length+i) (λv=>some v) (Ec _)]
 ·congr 1;unfold lastOf a0V
  have key:∀(a:AA BM) (v:OQ),a.foldl (λv x=>({ v with IG:=GL v.IG x.Kind x.Key x.Id }:OQ)) v=⟨a.foldl (λs x=>GL s x.Kind x.Key x.Id) v.IG,v.amb,v.avK⟩:=by
   intro a
   induction a with
   |nil=>
    intro v;rfl
   |cons x a M=>
    grind
  rw[key]
 ·intro k v i hi O;have j:=Po v.IG (IY bF)[i].Kind (IY bF)[i].Key (IY bF)[i].Id;refine⟨by show(GL _ _ _ _).length<=_;omega,?_⟩;unfold aI8;rw[D8 hi,Yi _ _ _ _ AL];rfl
 intro k v _;unfold aI8;rw[EG]
def aXb (h:O9 l bF):a2b l bF=some ⟨lastOf l bF,Ov l bF,O4 l bF⟩:=by
 have u:=h.len;have h1:=jm h;have h2:=a6X l (LV l bF);have h3:=ajy h;have z:=aBd h;have I:=aFO h;have J:=gZ h.states;have j:=acz h;unfold a2b;rw[aRJ bF h.states,ab1 l bF AL h.small.amk h.states];simp only[Ac];rw[afi l _ AL h.small AL AL];simp only[Ac];unfold aDm aEx;rw[agO l _ AL h.small AL];simp only[Ac];have ha:gQ l (IY bF) (Ov l bF)=some (Ja l bF):=aWI l _ _ AL h.small (aVh h.states) AL;unfold Ov OB at ha;rw[ha];simp only[Ac];rw[aHN _ _ _ AL (aEq h)];simp only[Ac];rw[ah9 l _ AL h.small];unfold Yh at j;cases q:(JM (Ja l bF) 3 Ci).2 with
 |true=>rw[q]at j;exact j
 |false=>rw[q]at j;exact j
theorem amu (h:O9 l bF):zD (LV l bF) (OB l bF) l (IY bF,F7 (Ry bF)) (Ov l bF) (Ja l bF) (Yh l bF)=some ⟨IY bF,Ov l bF,Ja l bF,O4 l bF,lastOf l bF⟩:=by
 have u:=h.len;have h1:=jm h;have h2:=a6X l (LV l bF);have h3:=aQi h;have z:=aG7 (LV l bF) (OB l bF);have I:=aBd h;have J:=aOH h;have L:=gZ h.states;unfold zD;rw[a1q _ _ AL (by unfold OB;omega)];simp only[Ac];rw[ahV l _ _ AL h.small AL AL (ZN (aDy _ _))];simp only[Ac];show(iO l (Ja l bF) (O4 l bF)).bind _=_;rw[aQT l _ _ AL h.small AL];simp only[Ac];unfold aRb;have M:=aBa l (O4 l bF) (Ja l bF);show aP _ Am 0 (⟨IY bF,Ov l bF,Ja l bF,O4 l bF,TQ l (Ja l bF) (O4 l bF)⟩:OX)=_;rw[XP (IY bF) AL (λv x=>({ v with Last:=GL v.Last x.Kind x.Key x.Id }:OX)) (λi v=>v.Same=IY bF/\v.Last.length<=(TQ l (Ja l bF) (O4 l bF)).length+i) (λv=>some v) ⟨rfl,Ec _⟩]
 ·congr 1;unfold lastOf a0V
  have key:∀(a:AA BM) (v:OX),a.foldl (λv x=>({ v with Last:=GL v.Last x.Kind x.Key x.Id }:OX)) v=⟨v.Same,v.Power,v.First,v.Others,a.foldl (λs x=>GL s x.Kind x.Key x.Id) v.Last⟩:=by
   intro a
   induction a with
   |nil=>
    intro v;rfl
   |cons x a O=>
    grind
  rw[key]
 ·intro k v i hi j;have q:=Po v.Last (IY bF)[i].Kind (IY bF)[i].Key (IY bF)[i].Id;refine⟨⟨j.1,by show(GL _ _ _ _).length<=_;omega⟩,?_⟩;unfold aIS;rw[j.1,dec_lt hi,CM hi];simp only[Bj,Ac];rw[aIM _ _ _ _ AL];rfl
 intro k v j;unfold aIS
 grind
def al3 (h:O9 l bF):a4q l bF=some ⟨IY bF,Ov l bF,Ja l bF,O4 l bF,lastOf l bF⟩:=by
 have u:=h.len;have h1:=jm h;have h2:=a6X l (LV l bF);have z:=aBd h;have I:=aFO h;have J:=gZ h.states;have j:=amu h;unfold a4q;rw[aQm bF h.states,aZ2 l bF AL h.small.amk h.states];simp only[Ac];rw[aXh l _ AL h.small AL];simp only[Ac];rw[aXp l _ AL h.small AL];simp only[Ac];have ha:iO l (IY bF) (Ov l bF)=some (Ja l bF):=aQT l _ _ AL h.small AL;unfold Ov OB at ha;rw[ha];simp only[Ac];rw[aEM _ _ _ AL];simp only[Ac];rw[aWe l _ AL h.small];unfold Yh at j;cases q:(JM (Ja l bF) 3 Ci).2 with
 |true=>rw[q]at j;exact j
 |false=>rw[q]at j;exact j
def xH (l:AA Aa)(bF:AA (AA BM)):AA BM:=match bF with
 | []=>[]
 | [s]=>s
 |_=>lastOf l bF
def aTb (h:O9 l bF):jR l bF=some (xH l bF):=by
 match bF,h with
 | [],_=>rfl
 | [s],h=>
   have hs:=(h.states.2 s (I8 ..)).1;have j:Aj [s] 0=some s:=rfl;show((Aj [s] 0).bind λq=>(DC 32 [] q).bind λu=>some u)=some s;rw[j];simp only[Ac];rw[Dp RD];rfl
 |s::t::bF,h=>
  unfold jR;have j:(((s::t::bF).length:Int)==0)=false:=a5s
  have z:(((s::t::bF).length:Int)==1)=false:=a5s
  rw[j,z,aXb h];rfl
def aTt (h:O9 l bF):xF l bF=some (xH l bF):=by
 match bF,h with
 | [],_=>rfl
 | [s],_=>rfl
 |s::t::bF,h=>
  unfold xF;have j:(((s::t::bF).length:Int)==0)=false:=a5s
  have q:(((s::t::bF).length:Int)==1)=false:=a5s
  rw[j,q,al3 h];rfl
theorem aOs {x:BM}:∀(a s:AA BM),x∈a0V s a->x∈a\/x∈s
 | [],_,h=>.inr h
 |y::a,s,h=>by
  rcases aOs a _ h with h|h
  ·grind
  rcases V4 h with h|h
  ·left;rw[h];cases y;exact I8 ..
  exact .inr h
def aSF (l:AA Aa)(ids:AA Int)(x:BM):Prop:=∃id∈ids,dJ l id=true/\Ic (ev l id).Kind=true/\x=⟨(ev l id).Kind,(ev l id).Key,(ev l id).Id⟩
theorem aGE {l:AA Aa}{x:BM}:∀(ids:AA Int) (s:AA BM),x∈TQ l s ids->x∈s\/aSF l ids x
 | [],_,h=>.inl h
 |id::ids,s,h=>by
  rcases aGE ids _ h with h|⟨j,q,h⟩
  ·have h2:x∈bif YV l s id then GL s (ev l id).Kind (ev l id).Key (ev l id).Id else s:=h
   cases hm:YV l s id with
   |false=>
    grind
   |true=>
    rw[hm]at h2;rcases V4 h2 with h2|h2
    ·unfold YV at hm;simp only[ED]at hm;exact .inr ⟨id,I8 ..,hm.1,hm.2.1,h2⟩
    exact .inl h2
  exact .inr ⟨j,Ii _ q,h⟩
def aiF (h:x∈OB l bF):x∈LV l bF:=(aIU.1 h).1
def aXs {x:BM}(h:x∈lastOf l bF):x∈IY bF\/aSF l (LV l bF) x:=by
 unfold lastOf at h;rcases aOs _ _ h with h|h
 ·exact .inl h
 rcases aGE _ _ h with h|⟨j,q,h⟩
 ·unfold Ja at h;rcases aGE _ _ h with h|⟨j,q,h⟩
  ·exact .inl h
  exact .inr ⟨j,aiF (Ny.1 (aOS _ _ _ q)).1,h⟩
 exact .inr ⟨j,(aM8.1 (afe.1 q).1).1,h⟩
def aR5 :∀(a s:AA BM),Jf s->Jf (a0V s a)
 | [],_,h=>h
 |x::a,s,h=>aR5 a _ (XM h x.Kind x.Key x.Id)
def afv (h:O9 l bF):Jf (lastOf l bF):=aR5 _ _ (aF1 (aEq h))
structure Jg (l:List Aa) (s:List BM):Prop where
 sorted:Jf s
 named:∀x∈s,dJ l x.Id=true/\Ic x.Kind=true/\(ev l x.Id).Kind=x.Kind/\(ev l x.Id).Key=x.Key
def Jg.nil (l:AA Aa):Jg l []:=⟨List.Pairwise.nil,λ_ h=>absurd h Gh⟩
def Jg.nodup (h:Jg l s):(s.map (·.Id)).Nodup:=by
 rw[aJn,aG3];refine List.Pairwise.imp_of_mem ?_ h.sorted;intro a b ha j hp e;obtain⟨_,_,q,k2⟩:=h.named a ha;obtain⟨_,_,k3,u⟩:=h.named b j;have z:a.Kind=b.Kind:=by rw[←q,←k3,e]
 have I:a.Key=b.Key:=by rw[←k2,←u,e]
 rw[a0F (Wq.2 ⟨z,I⟩)]at hp;cases hp
theorem Jg.length {l:AA Aa}{s:AA BM}(h:Jg l s):s.length<=l.length:=by
 have :V9 l (s.map (·.Id)):=⟨h.nodup,λx j=>by
  obtain⟨y,q,rfl⟩:=Hl.1 j
  exact(h.named y q).1⟩
 have :=this.length
 grind
def Jg.okay (hl:l.length<=100)(hs:EU l)(j:bF.length<=100)(h:∀s∈bF,Jg l s):O9 l bF:=
 ⟨hl,hs,j,λs hm=>⟨EK (h s hm).length hl,(h s hm).sorted⟩⟩
def Jg.resolve (j:O9 l bF)(h:∀s∈bF,Jg l s):Jg l (xH l bF):=by
 match bF,j,h with
 | [],_,_=>exact .nil l
 | [s],_,h=>exact h s (I8 ..)
 |s::t::bF,j,h=>
  refine⟨afv j,λx I=>?_⟩;rcases aXs I with hm|⟨id,_,z,hst,q⟩
  ·exact(h s (I8 ..)).named x ((aaD j.states (List.cons_ne_nil _ _)).1 hm s (I8 ..))
  have u:=Qn z;have J:x.Id=id:=by rw[q];exact u.2
  rw[J];exact⟨z,by rw[q];exact hst,by rw[q],by rw[q]⟩
def Jg.set (h:Jg l s)(u:dJ l e.Id=true)(q:ev l e.Id=e)(hst:Ic e.Kind=true):Jg l (GL s e.Kind e.Key e.Id):=
 ⟨XM h.sorted _ _ _,λx j=>by
  rcases V4 j with rfl|j
  ·exact⟨u,hst,by rw[q],by rw[q]⟩
  exact h.named x j⟩
def MS (l:AA Aa)(e:Aa):AV:=e.bG.all (dJ l)&&e.bJ.all (dJ l)
def Zf (l:AA Aa):AV:=l.all (MS l)
variable {p:α->AV}
theorem qE {l:AA α}{x:α}(h:x∈l)(j:p x=false):l.all p=false:=by
 grind
def all_good {l:AA α}(h:∀j,(hj:j<l.length)->p l[j]=true):l.all p=true:=Fq.2 (aZH h)
theorem aRh (refs:AA Int)(l:AA Aa)(m:AA (Int×Int))(h:ZV l m)(j:refs.length<=1000):a0L refs m=some (refs.all (dJ l)):=by
 unfold a0L aUx;rw[Gj refs (fuel_lt AL) (λx=> !dJ l x) false (some true)]
 ·grind
 ·intro k i hi;unfold aJA;rw[D8 hi,h.isSome]
 intro k;unfold aJA;rw[EG]
def alO (l:AA Aa)(hl:l.length<=100)(hs:EU l):aA3 l=some (Zf l):=by
 refine dW.eq ?_;unfold aA3;refine(sJ l AL).bind λm hm=>?_;unfold aMW;refine ZJ (body:=aIg l) (Q:=λb=>b=Zf l) (λn a b=>∃i:Nat,a=i/\i+n=l.length/\b=m/\∀j,(q:j<i)->(hl:j<l.length)->MS l l[j]=true) ?_ Am l.length 0 m (fuel_lt AL) ⟨0,rfl,AL,rfl,λj q=>AL⟩;rintro n a b k ⟨i,rfl,L,rfl,z⟩ J;unfold aIg;by_cases hi:i<l.length
 ·have I:=hs l[i] (Et hi);have h1:=I.prev;have h2:=I.auth;rw[D8 hi,aRh _ l b hm AL,Ac,CM hi,Ac,aRh _ l b hm AL];cases hp:l[i].bG.all (dJ l)with
  |false=>exact .ret (qE (Et hi) (by unfold MS;rw[hp];rfl)).symm
  |true=>
   cases ha:l[i].bJ.all (dJ l)with
   |false=>exact .ret (qE (Et hi) (by unfold MS;rw[hp,ha];rfl)).symm
   |true=>
    refine J (n-1) _ _ AL ⟨i+1,wrap_succ i AL,AL,rfl,λj q u=>?_⟩;by_cases e:j=i
    ·subst e;unfold MS;rw[hp,ha];rfl
    exact z j AL u
 have :i=l.length:=AL
 subst this;rw[EG];exact .ret (all_good λj q=>z j q q).symm
def bH (l:AA Aa):AA Int:=l.foldl (λr e=>e.bJ.foldl put (e.bG.foldl put r)) []
variable {i:Nat}
def ajb (hi:i<l.length)(k3:AA Int->Int->AB (AA Int))(v:AA Int)(z:Inc v)(hl:v.length<=900000)(ha:l[i].bJ.length<=40):
 lu l (i:Int) k3 v 0=k3 (l[i].bJ.foldl put v) (Az ((i:Int)+1)):=by
 unfold lu;rw[H8 l[i].bJ AL put (λj a=>Inc a/\a.length<=v.length+j) (λa=>k3 a (Az ((i:Int)+1))) ⟨z,AL⟩]
 ·intro k a j q u;have hp:=WB a l[i].bJ[j];refine⟨⟨Pn u.1,AL⟩,?_⟩;unfold jW;rw[CM hi,Ac,dec_lt q,Bj,Ac,CM q,Ac,uy a _ u.1 AL,Ac]
 intro k a _;unfold jW;rw[CM hi,Ac,DN];rfl
def ahZ (hi:i<l.length)(k3:AA Int->Int->AB (AA Int))(v:AA Int)(q:Inc v)(hl:v.length<=800000)(hp:l[i].bG.length<=40)(ha:l[i].bJ.length<=40):
 wo l (i:Int) k3 v 0=k3 (l[i].bJ.foldl put (l[i].bG.foldl put v)) (Az ((i:Int)+1)):=by
 unfold wo;rw[H8 l[i].bG AL put (λj a=>Inc a/\a.length<=v.length+j) (λa=>lu l (i:Int) k3 a 0) ⟨q,AL⟩]
 ·have h:=nU l[i].bG v;exact ajb hi k3 _ (lq q) AL ha
 ·intro k a j u z;have hp:=WB a l[i].bG[j];refine⟨⟨Pn z.1,AL⟩,?_⟩;unfold jw;rw[CM hi,Ac,dec_lt u,Bj,Ac,CM u,Ac,uy a _ z.1 AL,Ac]
 intro k a _;unfold jw;rw[CM hi,Ac,DN];rfl
theorem a5i :∀(l:AA Aa) (r:AA Int),Inc r->(∀e∈l,e.bG.length<=40/\e.bJ.length<=40)->
 Inc (l.foldl (λr e=>e.bJ.foldl put (e.bG.foldl put r)) r)/\(l.foldl (λr e=>e.bJ.foldl put (e.bG.foldl put r)) r).length<=r.length+l.length*80/\
 ∀x,x∈l.foldl (λr e=>e.bJ.foldl put (e.bG.foldl put r)) r↔x∈r\/∃e∈l,x∈e.bG\/x∈e.bJ
 | [],r,h,_=>⟨h,BU,λx=>BU⟩
 |e::l,r,h,hs=>by
  have q:=hs e (I8 ..);obtain⟨h1,h2,h3⟩:=a5i l (e.bJ.foldl put (e.bG.foldl put r)) (lq (lq h)) λx j=>hs x (Ii _ j);have u:=nU e.bG r;have z:=nU e.bJ (e.bG.foldl put r);rw[Gu];refine⟨h1,by rw[GN];omega,λx=>(h3 x).trans ?_⟩;rw[aIV,aIV]
  grind
def EU.lists (hs:EU l):∀e∈l,e.bG.length<=40/\e.bJ.length<=40:=λe j=>⟨(hs e j).prev,(hs e j).auth⟩
def ajm (h:i<l.length):(l.take (i+1)).foldl (λr e=>e.bJ.foldl put (e.bG.foldl put r)) ([]:AA Int)=l[i].bJ.foldl put (l[i].bG.foldl put ((l.take i).foldl (λr e=>e.bJ.foldl put (e.bG.foldl put r)) [])):=by
 rw[Ue,EM h,Qw,Qk];rfl
def aYE (l:AA Aa)(hl:l.length<=1000)(hs:EU l):Yc l=some (bH l):=by
 unfold Yc aIs;refine dW.eq (Jd l.length (fuel_lt AL) (λi a=>a=(l.take i).foldl (λr e=>e.bJ.foldl put (e.bG.foldl put r)) []) rfl (λi a k hi ha j=>?_) λa k ha=>?_)
 ·subst ha;obtain⟨h1,h2,_⟩:=a5i (l.take i) [] .nil λe q=>hs.lists e (a0D q);have hp:=hs.lists l[i] (Et hi);unfold mG;rw[dec_lt hi,Bj,ahZ hi k _ h1 (by rw[Gz]at h2;simp only[QX]at h2;omega) hp.1 hp.2,wrap_succ i AL];exact j _ (ajm hi).symm
 unfold mG;rw[DN];refine .ret ?_;rw[ha,Gn];rfl
def adL (hs:EU l):(bH l).length<=l.length*80:=by
 have :=(a5i l [] .nil hs.lists).2.1;unfold bH;simpa using this
def aOZ (hs:EU l):x∈bH l↔∃e∈l,x∈e.bG\/x∈e.bJ:=by
 have :=(a5i l [] .nil hs.lists).2.2 x;unfold bH;rw[this];simp
theorem amH:Zf l=true↔∀e∈l,(∀x∈e.bG,dJ l x=true)/\∀x∈e.bJ,dJ l x=true:=by
 unfold Zf MS
 grind
theorem aZ5 (l:AA Aa)(hl:l.length<=1000)(hs:EU l):a5n l=some (Zf l):=by
 have h1:=adL hs;unfold a5n;rw[aYE l hl hs,Ac,cV l _ hl AL,Ac];refine Au some ?_;rw[U8,amH];constructor
 ·intro h e u;have j:PI l (bH l)=[]:=Hd aDg
  have key:∀x,x∈e.bG\/x∈e.bJ->dJ l x=true:=λx q=>by
   cases z:dJ l x with
   |true=>
    rfl
   |false=>
    have :=kL.2 ⟨(aOZ hs).2 ⟨e,u,q⟩,z⟩;rw[j]at this;cases this
  grind
 intro h
 have j:PI l (bH l)=[]:=aLb.2 λx q=>by
  obtain⟨h3,I⟩:=kL.1 q;obtain⟨e,u,J⟩:=(aOZ hs).1 h3
  grind
 rw[j];rfl
def iZ (l:AA Aa):Prop:=∀e∈l,1<=e.Depth/\e.Depth<=100000
def H9 (l:AA Aa)(x:Int):Int:=(IZ l x).1.Depth
def Vj (l:AA Aa)(e:Aa):AV:=e.bJ.all (λx=>H9 l x<e.Depth)&&bif (e.bG.length:Int)==0 then e.Depth==1 else e.bG.all (λx=>H9 l x<e.Depth)&&e.bG.any λx=>H9 l x==e.Depth-1
def NI (l:AA Aa):Int:=bif Zf l then bif l.all (Vj l)then 0 else 15 else 14
def aRF (h:iZ l)(x:Int):0<=H9 l x/\H9 l x<=100000:=by
 unfold H9 IZ;cases j:En l x with
 |none=>exact⟨a5N 0,Bd⟩
 |some e=>have :=h e (NK j);exact⟨by show 0<=e.Depth;omega,this.2⟩
def a4f (a b:Int):decide (a>=b)= !decide (a<b):=by by_cases h:a<b<;>simp[h];omega
def nS (l:AA α)(p:α->AV):l.any (λx=> !p x)= !l.all p:=by rw[List.all_eq_not_any_not,xE]
def adu (l:AA Aa)(e:Aa)(hl:l.length<=1000)(M:Hg e)(hd:iZ l)(O:1<=e.Depth/\e.Depth<=100000):a00 l e=some (Vj l e):=by
 have h1:=M.prev;have h2:=M.auth;have w:Az (e.Depth-1)=e.Depth-1:=P5 AL AL
 have z:a4p e l ((e.bG.length:Int)==0) 0=some (cond ((e.bG.length:Int)==0) true (e.bG.all (λx=>H9 l x<e.Depth)&&e.bG.any λx=>H9 l x==e.Depth-1)):=by
  unfold a4p;refine dW.eq (Jd e.bG.length (fuel_lt AL) (λi a=>(∀j,(u:j<i)->(hl:j<e.bG.length)->decide (H9 l e.bG[j]<e.Depth)=true)/\a=(((e.bG.length:Int)==0)||(e.bG.take i).any λx=>H9 l x==e.Depth-1)) ⟨λj u=>AL,BU⟩ (λi a k hi ha U=>?_) λa k ha=>?_)
  ·have Y:((e.bG.length:Int)==0)=false:=by simp;intro Z;rw[Z]at hi;simp at hi
   unfold a1d;rw[D8 hi,KU l _ AL,Ac,a4f];refine dW.bif (λq=>.ret ?_) λq=>?_
   ·have q:decide (H9 l e.bG[i]<e.Depth)=false:=by unfold H9;simpa using q
    rw[Y,qE (Et hi) q];rfl
   have q:decide (H9 l e.bG[i]<e.Depth)=true:=by unfold H9;simpa using q
   rw[show(cond a (some true) (some ((IZ l e.bG[i]).1.Depth==Az (e.Depth-1))))=some (a||(H9 l e.bG[i]==e.Depth-1)) by rw[w];cases a<;>rfl,Ac,wrap_succ i AL];refine U _ ⟨λj u I=>?_,?_⟩
   ·by_cases ej:j=i
    ·subst ej;exact q
    exact ha.1 j AL I
   rw[ha.2,Ue,EM hi,Qw,a3T,Bool.or_assoc];simp
  unfold a1d;rw[EG];refine .ret ?_;rw[ha.2,Gn,all_good λj u=>ha.1 j u u];cases((e.bG.length:Int)==0)<;>simp
 unfold a00
 have J:aI3 e l 0=some (e.bJ.all (λx=>H9 l x<e.Depth)&&(cond ((e.bG.length:Int)==0) true (e.bG.all (λx=>H9 l x<e.Depth)&&e.bG.any λx=>H9 l x==e.Depth-1))):=by
  unfold aI3;rw[Gj e.bJ (fuel_lt AL) (λx=> !decide (H9 l x<e.Depth)) false (a4p e l ((e.bG.length:Int)==0) 0)]
  ·rw[z,nS];cases e.bJ.all (λx=>H9 l x<e.Depth)<;>rfl
  ·intro k i hi;unfold a18;rw[D8 hi,KU l _ AL,Ac,a4f];rfl
  intro k;unfold a18;rw[EG]
 rw[J];unfold Vj;have L:(e.Depth != 1)= !(e.Depth==1):=rfl;rw[L];cases((e.bG.length:Int)==0)<;>cases(e.Depth==1)<;>cases e.bJ.all (λx=>H9 l x<e.Depth)<;>rfl
def aCd {m:AA (Int×Int)}(h:ZV l m)(j:dJ l x=true):∃e,Aj l ((DF m x).getD 0)=some e/\e.Depth=H9 l x:=⟨_,h.get (Qn j).1,rfl⟩
theorem amF (p:AA Int)(f:Int->Int)(d a:Int)(j:∃y∈p,f y=a)(ha:∀y∈p,f y<=a):(p.all (λx=>f x<d)&&p.any λx=>f x==d-1)=bif d>a then d-a==1 else false:=by
 grind
theorem ah4 (l:AA Aa)(m:AA (Int×Int))(e:Aa)(hm:ZV l m)(U:Hg e)(I:MS l e=true)(hd:iZ l)(Y:1<=e.Depth/\e.Depth<=100000):a0t l m e=some (Vj l e,m):=by
 have h1:=U.prev;have h2:=U.auth;unfold MS at I;simp only[ED,Fq]at I;unfold a0t aTW;rw[Gj e.bJ (fuel_lt AL) (λx=> !decide (H9 l x<e.Depth)) (false,m) (some ((cond ((e.bG.length:Int)==0) (e.Depth==1) (e.bG.all (λx=>H9 l x<e.Depth)&&e.bG.any λx=>H9 l x==e.Depth-1)),m))]
 ·rw[nS];unfold Vj;cases e.bJ.all (λx=>H9 l x<e.Depth)<;>rfl
 ·intro k i hi;unfold aGZ;obtain⟨x,O,q⟩:=aCd hm (I.2 _ (Et hi));rw[D8 hi,O,Ac,a4f,q]
 intro k;unfold aGZ;rw[EG];cases J:((e.bG.length:Int)==0)with
 |true=>
  rfl
 |false=>
  have hp:0<e.bG.length:=by
   grind
  obtain⟨x,O,q⟩:=aCd hm (I.1 _ (Et hp));have Z:Aj e.bG 0=some e.bG[0]:=CM (i:=0) hp;rw[BN,BN,Z,Ac,O,Ac,q];unfold aXG;refine dW.eq (Jd e.bG.length (fuel_lt AL) (λi a=>(0<=a/\a<=100000)/\(∃y∈e.bG,H9 l y=a)/\∀y∈e.bG.take i,H9 l y<=a) ⟨aRF hd _,⟨_,Et hp,rfl⟩,λy L=>zl⟩ (λi a k2 hi ha hk=>?_) λa k2 ha=>?_)
  ·unfold aGD;obtain⟨y,L,u⟩:=aCd hm (I.1 _ (Et hi));have hb:=aRF hd e.bG[i];rw[D8 hi,L,Ac,wrap_succ i AL,u]
   have M:XT a (H9 l e.bG[i])=a/\H9 l e.bG[i]<=a\/XT a (H9 l e.bG[i])=H9 l e.bG[i]/\a<=H9 l e.bG[i]:=by
    unfold XT;by_cases h:H9 l e.bG[i]>a
    ·grind
    rw[JF h];exact .inl ⟨rfl,AL⟩
   refine hk _ ⟨AL,?_,λz J=>?_⟩
   ·rcases M with h|h
    ·rw[h.1];exact ha.2.1
    rw[h.1];exact⟨_,Et hi,rfl⟩
   rw[Ue,EM hi,Qw,Je,Np]at J;rcases J with J|rfl
   ·have :=ha.2.2 z J;omega
   omega
  obtain⟨hb,⟨y,L,u⟩,j⟩:=ha;rw[Gn]at j;unfold aGD;rw[EG,P5 AL AL,amF e.bG (H9 l) e.Depth a ⟨y,L,u⟩ j];cases decide (e.Depth>a)<;>exact .ret rfl
def aSD (l:AA Aa)(hl:l.length<=100)(hs:EU l)(hd:iZ l):iG l=some (NI l):=by
 unfold iG NI;rw[alO l hl hs,Ac];cases L:Zf l with
 |false=>rfl
 |true=>
  have M:∀e∈l,MS l e=true:=Fq.1 L;refine dW.eq ((sJ l AL).bind λm hm=>?_);unfold aM3;refine ZJ (body:=aF8 l) (Q:=λb=>b=bif l.all (Vj l)then 0 else 15) (λn a b=>∃i:Nat,a=i/\i+n=l.length/\b=m/\∀j,(u:j<i)->(hl:j<l.length)->Vj l l[j]=true) ?_ Am l.length 0 m (fuel_lt AL) ⟨0,rfl,AL,rfl,λj u=>AL⟩;rintro n a b k ⟨i,rfl,U,rfl,I⟩ O;unfold aF8;by_cases hi:i<l.length
  ·have q:=Et hi;rw[D8 hi,ah4 l b l[i] hm (hs _ q) (M _ q) hd (hd _ q),Ac];cases J:Vj l l[i]with
   |false=>exact .ret (by rw[qE q J];rfl)
   |true=>
    refine O (n-1) _ _ AL ⟨i+1,wrap_succ i AL,AL,rfl,λj u z=>?_⟩;by_cases e:j=i
    ·subst e;exact J
    exact I j AL z
  have :i=l.length:=AL
  subst this;rw[EG];exact .ret (by rw[all_good λj u=>I j u u];rfl)
def aX8 (l:AA Aa)(hl:l.length<=100)(hs:EU l)(hd:iZ l):oM l=some (NI l):=by
 unfold oM NI;rw[aZ5 l AL hs,Ac];cases M:Zf l with
 |false=>rfl
 |true=>
  show aIQ l 0=_;unfold aIQ;refine dW.eq (rJ l.length (fuel_lt AL) (λi=>∀j,(u:j<i)->(hl:j<l.length)->Vj l l[j]=true) (λj u=>AL) (λi k hi z L=>?_) λk z=>?_)
  ·have q:=Et hi;unfold aEr;rw[D8 hi,adu l l[i] AL (hs _ q) hd (hd _ q),Ac,wrap_succ i AL];cases J:Vj l l[i]with
   |false=>exact .ret (by rw[qE q J];rfl)
   |true=>
    refine L λj u I=>?_;by_cases e:j=i
    ·subst e;exact J
    exact z j AL I
  unfold aEr;rw[DN];exact .ret (by rw[all_good λj u=>z j u u];rfl)
variable {β:Type}
section
variable {R:Type}{lt:α->α->AV}
def Kv (lt:α->α->AV)(A:AA α)(x:α):AA α:=(A.reverse.dropWhile (lt x)).reverse++x::(A.reverse.takeWhile (lt x)).reverse
def alj {A:AA α}{a x:α}(h:lt x a=true):Kv lt (A++[a]) x=Kv lt A x++[a]:=by
 unfold Kv;rw[aEJ,List.reverse_singleton,List.singleton_append,aQ9 h,List.takeWhile_cons_of_pos h,List.reverse_cons,Il];rfl
def ad7 {A:AA α}{a x:α}(h:lt x a=false):Kv lt (A++[a]) x=A++a::[x]:=by
 have h':¬lt x a=true:=by rw[h];simp
 unfold Kv;rw[aEJ,List.reverse_singleton,List.singleton_append,aR9 h',List.takeWhile_cons_of_neg h'];simp
def aje (A:AA α)(x:α):(Kv lt A x).length=A.length+1:=by
 unfold Kv;have :=Au List.length (Fn0 (p:=lt x) (l:=A.reverse));simp only[Ed,List.length_reverse,GN]at this ⊢;omega
def aXo (A:AA α)(x:α):(Kv lt A x).Perm (x::A):=by
 unfold Kv;refine aBy.trans (List.Perm.cons x ?_);rw[←aEJ,Fn0,List.reverse_reverse]
def afE {lt':β->β->AV}{f:α->β}(h:∀x a,lt x a=lt' (f x) (f a))(A:AA α)(x:α):(Kv lt A x).map f=Kv lt' (A.map f) (f x):=by
 have e:lt x=lt' (f x)∘f:=funext λa=>h x a;unfold Kv;have h1:(A.map f).reverse=A.reverse.map f:=aCU.symm;rw[h1,List.dropWhile_map,List.takeWhile_map,J8,Gg,aCU,aCU,e]
def aWK {lt':β->β->AV}{f:α->β}(h:∀x a,lt x a=lt' (f x) (f a)):∀(l A:AA α),(l.foldl (Kv lt) A).map f=(l.map f).foldl (Kv lt') (A.map f)
 | [],A=>rfl
 |x::l,A=>by rw[Gu,aWK h l,Gg,Gu,afE h]
def a4N :∀(l A:AA α),(l.foldl (Kv lt) A).length=A.length+l.length
 | [],A=>rfl
 |x::l,A=>by rw[Gu,a4N l,aje,GN];omega
def aRP :∀(l A:AA α),(l.foldl (Kv lt) A).Perm (A++l)
 | [],A=>by rw[Rs];exact .refl _
 |x::l,A=>by
  rw[Gu];exact(aRP l (Kv lt A x)).trans (((aXo A x).append_right l).trans (aBy (l₁:=A) (l₂:=l) (a:=x)).symm)
def a1K (A:AA α)(x:α)(B:AA α):Aj (A++x::B) (A.length:Int)=some x:=by rw[aC8];simp
def aGY (A:AA α)(a x:α)(B:AA α):Aj (A++a::x::B) ((A.length+1:Nat):Int)=some x:=by rw[aC8];simp
def set_mid (A:AA α)(x y:α)(B:AA α):(A++x::B).set A.length y=A++y::B:=BU
def aVB (A:AA α)(a x y:α)(B:AA α):(A++a::x::B).set (A.length+1) y=A++a::y::B:=by
 have :=set_mid (A++[a]) x y B;simpa using this
def bubble {body:(Int->AA α->AB R)->Int->AA α->AB R}(j:AA α->AB R)(N:Nat)(U:∀k x B,(x::B).length=N->body k 0 (x::B)=j (x::B))(hs:∀k A a x B,(A++a::x::B).length=N->body k ((A.length+1:Nat):Int) (A++a::x::B)=bif lt x a then k (A.length:Int) (A++x::a::B)else j (A++a::x::B)):
 ∀n (A:AA α) (x:α) (B:AA α),A.length=n->(A++x::B).length=N->∀m,n<m->aP body m (A.length:Int) (A++x::B)=j (Kv lt A x++B):=by
 intro n
 induction n with
 |zero=>
  intro A x B I J m hm;obtain⟨m,rfl⟩:∃L,m=L+1:=⟨m-1,AL⟩
  obtain rfl:=Hd I;exact U _ x B J
 |succ n Y=>
  intro A x B I J m hm;obtain⟨m,rfl⟩:∃L,m=L+1:=⟨m-1,AL⟩
  have q:A≠[]:=λe=>by subst e;cases I
  obtain⟨A',a,rfl⟩:∃A' a,A=A'++[a]:=⟨A.dropLast,A.getLast q,(List.dropLast_concat_getLast q).symm⟩
  have M:A'.length=n:=xw
  have O:A'++[a]++x::B=A'++a::x::B:=BU
  have u:(A'++a::x::B).length=N:=by rw[←O];exact J
  have Z:(A'++[a]).length=A'.length+1:=BU
  rw[O,Z];show body (aP body m) _ _=_;rw[hs _ A' a x B u];cases z:lt x a with
  |true=>
   rw[Bj,Y A' x (a::B) M (by simp at u ⊢;omega) m AL,alj z];simp
  |false=>rw[BN,ad7 z];simp
end
def Yb (a b:Aa):AV:=decide (a.Depth<b.Depth)||((a.Depth==b.Depth)&&(a.Id<b.Id))
def nR (l:AA Aa):AA Aa:=l.foldl (Kv Yb) []
def Pj (l:AA Aa):AA Int:=(nR l).map (·.Id)
def aED (l:AA Aa):(nR l).length=l.length:=by unfold nR;rw[a4N];simp
def ahB (l:AA Aa):(nR l).Perm l:=by have :=aRP (lt:=Yb) l [];rwa [IE]at this
theorem alV (a b:Aa):a4H a b=some (Yb a b):=by
 unfold a4H Yb
 grind
variable {l:AA α}
def aT6 {f:β->α->β}{b:β}(h:i<l.length):(l.take (i+1)).foldl f b=f ((l.take i).foldl f b) l[i]:=by
 rw[Ue,EM h,Qw,Qk];rfl
def map_take {f:α->β}(h:i<l.length):(l.take (i+1)).map f=(l.take i).map f++[f l[i]]:=by
 rw[Ue,EM h,Qw,J8];rfl
def akd (l:AA Aa)(hl:l.length<=1000000):a3R l=some (l.map (·.Id)):=by
 unfold a3R aUD;refine dW.eq (Jd l.length (fuel_lt AL) (λi a=>a=(l.take i).map (·.Id)) rfl (λi a k hi ha j=>?_) λa k ha=>?_)
 ·unfold aE3;have hlen:a.length<=i:=yw
  rw[D8 hi,Dp Fp,Ac,wrap_succ i AL];exact j _ a6q
 unfold aE3;rw[EG];exact .ret Yy
def abR (l:AA Aa)(hl:l.length<=1000):aC1 l=some (Pj l):=by
 unfold aC1 aVe;refine dW.eq (Jd l.length (fuel_lt AL) (λi a=>a=(l.take i).foldl (Kv Yb) []) rfl (λi a k hi ha u=>?_) λa k ha=>?_)
 ·have hlen:a.length=i:=by rw[ha,a4N,Gz];simp;omega
  unfold aD0;rw[D8 hi,Dp Fp,Ac];unfold aPz;have j:=bubble (lt:=Yb) (body:=aB7 k (i:Int)) (λv=>k v ((i+1:Nat):Int)) (i+1) (λk2 x B q=>?_) (λk2 A b x B q=>?_) i a l[i] [] hlen EY Am (fuel_lt AL)
  ·rw[hlen]at j;rw[j,Rs];exact u _ (by rw[aT6 hi,ha])
  ·unfold aB7 qW;rw[wrap_succ i AL];rfl
  have hA:A.length+2<=i+1:=by rw[←q];simp
  have z:Az (((A.length+1:Nat):Int)-1)=(A.length:Int):=OH
  unfold aB7 qW;rw[Lp (show((A.length+1:Nat):Int)>0 by omega),Bj,aGY,Ac,z,a1K,Ac,alV,Ac,wrap_succ i AL];cases Yb x b with
  |false=>rfl
  |true=>
   simp only[Bj,Ac,dP];rw[aVB,a1K,Ac,set_mid]
 unfold aD0;rw[DN,BN];have e:a=nR l:=by rw[ha,Gn];rfl
 rw[e,akd _ (by rw[aED];omega)];exact .ret rfl
def a0R (e:Aa):SX:=⟨e.Depth,e.Id⟩
def lQ (a b:SX):AV:=decide (a.pJ<b.pJ)||((a.pJ==b.pJ)&&(a.nN<b.nN))
theorem aZf (a x:SX):(cond (a.pJ<x.pJ) (some true) ((cond (a.pJ==x.pJ) (some (decide (a.nN<=x.nN))) (some false)).bind λj=>some j))=some (!lQ x a):=by
 unfold lQ;by_cases h1:a.pJ<x.pJ
 ·rw[Lp h1,Bj,JF AL,show(x.pJ==a.pJ)=false by simp;omega];rfl
 rw[JF h1,BN];by_cases h2:a.pJ=x.pJ
 ·rw[h2,JF (show ¬x.pJ<x.pJ by omega)];simp only[I9,Bj,Ac,RJ,GV];by_cases h3:a.nN<=x.nN
  ·grind
  grind
 rw[show(a.pJ==x.pJ)=false by simpa using h2,Lp (show x.pJ<a.pJ by omega)];rfl
def ajl (l:AA Aa)(hl:l.length<=1000):aAb l=some (Pj l):=by
 have J:Ir 16 a7g 0 (l.length:Int)=some []:=by unfold Ir;rw[ES ⟨a5N _,AL,AL⟩];rfl
 unfold aAb;rw[J,Ac];unfold aPL;refine dW.eq (Jd l.length (fuel_lt AL) (λi a=>a=((l.take i).map a0R).foldl (Kv lQ) []) rfl (λi a k hi ha L=>?_) λa k ha=>?_)
 ·have hlen:a.length=i:=by rw[ha,a4N,Di,Gz];simp;omega
  unfold aHm;rw[D8 hi,CM hi,Ac,Dp Fp,Ac];unfold aWs;have M:Az (((a++[(⟨l[i].Depth,l[i].Id⟩:SX)]).length:Int)-1)=(a.length:Int):=aGk
  rw[M];have O:=bubble (lt:=lQ) (body:=uH k (i:Int)) (λv=>k v ((i+1:Nat):Int)) (i+1) (λk2 x B u=>?_) (λk2 A b x B u=>?_) i a (a0R l[i]) [] hlen EY Am (fuel_lt AL)
  ·show dW (aP (uH k (i:Int)) Am (a.length:Int) (a++[a0R l[i]])) _;rw[O,Rs];exact L _ (by rw[map_take hi,Qk,ha];rfl)
  ·unfold uH yB;rw[wrap_succ i AL];rfl
  have hA:A.length+2<=i+1:=by rw[←u];simp
  have U:Az (((A.length+1:Nat):Int)-1)=(A.length:Int):=OH
  unfold uH yB;rw[Lp (show((A.length+1:Nat):Int)>0 by omega),Bj,U,a1K,Ac,aGY,Ac,aZf,Ac,wrap_succ i AL];cases lQ x b with
  |false=>rfl
  |true=>
   simp only[Eh,BN,Bj,Ac,dP];rw[set_mid,aGY,Ac,aVB]
 unfold aHm;rw[EG];have e:a=(nR l).map a0R:=by rw[ha,Gn];exact(aWK (lt:=Yb) (lt':=lQ) (f:=a0R) (λ_ _=>rfl) l []).symm
 have Y:a.length=l.length:=by rw[e,Di,aED]
 have Z:Ir 8 0 (a.length:Int) (a.length:Int)=some (List.replicate a.length (0:Int)):=by unfold Ir;rw[ES ⟨AL,a5N _,AL⟩];simp
 have e2:Pj l=a.map (·.nN):=by rw[e,gY];rfl
 rw[Z,Ac,e2];unfold aMM;refine TD (body:=aJ5 a) (Q:=λr=>r=a.map (·.nN)) (λn (x:Int) (o:AA Int) (p:AA SX)=>∃i:Nat,x=i/\i+n=a.length/\o=(a.take i).map (·.nN)++List.replicate (a.length-i) 0/\p=a) ?_ Am a.length 0 (List.replicate a.length 0) a (fuel_lt AL) ⟨0,rfl,AL,BU,rfl⟩;rintro n x o p k2 ⟨i,rfl,hn,I,rfl⟩ q;unfold aJ5;by_cases hi:i<p.length
 ·have hm:((p.take i).map (·.nN)).length=i:=by rw[Di,Gz];omega
  obtain⟨z,hz⟩:∃z,p.length-i=z+1:=⟨p.length-i-1,AL⟩
  have j:o=(p.take i).map (·.nN)++0::List.replicate z 0:=by rw[I,hz,List.replicate_succ]
  have g2:Aj o (i:Int)=some 0:=by have :=a1K ((p.take i).map (·.nN)) 0 (List.replicate z 0);rw[hm]at this;rw[j];exact this
  have s2:o.set i p[i].nN=(p.take i).map (·.nN)++p[i].nN::List.replicate z 0:=by have :=set_mid ((p.take i).map (·.nN)) 0 p[i].nN (List.replicate z 0);rw[hm]at this;rw[j];exact this
  rw[D8 hi,g2,Ac];refine q (n-1) _ _ _ AL ⟨i+1,wrap_succ i AL,AL,?_,rfl⟩;rw[dP,s2,map_take hi,show p.length-(i+1)=z by omega];simp
 have :i=p.length:=AL
 subst this;rw[EG];exact .ret (by rw[I];simp)
def Jb (l:AA Aa)(x y:Int):AV:=dJ l y&&(y != x&&ET (ev l y).bG x)
def RH (l:AA Aa)(ids:AA Int):AA Int:=(F7 ids).filter λx=> !ids.any (Jb l x)
variable {a:AA α}
theorem afd {b:AA α}(p:α->AV)(h:∀x,x∈a↔x∈b):a.any p=b.any p:=by
 grind
def ald (ids:AA Int)(p:Int->AV):F7 (ids.filter p)=(F7 ids).filter p:=
 Du (Ll _) ((Ll ids).sublist Uj) λx=>by rw[MP,Ji,Ji,MP]
def aVA (l:AA Aa)(ids:AA Int):(RH l ids).length<=ids.length:=EK (Kt _ _) (LU ids)
theorem a0k (h:i<l.length):(l.take (i+1)).filter p=(l.take i).filter p++bif p l[i]then[l[i]]else[]:=by
 rw[Ue,EM h,Qw,Qu]
 grind
def a0G (h:i<l.length):(l.take (i+1)).any p=((l.take i).any p||p l[i]):=by
 rw[Ue,EM h,Qw,a3T];simp
theorem aTp (l:AA Aa)(ids:AA Int)(hl:l.length<=100)(hs:EU l)(hi0:ids.length<=1000):sW l ids=some (RH l ids):=by
 unfold sW;refine dW.eq ((sJ l AL).bind λm hm=>?_);unfold aWW;refine TD (body:=aEN ids l) (Q:=λr=>r=RH l ids) (λn a b c=>∃i:Nat,a=i/\i+n=ids.length/\b=m/\∀x,(DF c x).getD false=(ids.take i).any (Jb l x)) ?_ Am ids.length 0 m [] (fuel_lt AL) ⟨0,rfl,AL,rfl,λx=>rfl⟩;rintro n a b c k ⟨i,rfl,hn,rfl,M⟩ U;unfold aEN;by_cases hi:i<ids.length
 ·have hj:∀Y,(∀x,(DF Y x).getD false=((ids.take i).any (Jb l x)||Jb l x ids[i]))->dW (a2n k (i:Int) b Y) (λr=>r=RH l ids):=λY h8=>U (n-1) _ _ _ AL ⟨i+1,wrap_succ i AL,AL,rfl,λx=>by rw[h8,a0G hi]⟩;rw[D8 hi,hm.isSome];cases q:dJ l ids[i]with
  |false=>
   exact hj c λx=>by rw[M];unfold Jb;rw[q];simp
  |true=>
   obtain⟨hg,_⟩:=Qn q;rw[hm.get hg,Ac];have hp:=(hs _ (NK hg)).prev;simp only[Eh,BN];unfold aLu;refine TD (body:=aCx (ev l ids[i]) ids[i] k (i:Int)) (Q:=λr=>r=RH l ids) (λO a2 b2 c2=>∃j:Nat,a2=j/\j+O=(ev l ids[i]).bG.length/\b2=b/\∀x,(DF c2 x).getD false=((ids.take i).any (Jb l x)||(ids[i] != x&&ET ((ev l ids[i]).bG.take j) x))) ?_ Am (ev l ids[i]).bG.length 0 b c (fuel_lt AL) ⟨0,rfl,AL,rfl,λx=>by rw[M,a2Y];unfold ET;simp⟩;rintro O a2 b2 c2 k2 ⟨j,rfl,hn2,rfl,u⟩ z;unfold aCx;by_cases I:j<(ev l ids[i]).bG.length
   ·have J:∀x,ET ((ev l ids[i]).bG.take (j+1)) x=(ET ((ev l ids[i]).bG.take j) x||(x==(ev l ids[i]).bG[j])):=λx=>by
     rw[U8,zI,Lm,Lm,Ue,EM I,Qw,Je,Np,VR]
    rw[D8 I];cases L:(ev l ids[i]).bG[j] != ids[i]with
    |true=>
     refine z (O-1) _ _ _ AL ⟨j+1,wrap_succ j AL,AL,rfl,λx=>?_⟩;rw[P9,J];cases hx:x==(ev l ids[i]).bG[j]with
     |true=>
      have e:=eq_of_beq hx;subst e;rw[show(ids[i] != (ev l ids[i]).bG[j])=true by rw[bne_comm];exact L];simp
     |false=>
      grind
    |false=>
     refine z (O-1) _ _ _ AL ⟨j+1,wrap_succ j AL,AL,rfl,λx=>?_⟩;rw[J,u];have e:(ev l ids[i]).bG[j]=ids[i]:=by simpa using L
     rw[e];cases hx:x==ids[i]with
     |false=>
      simp
     |true=>
      grind
   have :j=(ev l ids[i]).bG.length:=AL
   subst this;rw[EG];exact hj _ λx=>by rw[u,Gn];unfold Jb;rw[q];rfl
 have :i=ids.length:=AL
 subst this;rw[EG];unfold aUE;rw[Gn]at M;refine Jd ids.length (fuel_lt AL) (λi a=>a=(ids.take i).filter λx=> !ids.any (Jb l x)) rfl (λi a k2 hi ha U=>?_) λa k2 ha=>?_
 ·have Z:a.length<=i:=aG9
  unfold aL5 a4W;rw[D8 hi,wrap_succ i AL,M];have hf:=a0k (p:=λx=> !ids.any (Jb l x)) hi;cases hb:ids.any (Jb l ids[i])with
  |true=>
   grind
  |false=>
   simp only[Ip,Bj];rw[Dp Fp,Ac];exact U _ (by rw[hf,ha,hb];rfl)
 have Z:a.length<=ids.length:=aG9
 unfold aL5;rw[EG,Zv _ AL];exact .ret (by rw[ha,Gn,ald];rfl)
def af4 {l:AA Int}(h:Inc l)(hi:i<l.length)(q:j<l.length)(e:l[i]=l[j]):i=j:=by
 rcases aB2 i j with h1|h1|h1
 ·have :=KJ.1 h i j hi q h1;omega
 ·exact h1
 have :=KJ.1 h j i q hi h1;omega
def aN7 (l:AA Aa)(ids:AA Int)(hl:l.length<=1000)(hs:EU l)(hi0:ids.length<=1000):aBF l ids=some (RH l ids):=by
 have I:=Ll ids;have hlen:=LU ids;have J:∀x,(F7 ids).any (Jb l x)=ids.any (Jb l x):=λx=>afd _ λ_=>MP;unfold aBF RH;rw[aJW _ AL,Ac];have q:(λx=> !ids.any (Jb l x))=λx=> !(F7 ids).any (Jb l x):=funext λx=>by rw[J]
 rw[q];generalize F7 ids=S at I hlen;clear J q;unfold aWP;refine dW.eq (Jd S.length (fuel_lt AL) (λi a=>a=(S.take i).filter λx=> !S.any (Jb l x)) rfl (λi a k hi ha hk=>?_) λa k ha=>?_)
 ·have hal:a.length<=i:=aG9
  have hf:=a0k (p:=λx=> !S.any (Jb l x)) hi;unfold aEL;rw[dec_lt hi,Bj];unfold aNu;refine TD (body:=aKg S l (i:Int) k) (Q:=_) (λn b x c=>∃j:Nat,x=j/\j+n=S.length/\c=a/\b= !(S.take j).any (Jb l S[i])) ?_ Am S.length true 0 a (fuel_lt AL) ⟨0,rfl,AL,rfl,BU⟩;rintro n b x c k2 ⟨j,rfl,hn,rfl,M⟩ O;unfold aKg;by_cases U:j<S.length
  ·have u:∀Y,Y=(!((S.take j).any (Jb l S[i])||Jb l S[i] S[j]))->dW (a4d k2 (j:Int) Y c) (λx=>x=(S.filter λx=> !S.any (Jb l x))):=λY h'=>O (n-1) _ _ _ AL ⟨j+1,wrap_succ j AL,AL,rfl,by rw[a0G U];exact h'⟩;rw[D8 U,KU l _ AL,Ac,Nj]
   have Z:(((j:Int) != (i:Int)))=(S[j] != S[i]):=by
    rw[U8];simp only[bne_iff_ne,ne_eq];constructor
    ·intro h e;exact h (by rw[af4 I U hi e])
    intro h e;have :j=i:=AL
    subst this;exact h rfl
   rw[Z];cases z:(En l S[j]).isSome with
   |false=>
    unfold dH;exact u b (by rw[M];unfold Jb dJ;rw[z];simp)
   |true=>
    cases hq:S[j] != S[i]with
    |false=>
     unfold dH;exact u b (by rw[M];unfold Jb;rw[hq];simp)
    |true=>
     simp only[Bj]
     have hpl:(IZ l S[j]).1.bG.length<=40:=by
      obtain⟨e,he⟩:=Qi.1 z;rw[NS he];exact(hs e (NK he)).prev
     rw[CM hi,Ac,Xt _ _ AL,Ac];unfold dH;cases hh:ET (IZ l S[j]).1.bG S[i]with
     |true=>exact u false (by unfold Jb dJ ev;rw[z,hq,hh];simp)
     |false=>exact u b (by rw[M];unfold Jb dJ ev;rw[z,hq,hh];simp)
  have :j=S.length:=AL
  subst this;rw[EG,M,Gn];unfold a5c;rw[wrap_succ i AL];cases L:S.any (Jb l S[i])with
  |true=>exact hk _ (by rw[hf,ha,L];simp)
  |false=>
   simp only[Ip,Bj];rw[CM hi,Ac,Dp Fp,Ac];exact hk _ (by rw[hf,ha,L];rfl)
 unfold aEL;rw[DN];exact .ret Yy
def jf (x y:Aa):AV:=y.Kind==x.Kind&&(y.Key=x.Key)
def La (q:AA BM):AA Aa->AA Aa->AV
 |_,[]=>true
 |j,x::xs=>(q.any λk=>FM k x)&& !j.any (jf x)&&La q (j++[x]) xs
def Qj (x:Aa):AV:=x.Kind==1&&(x.Key=Ci)
def Vo (l:AA Aa)(e:Aa):Int:=
 bif !e.bJ.all (dJ l)then 14 else bif !(ofIds l e.bJ).all (λx=>x.Room=e.Room)then 13
 else bif La (keysOf e) [] (ofIds l e.bJ)&&(e.Kind==1||(ofIds l e.bJ).any Qj)then 0 else 16
def eS {k:BM}{x:Aa}:FM k x=true↔x.Kind=k.Kind/\x.Key=k.Key:=by unfold FM;simp
def aMZ {x y:Aa}:jf x y=true↔y.Kind=x.Kind/\y.Key=x.Key:=by unfold jf;simp
variable {j:AA BM}
def aRa {X:AA Aa}(h:i<X.length):La j (X.take i) (X.drop i)=((j.any λk=>FM k X[i])&& !(X.take i).any (jf X[i])&&La j (X.take (i+1)) (X.drop (i+1))):=by
 rw[MW h,Ue,EM h];rfl
def aQk (X:AA Aa):La j (X.take X.length) (X.drop X.length)=true:=by rw[Ox];rfl
def aSp (X:AA Aa)(k:Int)(key:BL)(h:X.length<=1000):Yk (X.map λx=>(⟨x.Kind,x.Key,0⟩:BM)) k key=some (X.any λy=>y.Kind==k&&(y.Key=key)):=by
 unfold Yk aEA;rw[Gj (X.map λx=>(⟨x.Kind,x.Key,0⟩:BM)) (fuel_lt Yn) (λy=>y.Kind==k&&(y.Key=key)) true (some false)]
 ·rw[List.any_map];show(bif X.any (λy=>y.Kind==k&&(y.Key=key))then some true else some false)=_;cases X.any (λy=>y.Kind==k&&(y.Key=key))<;>rfl
 ·intro q i hi;unfold yP;rw[D8 hi,CM hi,Ac,JA];cases((X.map λx=>(⟨x.Kind,x.Key,0⟩:BM))[i].Kind==k)<;>rfl
 intro q;unfold yP;rw[DN];rfl
theorem aYW (j:AA BM)(x:Aa)(h:j.length<=1000):Yk j x.Kind x.Key=some (j.any λk=>FM k x):=by
 unfold Yk aEA;rw[Gj j (fuel_lt AL) (λk=>FM k x) true (some false)]
 ·grind
 ·intro q i hi;unfold yP;rw[D8 hi,CM hi,Ac,JA];have u:(j[i].Kind==x.Kind)=(x.Kind==j[i].Kind):=by rw[U8,VR,VR];exact eq_comm
  have z:decide (j[i].Key=x.Key)=decide (x.Key=j[i].Key):=decide_eq_decide.2 eq_comm;unfold FM
  grind
 intro q;unfold yP;rw[DN];rfl
def afS (X:AA Aa)(e:Aa)(O:X.length<=40):aKN X (keysOf e) e [] 0=some (cond (La (keysOf e) [] X&&(e.Kind==1||X.any Qj)) 0 16):=by
 have I:=Xp e;unfold aKN;refine dW.eq (Jd X.length (fuel_lt AL) (λi a=>a=(X.take i).map (λx=>(⟨x.Kind,x.Key,0⟩:BM))/\La (keysOf e) [] X=La (keysOf e) (X.take i) (X.drop i)) ⟨rfl,rfl⟩ (λi a k hi ha J=>?_) λa k ha=>?_)
 ·obtain⟨rfl,j⟩:=ha;unfold aJ1;rw[D8 hi,CM hi,Ac,aYW _ _ AL,Ac];rw[aRa hi]at j
  have u:∀b,La (keysOf e) [] X=(!b&&La (keysOf e) (X.take (i+1)) (X.drop (i+1)))->dW (uT X (i:Int) ((X.take i).map λx=>(⟨x.Kind,x.Key,0⟩:BM)) k b) (· =bif La (keysOf e) [] X&&(e.Kind==1||X.any Qj)then 0 else 16):=λb z=>by
   unfold uT;cases b with
   |true=>exact .ret uS
   |false=>
    simp only[BN];rw[CM hi,Ac,Ac,Dp (by simp only[QK,Di,Gz];omega),Ac,wrap_succ i AL];exact J _ ⟨by rw[map_take hi],uS⟩
  cases hm:(keysOf e).any λk=>FM k X[i]with
  |false=>
   rw[Ip,Bj];exact u true (by rw[j,hm];rfl)
  |true=>
   rw[Eh,BN];have L:(λy:Aa=>y.Kind==X[i].Kind&&(y.Key=X[i].Key))=jf X[i]:=rfl;rw[Ac,Ac,aSp _ _ _ nV,Ac,L];exact u _ (by rw[j,hm,GV])
 obtain⟨rfl,j⟩:=ha;rw[aQk]at j;unfold aJ1;rw[DN,BN,Gn,j,aSp _ _ _ AL];have M:(X.any λy=>y.Kind==1&&(y.Key=Ci))=X.any Qj:=rfl;rw[M];have q:(e.Kind != 1)= !(e.Kind==1):=rfl;rw[q];cases e.Kind==1<;>cases X.any Qj<;>exact .ret rfl
def aZU (X:AA Aa)(e:Aa)(j:X.length<=40):aKH X e 0=some (bif !X.all (λx=>x.Room=e.Room)then 13 else bif La (keysOf e) [] X&&(e.Kind==1||X.any Qj)then 0 else 16):=by
 unfold aKH;rw[Gj X (fuel_lt AL) (λx=> !decide (x.Room=e.Room)) 13 (some (cond (La (keysOf e) [] X&&(e.Kind==1||X.any Qj)) 0 16))]
 ·rw[nS];cases X.all (λx=>x.Room=e.Room)<;>rfl
 ·intro k i hi;unfold aG1;rw[D8 hi,JA]
 intro k;unfold aG1;rw[EG,aKa,Ac,afS X e j]
theorem acK (l:AA Aa)(e:Aa)(hl:l.length<=100)(j:Hg e):a3m l e=some (Vo l e):=by
 have h1:=j.auth;have q:=bT l e.bJ;unfold a3m aM6 Vo;rw[Gj e.bJ (fuel_lt AL) (λx=> !dJ l x) 14 (some (bif !(ofIds l e.bJ).all (λx=>x.Room=e.Room)then 13 else bif La (keysOf e) [] (ofIds l e.bJ)&&(e.Kind==1||(ofIds l e.bJ).any Qj)then 0 else 16))]
 ·rw[nS]
  grind
 ·intro k i hi;unfold aKt;rw[D8 hi,KU l _ AL,Ac,Nj];rfl
 intro k;unfold aKt;rw[DN,BN,aDB l _ AL AL,Ac,aZU _ e AL]
def agE (k:BM)(e:Aa):WO (JQ k) e=some (FM k e):=by
 unfold WO FM JQ;cases h:(e.Kind==k.Kind)with
 |false=>rfl
 |true=>show some (e.Key.toList==k.Key.toList)=_;rw[JA,GV]
theorem alm (j:AA BM)(x:Aa)(h:j.length<=100):a3v (j.map JQ) x=some (if j.findIdx (λk=>FM k x)<j.length then((j.findIdx (λk=>FM k x):Nat):Int)else -1):=by
 unfold a3v aNN
 have u:∀k (i:Nat),i<j.length->a6W (j.map JQ) x k (i:Int)=bif FM (j.getD i ⟨0,Ci,0⟩) x then some (i:Int)else k (Az ((i:Int)+1)):=λk i hi=>by
  unfold a6W;have q:i<(j.map JQ).length:=a2V
  rw[D8 q,TF];show((WO (JQ j[i]) x).bind _)=_;rw[agE,Ac];simp[List.getD,hi]
 rw[JY j (fuel_lt AL) (λk=>FM k x) (λi=>some (i:Int)) (some (-1))]
 ·split<;>rfl
 ·grind
 intro k;unfold a6W;rw[show((j.map JQ).length:Int)=(j.length:Int) by rw[Di],DN];rfl
def aVw {α:Type}{p:α->AV}:∀l:AA α,l.Pairwise (λa b=>¬(p a=true/\p b=true))->l.findIdx p<l.length->l.filter (λx=> !p x)=l.take (l.findIdx p)++l.drop (l.findIdx p+1)
 | [],_,h=>absurd h (aC _)
 |a::l,hp,h=>by
  obtain⟨h1,h2⟩:=QI.1 hp;rw[Ws]at h ⊢;cases ha:p a with
  |true=>
   rw[List.filter_cons_of_neg (by simp[ha]),zf.2 λb j=>by
    cases q:p b with
    |false=>rfl
    |true=>exact absurd ⟨ha,q⟩ (h1 b j)]
   rfl
  |false=>
   rw[ha]at h;rw[List.filter_cons_of_pos (by simp[ha]),aVw l h2 O5];rfl
theorem aZk:∀l:AA α,decide (l.findIdx p<l.length)=l.any p
 | []=>
  rfl
 |a::l=>by
  grind
def amT (e:Aa):Jf (keysOf e):=by
 have z:Jf (Ls e):=XM (XM (XM List.Pairwise.nil _ _ _) _ _ _) _ _ _;unfold keysOf;cases e.Kind==1<;>cases e.Kind==2<;>cases(e.Content.N==3||e.Content.N==1||e.Content.N==2)<;>simp only[Bj,BN]
 ·exact z
 ·exact z
 ·exact XM z _ _ _
 ·exact XM (XM z _ _ _) _ _ _
 all_goals exact List.Pairwise.nil
theorem ah3 {k:BM}(h:k∈keysOf e)(h1:k.Kind=1):k.Key=Ci:=by
 have z:∀x∈Ls e,x.Kind=1->x.Key=Ci:=λx j q=>by
  unfold Ls at j;rcases V4 j with rfl|j
  ·cases q
  rcases V4 j with rfl|j
  ·cases q
  rcases V4 j with rfl|j
  ·rfl
  cases j
 unfold keysOf at h;cases h2:e.Kind==1 with
 |true=>
  grind
 |false=>
  cases h3:e.Kind==2 with
  |false=>
   grind
  |true=>
   rw[h2,h3]at h;cases u:(e.Content.N==3||e.Content.N==1||e.Content.N==2)with
   |true=>
    rw[u]at h;rcases V4 h with rfl|h
    ·cases h1
    rcases V4 h with rfl|h
    ·cases h1
    exact z k h h1
   |false=>
    rw[u]at h;rcases V4 h with rfl|h
    ·cases h1
    exact z k h h1
theorem aUI {u:AA BM}:∀(X j:AA Aa),La u j X=true->∀x∈X,∃k∈u,FM k x=true
 | [],_,_,_,h=>absurd h Gh
 |y::X,j,h,x,q=>by
  unfold La at h;simp only[ED]at h;rcases FI.1 q with rfl|q
  ·grind
  exact aUI X _ h.2 x q
theorem any_congr {q:α->AV}(h:∀x∈l,p x=q x):l.any p=l.any q:=by
 grind
def aZD (l:AA Aa)(e:Aa)(hl:l.length<=100)(he:Hg e):qc l e=some (Vo l e):=by
 have h1:=he.auth;have hk5:=Xp e;have hsk:=amT e;unfold qc aW0;refine dW.eq (Jd e.bJ.length (fuel_lt AL) (λi a=>a=ofIds l (e.bJ.take i)/\∀x∈e.bJ.take i,dJ l x=true) ⟨rfl,λx U=>by simp at U⟩ (λi a k hi ha J=>?_) λa k ha=>?_)
 ·obtain⟨rfl,u⟩:=ha;have hal:=bT l (e.bJ.take i);rw[Gz]at hal;unfold a2E;rw[D8 hi,NG l _ AL,Ac,wrap_succ i AL];cases Y:En l e.bJ[i]with
  |none=>
   rw[RS Y];refine .ret ?_;unfold Vo;rw[qE (Et hi) (show dJ l e.bJ[i]=false by unfold dJ;rw[Y];rfl)];rfl
  |some x=>
   rw[NS Y];simp only[Eh,BN];rw[Dp Fp,Ac];refine J _ ⟨?_,λy I=>?_⟩
   ·unfold ofIds;rw[Ue,EM hi,Qw,bU,Vx,Y];rfl
   rw[Ue,EM hi,Qw,Je,Np]at I;rcases I with I|rfl
   ·exact u y I
   unfold dJ;rw[Y];rfl
 obtain⟨rfl,u⟩:=ha;rw[Gn]at u ⊢;have U:=bT l e.bJ;have Z:e.bJ.all (dJ l)=true:=Fq.2 u;unfold a2E;rw[EG];unfold Vo;rw[Z];simp only[Eh,BN];generalize ofIds l e.bJ=X at U;unfold aTG;rw[Gj X (fuel_lt AL) (λx=> !decide (x.Room=e.Room)) 13 (some (cond (La (keysOf e) [] X&&(e.Kind==1||X.any Qj)) 0 16))]
 ·rw[nS];cases X.all (λx=>x.Room=e.Room)<;>exact .ret rfl
 ·intro k2 i hi;unfold aBr;rw[D8 hi,JA]
 intro k2;unfold aBr;rw[EG,aRz,Ac];unfold aOo;refine dW.eq (TD (body:=aC5 X) (Q:=(· =bif La (keysOf e) [] X&&(e.Kind==1||X.any Qj)then 0 else 16)) (λn b ks x=>∃i:Nat,x=i/\i+n=X.length/\ks=((keysOf e).filter λk=> !(X.take i).any (FM k)).map JQ/\b=(e.Kind==1||(X.take i).any λx=>x.Kind==1)/\La (keysOf e) [] X=La (keysOf e) (X.take i) (X.drop i)) ?_ Am X.length (e.Kind==1) ((keysOf e).map JQ) 0 (fuel_lt AL) ⟨0,rfl,AL,by rw[a2Y];exact Au (List.map JQ) (zf.2 λ_ _=>rfl).symm,BU,rfl⟩);rintro n b ks x k3 ⟨i,rfl,hn,hks,hb,z⟩ hk3;unfold aC5;by_cases hi:i<X.length
 ·rw[aRa hi]at z;have hlk:((keysOf e).filter λk=> !(X.take i).any (FM k)).length<=5:=EK (Kt _ _) hk5;rw[D8 hi,hks,alm _ _ AL,Ac];have L:=aZk (p:=λk=>FM k X[i]) ((keysOf e).filter λk=> !(X.take i).any (FM k))
  have M:(((keysOf e).filter λk=> !(X.take i).any (FM k)).any λk=>FM k X[i])=((keysOf e).any (λk=>FM k X[i])&& !(X.take i).any (jf X[i])):=by
   rw[U8,KX,ED,KX,Vg,←Zz,KX];constructor
   ·rintro⟨k,J,hm⟩;obtain⟨hk1,hk2⟩:=Ji.1 J;refine⟨⟨k,hk1,hm⟩,?_⟩;rintro⟨y,I,hs⟩;obtain⟨m1,m2⟩:=eS.1 hm;obtain⟨s1,s2⟩:=aMZ.1 hs;rw[KX.2 ⟨y,I,eS.2 ⟨s1.trans m1,s2.trans m2⟩⟩]at hk2;cases hk2
   rintro⟨⟨k,J,hm⟩,hno⟩;refine⟨k,Ji.2 ⟨J,?_⟩,hm⟩;rw[Vg,←Zz,KX];rintro⟨y,I,hs⟩;obtain⟨m1,m2⟩:=eS.1 hm;obtain⟨s1,s2⟩:=eS.1 hs;exact hno ⟨y,I,aMZ.2 ⟨s1.trans m1.symm,s2.trans m2.symm⟩⟩
  rw[←M,←L]at z;by_cases q:((keysOf e).filter λk=> !(X.take i).any (FM k)).findIdx (λk=>FM k X[i])<((keysOf e).filter λk=> !(X.take i).any (FM k)).length
  ·rw[ES q,JF AL,BN];rw[Lp q,GV]at z;have hlm:(((keysOf e).filter λk=> !(X.take i).any (FM k)).map JQ).length=((keysOf e).filter λk=> !(X.take i).any (FM k)).length:=Di ..
   have hpw:((keysOf e).filter λk=> !(X.take i).any (FM k)).Pairwise (λa b=>¬(FM a X[i]=true/\FM b X[i]=true)):=by
    refine(List.Pairwise.sublist Uj hsk).imp λ{a b} hab h=>?_;obtain⟨a1,a2⟩:=eS.1 h.1;obtain⟨b1,b2⟩:=eS.1 h.2;rw[a0F (Wq.2 ⟨a1.symm.trans b1,a2.symm.trans b2⟩)]at hab;cases hab
   have hd:=aVw _ hpw q
   have O:((keysOf e).filter λk=> !(X.take i).any (FM k)).filter (λk=> !FM k X[i])=(keysOf e).filter λk=> !(X.take (i+1)).any (FM k):=by
    rw[List.filter_filter];refine List.filter_congr λk _=>?_;rw[a0G hi];cases(X.take i).any (FM k)<;>cases FM k X[i]<;>rfl
   rw[O]at hd;generalize((keysOf e).filter λk=> !(X.take i).any (FM k))=K at q hd hlm hlk;generalize K.findIdx (λk=>FM k X[i])=j at q hd;have s1:Hq (K.map JQ) 0 (j:Int)=some (((K.map JQ).drop 0).take (j-0)):=iy (lo:=0) (Ef _) AL;have s2:Hq (K.map JQ) (Az ((j:Int)+1)) ((K.map JQ).length:Int)=some (((K.map JQ).drop (j+1)).take ((K.map JQ).length-(j+1))):=by rw[wrap_succ j AL];exact iy AL (Ec _)
   rw[s1,Ac,s2,Ac,Dp (by simp only[Gz,NP];omega),Ac];have hb3:(cond b (some true) ((Aj X (i:Int)).bind λx28=>some (x28.Kind==1)))=some (b||X[i].Kind==1):=by rw[CM hi];cases b<;>rfl
   rw[hb3,Ac];refine hk3 (n-1) _ _ _ AL ⟨i+1,wrap_succ i AL,AL,?_,?_,z⟩
   ·rw[hd,J8,YM,fP,Nat.sub_zero,a1Z,Qa (l:=(K.map JQ).drop (j+1)) (by rw[NP];omega)]
   rw[a0G hi,hb,Bool.or_assoc]
  rw[EZ q];rw[JF q,aGO]at z;exact .ret uS
 have :i=X.length:=AL
 subst this;rw[aQk]at z;rw[EG,z,hb,Gn,GV]
 have hc:(X.any λx=>x.Kind==1)=X.any Qj:=any_congr λx U=>by
  obtain⟨k,J,hm⟩:=aUI X [] z x U;obtain⟨m1,m2⟩:=eS.1 hm;unfold Qj;cases hq:x.Kind==1 with
  |false=>rfl
  |true=>rw[m2,ah3 J (by rw[←m1];exact eq_of_beq hq)];simp
 rw[hc];cases(e.Kind==1||X.any Qj)<;>exact .ret rfl
def Pm (l:AA Aa)(s:AA BM):AA Aa:=ofIds l (s.map (·.Id))
def a6o (l:AA Aa)(s:AA BM):(Pm l s).length<=s.length:=by have :=bT l (s.map (·.Id));rwa [Di]at this
variable {l:AA Aa}
def aQA (hs:EU l)(ids:AA Int):EU (ofIds l ids):=λx j=>hs x (aJI j)
theorem a5O (h:i<s.length):Pm l (s.take (i+1))=Pm l (s.take i)++(En l s[i].Id).toList:=by
 unfold Pm ofIds;rw[map_take h,bU,Vx,List.filterMap_nil]
 grind
def agZ (l:AA Aa)(s:AA BM)(hl:l.length<=100)(h:s.length<=1000):xR l s=some (Pm l s):=by
 unfold xR qR;rw[Ac];unfold aTr;refine dW.eq (a3z (body:=aHv s) (Q:=(· =Pm l s)) (λn a b c _ _=>∃i:Nat,b=i/\i+n=s.length/\c=l/\a=Pm l (s.take i)) ?_ Am s.length [] 0 l [] [] (fuel_lt AL) ⟨0,rfl,AL,rfl,rfl⟩);rintro n a b c d f k ⟨i,rfl,z,rfl,ha⟩ u;unfold aHv;by_cases hi:i<s.length
 ·have q:=a6o c (s.take i);rw[Gz]at q;rw[D8 hi,NG c _ AL,Ac,wrap_succ i AL];cases j:En c s[i].Id with
  |none=>rw[RS j];exact u (n-1) _ _ _ _ _ AL ⟨i+1,rfl,AL,rfl,by rw[a5O hi,j,ha];simp⟩
  |some x=>
   rw[NS j];simp only[Bj];rw[Dp (by rw[ha];simp only[QK];omega),Ac];exact u (n-1) _ _ _ _ _ AL ⟨i+1,rfl,AL,rfl,by rw[a5O hi,j,ha];rfl⟩
 have :i=s.length:=AL
 subst this;rw[EG];exact .ret Yy
def aay (l:AA Aa)(s:AA BM)(hl:l.length<=100)(h:s.length<=1000):aAr l s=some (Pm l s):=by
 unfold aAr aSg;refine dW.eq (Jd s.length (fuel_lt AL) (λi a=>a=Pm l (s.take i)) rfl (λi a k hi ha u=>?_) λa k ha=>?_)
 ·have q:=a6o l (s.take i);rw[Gz]at q;unfold aKJ a6u;rw[D8 hi,KU l _ AL,Ac,wrap_succ i AL];cases j:En l s[i].Id with
  |none=>rw[RS j];exact u _ (by rw[a5O hi,j,ha];simp)
  |some x=>
   rw[NS j];simp only[Bj];rw[Dp (by rw[ha];simp only[QK];omega),Ac];exact u _ (by rw[a5O hi,j,ha];rfl)
 unfold aKJ;rw[DN];exact .ret Yy
structure FX where
 id:Int
 before:List BM
 after:List BM
 err:Int
def Ig (t:AA FX)(x:Int):Option FX:=t.find? λy=>y.id==x
def QG (t:AA FX)(x:Int):AA BM:=((Ig t x).map (·.after)).getD []
def errOf (t:AA FX)(x:Int):Int:=((Ig t x).map (·.err)).getD 0
def a1g (l:AA Aa)(e:Aa):Int:=bif Vo l e != 0 then Vo l e else TL e (XD l e)
def Tm (l:AA Aa)(t:AA FX)(e:Aa)(s:AA BM):Int:=
 bif a1g l e != 0 then a1g l e else bif e.bJ.any (λx=>errOf t x != 0)then 16 else TL e (Pm l s)
def stB (l:AA Aa)(t:AA FX)(e:Aa):AA BM:=xH l (e.bG.map (QG t))
def eB (e:Aa)(s:AA BM)(r:Int):FX:=⟨e.Id,s,bif r==0&&Ic e.Kind then GL s e.Kind e.Key e.Id else s,r⟩
def VT (l:AA Aa)(t:AA FX)(e:Aa):FX:=eB e (stB l t e) (Tm l t e (stB l t e))
def NR (l:AA Aa)(ids:AA Int):AA FX:=ids.foldl (λt id=>t++[VT l t (ev l id)]) []
def FD (l:AA Aa):AA FX:=NR l (Pj l)
def aU2 (l:AA Aa)(h:i<ids.length):NR l (ids.take (i+1))=NR l (ids.take i)++[VT l (NR l (ids.take i)) (ev l ids[i])]:=aT6 h
variable {t:AA FX}
theorem aM2:Ig t x=none↔x∉t.map (·.id):=by
 unfold Ig
 grind
variable {y:FX}
theorem aCL (h:Ig t y.id=none)(x:Int):Ig (t++[y]) x=bif x==y.id then some y else Ig t x:=by
 unfold Ig at h ⊢
 grind
def aJ2 (l:AA Aa):∀(ids:AA Int) (t:AA FX),(∀x∈ids,dJ l x=true)->(ids.foldl (λt id=>t++[VT l t (ev l id)]) t).map (·.id)=t.map (·.id)++ids
 | [],t,_=>BU
 |x::ids,t,h=>by
  have j:(VT l t (ev l x)).id=x:=(Qn (h x (I8 ..))).2;rw[Gu,aJ2 l ids _ λy q=>h y (Ii _ q),J8,Gg,List.map_nil,j,Il];rfl
def NM (l:AA Aa)(t:AA FX):Prop:=∀y∈t,Jg l y.before/\Jg l y.after
def NM.after (h:NM l t)(x:Int):Jg l (QG t x):=by
 unfold QG;cases hl:Ig t x with
 |none=>exact .nil l
 |some y=>exact(h y (ZW hl)).2
def NM.states (h:NM l t)(ids:AA Int):∀s∈ids.map (QG t),Jg l s:=λs hs=>by
 obtain⟨x,_,rfl⟩:=Hl.1 hs;exact h.after x
def NM.okay {l:AA Aa}{t:AA FX}(h:NM l t)(hl:l.length<=100)(hs:EU l)(ids:AA Int)(hi:ids.length<=100):O9 l (ids.map (QG t)):=Jg.okay hl hs a2V (h.states ids)
def NM.stB (h:NM l t)(hl:l.length<=100)(hs:EU l)(j:e.bG.length<=40):Jg l (stB l t e):=Jg.resolve (h.okay hl hs _ AL) (h.states _)
def NM.line (h:NM l t)(hl:l.length<=100)(hs:EU l)(u:e.bG.length<=40)(z:Ic e.Kind=true->dJ l e.Id=true/\ev l e.Id=e):NM l (t++[VT l t e]):=λy j=>by
 rcases Je.1 j with j|j
 ·exact h y j
 rw[Np.1 j];have hp:=h.stB hl hs u;refine⟨hp,?_⟩;show Jg l (cond (Tm l t e (Go.Proofs.YtfmoknlmaldmlaaGreat.stB l t e)==0&&Ic e.Kind) (GL _ e.Kind e.Key e.Id) _);cases q:(Tm l t e (Go.Proofs.YtfmoknlmaldmlaaGreat.stB l t e)==0&&Ic e.Kind)with
 |false=>exact hp
 |true=>
  have hst:Ic e.Kind=true:=by rw[ED]at q;exact q.2
  obtain⟨I,k2⟩:=z hst;exact hp.set I k2 hst
def an2 {id:Int}(h:Ic (ev l id).Kind=true):dJ l (ev l id).Id=true/\ev l (ev l id).Id=ev l id:=by
 cases j:En l id with
 |none=>unfold ev at h;rw[RS j]at h;exact absurd h Bd
 |some e=>
  have q:dJ l id=true:=by unfold dJ;rw[j];rfl
  have :=(Qn q).2;rw[this];exact⟨q,rfl⟩
def aja :Hg FU:=⟨Ef _,Ef _,Ef _,Ef _,Ef _,Ef _,Ef _,Ef _,Ef _,Ef _,Ef _,Ef _,λ_ h=>absurd h Gh,λ_ h=>absurd h Gh,λ_ h=>absurd h Gh⟩
def a3q (hs:EU l)(id:Int):Hg (ev l id):=by
 unfold ev IZ;cases h:En l id with
 |none=>exact aja
 |some e=>exact hs e (NK h)
def a2X {l:AA Aa}(hl:l.length<=100)(hs:EU l):∀(ids:AA Int) (t:AA FX),NM l t->NM l (ids.foldl (λt id=>t++[VT l t (ev l id)]) t)
 | [],t,h=>h
 |x::ids,t,h=>by rw[Gu];exact a2X hl hs ids _ (h.line hl hs (a3q hs x).prev an2)
structure P8 (t:List FX) (m1 m2:List (Int×List BM)) (m3:List (Int×Int)):Prop where
 b:∀x,DF m1 x=(Ig t x).map (·.before)
 a:∀x,DF m2 x=(Ig t x).map (·.after)
 r:∀x,DF m3 x=(Ig t x).map (·.err)
variable {j q:AA (Int×AA BM)}{u:AA (Int×Int)}
def P8.after (h:P8 t q j u)(x:Int):(DF j x).getD []=QG t x:=by rw[h.a];rfl
def P8.err {u:AA (Int×AA BM)}{j:AA (Int×Int)}(h:P8 t q u j)(x:Int):(DF j x).getD 0=errOf t x:=by rw[h.r];rfl
theorem acE {u:AA (Int×AA BM)}{z:AA (Int×Int)}(h:P8 t q u z)(l:AA Aa)(e:Aa)(s:AA BM)(hl:l.length<=100)(hs:EU l)(j:Hg e)(hsl:s.length<=100):
 a1F q u z l e s=some (Tm l t e s):=by
 have h1:=j.auth;have h2:=a6o l s;unfold a1F Tm a1g;rw[aZD l e hl j,Ac];cases I:Vo l e != 0 with
 |true=>
  grind
 |false=>
  simp only[BN];rw[aMG l e AL AL,Ac,aLq e _ (EK (aBW l e) AL) (hs.from e) j,Ac];cases ha:TL e (XD l e) != 0 with
  |true=>
   rfl
  |false=>
   simp only[BN];unfold aX4;rw[Gj e.bJ (fuel_lt AL) (λx=>errOf t x != 0) 16 (some (TL e (Pm l s)))]
   ·cases e.bJ.any (λx=>errOf t x != 0)<;>rfl
   ·intro k i hi;unfold aE4;rw[D8 hi,h.err]
   intro k;unfold aE4;rw[EG,agZ l s hl AL,Ac,aLq e (Pm l s) AL (aQA hs _) j];rfl
variable {I:AA (Int×AA BM)}
def P8.snoc {J:AA (Int×AA BM)}{L:AA (Int×Int)}(h:P8 t I J L)(z:Ig t y.id=none)(h1:∀x,DF j x=bif x==y.id then some y.before else DF I x)(h2:∀x,DF q x=bif x==y.id then some y.after else DF J x)(h3:∀x,DF u x=bif x==y.id then some y.err else DF L x):P8 (t++[y]) j q u:=by
 refine⟨λx=>?_,λx=>?_,λx=>?_⟩
 ·rw[h1,aCL z,h.b];cases x==y.id<;>rfl
 ·rw[h2,aCL z,h.a];cases x==y.id<;>rfl
 rw[h3,aCL z,h.r];cases x==y.id<;>rfl
def add_eq {z:AA (Int×AA BM)}{J:AA (Int×Int)}(h:P8 t z I J)(l:AA Aa)(e:Aa)(hl:l.length<=100)(hs:EU l)(L:Hg e)(M:NM l t)(O:Ig t e.Id=none):
 dW (a3w z I J l e) (λr=>P8 (t++[VT l t e]) r.1 r.2.1 r.2.2):=by
 have h1:=L.prev;unfold a3w aO7;refine Jd e.bG.length (fuel_lt AL) (λi a=>a=(e.bG.take i).map (QG t)) rfl (λi a k hi ha U=>?_) λa k ha=>?_
 ·have Y:a.length<=i:=yw
  unfold aGf;rw[D8 hi,Dp Fp,Ac,wrap_succ i AL,h.after];exact U _ a6q
 rw[Gn]at ha;subst ha;unfold aGf;have hp:Jg l (stB l t e):=M.stB hl hs h1;have Z:=hp.length;have u:jR l (e.bG.map (QG t))=some (stB l t e):=aTb (M.okay hl hs _ AL);rw[EG,u,Ac,acE h l e _ hl hs L AL,Ac];have j:VT l t e=eB e (stB l t e) (Tm l t e (stB l t e)):=rfl;rw[j];generalize Tm l t e (stB l t e)=r;have q:∀(c d f:AV) {R:Type} (g:AV->AB R),((cond c (some d) (some false)).bind λx9=>(cond x9 (some f) (some false)).bind g)=g (c&&(d&&f)):=λc d f R g=>by cases c<;>cases d<;>rfl
 rw[q];show dW (cond (r==0&&Ic e.Kind) _ _) _;unfold eB;cases hc:(r==0&&Ic e.Kind)with
 |true=>
  simp only[Bj];rw[Yi _ _ _ _ AL,Ac];refine .ret (h.snoc O (λx=>P9 ..) (λx=>?_) λx=>P9 ..);rw[P9,P9];cases x==e.Id<;>rfl
 |false=>exact .ret (h.snoc O (λx=>P9 ..) (λx=>P9 ..) λx=>P9 ..)
def run_go (l:AA Aa)(ids:AA Int)(hl:l.length<=100)(hs:EU l)(u:∀x∈ids,dJ l x=true)(z:ids.Nodup)(J:ids.length<=1000):dW (aCP ids l 0 [] [] []) (λo=>∃T,o=some T/\P8 (NR l ids) T.1 T.2.1 T.2.2):=by
 unfold aCP;refine aKb (body:=aL9 ids l) (Q:=λo=>∃T,o=some T/\P8 (NR l ids) T.1 T.2.1 T.2.2) (λn a b c d=>∃i:Nat,a=i/\i+n=ids.length/\P8 (NR l (ids.take i)) b c d) ?_ Am ids.length 0 [] [] [] (fuel_lt AL) ⟨0,rfl,AL,⟨λx=>rfl,λx=>rfl,λx=>rfl⟩⟩;rintro n a b c d k ⟨i,rfl,Z,hm⟩ L;unfold aL9;by_cases hi:i<ids.length
 ·have I:=u _ (Et hi)
  have q:Ig (NR l (ids.take i)) (ev l ids[i]).Id=none:=by
   rw[aM2,(Qn I).2];unfold NR;rw[aJ2 l _ _ λx M=>u x (a0D M),List.map_nil,IE];intro hm;obtain⟨j,O,e⟩:=Ih hm;rw[Gz]at O;rw[a5x]at e;have :=KJ.1 (aJn.1 z) j i AL hi AL;exact this e
  rw[D8 hi,NG l _ AL,Ac];refine(add_eq hm l _ hl hs (a3q hs ids[i]) (a2X hl hs _ _ λy U=>absurd U Gh) q).bind λr Y=>?_;exact L (n-1) _ _ _ _ AL ⟨i+1,wrap_succ i AL,AL,by rw[aU2 l hi];exact Y⟩
 have :i=ids.length:=AL
 subst this;rw[EG];exact .ret ⟨_,rfl,by rw[Gn]at hm;exact hm⟩
structure Om (l:List Aa):Prop where
 len:l.length<=100
 small:EU l
 nodup:(l.map (·.Id)).Nodup
 dep:iZ l
theorem dn:dJ l x=true↔x∈l.map (·.Id):=by
 unfold dJ En
 grind
def aTj (l:AA Aa):(Pj l).Perm (l.map (·.Id)):=(ahB l).map _
def aL6:x∈Pj l↔dJ l x=true:=by rw[(aTj l).mem_iff,dn]
def aAD (l:AA Aa):(Pj l).length=l.length:=by unfold Pj;rw[Di,aED]
def Om.order (h:Om l):(Pj l).Nodup:=(aTj l).nodup_iff.2 h.nodup
def Rk (l:AA Aa)(c:Int):AA FX:=bif c==0&&NI l==0 then FD l else[]
def run_eq (l:AA Aa)(z:PY l=some c)(h:c=0->Om l):
 dW (eP l) (λo=>(Rk l c=[]/\o=none)\/(Rk l c=FD l/\Om l/\∃T,o=some T/\P8 (FD l) T.1 T.2.1 T.2.2)):=by
 unfold eP Rk;rw[z,Ac];by_cases u:c=0
 ·subst u;have j:=h rfl;rw[aSD l j.len j.small j.dep];cases hd:NI l==0 with
  |false=>
   have q:(NI l != 0)=true:=by unfold bne;rw[hd];rfl
   simp only[TY,BN,Ac,q,Bj];exact .ret (.inl ⟨rfl,rfl⟩)
  |true=>
   have q:(NI l != 0)=false:=by unfold bne;rw[hd];rfl
   simp only[TY,BN,Ac,q];rw[ajl l (by have :=j.len;omega),Ac];exact(run_go l (Pj l) j.len j.small (λx I=>aL6.1 I) j.order (by rw[aAD];have :=j.len;omega)).mono λo J=>.inr ⟨rfl,j,J⟩
 have L:(c != 0)=true:=Qy
 have M:(c==0)=false:=Qy
 rw[L,M];exact .ret (.inl ⟨rfl,rfl⟩)
def aPV (h:Om l):NM l (FD l):=a2X h.len h.small _ _ λy j=>absurd j Gh
def aOV (l:AA Aa):(FD l).map (·.id)=Pj l:=by
 have :=aJ2 l (Pj l) [] λx j=>aL6.1 j;simpa[FD,NR]using this
def a5H (h:dJ l x=true):∃y,Ig (FD l) x=some y:=by
 cases hl:Ig (FD l) x with
 |some y=>exact⟨y,rfl⟩
 |none=>rw[aM2,aOV]at hl;exact absurd (aL6.2 h) hl
def Jp (t:AA FX)(x:Int):AV:=match Ig t x with
 |some y=>y.err==0
 |none=>false
def LP (l:AA Aa)(t:AA FX):AA Int:=(l.filter λe=>Jp t e.Id).map (·.Id)
def YI (l:AA Aa)(t:AA FX):AA BM:=xH l ((RH l (LP l t)).map (QG t))
def tu (l:AA Aa)(t:AA FX):(LP l t).length<=l.length:=by unfold LP;rw[Di];exact Kt _ _
def aRQ (l:AA Aa):LP l []=[]:=by
 unfold LP;rw[aEY.2 λe _=>by unfold Jp Ig;simp];rfl
def akc (l:AA Aa):YI l []=[]:=by unfold YI;rw[aRQ];rfl
theorem a6M (h:i<l.length):LP (l.take (i+1)) t=LP (l.take i) t++bif Jp t l[i].Id then[l[i].Id]else[]:=by
 unfold LP;rw[a0k h,J8]
 grind
def aLz (h:dJ l x=true):Jp (FD l) x=(errOf (FD l) x==0):=by
 obtain⟨y,j⟩:=a5H h;unfold Jp errOf;rw[j];rfl
def aMY (h:P8 (FD l) j q u)(hl:l.length<=100):aO j q u l=some (LP l (FD l)):=by
 unfold aO
 have hp:a3J l j q u=some (LP l (FD l)):=by
  unfold a3J aXJ;refine dW.eq (Jd l.length (fuel_lt AL) (λi a=>a=LP (l.take i) (FD l)) rfl (λi a k hi ha z=>?_) λa k ha=>?_)
  ·have J:a.length<=i:=aNW
   unfold aIa aEl aBb;rw[D8 hi,Ac,h.err,←aLz (dn.2 (Hl.2 ⟨_,Et hi,rfl⟩)),wrap_succ i AL];cases I:Jp (FD l) l[i].Id with
   |true=>
    rw[Bj,CM hi,Ac,Dp Fp,Ac];exact z _ (by rw[a6M hi,I,ha];rfl)
   |false=>exact z _ (by rw[a6M hi,I,ha];simp)
  unfold aIa;rw[EG];exact .ret Yy
 rw[hp];rfl
def akm (u:PY l=some c)(h:c=0->Om l):qj l=some (YI l (Rk l c)):=by
 unfold qj;refine dW.eq ((run_eq l u h).bind λo j=>?_);rcases j with⟨h1,rfl⟩|⟨h1,j,T,rfl,q⟩
 ·rw[h1,akc];exact .ret rfl
 rw[h1];have hl:=j.len;have ha:=tu l (FD l);have z:=aVA l (LP l (FD l));show dW ((aO T.1 T.2.1 T.2.2 l).bind _) _;rw[aMY q hl,Ac,aTp l _ hl j.small AL,Ac];unfold YI;generalize RH l (LP l (FD l))=H at z;unfold aXA;refine Jd H.length (fuel_lt AL) (λi a=>a=(H.take i).map (QG (FD l))) rfl (λi a k hi ha I=>?_) λa k ha=>?_
 ·have J:a.length<=i:=yw
  unfold aE6;rw[D8 hi,Dp Fp,Ac,q.after,wrap_succ i AL];exact I _ a6q
 rw[Gn]at ha;unfold aE6;rw[EG,ha,aTb ((aPV j).okay hl j.small _ AL),Ac];exact .ret rfl
structure an5 (x y:Aa):Prop where
 id:y.Id=x.Id
 room:y.Room=x.Room
 sender:y.bQ=x.bQ
 kind:y.Kind=x.Kind
 key:y.Key=x.Key
 time:y.Time=x.Time
 depth:y.Depth=x.Depth
 prev:y.bG=x.bG
 auth:y.bJ=x.bJ
 n:x.Kind=2\/x.Kind=4->y.Content.N=x.Content.N
 levels:x.Kind=3->y.Content.Levels=x.Content.Levels
structure alP (l l':List Aa) (S:List Int):Prop where
 nodup:S.Nodup
 mem:∀x∈S,dJ l x=true/\dJ l' x=true/\an5 (ev l x) (ev l' x)
 prev:∀x∈S,∀a∈(ev l x).bG,a∈S
 auth:∀x∈S,∀a∈(ev l x).bJ,a∈S
section
variable {l l':AA Aa} {S:AA Int} (h:alP l l' S)
include h
theorem aI5 :∀{a b:AA Int},a.Nodup->(∀x∈a,x∈b)->a.length<=b.length
 | [],_,_,_=>Ef _
 |x::a,b,q,hs=>by
  have u:=hs x (I8 ..);obtain⟨h1,h2⟩:=LC.1 q;have :=aI5 (b:=b.erase x) h2 λy j=>(List.mem_erase_of_ne λe=>h1 (by rw[←e];exact j)).2 (hs y (Ii _ j))
  grind
end
variable {S:Type}{b c d l:AA Int}{j:AV}{n s:BL}{u:Nat}
section
def Tf (n:Int):Int:=if n<0 then bits .xor .u64 IntKind.u64.max (IntKind.u64.wrap (IntKind.u64.wrap n*2))else IntKind.u64.wrap (IntKind.u64.wrap n*2)
def zG (n:Int):0<=Tf n/\Tf n<18446744073709551616:=by
 unfold Tf;have h2:∀x:Int,0<=IntKind.u64.wrap x/\IntKind.u64.wrap x<18446744073709551616:=λx=>by rw[pU];omega
 split
 ·obtain⟨j,u⟩:=h2 (IntKind.u64.wrap n*2);generalize IntKind.u64.wrap (IntKind.u64.wrap n*2)=y at *;obtain⟨k,rfl⟩:=Int.eq_ofNat_of_zero_le j;have :(IntKind.u64.max:Int)=((18446744073709551615:Nat):Int):=Bd
  rw[this,bits_xor_u64_nat _ _ AL AL];have :18446744073709551615^^^k<2^64:=Nat.xor_lt_two_pow AL AL;constructor
  ·exact aEE _
  have q:(2:Nat)^64=18446744073709551616:=Bd
  omega
 exact h2 _
def Oj (u:Nat):AA Int:=if u<128 then[(u:Int)]else((u % 128+128:Nat):Int)::Oj (u/128)
termination_by u
decreasing_by omega
def pF (h:u<128):Oj u=[(u:Int)]:=by rw[Oj,ES h]
def aHo (h:¬u<128):Oj u=((u % 128+128:Nat):Int)::Oj (u/128):=by rw[Oj,EZ h]
def aX3 :∀(j u:Nat),u<128^(j+1)->(Oj u).length<=j+1
 |0,u,h=>by rw[pF O5];simp
 |j+1,u,h=>by
  by_cases q:u<128
  ·rw[pF q];simp
  rw[aHo q]
  have :u/128<128^(j+1):=by
   rw[Nat.div_lt_iff_lt_mul AL];rw[Nat.pow_succ]at h;exact h
  have :=aX3 j (u/128) this;simp;omega
def enc (n:Int):AA Int:=Oj (Tf n).toNat
def Py (n:Int):(enc n).length<=10:=by
 have h:=(zG n).2;refine aX3 9 _ ?_;have :(128:Nat)^10=1180591620717411303424:=Bd
 rw[this];have :=(zG n).1;omega
def ajr (k:Nat):bits .or .u8 ((k:Int) % 256) 128=((k % 128+128:Nat):Int):=by
 have h:=u8_or_nat (k % 256) 128 AL AL;rw[show((k:Int) % 256)=((k % 256:Nat):Int)from by omega];have j:(128:Int)=((128:Nat):Int):=rfl;rw[j,h];congr 1;have key:∀x,x<256->x|||128=x % 128+128:=Nb
 rw[key _ AL];omega
def zu (u c:Int):Int:=(IntKind.u64.wrap (bits .xor .u64 u (IntKind.u64.wrap c)*1099511628211)).tmod 4611686018427387904
def aML (x:Int):bits .and .u64 (IntKind.u64.wrap x) 4611686018427387903=(IntKind.u64.wrap x).tmod 4611686018427387904:=by
 rw[pU];have h:=bits_mask .u64 64 Bd (λn q h1=>by rw[pU];omega) 62 Bd (x % 18446744073709551616) AL AL;have e:((2:Int)^62-1)=4611686018427387903:=Bd
 have j:((2:Int)^62)=4611686018427387904:=Bd
 rw[aRg AL];simpa[e,j]using h
def ado (u c:Int):bits .and .u64 (IntKind.u64.wrap (bits .xor .u64 u (IntKind.u64.wrap c)*1099511628211)) 4611686018427387903=zu u c:=aML _
def aBT (op:BinOp)(k:IntKind)(x y:Int)(h:op=.and\/op=.or\/op=.xor):Ej op k x y=bits op k x y:=by
 rcases h with rfl|rfl|rfl<;>rfl
def OI {b:Nat}{l m:AA α}(j:b<=100)(h:(l++m).length<=1099511627776):DC b l m=some (l++m):=by
 refine Dp ?_;rw[Ed]at h;have :(l.length+m.length)*b<=1099511627776*100:=a1l h j;omega
def aex (u:Nat):Ej .or .u8 (IntKind.u8.wrap (u:Int)) 128=((u % 128+128:Nat):Int):=by
 rw[aBT _ _ _ _ (.inr (.inl rfl)),show IntKind.u8.wrap (u:Int)=(u:Int) % 256 from by rw[lI],ajr]
theorem aZl (u:Nat):PZ .shr .u64 (u:Int) 7=some ((u/128:Nat):Int):=by
 unfold PZ;rw[EZ AL];show some ((u:Int).fdiv (2^7))=_
 grind
theorem aPF {n:Nat}(h:u<128^(n+1+1)):u/128<128^(n+1):=by
 grind
def aXf :∀(n u:Nat),u<128^(n+1)->∀m b,n<m->(b++Oj u).length<=1099511627776->aP XU m b (u:Int)=some (b++Oj u):=by
 intro n
 induction n with
 |zero=>
  intro u q m b hm j;obtain⟨m,rfl⟩:∃z,m=z+1:=⟨m-1,AL⟩
  have h:u<128:=Zk
  rw[pF h]at j ⊢;show XU (aP XU m) b (u:Int)=_;simp only[XU,show decide ((u:Int)>=128)=false from by simp;omega,BN];rw[show IntKind.u8.wrap (u:Int)=(u:Int)from by rw[lI];omega,OI AL j];rfl
 |succ n J=>
  intro u q m b hm j;obtain⟨m,rfl⟩:∃z,m=z+1:=⟨m-1,AL⟩
  show XU (aP XU m) b (u:Int)=_;by_cases h:u<128
  ·rw[pF h]at j ⊢;simp only[XU,show decide ((u:Int)>=128)=false from by simp;omega,BN];rw[show IntKind.u8.wrap (u:Int)=(u:Int)from by rw[lI];omega,OI AL j];rfl
  rw[aHo h]at j ⊢;have e:(b++((u % 128+128:Nat):Int)::Oj (u/128))=(b++[((u % 128+128:Nat):Int)])++Oj (u/128):=BU
  have I:(b++[((u % 128+128:Nat):Int)]).length<=1099511627776:=by simp only[Ed,GN,QX]at j ⊢;omega
  simp only[XU,show decide ((u:Int)>=128)=true from by simp;omega,Bj,aex,OI (show 1<=100 by omega) I,aZl,Ac];rw[e];exact J (u/128) (aPF q) m _ AL (by rw[←e];exact j)
def ahk :∀(n u:Nat),u<128^(n+1)->u<18446744073709551616->∀m b,n<m->(b++Oj u).length<=1099511627776->aP Xd m (u:Int) b=some (b++Oj u):=by
 intro n
 induction n with
 |zero=>
  intro u q _ m b hm j;obtain⟨m,rfl⟩:∃z,m=z+1:=⟨m-1,AL⟩
  have h:u<128:=Zk
  rw[pF h]at j ⊢;show Xd (aP Xd m) (u:Int) b=_;simp only[Xd,show decide ((u:Int)>=128)=false from by simp;omega,BN];rw[show IntKind.u8.wrap (u:Int)=(u:Int)from by rw[lI];omega,OI AL j];rfl
 |succ n J=>
  intro u q L m b hm j;obtain⟨m,rfl⟩:∃z,m=z+1:=⟨m-1,AL⟩
  show Xd (aP Xd m) (u:Int) b=_;by_cases h:u<128
  ·rw[pF h]at j ⊢;simp only[Xd,show decide ((u:Int)>=128)=false from by simp;omega,BN];rw[show IntKind.u8.wrap (u:Int)=(u:Int)from by rw[lI];omega,OI AL j];rfl
  rw[aHo h]at j ⊢;have e:(b++((u % 128+128:Nat):Int)::Oj (u/128))=(b++[((u % 128+128:Nat):Int)])++Oj (u/128):=BU
  have I:(b++[((u % 128+128:Nat):Int)]).length<=1099511627776:=by simp only[Ed,GN,QX]at j ⊢;omega
  have M:Wi (u:Int) 128=some ((u % 128:Nat):Int):=by unfold Wi;rw[EZ AL,aRg AL];congr 1
  have O:yR .u64 (u:Int) 128=some ((u/128:Nat):Int):=by
   unfold yR;rw[EZ AL,Int.tdiv_eq_ediv_of_nonneg AL];congr 1;rw[pU];omega
  have U:IntKind.u8.wrap (IntKind.u64.wrap (((u % 128:Nat):Int)+128))=((u % 128+128:Nat):Int):=by rw[pU,lI];omega
  simp only[Xd,show decide ((u:Int)>=128)=true from by simp;omega,Bj,M,U,O,OI (show 1<=100 by omega) I,Ac];rw[e];exact J (u/128) (aPF q) AL m _ AL (by rw[←e];exact j)
def aUm (x:Int):PZ .shl .u64 x 1=some (IntKind.u64.wrap (x*2)):=rfl
def aTC (x:Int):eu .u64 x=bits .xor .u64 IntKind.u64.max x:=rfl
theorem aSb (n:Int):(Tf n).toNat<128^(9+1):=by
 have j:=zG n
 grind
def aTD :9<Am:=jl
theorem number_eq {n:Int}(h:(b++enc n).length<=1099511627776):Z9 b n=some (b++enc n):=by
 have u:=zG n
 have j:aQ4 b (Tf n)=some (b++enc n):=by
  have :=aXf 9 (Tf n).toNat (aSb n) Am b aTD h
  rwa [Int.toNat_of_nonneg u.1]at this
 unfold Z9;rw[aUm,Ac];unfold a2w;unfold Tf at j;by_cases q:n<0
 ·rw[ES q]at j;rw[show decide (n<0)=true by simpa using q,Bj,aTC];exact j
 grind
def adz (n:Int):([]++enc n).length<=1099511627776:=by have :=Py n;simp only[IE];omega
theorem aSC (n:Int):a05 n=some (enc n):=by
 have u:=zG n
 have j:aVN (Tf n) []=some (enc n):=by
  have :=ahk 9 (Tf n).toNat (aSb n) AL Am [] aTD (adz n)
  rwa [Int.toNat_of_nonneg u.1]at this
 unfold a05;rw[aUm,Ac];unfold aBJ;unfold Tf at j;by_cases q:n<0
 ·rw[ES q]at j;rw[show decide (n<0)=true by simpa using q,Bj,aTC];exact j
 grind
def uV {m:Nat}(h:b.length+m<=1099511627776):Z7 b (m:Int)=some b:=by
 unfold Z7;rw[P5 AL AL];unfold Ir;rw[ES ⟨AL,AL,AL⟩];simp[gCopy]
def aC7 {a:AA Int}(h:(a++b).length<=1099511627776):a.length<=1099511627776:=by rw[Ed]at h;omega
def Ia (s:BL):AA Int:=enc s.size++DL s
def text_eq (h:(b++Ia s).length<=1099511627776):zs b s=some (b++Ia s):=by
 unfold Ia at h ⊢;rw[←Il]at h ⊢;unfold zs;rw[number_eq (aC7 h),Ac,OI AL h];rfl
def a0C {n:Int}(h:b.length+10<=1099511627776):Nq b n=some (b++enc n):=by
 have :=Py n;unfold Nq;rw[show(10:Int)=((10:Nat):Int)from rfl,uV AL,Ac,number_eq L8];rfl
def ZM {n:Int}(h:b.length+10<=1099511627776):Kw b n=some (b++enc n):=by
 have :=Py n;unfold Kw;rw[OI AL aBH,Ac,aSC,Ac,IE,OI AL L8];rfl
def yc (s:BL):(Ia s).length<=s.size+10:=by
 have :=Py s.size;unfold Ia;rw[Ed,IX];omega
def ab4 (h:b.length+s.size+10<=1099511627776):TA b s=some (b++Ia s):=by
 have :=yc s;unfold TA;rw[P5 AL AL,show(s.size:Int)+10=((s.size+10:Nat):Int) by omega,uV AL,Ac,text_eq L8];rfl
def aXB (h:b.length+s.size+10<=1099511627776):RP b s=some (b++Ia s):=by
 have :=yc s;unfold RP;rw[ZM AL,Ac,OI AL (by unfold Ia at this;rw[Ed]at this;rw[Ed,Ed];omega)];simp[Ia]
def acN (h:b.length+10<=1099511627776):YN b j=some (b++[bif j then 1 else 0]):=by
 unfold YN;rw[show(1:Int)=((1:Nat):Int)from rfl,uV AL,Ac];cases j<;>simp only[Bj,BN]<;>rw[OI AL aDH]<;>rfl
def aZK (h:b.length+10<=1099511627776):lK b j=some (b++[bif j then 1 else 0]):=by
 unfold lK;rw[OI AL aBH,Ac,IE];cases j<;>simp only[Bj,BN]<;>rw[OI AL aDH]<;>rfl
def aEa {body:(AA Int->Int->AB (AA Int))->AA Int->Int->AB (AA Int)}(l:AA α)(hl:l.length<Am)(g:α->AA Int)(z:∀k b (i:Nat) (h:i<l.length),(b++g l[i]).length<=1099511627776->body k b (i:Int)=k (b++g l[i]) (Az ((i:Int)+1)))(I:∀k b,body k b (l.length:Int)=some b)(b:AA Int)(j:(b++l.flatMap g).length<=1099511627776):
 aP body Am b 0=some (b++l.flatMap g):=by
 have L:Am=9223372036854775808:=rfl
 have key:∀n (i:Nat) b,i+n=l.length->(b++(l.drop i).flatMap g).length<=1099511627776->∀m,n<m->aP body m b (i:Int)=some (b++(l.drop i).flatMap g):=by
  intro n
  induction n with
  |zero=>
   intro i b hi j m hm;obtain⟨m,rfl⟩:∃u,m=u+1:=⟨m-1,AL⟩
   have :i=l.length:=AL
   subst this;show body (aP body m) _ _=_;rw[I,Ox];simp
  |succ n J=>
   intro i b hi j m hm;obtain⟨m,rfl⟩:∃u,m=u+1:=⟨m-1,AL⟩
   have q:i<l.length:=AL
   rw[MW q,OZ,←Il]at j ⊢;show body (aP body m) _ _=_;rw[z _ _ i q (aC7 j),wrap_succ i AL];exact J (i+1) _ AL j m AL
 exact key l.length 0 b AL j Am hl
def Q8 (l:AA Int):AA Int:=enc l.length++l.flatMap enc
def Qc (l:AA BL):AA Int:=enc l.length++l.flatMap Ia
def acy (h:(b++Q8 l).length<=1099511627776)(hl:l.length<=1000):a6C b l=some (b++Q8 l):=by
 have q:Am=9223372036854775808:=rfl;unfold Q8 at h ⊢;rw[←Il]at h ⊢;unfold a6C;rw[number_eq (aC7 h),Ac];unfold aWV;refine aEa l AL enc (λk b i hi j=>?_) (λk b=>?_) _ h
 ·simp only[aKc,dec_lt hi,Bj,CM hi,number_eq j,Ac]
 simp only[aKc,DN,BN]
def am4 {l:AA BL}(h:(b++Qc l).length<=1099511627776)(hl:l.length<=1000000000):aBu b l=some (b++Qc l):=by
 have q:Am=9223372036854775808:=rfl;unfold Qc at h ⊢;rw[←Il]at h ⊢;unfold aBu;rw[number_eq (aC7 h),Ac];unfold aTi;refine aEa l AL Ia (λk b i hi j=>?_) (λk b=>?_) _ h
 ·simp only[aFe,dec_lt hi,Bj,CM hi,text_eq j,Ac]
 simp only[aFe,DN,BN]
def qm {α:Type}{g:α->AA Int}{m:Nat}:∀{l:AA α},(∀x∈l,(g x).length<=m)->(l.flatMap g).length<=l.length*m
 | [],_=>BU
 |x::l,h=>by
  rw[OZ,Ed,GN,iL];have :=h x I8;have :=qm (l:=l) (λy j=>h y (Ii _ j));omega
def aJa (l:AA Int):(Q8 l).length<=l.length*10+10:=by
 have h1:=Py l.length;have h2:=qm (g:=enc) (m:=10) (l:=l) (λx _=>Py x);unfold Q8;rw[Ed];omega
def aaz (j:b.length+20000<=1099511627776)(hl:l.length<=1000):ZK b l=some (b++Q8 l):=by
 have h1:=aJa l;unfold ZK;rw[P5 (x:=2*(l.length:Int)) AL AL,P5 AL AL,show 2*(l.length:Int)+10=((2*l.length+10:Nat):Int) by omega,uV AL,Ac,acy L8 hl];rfl
def agb (q:b.length+20000<=1099511627776)(hl:l.length<=1000):nY b l=some (b++Q8 l):=by
 have u:Am=9223372036854775808:=rfl;have h1:=aJa l;have h:(b++Q8 l).length<=1099511627776:=L8
 unfold Q8 at h ⊢;rw[←Il]at h ⊢;unfold nY;rw[ZM AL,Ac];unfold aTx;refine aEa l AL enc (λk b i hi j=>?_) (λk b=>?_) _ h
 ·simp only[aFV,dec_lt hi,Bj,CM hi,aSC,OI (show 1<=100 by omega) j,Ac]
 simp only[aFV,DN,BN]
def SI (l:AA BL):Nat:=(l.map λs=>s.size).sum+l.length
def Wp (l:AA H6):Nat:=(l.map λu=>u.User.size).sum+l.length
def Y2 (c:D7):Nat:=c.Text.size+c.Via.size+SI c.Allow+SI c.iw+Wp c.Levels.Users+c.Levels.Kinds.length
def adh (l:AA BL):(Qc l).length<=10*SI l+10:=by
 have h1:=Py l.length
 have key:∀l:AA BL,(l.flatMap Ia).length<=10*SI l:=by
  intro l
  induction l with
  |nil=>exact Ef _
  |cons s l j=>
   have h2:=yc s;unfold SI at j ⊢;rw[OZ,Ed,Gg,a0P,GN];omega
 have :=key l;unfold Qc;rw[Ed];omega
structure QF (c:D7):Prop where
 allow:c.Allow.length<=100
 deny:c.iw.length<=100
 users:c.Levels.Users.length<=100
 kinds:c.Levels.Kinds.length<=100
 text:c.Text.size<=2000
 via:c.Via.size<=2000
 allows:∀x∈c.Allow,x.size<=2000
 denies:∀x∈c.iw,x.size<=2000
 names:∀x∈c.Levels.Users,x.User.size<=2000
def Hg.content (h:Hg e):QF e.Content:=⟨h.allow,h.deny,h.users,h.kinds,h.text,h.via,h.allows,h.denies,h.names⟩
section
variable {b:AA Int} {k:Nat}
def UN (h:b.length<=k)(j:k<=1000000000)(n:Int):Nq b n=some (b++enc n)/\Kw b n=some (b++enc n)/\(b++enc n).length<=k+10:=by
 have :=Py n;exact⟨a0C AL,ZM AL,L8⟩
def aNH (h:b.length<=k)(q:k<=1000000000)(j:AV):YN b j=some (b++[bif j then 1 else 0])/\lK b j=some (b++[bif j then 1 else 0])/\(b++[bif j then(1:Int)else 0]).length<=k+10:=
 ⟨acN AL,aZK AL,aDH⟩
def XR (h:b.length<=k)(j:k<=1000000000)(m:Nat)(hs:s.size<=m)(hm:m<=1000000000):TA b s=some (b++Ia s)/\RP b s=some (b++Ia s)/\(b++Ia s).length<=k+m+10:=by
 have :=yc s;exact⟨ab4 AL,aXB AL,L8⟩
def aMV (h:b.length<=k)(j:k<=1000000000)(hl:l.length<=100):ZK b l=some (b++Q8 l)/\nY b l=some (b++Q8 l)/\(b++Q8 l).length<=k+1010:=by
 have :=aJa l;exact⟨aaz AL AL,agb AL AL,L8⟩
end
def a0M {R:Type}{body:(AA Int->Int->AB R)->AA Int->Int->AB R}(l:AA α)(hl:l.length<Am)(g:α->AA Int)(C:Nat)(j:AA Int->AB R)(b:AA Int)(I:(b++l.flatMap g).length<=C)(J:∀k a (i:Nat) (h:i<l.length),(a++g l[i]).length<=C->body k a (i:Int)=k (a++g l[i]) (Az ((i:Int)+1)))(L:∀k a,a.length<=C->body k a (l.length:Int)=j a):
 aP body Am b 0=j (b++l.flatMap g):=by
 have O:Am=9223372036854775808:=rfl
 have key:∀n (i:Nat) b,i+n=l.length->(b++(l.drop i).flatMap g).length<=C->∀m,n<m->aP body m b (i:Int)=j (b++(l.drop i).flatMap g):=by
  intro n
  induction n with
  |zero=>
   intro i b hi q m hm;obtain⟨m,rfl⟩:∃z,m=z+1:=⟨m-1,AL⟩
   have :i=l.length:=AL
   subst this;show body (aP body m) _ _=_;rw[Ox,List.flatMap_nil,Rs]at q ⊢;exact L _ _ q
  |succ n M=>
   intro i b hi q m hm;obtain⟨m,rfl⟩:∃z,m=z+1:=⟨m-1,AL⟩
   have u:i<l.length:=AL
   rw[MW u,OZ,←Il]at q ⊢;show body (aP body m) _ _=_;rw[J _ _ i u (by rw[Ed]at q;omega),wrap_succ i AL];exact M (i+1) _ AL q m AL
 exact key l.length 0 b AL I Am hl
def aKR (s:BL):s.size<=(Ia s).length:=by
 unfold Ia;rw[Ed,IX];omega
section
variable {b:AA Int} {k:Nat}
theorem aRu (h:b.length<=k)(u:k<=1000000000){l:AA BL}(m:Nat)(hl:SI l<=m)(hm:m<=10000000):Opn b l=some (b++Qc l)/\sD b l=some (b++Qc l)/\(b++Qc l).length<=k+10*m+10:=by
 have z:Am=9223372036854775808:=rfl;have h1:=adh l;have h2:l.length<=SI l:=Nat.le_add_left ..;have h3:(b++Qc l).length<=k+10*m+10:=L8
 refine⟨?_,?_,h3⟩
 ·unfold Opn;rw[P5 (x:=8*(l.length:Int)) AL AL,P5 AL AL,show 8*(l.length:Int)+10=((8*l.length+10:Nat):Int) by omega,uV AL,Ac,am4 AL AL];rfl
 have j:(b++Qc l).length<=2000000000:=AL
 unfold Qc at j ⊢;rw[←Il]at j ⊢;unfold sD aTa;rw[ZM AL,Ac];refine a0M (body:=a0q l) l AL Ia 2000000000 some _ j (λk a i hi q=>?_) λk a _=>?_
 ·have :=aKR l[i];rw[Ed]at q;unfold a0q;rw[D8 hi,aXB AL,Ac]
 unfold a0q
 grind
end
def Sj (u:H6):AA Int:=Ia u.User++enc u.N
def QS (u:J5):AA Int:=enc u.Kind++enc u.N
def Jo (l:Cm):AA Int:=[l.User,l.Message,l.State,l.gV,l.kN,l.oK,l.iq]
def alk (b:AA Int)(l:Cm):AA Int:=b++enc l.Users.length++l.Users.flatMap Sj++enc l.Kinds.length++l.Kinds.flatMap QS++(Jo l).flatMap enc
def XG (c:D7):AA Int:=alk ([]++Ia c.Text++enc c.N++enc c.Target++[bif c.Thread then 1 else 0]++Ia c.Via++Qc c.Allow++Qc c.iw) c.Levels
def afH (u:J5):(QS u).length<=20:=by
 have :=Py u.Kind;have :=Py u.N;unfold QS;rw[Ed];omega
theorem aPh {R:Type}{body:(AA Int->Int->AB R)->AA Int->Int->AB R}(l:AA α)(hl:l.length<=1000)(g:α->AA Int)(m:Nat)(hm:∀x∈l,(g x).length<=m)(j:AA Int->AB R)(b:AA Int)(q:∀k a (i:Nat) (h:i<l.length),a.length<=b.length+i*m->body k a (i:Int)=k (a++g l[i]) (Az ((i:Int)+1)))(u:∀k a,a.length<=b.length+l.length*m->body k a (l.length:Int)=j a):aP body Am b 0=j (b++l.flatMap g)/\(b++l.flatMap g).length<=b.length+l.length*m:=by
 constructor
 ·rw[H8 l AL (λa x=>a++g x) (λi a=>a.length<=b.length+i*m) j AL (λk a i h z=>⟨?_,q k a i h z⟩) u,foldl_append g]
  grind
 have :=qm hm
 grind
set_option maxRecDepth 20000
set_option maxHeartbeats 1000000
def adJ (l:AA H6):(l.flatMap Sj).length<=20*Wp l:=by
 induction l with
 |nil=>exact Ef _
 |cons s l j=>
  have h1:=yc s.User;have h2:=Py s.N;have h3:(Sj s).length=(Ia s.User).length+(enc s.N).length:=Ed ..;unfold Wp at j ⊢;rw[OZ,Ed,Gg,a0P,GN];omega
def ajc (c:D7)(b:AA Int)(z:b.length<=90000000):(aFJ c b 0=some (b++(Jo c.Levels).flatMap enc)/\aCX (Jo c.Levels) b 0=some (b++(Jo c.Levels).flatMap enc))/\(b++(Jo c.Levels).flatMap enc).length<=b.length+70:=by
 have q:∀i:Nat,(h:i<(Jo c.Levels).length)->Aj ([c.Levels.User,c.Levels.Message,c.Levels.State,c.Levels.gV,c.Levels.kN,c.Levels.oK,c.Levels.iq]:AA Int) (i:Int)=some (Jo c.Levels)[i]:=λi h=>CM h
 have h1:=aPh (body:=aEi c) (Jo c.Levels) (by simp[Jo]) enc 10 (λx _=>Py x) some b (λk a i h j=>by
  have u:i<7:=h;unfold aEi
  rw[Lp (show(i:Int)<7 by omega),Bj,q i h,Ac,a0C AL,Ac]) λk a j=>rfl
 have h2:=aPh (body:=a2q (Jo c.Levels)) (Jo c.Levels) (by simp[Jo]) enc 10 (λx _=>Py x) some b (λk a i h j=>by
  have u:i<7:=h;unfold a2q
  rw[D8 h,ZM AL,Ac]) λk a j=>by unfold a2q;rw[DN];rfl
 exact⟨⟨h1.1,h2.1⟩,h1.2⟩
theorem aZc (c:D7)(b:AA Int)(z:b.length<=60000000)(I:c.Levels.Kinds.length<=1048576):(aFH c b 0=some (b++c.Levels.Kinds.flatMap QS++(Jo c.Levels).flatMap enc)/\aLN c b 0=some (b++c.Levels.Kinds.flatMap QS++(Jo c.Levels).flatMap enc))/\(b++c.Levels.Kinds.flatMap QS++(Jo c.Levels).flatMap enc).length<=b.length+c.Levels.Kinds.length*20+70:=by
 have J:Am=9223372036854775808:=rfl
 have hl:(b++c.Levels.Kinds.flatMap QS).length<=b.length+c.Levels.Kinds.length*20:=by
  have :=qm (g:=QS) (m:=20) (l:=c.Levels.Kinds) λx _=>afH x
  grind
 have h1:=a0M (body:=a3C c) c.Levels.Kinds AL QS 90000000 (λa=>aFJ c a 0) b AL (λk a i h j=>by
  have ha:a.length<=90000000:=by rw[Ed]at j;omega
  obtain⟨q,_,u⟩:=UN ha AL c.Levels.Kinds[i].Kind;unfold a3C
  rw[D8 h,q,Ac,a0C AL,Ac,Il];rfl) λk a j=>by unfold a3C;rw[DN];rfl
 have h2:=a0M (body:=a4a c) c.Levels.Kinds AL QS 90000000 (λa=>aCX (Jo c.Levels) a 0) b AL (λk a i h j=>by
  have ha:a.length<=90000000:=by rw[Ed]at j;omega
  obtain⟨_,q,u⟩:=UN ha AL c.Levels.Kinds[i].Kind;unfold a4a
  rw[D8 h,q,Ac,CM h,Ac,ZM AL,Ac,Il];rfl) λk a j=>by unfold a4a aJy;rw[DN,BN,Ac];rfl
 have h3:=ajc c (b++c.Levels.Kinds.flatMap QS) AL;exact⟨⟨h1.trans h3.1.1,h2.trans h3.1.2⟩,EK h3.2 AL⟩
def aZ8 (c:D7)(b:AA Int)(M:b.length<=30000000)(O:Wp c.Levels.Users<=1048576)(u:c.Levels.Kinds.length<=1048576):(aPK c b 0=some (b++c.Levels.Users.flatMap Sj++enc c.Levels.Kinds.length++c.Levels.Kinds.flatMap QS++(Jo c.Levels).flatMap enc)/\aT1 c b 0=some (b++c.Levels.Users.flatMap Sj++enc c.Levels.Kinds.length++c.Levels.Kinds.flatMap QS++(Jo c.Levels).flatMap enc))/\(b++c.Levels.Users.flatMap Sj++enc c.Levels.Kinds.length++c.Levels.Kinds.flatMap QS++(Jo c.Levels).flatMap enc).length<=90000000:=by
 have U:Am=9223372036854775808:=rfl;have Y:=adJ c.Levels.Users;have z:c.Levels.Users.length<=Wp c.Levels.Users:=Nat.le_add_left ..;have hl:(b++c.Levels.Users.flatMap Sj).length<=b.length+20*Wp c.Levels.Users:=L8
 have h1:=a0M (body:=a5F c) c.Levels.Users AL Sj 90000000 (λa=>aFH c (a++enc c.Levels.Kinds.length) 0) b AL (λk a i h j=>by
  have I:=aKR c.Levels.Users[i].User;have ha:a.length+(Ia c.Levels.Users[i].User).length<=90000000:=aSx
  obtain⟨q,_,J⟩:=XR (b:=a) (k:=90000000) AL AL (s:=c.Levels.Users[i].User) 90000000 AL AL;unfold a5F
  rw[D8 h,q,Ac,a0C AL,Ac,Il];rfl) λk a j=>by unfold a5F;rw[DN,BN,a0C AL,Ac]
 have h2:=a0M (body:=a5b c) c.Levels.Users AL Sj 90000000 (λa=>aLN c (a++enc c.Levels.Kinds.length) 0) b AL (λk a i h j=>by
  have I:=aKR c.Levels.Users[i].User;have ha:a.length+(Ia c.Levels.Users[i].User).length<=90000000:=aSx
  obtain⟨_,q,J⟩:=XR (b:=a) (k:=90000000) AL AL (s:=c.Levels.Users[i].User) 90000000 AL AL;unfold a5b
  rw[D8 h,q,Ac,CM h,Ac,ZM AL,Ac,Il];rfl) λk a j=>by unfold a5b;rw[DN,BN,ZM AL,Ac]
 have Z:=Py (c.Levels.Kinds.length:Int);have L:(b++c.Levels.Users.flatMap Sj++enc c.Levels.Kinds.length).length<=60000000:=L8
 have h3:=aZc c (b++c.Levels.Users.flatMap Sj++enc c.Levels.Kinds.length) L u;exact⟨⟨h1.trans h3.1.1,h2.trans h3.1.2⟩,EK h3.2 AL⟩
def aOL {c:D7}(h:Y2 c<=1048576):jk c=some (XG c)/\lV c=some (XG c)/\(XG c).length<=90000000:=by
 unfold Y2 at h;obtain⟨j,q,h1⟩:=XR (b:=[]) (k:=0) (Ec _) AL (s:=c.Text) 1048576 AL AL;obtain⟨u,z,h2⟩:=UN h1 AL c.N;obtain⟨I,J,h3⟩:=UN h2 AL c.Target;obtain⟨L,M,O⟩:=aNH h3 AL c.Thread;obtain⟨U,Y,Z⟩:=XR O AL (s:=c.Via) 1048576 AL AL;obtain⟨a6,b6,h6⟩:=aRu Z AL (l:=c.Allow) 1048576 AL AL;obtain⟨a7,b7,h7⟩:=aRu h6 AL (l:=c.iw) 1048576 AL AL;obtain⟨a8,b8,h8⟩:=UN h7 AL (c.Levels.Users.length:Int);obtain⟨⟨a9,b9⟩,h9⟩:=aZ8 c _ (EK h8 AL) AL AL;refine⟨?_,?_,h9⟩
 ·unfold jk;rw[j,Ac,u,Ac,I,Ac,L,Ac,U,Ac,a6,Ac,a7,Ac,a8,Ac];exact a9
 unfold lV;rw[q,Ac,z,Ac,J,Ac,M,Ac,Y,Ac,b6,Ac,b7,Ac,b8,Ac];exact b9
theorem aJp {l:AA BL}(h:∀s∈l,s.size<=2000)(k:l.length<=100):SI l<=200100:=by
 have key:∀l:AA BL,(∀s∈l,s.size<=2000)->(l.map λs=>s.size).sum<=2000*l.length:=by
  intro l
  induction l with
  |nil=>
   grind
  |cons s l j=>
   intro h;have h1:=h s (I8 ..);have h2:=j λs hs=>h s (Ii _ hs);rw[Gg,a0P,GN];omega
 have :=key l h;unfold SI;omega
def QF.aE8 {c:D7}(h:QF c):Y2 c<=1048576:=by
 have h1:=aJp h.allows h.allow;have h2:=aJp h.denies h.deny;have h3:=aJp (l:=c.Levels.Users.map (·.User)) (by simpa using h.names) (by rw[Di];exact h.users);have j:Wp c.Levels.Users=SI (c.Levels.Users.map (·.User)):=by unfold Wp SI;rw[gY,Di];rfl
 have :=h.kinds;have :=h.text;have :=h.via;unfold Y2;omega
def afC {c:D7}(j:QF c):jk c=some (XG c)/\lV c=some (XG c)/\(XG c).length<=90000000:=aOL j.aE8
def a2W (e:Aa):AA Int:=
 []++enc e.Id++Ia e.Room++Ia e.bQ++enc e.Kind++[bif e.State then 1 else 0]++Ia e.Key++enc e.Time++enc e.Depth++Q8 e.bG++Q8 e.bJ++Ia (Rz (XG e.Content))++enc e.Hash++Ia e.nM.Server++enc e.nM.Sum
def alY (l:AA Int):(Rz l).size=l.length:=by
 have key:∀(l:AA Int) (r:BL),(l.foldl (λr n=>r.push (UInt8.ofNat n.toNat)) r).size=r.size+l.length:=by
  intro l
  induction l with
  |nil=>intro r;rfl
  |cons x l j=>intro r;rw[Gu,j,ByteArray.size_push,GN];omega
 unfold Rz;rw[key];simp
def a4x {body:(Int->S->AB S)->Int->S->AB S}(l:AA α)(hl:l.length<1000)(f:S->α->AB S)(u:∀k (i:Nat) (h:i<l.length) s,body k (i:Int) s=(f s l[i]).bind λx=>k (Az ((i:Int)+1)) x)(z:∀k s,body k (l.length:Int) s=some s)(s:S):aP body Am 0 s=l.foldlM f s:=by
 have J:Am=9223372036854775808:=rfl
 have key:∀n (i:Nat) s,i+n=l.length->∀m,n<m->aP body m (i:Int) s=(l.drop i).foldlM f s:=by
  intro n
  induction n with
  |zero=>
   intro i s hi m hm;obtain⟨m,rfl⟩:∃q,m=q+1:=⟨m-1,AL⟩
   have :i=l.length:=AL
   subst this;rw[Ox];exact z _ _
  |succ n I=>
   intro i s hi m hm;obtain⟨m,rfl⟩:∃q,m=q+1:=⟨m-1,AL⟩
   have j:i<l.length:=AL
   rw[MW j,U7];show body (aP body m) _ _=(f s l[i]).bind _;rw[u _ i j,wrap_succ i AL];congr 1;funext x;exact I (i+1) x AL m AL
 exact key l.length 0 s AL Am AL
def aT4 (w:FZ)(l:AA Int)(hl:l.length<1000):UY w l=l.foldlM lH w:=by
 unfold UY aPJ;exact a4x l hl _ (λk i h s=>by simp only[aHP,dec_lt h,Bj,CM h,Ac]) (λk s=>by simp only[aHP,DN,BN]) w
def aNz (w:FZ)(l:AA BL)(hl:l.length<1000):XA w l=l.foldlM nX w:=by
 unfold XA aWR;exact a4x l hl _ (λk i h s=>by simp only[aIL,dec_lt h,Bj,CM h,Ac]) (λk s=>by simp only[aIL,DN,BN]) w
def abE (w:FZ)(l:AA AV)(hl:l.length<1000):tY w l=l.foldlM Mem w:=by
 unfold tY aQU;exact a4x l hl _ (λk i h s=>by simp only[aH1,dec_lt h,Bj,CM h,Ac]) (λk s=>by simp only[aH1,DN,BN]) w
def alr (w:FZ)(l:AA (AA Int))(hl:l.length<1000):sQ w l=l.foldlM jK w:=by
 unfold sQ aV2;exact a4x l hl _ (λk i h s=>by simp only[aCH,dec_lt h,Bj,CM h,Ac]) (λk s=>by simp only[aCH,DN,BN]) w
def aKy {n:Int}(h:Nq b n=some c):lH ⟨b⟩ n=some ⟨c⟩:=by unfold lH;rw[h];rfl
def aGA (h:TA b n=some c):nX ⟨b⟩ n=some ⟨c⟩:=by unfold nX;rw[h];rfl
def afT {n:AV}(h:YN b n=some c):Mem ⟨b⟩ n=some ⟨c⟩:=by unfold Mem;rw[h];rfl
def aOt {n:AA Int}(h:ZK b n=some c):jK ⟨b⟩ n=some ⟨c⟩:=by unfold jK;rw[h];rfl
def aBN {n:Int}(h:Nq b n=some c):UY ⟨b⟩ [n]=some ⟨c⟩:=by
 rw[aT4 _ _ BU,U7,aKy h];rfl
def ace {n:Int}(h:Nq b n=some c)(k:Nq c m=some d):UY ⟨b⟩ [n,m]=some ⟨d⟩:=by
 rw[aT4 _ _ BU,U7,aKy h];show(lH ⟨c⟩ m).bind _=_;rw[aKy k];rfl
def aGa (h:TA b n=some c):XA ⟨b⟩ [n]=some ⟨c⟩:=by
 rw[aNz _ _ BU,U7,aGA h];rfl
def ahi {m:BL}(h:TA b n=some c)(k:TA c m=some d):XA ⟨b⟩ [n,m]=some ⟨d⟩:=by
 rw[aNz _ _ BU,U7,aGA h];show(nX ⟨c⟩ m).bind _=_;rw[aGA k];rfl
def aaU {n:AV}(h:YN b n=some c):tY ⟨b⟩ [n]=some ⟨c⟩:=by
 rw[abE _ _ BU,U7,afT h];rfl
def ahf {n m:AA Int}(h:ZK b n=some c)(k:ZK c m=some d):sQ ⟨b⟩ [n,m]=some ⟨d⟩:=by
 rw[alr _ _ BU,U7,aOt h];show(jK ⟨c⟩ m).bind _=_;rw[aOt k];rfl
def ae1 (j:Hg e):qZ e=some (a2W e)/\vY e=some (a2W e)/\(a2W e).length<=200000000:=by
 obtain⟨ac,bc,hc⟩:=afC j.content;obtain⟨a1,b1,h1⟩:=UN (b:=[]) (k:=0) (Ec _) AL e.Id;obtain⟨a2,b2,h2⟩:=XR h1 AL 2000 j.room AL;obtain⟨a3,b3,h3⟩:=XR h2 AL 2000 j.sender AL;obtain⟨a4,b4,h4⟩:=UN h3 AL e.Kind;obtain⟨a5,b5,h5⟩:=aNH h4 AL e.State;obtain⟨a6,b6,h6⟩:=XR h5 AL 2000 j.key AL;obtain⟨a7,b7,h7⟩:=UN h6 AL e.Time;obtain⟨a8,b8,h8⟩:=UN h7 AL e.Depth;obtain⟨a9,b9,h9⟩:=aMV h8 AL (EK j.prev AL);obtain⟨q,u,z⟩:=aMV h9 AL (EK j.auth AL);obtain⟨I,J,L⟩:=XR z AL (s:=Rz (XG e.Content)) 90000000 (by rw[alY];exact hc) AL;obtain⟨M,O,U⟩:=UN L AL e.Hash;obtain⟨Y,Z,h13⟩:=XR U AL 2000 j.server AL;obtain⟨a14,b14,h14⟩:=UN h13 AL e.nM.Sum;refine⟨?_,?_,EK h14 AL⟩
 ·unfold qZ
  rw[show UY aJX [e.Id]=_ from aBN a1,Ac,ahi a2 a3,Ac,aBN a4,Ac,aaU a5,Ac,aGa a6,Ac,ace a7 a8,Ac,ahf a9 q,Ac,
   ac,Ac,aGa I,Ac,aBN M,Ac,aGa Y,Ac,aBN a14,Ac]
  rfl
 unfold vY;rw[b1,Ac,b2,Ac,b3,Ac,b4,Ac,b5,Ac,b6,Ac,b7,Ac,b8,Ac,b9,Ac,u,Ac,bc,Ac,J,Ac,O,Ac,Z,Ac,b14,Ac];rfl
end
def a7h (l:AA Int):Int:=Az (l.foldl zu ((IntKind.u64.wrap 860922984064492325).tmod 4611686018427387904))
def aWo (hl:l.length<=1000000000):zF l=some (a7h l):=by
 unfold zF aCv;rw[Ac];unfold aEj aQ8
 rw[aBT _ _ _ _ (.inl rfl),aML,H8 l AL zu (λ_ _=>True) (λs=>some (Az s)) trivial (λk s i h _=>⟨trivial,by
  simp only[aIq,dec_lt h,Bj,CM h,Ac,aBT _ _ _ _ (.inl rfl),aBT _ _ _ _ (.inr (.inr rfl)),ado]⟩) λk s _=>by
  simp only[aIq,DN,BN]]
 rfl
def aTV (hl:l.length<=1000000000):Sim l=some (a7h l):=by
 unfold Sim;rw[show aL0=some 860922984064492325 from rfl,Ac];unfold aE5 aNQ
 rw[show Wi (IntKind.u64.wrap 860922984064492325) 4611686018427387904=some ((IntKind.u64.wrap 860922984064492325).tmod 4611686018427387904)from rfl,Ac,H8 l AL zu (λ_ _=>True) (λs=>some (Az s)) trivial (λk s i h _=>⟨trivial,by
  have e:Wi (IntKind.u64.wrap ((Ej .xor .u64 s (IntKind.u64.wrap l[i]))*1099511628211)) 4611686018427387904=some (zu s l[i]):=rfl
  simp only[aD3,dec_lt h,Bj,CM h,Ac,e]⟩) λk s _=>by
  simp only[aD3,DN,BN]]
 rfl
def Xr (k:Int)(c:D7):D7:=
 if k=1 then c else if k=2 then{ Eu with N:=c.N,Via:=c.Via }else if k=3 then{ Eu with Levels:=c.Levels }else if k=4 then{ Eu with N:=c.N,Allow:=c.Allow }else
 if k=5 then{ Eu with N:=c.N }else if k=6 then{ Eu with Allow:=c.Allow,iw:=c.iw }else if k=14 then{ Eu with Target:=c.Target }else Eu
def aOa {R:Type}(a b:Int)(x y:R):(cond (a==b) x y)=if a=b then x else y:=by
 by_cases h:a=b
 ·subst h;simp
 have :(a==b)=false:=O5
 rw[this,EZ h];rfl
def aMc {R:Type}(p:Prop)[Decidable p](x y:R):(if p then some x else some y)=some (if p then x else y):=by split<;>rfl
def aTf (k:Int)(c:D7):uM k c=some (Xr k c):=by
 unfold uM Xr;simp only[aOa,aMc]
def wz {l:AA BL}(h:l.length<=1048576):Rq l=some l:=by
 unfold Rq;rw[OI AL aBH];rfl
def aXP {l:Cm}(h1:l.Users.length<=1048576)(h2:l.Kinds.length<=1048576):cG l=some l:=by
 unfold cG;rw[OI AL aBH,Ac,OI AL (by rw[IE];exact EK h2 AL)];rfl
def aCB (k:Int):Int:=if k=2 then 18 else if k=3 then 128 else if k=4 then 34 else if k=5 then 2 else if k=6 then 96 else if k=14 then 4 else 0
def amc (k:Int):mV k=some (aCB k):=by
 by_cases h2:k=2
 ·subst h2;rfl
 by_cases h3:k=3
 ·subst h3;rfl
 by_cases q:k=4
 ·subst q;rfl
 by_cases u:k=5
 ·subst u;rfl
 by_cases j:k=6
 ·subst j;rfl
 unfold mV jD aCB;simp only[aOa,h2,h3,q,u,j,KA,show(k==6)=false from by simpa using j,BN,aMc]
variable {c:D7}
def agG (k:Int)(h:Y2 c<=1048576):jI k c=some (Xr k c):=by
 unfold Y2 SI Wp at h;have q:c.Allow.length<=1048576:=AL
 have J:c.iw.length<=1048576:=AL
 have L:c.Levels.Users.length<=1048576:=AL
 have M:c.Levels.Kinds.length<=1048576:=AL
 by_cases h1:k=1
 ·subst h1;show(Rq c.Allow).bind (λO=>(Rq c.iw).bind λU=>(cG c.Levels).bind λY=>some ({ { { c with Allow:=O }with iw:=U }with Levels:=Y }))=_;rw[wz q,Ac,wz J,Ac,aXP L M];rfl
 unfold jI;rw[show(k==1)=false from by simpa using h1,BN,amc,Ac];by_cases h2:k=2
 ·subst h2;rfl
 by_cases h3:k=3
 ·subst h3;show(cG c.Levels).bind (λx=>some { Eu with Levels:=x })=_;rw[aXP L M];rfl
 by_cases u:k=4
 ·subst u;show(Rq c.Allow).bind (λx=>some { Eu with N:=c.N,Allow:=x })=_;rw[wz q];rfl
 by_cases z:k=5
 ·subst z;rfl
 by_cases I:k=6
 ·subst I;show(Rq c.Allow).bind (λx=>(Rq c.iw).bind λy=>some { Eu with Allow:=x,iw:=y })=_;rw[wz q,Ac,wz J];rfl
 by_cases j:k=14
 ·subst j;rfl
 have Z:aCB k=0:=by unfold aCB;simp only[h2,h3,u,z,I,j,KA]
 have e2:Xr k c=Eu:=by unfold Xr;simp only[h1,h2,h3,u,z,I,j,KA]
 rw[Z,e2];rfl
def aSE (k:Int)(j:QF c):jI k c=some (Xr k c):=agG k j.aE8
def QF.strip (h:QF c)(k:Int):QF (Xr k c):=by
 have j:(0:Nat)<=2000:=AL
 unfold Xr
 repeat' split
 all_goals first|exact h|exact⟨by simp[Eu,Jw,h.allow],by simp[Eu,Jw,h.deny],by simp[Eu,Jw,h.users],by simp[Eu,Jw,h.kinds],by first|exact h.text|exact j,by first|exact h.via|exact j,by first|exact h.allows|simp[Eu],by first|exact h.denies|simp[Eu],by first|exact h.names|simp[Eu,Jw]⟩
def aIy (e:Aa):Aa:={ e with Content:=Xr e.Kind e.Content }
def XV (e:Aa):Prop:=Hg { e with nM:=ah }
def XV.content {e:Aa}(h:XV e):QF e.Content:=Hg.content (e:={ e with nM:=ah }) h
def ale (j:XV e):wu e=some (aIy e)/\a6b e=some (aIy e):=by
 unfold wu a6b;rw[aSE _ j.content,aTf];exact⟨rfl,rfl⟩
def bV (e:Aa):Int:=a7h (XG e.Content)
def aBB (e:Aa):Aa:={ { aIy e with Id:=0 }with nM:=ah }
def aUi (e:Aa):Int:=a7h (a2W (aBB e))
def XV.bare (h:XV e):Hg (aBB e):=by
 have j:=h.content.strip e.Kind;exact⟨h.prev,h.auth,j.allow,j.deny,j.users,j.kinds,h.room,h.sender,h.key,j.text,j.via,by show(0:Nat)<=2000;omega,j.allows,j.denies,j.names⟩
def afM (h:Y2 e.Content<=1048576):zN e=some (bV e)/\aBh e=some (bV e):=by
 obtain⟨a,b,hl⟩:=aOL h;unfold zN aBh;rw[a,b,Ac,Ac,aWo AL,aTV AL];exact⟨rfl,rfl⟩
def ag1 (h:Y2 e.Content<=1048576):Zy e=some (bV e==e.Hash)/\yx e=some (bV e==e.Hash):=by
 obtain⟨a,b⟩:=afM h;unfold Zy yx;rw[a,b];exact⟨rfl,rfl⟩
def aVx (j:XV e):ug e=some (aUi e)/\aC0 e=some (aUi e):=by
 obtain⟨a,b⟩:=ale j;obtain⟨c,d,h⟩:=ae1 j.bare;unfold ug aC0;rw[a,b,Ac,Ac];show(qZ (aBB e)).bind _=_/\(vY (aBB e)).bind _=_;rw[c,d,Ac,Ac,aWo AL,aTV AL];exact⟨rfl,rfl⟩
def Qg (s:BL):Int:=bif HY s 64 then 0 else 3
def SP (s:BL):Int:=bif HY s 33 then 0 else 3
def Yt (hs:s.size<=9223372036854775807):dN s=some (Qg s)/\YG s=some (Qg s):=by
 unfold dN yJ YG Qg;rw[aKF hs (marks:=aC3) (by rw[show DL aC3=[64]from rfl];intro m hm;simp only[FI,Gh,or_false]at hm;omega),a4R hs Bd,show((DL aC3).any λm=>HY s m)=(HY s 64||false)from rfl];cases HY s 64<;>exact⟨rfl,rfl⟩
def ZC (hs:s.size<=9223372036854775807):aG s=some (SP s)/\Zq s=some (SP s):=by
 unfold aG yJ Zq SP;rw[aKF hs (marks:=a3K) (by rw[show DL a3K=[33]from rfl];intro m hm;simp only[FI,Gh,or_false]at hm;omega),a4R hs Bd,show((DL a3K).any λm=>HY s m)=(HY s 33||false)from rfl];cases HY s 33<;>exact⟨rfl,rfl⟩
def amd (h:X8 l=true):(58:Int)∉l:=by
 intro hm;unfold X8 RI at h;simp only[ED,Fq]at h;have :=h.2 58 hm;exact absurd this Bd
theorem aY6 (s:BL)(hs:s.size<=2000):(splitB s (LH s)).1.size<=2000/\(58:Int)∉DL (splitB s (LH s)).1/\(splitB s (LH s)).2.1.size<=2000:=by
 have q:Ci.size<=2000:=Bd
 cases h:LH s with
 |false=>
  exact⟨q,by show(58:Int)∉DL Ci;decide,q⟩
 |true=>
  have j:XQ s=true:=by
   unfold LH HY at h
   grind
  refine⟨EK (extract_size _ _ _) hs,amd ?_,EK (extract_size _ _ _) hs⟩;unfold XQ at j;simp only[ED]at j;exact j.1.2
def any_false (l:AA α):(l.any λ_=>false)=false:=BU
def aHw {body:(Int->AB AV)->Int->AB AV}(l:AA α)(hl:l.length<=1000)(rest:AB AV)(j:∀k (i:Nat) (h:i<l.length),body k (i:Int)=k (Az ((i:Int)+1)))(q:∀k,body k (l.length:Int)=rest):bf body Am 0=rest:=by
 rw[Gj l (aLi AL) (λ_=>false) false rest (λk i h=>by rw[j k i h];rfl) q,any_false];rfl
def aec {l:AA BL}(h:l.length<=1000):Td l l=some true:=by
 unfold Td a6n;rw[show((l.length:Int) != (l.length:Int))=false from by simp,BN];exact aHw l h _ (λk i h=>aMj) (λk=>aHW)
structure Ko (c:D7):Prop where
 allow:c.Allow.length<=9223372036854775807
 deny:c.iw.length<=9223372036854775807
 users:c.Levels.Users.length<=9223372036854775807
 kinds:c.Levels.Kinds.length<=9223372036854775807
 text:c.Text.size<=9223372036854775807
 via:c.Via.size<=9223372036854775807
 allows:∀x∈c.Allow,x.size<=9223372036854775807
 denies:∀x∈c.iw,x.size<=9223372036854775807
 names:∀x∈c.Levels.Users,x.User.size<=9223372036854775807
structure O1 (e:Aa):Prop where
 prev:e.bG.length<=9223372036854775807
 auth:e.bJ.length<=9223372036854775807
 room:e.Room.size<=9223372036854775807
 sender:e.bQ.size<=9223372036854775807
 key:e.Key.size<=9223372036854775807
 server:e.nM.Server.size<=9223372036854775807
 content:Ko e.Content
def QF.wide (h:QF c):Ko c:=by
 obtain⟨I,J,L,M,O,U,q,u,z⟩:=h;exact⟨AL,AL,AL,AL,AL,AL,λx j=>by have :=q x j;omega,λx j=>by have :=u x j;omega,λx j=>by have :=z x j;omega⟩
def Hg.wide {e:Aa}(h:Hg e):O1 e:=by
 have h1:=h.prev;have h2:=h.auth;have h3:=h.room;have j:=h.sender;have q:=h.key;have u:=h.server;exact⟨AL,AL,AL,AL,AL,AL,h.content.wide⟩
theorem aBA (k:Int):rM k=some (decide (k>=1)&&(k<=14))/\pz k=some (decide (k>=1)&&(k<=14)):=by
 unfold rM pz
 grind
def SC (n:Int):AV:=decide (n< -1000)||(n>1000)
theorem a2o (n:Int):kP n=some (SC n)/\SV n=some (SC n):=by
 unfold kP SV SC
 grind
def RZ (c:Int):AV:=decide (c<33)||(c>126)
theorem a4S (s:BL):(s.toList==Ci.toList)=((s.size:Int)==0):=by
 rw[JA];by_cases h:s=Ci
 ·subst h;rfl
 have :¬s.size=0:=λj=>h (bytes_inj (by
  have h1:DL s=[]:=Hd (by rw[IX];exact j)
  rw[h1];rfl))
 grind
def aAX (s:BL):Int:=if s.size=0 then 9 else if s.size>64 then 7 else bif (DL s).any RZ then 3 else 0
theorem aFm (hs:s.size<=9223372036854775807):a0N s=some (aAX s)/\jS s=some (aAX s):=by
 have l1:aG0 s 0=some (cond ((DL s).any RZ) 3 0):=by
  unfold aG0;rw[Gj (DL s) aA RZ 3 (some 0) (λk i h=>?_) (λk=>?_),Md]
  ·have h':i<s.size:=WJ
   simp only[aFj,dec_lt h',Bj,Vf h,Ac,RZ]
   grind
  simp only[aFj,IX,DN,BN]
 have l2:aCK s 0=some (cond ((DL s).any RZ) 3 0):=by
  unfold aCK;rw[Gj (DL s) aA RZ 3 (some 0) (λk i h=>?_) (λk=>?_),Md]
  ·have h':i<s.size:=WJ
   simp only[aGv,dec_lt h',Bj,Vf h,Ac,RZ]
   grind
  simp only[aGv,IX,DN,BN]
 unfold a0N jS aAX;rw[a4S,l1,l2]
 grind
def xG (s:BL):AV:=decide ((s.size:Int)>=1)&&((s.size:Int)<=32)&& !(DL s).any RZ
theorem ah6 (hs:s.size<=9223372036854775807):a3A s=some (xG s):=by
 unfold a3A aNP;rw[Gj (DL s) aA RZ false (some (decide ((s.size:Int)>=1)&&((s.size:Int)<=32))) (λk i h=>?_) (λk=>?_)]
 ·unfold xG
  grind
 ·have h':i<s.size:=WJ
  simp only[aFU,dec_lt h',Bj,Vf h,Ac,RZ]
  grind
 simp only[aFU,IX,DN,BN]
 grind
def VX (k:Int)(s:BL):AV:=if k=2 then Qg s==0 else if k=9 then xG s else true
theorem aOJ (hs:s.size<=9223372036854775807):aAG k s=some (VX k s):=by
 have l1:aEg s 0=some (cond ((DL s).any RZ) false true):=by
  unfold aEg;rw[Gj (DL s) aA RZ false (some true) (λk i h=>?_) (λk=>?_),Md]
  ·have h':i<s.size:=WJ
   simp only[aJR,dec_lt h',Bj,Vf h,Ac,RZ]
   grind
  simp only[aJR,IX,DN,BN]
 unfold aAG VX;rw[(Yt hs).2,l1];by_cases h2:k=2
 ·subst h2;rfl
 rw[show(k==2)=false from by simpa using h2,EZ h2,BN];by_cases j:k=9
 ·subst j;unfold xG
  grind
 rw[show(k != 9)=true from by simpa using j,EZ j];rfl
def ag4 (j:O1 e):a6U e=some (SP e.Room==0&&Qg e.bQ==0&&VX e.Kind e.Key):=by
 have h1:=j.room;have h2:=j.sender;have h3:=j.key;unfold a6U VX;rw[(ZC AL).1,(Yt (s:=e.bQ) AL).1,(Yt (s:=e.Key) AL).1,ah6 AL];simp only[Ac,bne];cases SP e.Room==0 with
 |false=>rfl
 |true=>
  cases Qg e.bQ==0 with
  |false=>rfl
  |true=>
   by_cases k2:e.Kind=2
   ·rw[k2];rfl
   by_cases q:e.Kind=9
   ·rw[q];rfl
   rw[show(e.Kind==2)=false from by simpa using k2,show(e.Kind==9)=false from by simpa using q,EZ k2,EZ q];rfl
def EC {R:Type}(x y:AB R):Prop:=∃r,x=some r/\y=some r
section
variable {A R:Type}
def EC.ret (r:R):EC (some r) (some r):=⟨r,rfl,rfl⟩
def EC.bind {a b:AB A}{f g:A->AB R}(h:EC a b)(k:∀x,EC (f x) (g x)):EC (a.bind f) (b.bind g):=by
 obtain⟨x,rfl,rfl⟩:=h;exact k x
theorem EC.bif {c:AV}{x y j q:AB R}(h1:c=true->EC x j)(h2:c=false->EC y q):EC (cond c x y) (cond c j q):=by
 grind
def I4:=@EC.bif
def EC.loop {f g:(Int->AB R)->Int->AB R}(n:Nat)(u:n<=9223372036854775807)(hs:∀k k' (i:Nat),i<n->EC (k ((i+1:Nat):Int)) (k' ((i+1:Nat):Int))->EC (f k (i:Int)) (g k' (i:Int)))(j:∀k k',EC (f k (n:Int)) (g k' (n:Int))):EC (bf f Am 0) (bf g Am 0):=by
 have z:Am=9223372036854775808:=rfl
 have key:∀m (i:Nat),i+m=n->∀a,m<a->EC (bf f a (i:Int)) (bf g a (i:Int)):=by
  intro m
  induction m with
  |zero=>
   intro i hi a ha;obtain⟨a,rfl⟩:∃a',a=a'+1:=⟨a-1,AL⟩
   have :i=n:=AL
   subst this;exact j _ _
  |succ m q=>
   intro i hi a ha;obtain⟨a,rfl⟩:∃a',a=a'+1:=⟨a-1,AL⟩
   exact hs _ _ i AL (q (i+1) AL a AL)
 exact key n 0 AL Am AL
end
def uP (h:i<=9223372036854775806):Az ((i:Int)+1)=((i+1:Nat):Int):=wrap_succ i AL
def a06 {l:AA α}(h:i<l.length)(hl:l.length<=9223372036854775807)(j:decide ((i:Int)>0)=true):Aj l (Az ((i:Int)-1))=some (l[i-1]' AL):=by
 have j:0<i:=VI
 rw[P5 AL AL,show(i:Int)-1=((i-1:Nat):Int) by omega];exact CM AL
def aMr (hl:l.length<=9223372036854775807):EC (xZ l) (bn l):=by
 unfold xZ aMJ bn aLs;refine EC.loop l.length hl (λk k' i h j=>?_) (λk k'=>?_)
 ·simp only[aLK,a6c,eU,dec_lt h,Bj,CM h,Ac,uP (show i<=9223372036854775806 by omega)];cases decide (l[i]<0)with
  |true=>exact .ret _
  |false=>
   simp only[BN];cases q:decide ((i:Int)>0)with
   |true=>
    simp only[Bj,a06 h hl q,Ac,ge_iff_le];cases decide (l[i]<=l[i-1])with
    |true=>exact .ret _
    |false=>exact j
   |false=>exact j
 simp only[aLK,a6c,DN,BN];exact .ret _
variable {l:AA BL}
def aTQ (hl:l.length<=9223372036854775807)(hs:∀s∈l,s.size<=9223372036854775807):EC (Wv l) (TS l):=by
 unfold Wv TS;refine I4 (λ_=>.ret _) λ_=>?_;unfold aMm aEK;refine EC.loop l.length hl (λk k' i h j=>?_) (λk k'=>?_)
 ·obtain⟨q,u⟩:=aFm (s:=l[i]) (by have :=hs _ (Et h);omega);simp only[aLo,a0S,dec_lt h,Bj,CM h,Ac,q,u,uP (show i<=9223372036854775806 by omega)];exact I4 (λ_=>.ret _) λ_=>j
 simp only[aLo,a0S,DN,BN];exact .ret _
def ajf (j:Ko c):EC (Xa 4 c) (fH c):=by
 have hl:=j.allow;unfold Xa fH;rw[show((4:Int)==6)=false from rfl,BN];refine EC.bind (I4 (λ_=>.ret _) λ_=>.ret _) λx=>I4 (λ_=>.ret _) λ_=>I4 (λ_=>.ret _) λ_=>?_;unfold aNM aUO;refine EC.loop c.Allow.length AL (λk k' i h q=>?_) (λk k'=>?_)
 ·obtain⟨u,z⟩:=ZC (s:=c.Allow[i]) (by have :=j.allows _ (Et h);omega);simp only[aDU,a1X,xM,dec_lt h,Bj,CM h,Ac,u,z,uP (show i<=9223372036854775806 by omega)];refine I4 (λ_=>.ret _) λ_=>?_;cases I:decide ((i:Int)>0)with
  |true=>
   simp only[Bj,a06 h (show c.Allow.length<=9223372036854775807 by omega) I,Ac];exact I4 (λ_=>.ret _) λ_=>q
  |false=>exact q
 simp only[aDU,a1X,DN,BN];exact .ret _
def aht {l:AA H6}(hl:l.length<=9223372036854775807)(hs:∀u∈l,u.User.size<=9223372036854775807):EC (a6z l) (Zr l):=by
 unfold a6z Zr;refine I4 (λ_=>.ret _) λ_=>?_;unfold aS8 aDC;refine EC.loop l.length hl (λk k' i h j=>?_) (λk k'=>?_)
 ·obtain⟨q,z⟩:=Yt (s:=l[i].User) (by have :=hs _ (Et h);omega);obtain⟨I,J⟩:=a2o l[i].N;simp only[aIr,rD,a6e,lT,dec_lt h,Bj,CM h,Ac,q,z,I,J,uP (show i<=9223372036854775806 by omega)];refine I4 (λ_=>.ret _) λ_=>?_;cases L:decide ((i:Int)>0)with
  |true=>
   simp only[Bj,a06 h hl L,Ac];exact I4 (λ_=>.ret _) λ_=>I4 (λ_=>.ret _) λ_=>j
  |false=>
   simp only[BN];exact I4 (λ_=>.ret _) λ_=>j
 simp only[aIr,rD,DN,BN];exact .ret _
def aeG {l:AA J5}(hl:l.length<=9223372036854775807):EC (aAg l) (YU l):=by
 unfold aAg YU;refine I4 (λ_=>.ret _) λ_=>?_;unfold aUN aHb;refine EC.loop l.length hl (λk k' i h j=>?_) (λk k'=>?_)
 ·obtain⟨q,u⟩:=aBA l[i].Kind;obtain⟨z,I⟩:=a2o l[i].N;simp only[aGG,a3V,aAN,a6Y,dec_lt h,Bj,CM h,Ac,q,u,z,I,uP (show i<=9223372036854775806 by omega)];refine I4 (λ_=>.ret _) λ_=>?_;cases J:decide ((i:Int)>0)with
  |true=>
   simp only[Bj,a06 h hl J,Ac];exact I4 (λ_=>.ret _) λ_=>I4 (λ_=>.ret _) λ_=>j
  |false=>
   simp only[BN];exact I4 (λ_=>.ret _) λ_=>j
 simp only[aGG,a3V,DN,BN];exact .ret _
def ako {l:Cm}(h1:l.Users.length<=9223372036854775807)(h2:l.Kinds.length<=9223372036854775807)(h3:∀u∈l.Users,u.User.size<=9223372036854775807):EC (gB l) (Zb l):=by
 have j:aFD l 0=some (cond ((Jo l).any SC) 2 0):=by
  unfold aFD;rw[Gj (Jo l) (by have :Am=9223372036854775808:=rfl;simp[Jo,this]) SC 2 (some 0) (λk i h=>?_) (λk=>rfl),Md];have z:i<7:=h;have q:Aj ([l.User,l.Message,l.State,l.gV,l.kN,l.oK,l.iq]:AA Int) (i:Int)=some ((Jo l)[i]'(h)):=CM h;simp only[aU5,show decide ((i:Int)<7)=true from by simp;omega,Bj,q,Ac,(a2o _).1]
 unfold gB Zb;refine EC.bind (aht AL h3) λx=>I4 (λ_=>.ret _) λ_=>EC.bind (aeG AL) λy=>I4 (λ_=>.ret _) λ_=>?_;rw[j];simp only[(a2o _).2,Ac,Jo,List.any_cons,List.any_nil];cases SC l.User<;>cases SC l.Message<;>cases SC l.State<;>cases SC l.gV<;>cases SC l.kN<;>cases SC l.oK<;>cases SC l.iq<;>exact .ret _
def UZ {l:AA α}(h:((l.length:Int)==0)=true):l=[]:=Hd aDg
def Nl (l:Cm):AV:=((l.Users.length:Int)==0)&&((l.Kinds.length:Int)==0)&&(l.User==0)&&(l.Message==0)&&(l.State==0)&&(l.gV==0)&&(l.kN==0)&&(l.oK==0)&&(l.iq==0)
theorem bare_eq (l:Cm):aBz l=some (Nl l):=by
 unfold aBz Nl
 grind
def aTE (l:Cm):Wj l Jw=some (Nl l):=by
 unfold Wj Nl;show(cond ((l.Users.length:Int) != 0) (some true) (some ((l.Kinds.length:Int) != 0))).bind _=_;simp only[bne];cases u:((l.Users.length:Int)==0)with
 |false=>rfl
 |true=>
  cases z:((l.Kinds.length:Int)==0)with
  |false=>rfl
  |true=>
   have j:=UZ u;have q:=UZ z
   have h3:Xz l Jw 0=some ((l.User==0)&&(l.Message==0)&&(l.State==0)&&(l.gV==0)&&(l.kN==0)&&(l.oK==0)&&(l.iq==0)):=by
    unfold Xz;refine aHw l.Kinds (by rw[q];simp) _ (λk i h=>by rw[q]at h;simp at h) (λk=>?_);simp only[o7,DN,BN,Md,Ac,Vp];rfl
   have h1:a0Q l Jw 0=some ((l.User==0)&&(l.Message==0)&&(l.State==0)&&(l.gV==0)&&(l.kN==0)&&(l.oK==0)&&(l.iq==0)):=by
    unfold a0Q;refine aHw l.Users (by rw[j];simp) _ (λk i h=>by rw[j]at h;simp at h) (λk=>?_);simp only[jy,DN,BN];exact h3
   simp only[Eh,BN,Ac,h1,GV]
def abu (l:Cm):a6F l=some (Nl l):=by
 unfold a6F;rw[aTE];rfl
def aY4 (l:AA BL):Td l []=some ((l.length:Int)==0):=by
 cases h:((l.length:Int)==0)with
 |true=>rw[UZ h];exact aec (l:=[]) BU
 |false=>
  unfold Td;show(cond ((l.length:Int) != 0) (some false) _)=_;simp only[bne,h,Ip,Bj]
def jM (a0 j q u z I J L:AV):AV:=a0&&j&&q&&u&&z&&I&&J&&L
theorem aN9 (c:D7):U1 c Eu=some (jM (c.Text.toList==Ci.toList) (c.N==0) (c.Target==0) (!c.Thread) (c.Via.toList==Ci.toList) ((c.Allow.length:Int)==0) ((c.iw.length:Int)==0) (Nl c.Levels)):=by
 unfold U1 jM;show(cond (c.Text.toList==Ci.toList) (some (c.N==0)) (some false)).bind _=_;simp only[show Eu.Allow=[]from rfl,show Eu.iw=[]from rfl,show Eu.Levels=Jw from rfl,show Eu.Target=0 from rfl,show Eu.Thread=false from rfl,show Eu.Via=Ci from rfl,aY4,aTE,Md,Ac,Vp];congr 1
 grind
def a2d (a0 j q u z I J L:AV):Int:=
 let v:=bif !a0 then Ej .or .i64 0 1 else 0
 let v:=bif !j then Ej .or .i64 v 2 else v
 let v:=bif !q then Ej .or .i64 v 4 else v
 let v:=bif !u then Ej .or .i64 v 8 else v
 let v:=bif !z then Ej .or .i64 v 16 else v
 let v:=bif !I then Ej .or .i64 v 32 else v
 let v:=bif !J then Ej .or .i64 v 64 else v
 bif !L then Ej .or .i64 v 128 else v
theorem pos_eq (l:AA α):decide ((l.length:Int)>0)= !((l.length:Int)==0):=by
 grind
def aan (c:D7):SPr c=some (a2d (c.Text.toList==Ci.toList) (c.N==0) (c.Target==0) (!c.Thread) (c.Via.toList==Ci.toList) ((c.Allow.length:Int)==0) ((c.iw.length:Int)==0) (Nl c.Levels)):=by
 unfold SPr a6l a4g a5q a6t a3d a7i a4B a0r a2d;rw[bare_eq,pos_eq,pos_eq];simp only[Ac,bne,xE];generalize(c.Text.toList==Ci.toList)=j;generalize(c.N==0)=q;generalize(c.Target==0)=u;generalize c.Thread=z;generalize(c.Via.toList==Ci.toList)=I;generalize((c.Allow.length:Int)==0)=J;generalize((c.iw.length:Int)==0)=L;generalize Nl c.Levels=M;cases j<;>cases q<;>cases u<;>cases z<;>cases I<;>cases J<;>cases L<;>cases M<;>rfl
def aie :∀a0 j q u z I J L:AV,(a2d a0 j q u z I J L==0)=jM a0 j q u z I J L:=Nb
def Ln (j q u z I J L M a0 O U Y Z a5 a6 a7:AV):AV:=(a0||j)&&(O||q)&&(U||u)&&(Y||z)&&(Z||I)&&(a5||J)&&(a6||L)&&(a7||M)
variable {I J L q u z:AV}{K:Int}
def aMA {M:AV}(O:Cx K Io=some j)(h1:Cx K JO=some q)(h2:Cx K JW=some u)(h3:Cx K Mc=some z)(U:Cx K MO=some I)(Y:Cx K Kr=some J)(Z:Cx K MK=some L)(h7:Cx K MQ=some M):aI K c=some (Ln j q u z I J L M (c.Text.toList==Ci.toList) (c.N==0) (c.Target==0) (!c.Thread) (c.Via.toList==Ci.toList) ((c.Allow.length:Int)==0) ((c.iw.length:Int)==0) (Nl c.Levels)):=by
 unfold aI Ln;simp only[O,h1,h2,h3,U,Y,Z,h7,abu,Md,Ac,lX,Vp]
def H7 (x r:AB Int):AB Int:=x.bind λv=>bif v != 0 then some v else r
variable {r x:AB Int}
def Eo (h:x=some 0):H7 x r=r:=by rw[h];rfl
def NJ {y s:AB Int}(h:EC x y)(k:EC r s):EC (H7 x r) (H7 y s):=EC.bind h λ_=>I4 (λ_=>.ret _) λ_=>k
def a4I (x:AB Int):H7 x (some 0)=x:=by
 cases x with
 |none=>rfl
 |some v=>
  show(cond (v != 0) (some v) (some 0))=some v;by_cases h:v=0
  ·subst h;rfl
  rw[show(v != 0)=true from by simpa using h];rfl
def aCS (x:AB A):(x.bind λv=>some v)=x:=by cases x<;>rfl
def Nu (K:Int)(c:D7):AB Int:=H7 (Zg K c) (H7 (Nr K c.N) (H7 (X5 K c) (H7 (YP c) (cond (K==4) (fH c) (H7 (TS c.Allow) (H7 (TS c.iw) (Zb c.Levels)))))))
theorem frame {M kp:Int}{br:AV}{O U:AV}(hU:nP K=some M)(hk:(decide (K>=1)&&(K<=14))=true)(Y:mV K=some kp)(hb:aC6 K=some br)(h0:Cx K Io=some q)(h1:Cx K JO=some u)(h2:Cx K JW=some z)(h3:Cx K Mc=some I)(h4:Cx K MO=some J)(h5:Cx K Kr=some L)(h6:Cx K MK=some O)(h7:Cx K MQ=some U)(hM:∀a0 a1 a2 a3 a4 a5 a6 a7:AV,(Ej .andNot .i64 (a2d a0 a1 a2 a3 a4 a5 a6 a7) M != 0)= !Ln q u z I J L O U a0 a1 a2 a3 a4 a5 a6 a7)(hbr:(br=true->kp=0))(hA:kp=0->br=false->MX M K 0 c=some 0)(j:Ln q u z I J L O U (c.Text.toList==Ci.toList) (c.N==0) (c.Target==0) (!c.Thread) (c.Via.toList==Ci.toList) ((c.Allow.length:Int)==0) ((c.iw.length:Int)==0) (Nl c.Levels)=true->EC (MX M K 0 c) (Nu K c)):EC (Ld K c) (JX K c):=by
 have ht:JX K c=(pz K).bind λx1=>(cond (!x1) (some true) ((aI K c).bind λx4=>some (!x4))).bind λx2=>(cond x2 (some 1) ((aC6 K).bind λx6=>(cond x6 ((U1 c Eu).bind λx9=>some x9) (some false)).bind λx7=>(cond x7 (some 0) (Nu K c)))):=by
  unfold JX Nu H7;simp only[aCS]
 rw[ht];unfold Ld;obtain⟨Z,k2⟩:=aBA K;rw[hk]at Z k2;rw[hU,Z,k2,aan,Y,hb,aMA h0 h1 h2 h3 h4 h5 h6 h7,aN9];simp only[Ac,Eh,BN,hM,aie];cases ho:Ln q u z I J L O U (c.Text.toList==Ci.toList) (c.N==0) (c.Target==0) (!c.Thread) (c.Via.toList==Ci.toList) ((c.Allow.length:Int)==0) ((c.iw.length:Int)==0) (Nl c.Levels)with
 |false=>
  exact .ret _
 |true=>
  simp only[Eh,BN];have j:=j ho;cases ha:jM (c.Text.toList==Ci.toList) (c.N==0) (c.Target==0) (!c.Thread) (c.Via.toList==Ci.toList) ((c.Allow.length:Int)==0) ((c.iw.length:Int)==0) (Nl c.Levels)with
  |false=>
   simp only[BN,Ac];cases br<;>exact j
  |true=>
   simp only[Bj,Ac];cases hz:kp==0 with
   |false=>
    cases br with
    |false=>
     exact j
    |true=>
     grind
   |true=>
    cases br with
    |true=>
     exact .ret _
    |false=>
     have e:=hA (eq_of_beq hz) rfl;rw[e]at j;exact j
def SA (M b:Int)(x r:AB Int):AB Int:=bif Ej .and .i64 M b==0 then r else H7 x r
def eX {B R:Type}(body:(S->B->AB R)->S->B->AB R)(n:Nat)(a:S)(b:B):aP body (n+1) a b=body (aP body n) a b:=rfl
def ahD (M K:Int)(c:D7):MX M K 0 c=SA M 1 (Qh K c) (SA M 2 (Ol K c) (SA M 4 (TG K c) (SA M 8 (gX K c) (SA M 16 (fK K c) (SA M 32 (Xa K c)
 (cond (Ej .and .i64 M 64 != 0) (Wv c.iw) (cond (Ej .and .i64 M 128 != 0) (gB c.Levels) (some 0)))))))):=by
 have j:Am=9223372036854775801+1+1+1+1+1+1+1:=rfl;have q:∀k,Zl M K k 0 c=SA M 1 (Qh K c) (k 1 c):=λk=>rfl;have u:∀k,Zl M K k 1 c=SA M 2 (Ol K c) (k 2 c):=λk=>rfl;have z:∀k,Zl M K k 2 c=SA M 4 (TG K c) (k 3 c):=λk=>rfl;have I:∀k,Zl M K k 3 c=SA M 8 (gX K c) (k 4 c):=λk=>rfl;have J:∀k,Zl M K k 4 c=SA M 16 (fK K c) (k 5 c):=λk=>rfl;have L:∀k,Zl M K k 5 c=SA M 32 (Xa K c) (k 6 c):=λk=>rfl;have O:∀k,Zl M K k 6 c=(cond (Ej .and .i64 M 64 != 0) ((Wv c.iw).bind λx=>some x) (cond (Ej .and .i64 M 128 != 0) ((gB c.Levels).bind λx=>some x) (some 0))):=λk=>rfl;unfold MX;rw[j,eX,q,eX,u,eX,z,eX,I,eX,J,eX,L,eX,O,aCS,aCS]
theorem text0 (h:(c.Text.toList==Ci.toList)=true)(j:K≠12):Zg K c=some 0:=by
 have q:(c.Text.size:Int)=0:=by rw[a4S]at h;exact eq_of_beq h
 unfold Zg
 grind
theorem VD (h:Cx K JW=some false)(h3:(!c.Thread)=true):X5 K c=some 0:=by
 unfold X5
 grind
def Rj (h:(c.Via.toList==Ci.toList)=true):YP c=some 0:=by unfold YP;rw[h];rfl
def Jk (h:((l.length:Int)==0)=true):TS l=some 0:=by
 rw[UZ h];unfold TS aEK;show bf (a0S []) Am 0=some 0;rw[Gj ([]:AA BL) Bd (λ_=>false) 0 (some 0) (λk i h=>IV) (λk=>rfl)];rfl
def TT {l:Cm}(h:Nl l=true):Zb l=some 0:=by
 unfold Nl at h;simp only[ED]at h;obtain⟨⟨⟨⟨⟨⟨⟨⟨h1,h2⟩,h3⟩,j⟩,q⟩,u⟩,z⟩,I⟩,J⟩:=h
 have L:Zr []=some 0:=by
  unfold Zr aDC;show bf (rD []) Am 0=some 0;rw[Gj ([]:AA BL) Bd (λ_=>false) 0 (some 0) (λk i h=>IV) (λk=>rfl)];rfl
 have M:YU []=some 0:=by
  unfold YU aHb;show bf (a3V []) Am 0=some 0;rw[Gj ([]:AA BL) Bd (λ_=>false) 0 (some 0) (λk i h=>IV) (λk=>rfl)];rfl
 unfold Zb;rw[UZ h1,UZ h2,L,M,eq_of_beq h3,eq_of_beq j,eq_of_beq q,eq_of_beq u,eq_of_beq z,eq_of_beq I,eq_of_beq J];rfl
def dK (q:Ko c):EC (Qh K c) (Zg K c):=by
 have h1:=q.text;obtain⟨u,z⟩:=aFm (s:=c.Text) AL;unfold Qh a1r Zg;rw[u,z];have e:=a4S c.Text;by_cases j:K=9
 ·subst j;cases h:(c.Text.toList==Ci.toList)with
  |false=>exact .ret _
  |true=>
   have I:(c.Text.size:Int)=0:=by rw[e]at h;exact eq_of_beq h
   rw[I];exact .ret _
 rw[show(K==9)=false from by simpa using j];cases K==12<;>cases(c.Text.toList==Ci.toList)<;>cases decide ((c.Text.size:Int)>32)<;>cases decide ((c.Text.size:Int)>400)<;>exact .ret _
def agR (j:Ko c):EC (fK K c) (YP c):=by
 have h1:=j.via;obtain⟨q,u⟩:=Yt (s:=c.Via) AL;unfold fK YP;rw[q,u];exact I4 (λ_=>.ret _) λ_=>I4 (λ_=>.ret _) λ_=>.ret _
def aD9 (h:Cx K JW=some true)(h3:(!c.Thread)=true):EC (TG K c) (X5 K c):=by
 unfold TG X5;rw[h,show c.Thread=false from by simpa using h3];cases decide (c.Target<0)<;>cases c.Target==0<;>cases K != 11<;>exact .ret _
def ab8 (h:Cx K JW=some true):EC (H7 (TG K c) (gX K c)) (X5 K c):=by
 unfold TG gX X5 H7;rw[h];cases decide (c.Target<0)<;>cases c.Target==0<;>cases K != 11<;>cases c.Thread<;>exact .ret _
theorem aal (j:Ko c):EC (Xa 6 c) (TS c.Allow):=by
 have h1:=j.allow;have :=aTQ (l:=c.Allow) AL j.allows;show EC ((Wv c.Allow).bind λx=>some x) _
 grind
def rE (a b:Int):decide (a>=b)= !decide (a<b):=by by_cases h:a<b<;>simp[h]<;>omega
def uF (a b:Int):decide (a<=b)= !decide (a>b):=by by_cases h:a>b<;>simp[h]<;>omega
def aaS (hc:Ko c):EC (Ld 1 c) (JX 1 c):=by
 have q:Cx 1 Io=some false:=A8
 have h1:Cx 1 JO=some false:=A8
 have h2:Cx 1 JW=some false:=A8
 have h3:Cx 1 Mc=some false:=A8
 have u:Cx 1 MO=some false:=A8
 have z:Cx 1 Kr=some false:=A8
 have I:Cx 1 MK=some false:=A8
 have J:Cx 1 MQ=some false:=A8
 refine frame (M:=0) (kp:=0) (br:=false) rfl rfl rfl rfl q h1 h2 h3 u z I J Nb (λh=>IK) (λh h'=>rfl) λj=>?_;unfold Ln at j;simp only[QO,MJ,Iz,GV,ED]at j;obtain⟨⟨⟨⟨⟨⟨⟨L,e1⟩,e2⟩,O⟩,U⟩,Y⟩,Z⟩,e7⟩:=j;have hL:MX 0 1 0 c=(some 0):=QL
 rw[hL];unfold Nu;rw[Eo (text0 L Bd),Eo (show Nr 1 c.N=some 0 from rfl),Eo (VD h2 O),Eo (Rj U),show((1:Int)==4)=false from rfl,BN,Eo (Jk Y),Eo (Jk Z),TT e7];exact .ret _
def afn (c:D7):EC (Ol 2 c) (Nr 2 c.N):=by
 show EC ((cond (c.N<0) (some true) (some (decide (c.N>4)))).bind λj=>(cond j (some 2) (some 0))) ((cond (c.N>=0) (some (decide (c.N<=4))) (some false)).bind λq=>(cond (!q) (some 2) (some 0)));rw[rE,uF];cases decide (c.N<0)<;>cases decide (c.N>4)<;>exact .ret _
def adN (q:Ko c):EC (Ld 2 c) (JX 2 c):=by
 have u:Cx 2 Io=some true:=A8
 have h1:Cx 2 JO=some true:=A8
 have h2:Cx 2 JW=some false:=A8
 have h3:Cx 2 Mc=some false:=A8
 have z:Cx 2 MO=some true:=A8
 have I:Cx 2 Kr=some false:=A8
 have J:Cx 2 MK=some false:=A8
 have L:Cx 2 MQ=some false:=A8
 refine frame (M:=19) (kp:=18) (br:=false) rfl rfl rfl rfl u h1 h2 h3 z I J L Nb (λh=>IK) (λh h'=>IK) λj=>?_;unfold Ln at j;simp only[QO,MJ,Iz,GV,ED]at j;obtain⟨⟨⟨⟨e2,O⟩,U⟩,Y⟩,Z⟩:=j;have hL:MX 19 2 0 c=(H7 (Qh 2 c) (H7 (Ol 2 c) (H7 (fK 2 c) (some 0)))):=QL
 rw[hL];unfold Nu;rw[Eo (VD h2 O),show((2:Int)==4)=false from rfl,BN,Eo (Jk U),Eo (Jk Y),TT Z];exact NJ (dK q) (NJ (afn c) (NJ (agR q) (.ret _)))
def aYf (j:Ko c):EC (Ld 3 c) (JX 3 c):=by
 have u:Cx 3 Io=some false:=A8
 have h1:Cx 3 JO=some false:=A8
 have h2:Cx 3 JW=some false:=A8
 have h3:Cx 3 Mc=some false:=A8
 have z:Cx 3 MO=some false:=A8
 have I:Cx 3 Kr=some false:=A8
 have J:Cx 3 MK=some false:=A8
 have L:Cx 3 MQ=some true:=A8
 refine frame (M:=128) (kp:=128) (br:=false) rfl rfl rfl rfl u h1 h2 h3 z I J L Nb (λh=>IK) (λh h'=>IK) λq=>?_;unfold Ln at q;simp only[QO,MJ,Iz,GV,ED]at q;obtain⟨⟨⟨⟨⟨⟨O,e1⟩,e2⟩,U⟩,Y⟩,Z⟩,e6⟩:=q;have hL:MX 128 3 0 c=(gB c.Levels):=QL
 rw[hL];unfold Nu;rw[Eo (text0 O Bd),Eo (show Nr 3 c.N=some 0 from rfl),Eo (VD h2 U),Eo (Rj Y),show((3:Int)==4)=false from rfl,BN,Eo (Jk Z),Eo (Jk e6)];exact ako j.users j.kinds j.names
def afQ (c:D7):EC (Ol 4 c) (Nr 4 c.N):=by
 show EC ((cond (c.N<0) (some true) (some (decide (c.N>3)))).bind λj=>(cond j (some 2) (some 0))) ((cond (c.N>=0) (some (decide (c.N<=3))) (some false)).bind λq=>(cond (!q) (some 2) (some 0)));rw[rE,uF];cases decide (c.N<0)<;>cases decide (c.N>3)<;>exact .ret _
def afj (q:Ko c):EC (Ld 4 c) (JX 4 c):=by
 have u:Cx 4 Io=some false:=A8
 have h1:Cx 4 JO=some true:=A8
 have h2:Cx 4 JW=some false:=A8
 have h3:Cx 4 Mc=some false:=A8
 have z:Cx 4 MO=some false:=A8
 have I:Cx 4 Kr=some true:=A8
 have J:Cx 4 MK=some false:=A8
 have L:Cx 4 MQ=some false:=A8
 refine frame (M:=34) (kp:=34) (br:=false) rfl rfl rfl rfl u h1 h2 h3 z I J L Nb (λh=>IK) (λh h'=>IK) λj=>?_;unfold Ln at j;simp only[QO,MJ,Iz,GV,ED]at j;obtain⟨⟨⟨⟨⟨O,e2⟩,U⟩,Y⟩,e6⟩,e7⟩:=j;have Z:MX 34 4 0 c=(H7 (Ol 4 c) (H7 (Xa 4 c) (some 0))):=QL
 rw[Z];unfold Nu;rw[Eo (text0 O Bd),Eo (VD h2 U),Eo (Rj Y),show((4:Int)==4)=true from rfl,Bj];rw[a4I];exact NJ (afQ c) (ajf q)
def agN (c:D7):EC (Ol 5 c) (Nr 5 c.N):=by
 show EC ((cond (c.N<0) (some true) (some (decide (c.N>3)))).bind λj=>(cond j (some 2) (some 0))) ((cond (c.N>=0) (some (decide (c.N<=3))) (some false)).bind λq=>(cond (!q) (some 2) (some 0)));rw[rE,uF];cases decide (c.N<0)<;>cases decide (c.N>3)<;>exact .ret _
def akF (hc:Ko c):EC (Ld 5 c) (JX 5 c):=by
 have q:Cx 5 Io=some false:=A8
 have h1:Cx 5 JO=some true:=A8
 have h2:Cx 5 JW=some false:=A8
 have h3:Cx 5 Mc=some false:=A8
 have u:Cx 5 MO=some false:=A8
 have z:Cx 5 Kr=some false:=A8
 have I:Cx 5 MK=some false:=A8
 have J:Cx 5 MQ=some false:=A8
 refine frame (M:=2) (kp:=2) (br:=false) rfl rfl rfl rfl q h1 h2 h3 u z I J Nb (λh=>IK) (λh h'=>IK) λj=>?_;unfold Ln at j;simp only[QO,MJ,Iz,GV,ED]at j;obtain⟨⟨⟨⟨⟨⟨L,e2⟩,O⟩,U⟩,Y⟩,Z⟩,e7⟩:=j;have hL:MX 2 5 0 c=(H7 (Ol 5 c) (some 0)):=QL
 rw[hL];unfold Nu;rw[Eo (text0 L Bd),Eo (VD h2 O),Eo (Rj U),show((5:Int)==4)=false from rfl,BN,Eo (Jk Y),Eo (Jk Z),TT e7];exact NJ (agN c) (.ret _)
def adl (j:Ko c):EC (Ld 6 c) (JX 6 c):=by
 have u:Cx 6 Io=some false:=A8
 have h1:Cx 6 JO=some false:=A8
 have h2:Cx 6 JW=some false:=A8
 have h3:Cx 6 Mc=some false:=A8
 have z:Cx 6 MO=some false:=A8
 have I:Cx 6 Kr=some true:=A8
 have J:Cx 6 MK=some true:=A8
 have L:Cx 6 MQ=some false:=A8
 refine frame (M:=96) (kp:=96) (br:=false) rfl rfl rfl rfl u h1 h2 h3 z I J L Nb (λh=>IK) (λh h'=>IK) λq=>?_;unfold Ln at q;simp only[QO,MJ,Iz,GV,ED]at q;obtain⟨⟨⟨⟨⟨O,e1⟩,e2⟩,U⟩,Y⟩,Z⟩:=q;have hL:MX 96 6 0 c=(H7 (Xa 6 c) (Wv c.iw)):=QL
 rw[hL];unfold Nu;rw[Eo (text0 O Bd),Eo (show Nr 6 c.N=some 0 from rfl),Eo (VD h2 U),Eo (Rj Y),show((6:Int)==4)=false from rfl,BN,TT Z];have h1:=j.deny;rw[a4I];exact NJ (aal j) (aTQ AL j.denies)
def akx (q:Ko c):EC (Ld 7 c) (JX 7 c):=by
 have u:Cx 7 Io=some true:=A8
 have h1:Cx 7 JO=some false:=A8
 have h2:Cx 7 JW=some false:=A8
 have h3:Cx 7 Mc=some false:=A8
 have z:Cx 7 MO=some false:=A8
 have I:Cx 7 Kr=some false:=A8
 have J:Cx 7 MK=some false:=A8
 have L:Cx 7 MQ=some false:=A8
 refine frame (M:=1) (kp:=0) (br:=true) rfl rfl rfl rfl u h1 h2 h3 z I J L Nb (λh=>rfl) (λh h'=>bg) λj=>?_;unfold Ln at j;simp only[QO,MJ,Iz,GV,ED]at j;obtain⟨⟨⟨⟨⟨⟨e1,e2⟩,O⟩,U⟩,Y⟩,Z⟩,e7⟩:=j;have hL:MX 1 7 0 c=(H7 (Qh 7 c) (some 0)):=QL
 rw[hL];unfold Nu;rw[Eo (show Nr 7 c.N=some 0 from rfl),Eo (VD h2 O),Eo (Rj U),show((7:Int)==4)=false from rfl,BN,Eo (Jk Y),Eo (Jk Z),TT e7];exact NJ (dK q) (.ret _)
def amj (c:D7):EC (Ol 8 c) (Nr 8 c.N):=by
 show EC ((cond (c.N<0) (some true) (some (decide (c.N>1000000000)))).bind λj=>(cond j (some 2) (some 0))) ((cond (c.N>=0) (some (decide (c.N<=1000000000))) (some false)).bind λq=>(cond (!q) (some 2) (some 0)));rw[rE,uF];cases decide (c.N<0)<;>cases decide (c.N>1000000000)<;>exact .ret _
def anR (hc:Ko c):EC (Ld 8 c) (JX 8 c):=by
 have q:Cx 8 Io=some false:=A8
 have h1:Cx 8 JO=some true:=A8
 have h2:Cx 8 JW=some false:=A8
 have h3:Cx 8 Mc=some false:=A8
 have u:Cx 8 MO=some false:=A8
 have z:Cx 8 Kr=some false:=A8
 have I:Cx 8 MK=some false:=A8
 have J:Cx 8 MQ=some false:=A8
 refine frame (M:=2) (kp:=0) (br:=true) rfl rfl rfl rfl q h1 h2 h3 u z I J Nb (λh=>rfl) (λh h'=>bg) λj=>?_;unfold Ln at j;simp only[QO,MJ,Iz,GV,ED]at j;obtain⟨⟨⟨⟨⟨⟨L,e2⟩,O⟩,U⟩,Y⟩,Z⟩,e7⟩:=j;have hL:MX 2 8 0 c=(H7 (Ol 8 c) (some 0)):=QL
 rw[hL];unfold Nu;rw[Eo (text0 L Bd),Eo (VD h2 O),Eo (Rj U),show((8:Int)==4)=false from rfl,BN,Eo (Jk Y),Eo (Jk Z),TT e7];exact NJ (amj c) (.ret _)
def agm (c:D7):EC (Ol 9 c) (Nr 9 c.N):=by
 show EC ((cond (c.N==1) (some true) (some (c.N==2))).bind λj=>(cond j (some true) (some (c.N==6))).bind λq=>(cond q (some 0) (some 2))) ((cond (c.N==1) (some true) (some (c.N==2))).bind λu=>(cond u (some true) (some (c.N==6))).bind λz=>(cond (!z) (some 2) (some 0)));cases c.N==1<;>cases c.N==2<;>cases c.N==6<;>exact .ret _
def ae2 (q:Ko c):EC (Ld 9 c) (JX 9 c):=by
 have u:Cx 9 Io=some true:=A8
 have h1:Cx 9 JO=some true:=A8
 have h2:Cx 9 JW=some false:=A8
 have h3:Cx 9 Mc=some false:=A8
 have z:Cx 9 MO=some false:=A8
 have I:Cx 9 Kr=some false:=A8
 have J:Cx 9 MK=some false:=A8
 have L:Cx 9 MQ=some false:=A8
 refine frame (M:=3) (kp:=0) (br:=true) rfl rfl rfl rfl u h1 h2 h3 z I J L Nb (λh=>rfl) (λh h'=>bg) λj=>?_;unfold Ln at j;simp only[QO,MJ,Iz,GV,ED]at j;obtain⟨⟨⟨⟨⟨e2,O⟩,U⟩,Y⟩,Z⟩,e7⟩:=j;have hL:MX 3 9 0 c=(H7 (Qh 9 c) (H7 (Ol 9 c) (some 0))):=QL
 rw[hL];unfold Nu;rw[Eo (VD h2 O),Eo (Rj U),show((9:Int)==4)=false from rfl,BN,Eo (Jk Y),Eo (Jk Z),TT e7];exact NJ (dK q) (NJ (agm c) (.ret _))
def aiC (c:D7):EC (Ol 10 c) (Nr 10 c.N):=by
 show EC ((cond (c.N<1) (some true) (some (decide (c.N>10000)))).bind λj=>(cond j (some 2) (some 0))) ((cond (c.N>=1) (some (decide (c.N<=10000))) (some false)).bind λq=>(cond (!q) (some 2) (some 0)));rw[rE,uF];cases decide (c.N<1)<;>cases decide (c.N>10000)<;>exact .ret _
def agv (hc:Ko c):EC (Ld 10 c) (JX 10 c):=by
 have q:Cx 10 Io=some false:=A8
 have h1:Cx 10 JO=some true:=A8
 have h2:Cx 10 JW=some false:=A8
 have h3:Cx 10 Mc=some false:=A8
 have u:Cx 10 MO=some false:=A8
 have z:Cx 10 Kr=some false:=A8
 have I:Cx 10 MK=some false:=A8
 have J:Cx 10 MQ=some false:=A8
 refine frame (M:=2) (kp:=0) (br:=true) rfl rfl rfl rfl q h1 h2 h3 u z I J Nb (λh=>rfl) (λh h'=>bg) λj=>?_;unfold Ln at j;simp only[QO,MJ,Iz,GV,ED]at j;obtain⟨⟨⟨⟨⟨⟨L,e2⟩,O⟩,U⟩,Y⟩,Z⟩,e7⟩:=j;have hL:MX 2 10 0 c=(H7 (Ol 10 c) (some 0)):=QL
 rw[hL];unfold Nu;rw[Eo (text0 L Bd),Eo (VD h2 O),Eo (Rj U),show((10:Int)==4)=false from rfl,BN,Eo (Jk Y),Eo (Jk Z),TT e7];exact NJ (aiC c) (.ret _)
def agA (q:Ko c):EC (Ld 11 c) (JX 11 c):=by
 have u:Cx 11 Io=some true:=A8
 have h1:Cx 11 JO=some false:=A8
 have h2:Cx 11 JW=some true:=A8
 have h3:Cx 11 Mc=some true:=A8
 have z:Cx 11 MO=some false:=A8
 have I:Cx 11 Kr=some false:=A8
 have J:Cx 11 MK=some false:=A8
 have L:Cx 11 MQ=some false:=A8
 refine frame (M:=13) (kp:=0) (br:=true) rfl rfl rfl rfl u h1 h2 h3 z I J L Nb (λh=>rfl) (λh h'=>bg) λj=>?_;unfold Ln at j;simp only[QO,MJ,Iz,GV,ED]at j;obtain⟨⟨⟨⟨e1,O⟩,U⟩,Y⟩,Z⟩:=j;have hL:MX 13 11 0 c=(H7 (Qh 11 c) (H7 (TG 11 c) (H7 (gX 11 c) (some 0)))):=QL
 rw[hL];unfold Nu;rw[Eo (show Nr 11 c.N=some 0 from rfl),Eo (Rj O),show((11:Int)==4)=false from rfl,BN,Eo (Jk U),Eo (Jk Y),TT Z];rw[a4I,a4I];exact NJ (dK q) (ab8 h2)
def afU (q:Ko c):EC (Ld 12 c) (JX 12 c):=by
 have u:Cx 12 Io=some true:=A8
 have h1:Cx 12 JO=some false:=A8
 have h2:Cx 12 JW=some true:=A8
 have h3:Cx 12 Mc=some false:=A8
 have z:Cx 12 MO=some false:=A8
 have I:Cx 12 Kr=some false:=A8
 have J:Cx 12 MK=some false:=A8
 have L:Cx 12 MQ=some false:=A8
 refine frame (M:=5) (kp:=0) (br:=true) rfl rfl rfl rfl u h1 h2 h3 z I J L Nb (λh=>rfl) (λh h'=>bg) λj=>?_;unfold Ln at j;simp only[QO,MJ,Iz,GV,ED]at j;obtain⟨⟨⟨⟨⟨e1,O⟩,U⟩,Y⟩,Z⟩,e7⟩:=j;have hL:MX 5 12 0 c=(H7 (Qh 12 c) (H7 (TG 12 c) (some 0))):=QL
 rw[hL];unfold Nu;rw[Eo (show Nr 12 c.N=some 0 from rfl),Eo (Rj U),show((12:Int)==4)=false from rfl,BN,Eo (Jk Y),Eo (Jk Z),TT e7];exact NJ (dK q) (NJ (aD9 h2 O) (.ret _))
def aew (q:Ko c):EC (Ld 13 c) (JX 13 c):=by
 have u:Cx 13 Io=some true:=A8
 have h1:Cx 13 JO=some false:=A8
 have h2:Cx 13 JW=some true:=A8
 have h3:Cx 13 Mc=some false:=A8
 have z:Cx 13 MO=some false:=A8
 have I:Cx 13 Kr=some false:=A8
 have J:Cx 13 MK=some false:=A8
 have L:Cx 13 MQ=some false:=A8
 refine frame (M:=5) (kp:=0) (br:=true) rfl rfl rfl rfl u h1 h2 h3 z I J L Nb (λh=>rfl) (λh h'=>bg) λj=>?_;unfold Ln at j;simp only[QO,MJ,Iz,GV,ED]at j;obtain⟨⟨⟨⟨⟨e1,O⟩,U⟩,Y⟩,Z⟩,e7⟩:=j;have hL:MX 5 13 0 c=(H7 (Qh 13 c) (H7 (TG 13 c) (some 0))):=QL
 rw[hL];unfold Nu;rw[Eo (show Nr 13 c.N=some 0 from rfl),Eo (Rj U),show((13:Int)==4)=false from rfl,BN,Eo (Jk Y),Eo (Jk Z),TT e7];exact NJ (dK q) (NJ (aD9 h2 O) (.ret _))
def akK (q:Ko c):EC (Ld 14 c) (JX 14 c):=by
 have u:Cx 14 Io=some true:=A8
 have h1:Cx 14 JO=some false:=A8
 have h2:Cx 14 JW=some true:=A8
 have h3:Cx 14 Mc=some false:=A8
 have z:Cx 14 MO=some false:=A8
 have I:Cx 14 Kr=some false:=A8
 have J:Cx 14 MK=some false:=A8
 have L:Cx 14 MQ=some false:=A8
 refine frame (M:=5) (kp:=4) (br:=false) rfl rfl rfl rfl u h1 h2 h3 z I J L Nb (λh=>IK) (λh h'=>IK) λj=>?_;unfold Ln at j;simp only[QO,MJ,Iz,GV,ED]at j;obtain⟨⟨⟨⟨⟨e1,O⟩,U⟩,Y⟩,Z⟩,e7⟩:=j;have hL:MX 5 14 0 c=(H7 (Qh 14 c) (H7 (TG 14 c) (some 0))):=QL
 rw[hL];unfold Nu;rw[Eo (show Nr 14 c.N=some 0 from rfl),Eo (Rj U),show((14:Int)==4)=false from rfl,BN,Eo (Jk Y),Eo (Jk Z),TT e7];exact NJ (dK q) (NJ (aD9 h2 O) (.ret _))
theorem ag7 (k:Int)(j:Ko c):EC (Ld k c) (JX k c):=by
 cases q:decide (k>=1)&&decide (k<=14)with
 |false=>
  obtain⟨u,k2⟩:=aBA k;rw[q]at u k2
  have f:∀n:Int,1<=n->n<=14->(k==n)=false:=λn h1 h2=>by
   grind
  have hm:nP k=some 0:=by
   unfold nP yL xW;rw[f 2 Bd Bd,f 3 Bd Bd,f 4 Bd Bd,f 5 Bd Bd,f 8 Bd Bd,f 10 Bd Bd,f 6 Bd Bd,f 7 Bd Bd,f 9 Bd Bd,f 11 Bd Bd,f 12 Bd Bd,f 13 Bd Bd,f 14 Bd Bd];rfl
  unfold Ld JX;rw[hm,u,k2];exact .ret _
 |true=>
  simp only[ED,Iu]at q;have :k=1\/k=2\/k=3\/k=4\/k=5\/k=6\/k=7\/k=8\/k=9\/k=10\/k=11\/k=12\/k=13\/k=14:=AL
  rcases this with rfl|rfl|rfl|rfl|rfl|rfl|rfl|rfl|rfl|rfl|rfl|rfl|rfl|rfl
  ·exact aaS j
  ·exact adN j
  ·exact aYf j
  ·exact afj j
  ·exact akF j
  ·exact adl j
  ·exact akx j
  ·exact anR j
  ·exact ae2 j
  ·exact agv j
  ·exact agA j
  ·exact afU j
  ·exact aew j
  exact akK j
def Lh (p:α->α->AV)(a b:AA α):AV:=((a.length:Int)==(b.length:Int))&& !((a.zip b).any λx=> !p x.1 x.2)
theorem Um {R:Type}{body:(Int->AB R)->Int->AB R}(p:α->α->AV)(a b:AA α)(ha:a.length<=1000)(j:a.length=b.length)(bad:R)(rest:AB R)(u:∀k (i:Nat) (h:i<a.length) (h':i<b.length),body k (i:Int)=bif !p a[i] b[i]then some bad else k (Az ((i:Int)+1)))(q:∀k,body k (a.length:Int)=rest):bf body Am 0=bif (a.zip b).any λx=> !p x.1 x.2 then some bad else rest:=by
 have hl:(a.zip b).length=a.length:=EY
 refine Gj (a.zip b) (by rw[hl];exact aLi AL) (λx=> !p x.1 x.2) bad rest (λk i h=>?_) (λk=>by rw[hl];exact q k)
 grind
def len_eq {b:AA α}(h:((a.length:Int)==(b.length:Int))=true):a.length=b.length:=aDg
def X7 (x y:BL):AV:=x.toList==y.toList
def Xm (x y:H6):AV:=x.User.toList==y.User.toList&&x.N==y.N
def V7 (x y:J5):AV:=x.Kind==y.Kind&&x.N==y.N
def aAP {a b:AA BL}(ha:a.length<=1000):iD a b=some (Lh X7 a b)/\Td a b=some (Lh X7 a b):=by
 unfold iD Td Lh;simp only[bne];cases h:((a.length:Int)==(b.length:Int))with
 |false=>exact⟨rfl,rfl⟩
 |true=>
  have j:=len_eq h;simp only[Eh,BN,GV];unfold aCR a6n
  rw[Um X7 a b ha j false (some true) (λk i h h'=>by simp only[su,dec_lt h,Bj,CM h,CM h',Ac];rfl) (λk=>by simp only[su,DN,BN]),
   Um X7 a b ha j false (some true) (λk i h h'=>by simp only[a5j,dec_lt h,Bj,CM h,CM h',Ac];rfl) (λk=>aHW)]
  cases(a.zip b).any λx=> !X7 x.1 x.2<;>exact⟨rfl,rfl⟩
def acI {a b:AA H6}(ha:a.length<=1000):lU a b=some (Lh Xm a b):=by
 unfold lU Lh;simp only[bne];cases h:((a.length:Int)==(b.length:Int))with
 |false=>rfl
 |true=>
  have j:=len_eq h;simp only[Eh,BN,GV];unfold aJ8;rw[Um Xm a b ha j false (some true) (λk i h h'=>by simp only[sN,dec_lt h,Bj,CM h,CM h',Ac,wJ,Xm,Iz]) (λk=>by simp only[sN,DN,BN])];cases(a.zip b).any λx=> !Xm x.1 x.2<;>rfl
def adx {a b:AA J5}(ha:a.length<=1000):o8 a b=some (Lh V7 a b):=by
 unfold o8 Lh;simp only[bne];cases h:((a.length:Int)==(b.length:Int))with
 |false=>rfl
 |true=>
  have j:=len_eq h;simp only[Eh,BN,GV];unfold aLf;rw[Um V7 a b ha j false (some true) (λk i h h'=>by simp only[a0A,dec_lt h,Bj,CM h,CM h',Ac,wW,V7,Iz]) (λk=>by simp only[a0A,DN,BN])];cases(a.zip b).any λx=> !V7 x.1 x.2<;>rfl
def aBC (a b:Cm):AV:=(a.User==b.User)&&(a.Message==b.Message)&&(a.State==b.State)&&(a.gV==b.gV)&&(a.kN==b.kN)&&(a.oK==b.oK)&&(a.iq==b.iq)
def a6H (a b:Cm):AV:=Lh Xm a.Users b.Users&&(Lh V7 a.Kinds b.Kinds&&aBC a b)
theorem aZV {a b:Cm}(h1:a.Users.length<=1000)(h2:a.Kinds.length<=1000):Wj a b=some (a6H a b):=by
 unfold Wj a6H Lh;simp only[bne];cases j:((a.Users.length:Int)==(b.Users.length:Int))with
 |false=>
  rfl
 |true=>
  cases q:((a.Kinds.length:Int)==(b.Kinds.length:Int))with
  |false=>
   simp
  |true=>
   have u:=len_eq j;have ek:=len_eq q
   have h3:Xz a b 0=bif (a.Kinds.zip b.Kinds).any λx=> !V7 x.1 x.2 then some false else some (aBC a b):=by
    unfold Xz;refine Um V7 a.Kinds b.Kinds h2 ek false (some (aBC a b)) (λk i h h'=>?_) (λk=>?_)
    ·simp only[o7,dec_lt h,Bj,CM h,CM h',Ac,zi,V7,bne]
     grind
    simp only[o7,DN,BN,Md,Ac,Vp];rfl
   simp only[Eh,BN,Ac,GV];unfold a0Q
   rw[Um Xm a.Users b.Users h1 u false (Xz a b 0) (λk i h h'=>by
    simp only[jy,dec_lt h,Bj,CM h,CM h',Ac,vS,Xm,bne]
    cases a.Users[i].User.toList==b.Users[i].User.toList<;>cases a.Users[i].N==b.Users[i].N<;>rfl) (λk=>by simp only[jy,DN,BN]),h3]
   cases(a.Users.zip b.Users).any λx=> !Xm x.1 x.2<;>cases(a.Kinds.zip b.Kinds).any λx=> !V7 x.1 x.2<;>rfl
def aBD (a b:D7):AV:=(a.Text.toList==b.Text.toList)&&(a.N==b.N)&&(a.Target==b.Target)&&(a.Thread==b.Thread)&&(a.Via.toList==b.Via.toList)&&Lh X7 a.Allow b.Allow&&Lh X7 a.iw b.iw&&a6H a.Levels b.Levels
variable {a:D7}
def adY (b:D7)(ha:QF a):U1 a b=some (aBD a b):=by
 have h1:=ha.allow;have h2:=ha.deny;have h3:=ha.users;have j:=ha.kinds;unfold U1 aBD;rw[(aAP (a:=a.Allow) AL).2,(aAP (a:=a.iw) AL).2,aZV (a:=a.Levels) AL AL];simp only[Md,Ac,Vp]
def aYD (b:D7)(ha:QF a):eF a b=some (aBD a b):=by
 have h1:=ha.allow;have h2:=ha.deny;have h3:=ha.users;have M:=ha.kinds;unfold eF aBD a6H aBC;rw[(aAP (a:=a.Allow) AL).1,(aAP (a:=a.iw) AL).1,acI (a:=a.Levels.Users) AL,adx (a:=a.Levels.Kinds) AL];simp only[Md,Ac,Vp,lX,bne];generalize(a.Text.toList==b.Text.toList)=j;generalize(a.N==b.N)=q;generalize(a.Target==b.Target)=u;generalize(a.Thread==b.Thread)=z;generalize(a.Via.toList==b.Via.toList)=I;generalize Lh X7 a.Allow b.Allow=J;generalize Lh X7 a.iw b.iw=L;generalize Lh Xm a.Levels.Users b.Levels.Users=O;generalize Lh V7 a.Levels.Kinds b.Levels.Kinds=U;cases j<;>cases q<;>cases u<;>cases z<;>cases I<;>cases J<;>cases L<;>first|rfl|(simp only[Eh,Bool.or_self,BN,GV,Bool.and_self,Bool.and_assoc])
theorem aeo (j:O1 e)(v:AV):EC (Yx e v) ((SB e v).bind λu=>(cond (u != 0) (some u) ((JX e.Kind e.Content).bind λz=>some z))):=by
 have h1:=j.room;have h2:=j.sender;have h3:=j.key;have Z:=j.prev;have h5:=j.auth;unfold Yx SB;rw[ag4 j,(ZC (s:=e.Room) AL).2,(Yt (s:=e.bQ) AL).2,aOJ AL];cases v with
 |true=>
  exact .ret _
 |false=>
  simp only[BN,Ac,bne,Md,lX];generalize(SP e.Room==0)=a;generalize(Qg e.bQ==0)=b;generalize VX e.Kind e.Key=I;cases a with
  |false=>
   exact .ret _
  |true=>
   cases b with
   |false=>
    exact .ret _
   |true=>
    cases I with
    |false=>
     exact .ret _
    |true=>
     simp only[Eh,Bool.or_self,Bool.and_self,BN,a3t];refine I4 (λ_=>.ret _) λ_=>I4 (λ_=>.ret _) λhlen=>?_;simp only[a1h,yH]at hlen;obtain⟨J,L,M⟩:=aMr (l:=e.bG) AL;obtain⟨O,U,Y⟩:=aMr (l:=e.bJ) AL;rw[L,U,M,Y];simp only[Ac,Md,lX,a3t];cases J with
     |false=>
      exact .ret _
     |true=>
     cases O with
     |false=>
      exact .ret _
     |true=>
     simp only[Eh,BN]
     have hs:decide ((Az ((e.bG.length:Int)+(e.bJ.length:Int)))>0)=(decide ((e.bG.length:Int)>0)||((e.bJ.length:Int)>0)):=by
      rw[P5 AL AL]
      grind
     rw[hs];generalize(cond ((e.bG.length:Int)==0) (!e.Kind==1) false)=p;generalize(cond (e.Kind==1) (decide ((e.bG.length:Int)>0)||((e.bJ.length:Int)>0)) false)=q;cases p with
     |true=>
      exact .ret _
     |false=>
      cases q with
      |true=>
       exact .ret _
      |false=>
       exact EC.bind (ag7 e.Kind j.content) λx=>.ret _
def aaZ (q:O1 e):EC (a1n e) (lG e):=by
 have j:=aeo q;unfold a1n lG a4s;rw[show fJ e.Kind=UR e.Kind from rfl];simp only[a3t,bne,Md,Ac];refine I4 (λ_=>j _) λ_=>I4 (λ_=>j _) λ_=>?_;have hs:∃b,UR e.Kind=some b:=by unfold UR;cases decide (e.Kind>=1)<;>cases decide (e.Kind<=10)<;>exact⟨_,rfl⟩
 obtain⟨b,u⟩:=hs;rw[u];simp only[Ac,a3t];refine I4 (λ_=>j _) λ_=>I4 (λ_=>?_) λ_=>j _;cases e.Kind==2 with
 |true=>exact j _
 |false=>exact j _
def aQv (j:XV e):Zy e=some (bV e==e.Hash)/\yx e=some (bV e==e.Hash):=ag1 j.content.aE8
def aiS (j:XV e)(v:AV):EC (aH e v) (lM e v):=by
 have h2:e.bQ.size<=2000:=j.sender;unfold aH lM;obtain⟨q,u⟩:=aVx j;obtain⟨z,I⟩:=kF (s:=e.bQ) AL;rw[q,u,z,I];refine I4 (λ_=>.ret _) λ_=>?_;simp only[Ac];refine I4 (λ_=>.ret _) λ_=>?_;unfold a4r dh;show EC (cond (!((e.nM.Server.toList==(splitB e.bQ (LH e.bQ)).2.1.toList)&&((e.nM.Sum==e.Id)&&true))) (some 12) (some 0)) _;simp only[bne];cases(e.nM.Server.toList==(splitB e.bQ (LH e.bQ)).2.1.toList)<;>cases(e.nM.Sum==e.Id)<;>exact .ret _
end Go.Proofs.YtfmoknlmaldmlaaGreat
