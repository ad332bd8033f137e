/- Part 7 of what the laws' proofs lean on: states of the walk, typed functions of the program and their laws (short forms written by wip/shrink.py; no condition). -/
import Derived.Test.YtolgdkhlelfpoaaGreatRg6
set_option linter.defProp false
set_option linter.unnecessarySimpa false
set_option linter.unusedVariables false
set_option linter.unusedSimpArgs false
section
namespace Go.Proofs.YtolgdkhlelfpoaaGreat
open Go.RowKit
def jY (x y:AY):Bool:=y.Kind==x.Kind&&decide (y.Key=x.Key)
def KU (h:List BI):List AY→List AY→Bool
 |_,[]=>true
 |f,x::xs=>(h.any fun k=>Ei k x)&& !f.any (jY x)&&KU h (f++[x]) xs
def QV (x:AY):Bool:=x.Kind==1&&decide (x.Key=Bf)
def St (l:List AY) (e:AY):Int:=
 bif !e.bM.all (dS l)then 14 else bif !(ofIds l e.bM).all (fun x=>decide (x.Room=e.Room))then 13
 else bif KU (keysOf e) [] (ofIds l e.bM)&&(e.Kind==1||(ofIds l e.bM).any QV)then 0 else 16
def ZO {k:BI} {x:AY}:Ei k x=true↔x.Kind=k.Kind∧x.Key=k.Key:=by unfold Ei;simp
def aRe {x y:AY}:jY x y=true↔y.Kind=x.Kind∧y.Key=x.Key:=by unfold jY;simp
def aOp {f:List BI} {X:List AY} {i:Nat} (h:i<X.length):KU f (X.take i) (X.drop i)=((f.any fun k=>Ei k X[i])&& !(X.take i).any (jY X[i])&&KU f (X.take (i+1)) (X.drop (i+1))):=by
 rw[LV h,TN,Dn h];rfl
def acI {f:List BI} (X:List AY):KU f (X.take X.length) (X.drop X.length)=true:=by rw[OV];rfl
def aT8 (X:List AY) (k:Int) (key:ByteArray) (h:X.length≤1000):X7 (X.map fun x=>(⟨x.Kind,x.Key,0⟩:BI)) k key=some (X.any fun y=>y.Kind==k&&decide (y.Key=key)):=by
 unfold X7 aMO;rw[GL (X.map fun x=>(⟨x.Kind,x.Key,0⟩:BI)) (fuel_lt WZ) (fun y=>y.Kind==k&&decide (y.Key=key)) true (some false)]
 ·rw[List.any_map];show(bif X.any (fun y=>y.Kind==k&&decide (y.Key=key))then some true else some false)=_;cases X.any (fun y=>y.Kind==k&&decide (y.Key=key))<;>rfl
 ·intro q i hi;unfold uS;rw[Ce hi,CQ hi,Ac,Ia];cases((X.map fun x=>(⟨x.Kind,x.Key,0⟩:BI))[i].Kind==k)<;>rfl
 intro q;unfold uS;rw[DW];rfl
def ard (f:List BI) (x:AY) (h:f.length≤1000):X7 f x.Kind x.Key=some (f.any fun k=>Ei k x):=by
 unfold X7 aMO;rw[GL f (fuel_lt AA) (fun k=>Ei k x) true (some false)]
 ·cases f.any (fun k=>Ei k x)<;>rfl
 ·intro q i hi;unfold uS;rw[Ce hi,CQ hi,Ac,Ia];have j:(f[i].Kind==x.Kind)=(x.Kind==f[i].Kind):=by rw[QM,SN,SN];exact eq_comm
  have m:decide (f[i].Key=x.Key)=decide (x.Key=f[i].Key):=xk.2 eq_comm;unfold Ei;rw[j,m];cases(x.Kind==f[i].Kind)<;>rfl
 intro q;unfold uS;rw[DW];rfl
def ak1 (X:List AY) (e:AY) (I:X.length≤40):aHe X (keysOf e) e [] 0=some (bif KU (keysOf e) [] X&&(e.Kind==1||X.any QV)then 0 else 16):=by
 have q:=V7 e;unfold aHe;refine fK.eq (Jm X.length (fuel_lt AA) (fun i a=>a=(X.take i).map (fun x=>(⟨x.Kind,x.Key,0⟩:BI))∧KU (keysOf e) [] X=KU (keysOf e) (X.take i) (X.drop i)) ⟨rfl,rfl⟩ (fun i a k hi ha s=>?_) fun a k ha=>?_)
 ·obtain⟨rfl,f⟩:=ha;unfold aOV;rw[Ce hi,CQ hi,Ac,ard _ _ AA,Ac];rw[aOp hi]at f
  have j:∀b,KU (keysOf e) [] X=(!b&&KU (keysOf e) (X.take (i+1)) (X.drop (i+1)))→fK (vJ X (i:Int) ((X.take i).map fun x=>(⟨x.Kind,x.Key,0⟩:BI)) k b) (· =bif KU (keysOf e) [] X&&(e.Kind==1||X.any QV)then 0 else 16):=fun b m=>by
   unfold vJ;cases b with
   |true=>exact .ret (by rw[m];rfl)
   |false=>
    simp only[BZ];rw[CQ hi,Ac,Ac,DZ (by simp only[Om,D6,Fa];omega),Ac,wrap_succ i AA];exact s _ ⟨by rw[map_take hi],by rw[m];rfl⟩
  cases n:(keysOf e).any fun k=>Ei k X[i]with
  |false=>
   rw[IX,Bg];exact j true (by rw[f,n];rfl)
  |true=>
   rw[EW,BZ];have u:(fun y:AY=>y.Kind==X[i].Kind&&decide (y.Key=X[i].Key))=jY X[i]:=rfl;rw[Ac,Ac,aT8 _ _ _ aaH,Ac,u];exact j _ (by rw[f,n,Fe])
 obtain⟨rfl,f⟩:=ha;rw[acI]at f;unfold aOV;rw[DW,BZ,GY,f,aT8 _ _ _ AA];have z:(X.any fun y=>y.Kind==1&&decide (y.Key=Bf))=X.any QV:=rfl;rw[z];have h:(e.Kind != 1)= !(e.Kind==1):=rfl;rw[h];cases e.Kind==1<;>cases X.any QV<;>exact .ret rfl
def apn (X:List AY) (e:AY) (f:X.length≤40):aKc X e 0=some (bif !X.all (fun x=>decide (x.Room=e.Room))then 13 else bif KU (keysOf e) [] X&&(e.Kind==1||X.any QV)then 0 else 16):=by
 unfold aKc;rw[GL X (fuel_lt AA) (fun x=> !decide (x.Room=e.Room)) 13 (some (bif KU (keysOf e) [] X&&(e.Kind==1||X.any QV)then 0 else 16))]
 ·rw[qW];cases X.all (fun x=>decide (x.Room=e.Room))<;>rfl
 ·intro k i hi;unfold aOg;rw[Ce hi,Ia]
 intro k;unfold aOg;rw[Dk,aNH,Ac,ak1 X e f]
def aoj (l:List AY) (e:AY) (h:l.length≤100) (f:I9 e):aEt l e=some (St l e):=by
 have j:=f.auth;have m:=Zh l e.bM;unfold aEt aat St;rw[GL e.bM (fuel_lt AA) (fun x=> !dS l x) 14 (some (bif !(ofIds l e.bM).all (fun x=>decide (x.Room=e.Room))then 13 else bif KU (keysOf e) [] (ofIds l e.bM)&&(e.Kind==1||(ofIds l e.bM).any QV)then 0 else 16))]
 ·rw[qW];cases e.bM.all (dS l)<;>rfl
 ·intro k i hi;unfold aN0;rw[Ce hi,Lp l _ AA,Ac,OO];rfl
 intro k;unfold aN0;rw[DW,BZ,aIr l _ AA AA,Ac,apn _ e AA]
def amK (k:BI) (e:AY):VI (J8 k) e=some (Ei k e):=by
 unfold VI Ei J8;cases h:(e.Kind==k.Kind)with
 |false=>rfl
 |true=>show some (e.Key.toList==k.Key.toList)=_;rw[Ia,Fe]
def aiC (f:List BI) (x:AY) (h:f.length≤100):aG9 (f.map J8) x=some (if f.findIdx (fun k=>Ei k x)<f.length then((f.findIdx (fun k=>Ei k x):Nat):Int)else -1):=by
 unfold aG9 aaq
 have m:∀k (i:Nat),i<f.length→aDS (f.map J8) x k (i:Int)=bif Ei (f.getD i ⟨0,Bf,0⟩) x then some (i:Int)else k (BA ((i:Int)+1)):=fun k i hi=>by
  unfold aDS;have j:i<(f.map J8).length:=aHt
  rw[Ce j,UC];show((VI (J8 f[i]) x).bind _)=_;rw[amK,Ac];simp[List.getD,hi]
 rw[Je f (fuel_lt AA) (fun k=>Ei k x) (fun i=>some (i:Int)) (some (-1))]
 ·split<;>rfl
 ·intro k i hi;rw[m k i hi];simp[List.getD,hi]
 intro k;unfold aDS;rw[show((f.map J8).length:Int)=(f.length:Int) by rw[D6],DW];rfl
def adp {α:Type} {p:α→Bool}:∀l:List α,l.Pairwise (fun a b=>¬(p a=true∧p b=true))→l.findIdx p<l.length→l.filter (fun x=> !p x)=l.take (l.findIdx p)++l.drop (l.findIdx p+1)
 | [],_,h=>absurd h (Nat.not_lt_zero _)
 |a::l,f,h=>by
  obtain⟨j,m⟩:=Ol.1 f;rw[TF]at h ⊢;cases ha:p a with
  |true=>
   rw[List.filter_cons_of_neg (by simp[ha]),wE.2 fun b n=>by
    cases q:p b with
    |false=>rfl
    |true=>exact absurd ⟨ha,q⟩ (j b n)]
   rfl
  |false=>
   rw[ha]at h;rw[List.filter_cons_of_pos (by simp[ha]),adp l m JB];rfl
def aQ8 {α:Type} {p:α→Bool}:∀l:List α,decide (l.findIdx p<l.length)=l.any p
 | []=>rfl
 |a::l=>by
  have f:=aQ8 (p:=p) l;rw[TF,qx,←f];cases p a<;>simp
def agI (e:AY):J5 (keysOf e):=by
 have z:J5 (LU e):=Vt (Vt (Vt List.Pairwise.nil _ _ _) _ _ _) _ _ _;unfold keysOf;cases e.Kind==1<;>cases e.Kind==2<;>cases(e.Content.N==3||e.Content.N==1||e.Content.N==2)<;>simp only[Bg,BZ]
 ·exact z
 ·exact z
 ·exact Vt z _ _ _
 ·exact Vt (Vt z _ _ _) _ _ _
 all_goals exact List.Pairwise.nil
def akt {e:AY} {k:BI} (h:k∈keysOf e) (j:k.Kind=1):k.Key=Bf:=by
 have z:∀x∈LU e,x.Kind=1→x.Key=Bf:=fun x f n=>by
  unfold LU at f;rcases Sm f with rfl|f
  ·cases n
  rcases Sm f with rfl|f
  ·cases n
  rcases Sm f with rfl|f
  ·rfl
  cases f
 unfold keysOf at h;cases m:e.Kind==1 with
 |true=>rw[m]at h;cases h
 |false=>
  cases q:e.Kind==2 with
  |false=>rw[m,q]at h;exact z k h j
  |true=>
   rw[m,q]at h;cases s:(e.Content.N==3||e.Content.N==1||e.Content.N==2)with
   |true=>
    rw[s]at h;rcases Sm h with rfl|h
    ·cases j
    rcases Sm h with rfl|h
    ·cases j
    exact z k h j
   |false=>
    rw[s]at h;rcases Sm h with rfl|h
    ·cases j
    exact z k h j
def aTx {m:List BI}:∀(X f:List AY),KU m f X=true→∀x∈X,∃k∈m,Ei k x=true
 | [],_,_,_,h=>absurd h Fv
 |y::X,f,h,x,j=>by
  unfold KU at h;simp only[DJ]at h;rcases F6.1 j with rfl|j
  ·obtain⟨k,n,q⟩:=Hd.1 h.1.1;exact⟨k,n,q⟩
  exact aTx X _ h.2 x j
def any_congr {α:Type} {l:List α} {p q:α→Bool} (h:∀x∈l,p x=q x):l.any p=l.any q:=by
 rw[QM,Hd,Hd];exact⟨fun⟨x,f,k⟩=>⟨x,f,by rw[←h x f];exact k⟩,fun⟨x,f,k⟩=>⟨x,f,by rw[h x f];exact k⟩⟩
def akd (l:List AY) (e:AY) (hl:l.length≤100) (he:I9 e):rW l e=some (St l e):=by
 have h1:=he.auth;have hk5:=V7 e;have hsk:=agI e;unfold rW aOw;refine fK.eq (Jm e.bM.length (fuel_lt AA) (fun i a=>a=ofIds l (e.bM.take i)∧∀x∈e.bM.take i,dS l x=true) ⟨rfl,fun x M=>by simp at M⟩ (fun i a k hi ha u=>?_) fun a k ha=>?_)
 ·obtain⟨rfl,m⟩:=ha;have hal:=Zh l (e.bM.take i);rw[Fa]at hal;unfold aCs;rw[Ce hi,OG l _ AA,Ac,wrap_succ i AA];cases O:EM l e.bM[i]with
  |none=>
   rw[Qm O];refine .ret ?_;unfold St;rw[Yr (ET hi) (show dS l e.bM[i]=false by unfold dS;rw[O];rfl)];rfl
  |some x=>
   rw[N7 O];simp only[EW,BZ];rw[DZ FU,Ac];refine u _ ⟨?_,fun y s=>?_⟩
   ·unfold ofIds;rw[TN,Dn hi,Pj,ZQ,RN,O];rfl
   rw[TN,Dn hi,Pj,I8,KQ]at s;rcases s with s|rfl
   ·exact m y s
   unfold dS;rw[O];rfl
 obtain⟨rfl,m⟩:=ha;rw[GY]at m ⊢;have M:=Zh l e.bM;have S:e.bM.all (dS l)=true:=ER.2 m;unfold aCs;rw[Dk];unfold St;rw[S];simp only[EW,BZ];generalize ofIds l e.bM=X at M;unfold aTu;rw[GL X (fuel_lt AA) (fun x=> !decide (x.Room=e.Room)) 13 (some (bif KU (keysOf e) [] X&&(e.Kind==1||X.any QV)then 0 else 16))]
 ·rw[qW];cases X.all (fun x=>decide (x.Room=e.Room))<;>exact .ret rfl
 ·intro k2 i hi;unfold yO;rw[Ce hi,Ia]
 intro k2;unfold yO;rw[Dk,aeH,Ac];unfold adR;refine fK.eq (SP (body:=aA2 X) (Q:=(· =bif KU (keysOf e) [] X&&(e.Kind==1||X.any QV)then 0 else 16)) (fun n b ks x=>∃i:Nat,x=i∧i+n=X.length∧ks=((keysOf e).filter fun k=> !(X.take i).any (Ei k)).map J8∧b=(e.Kind==1||(X.take i).any fun x=>x.Kind==1)∧KU (keysOf e) [] X=KU (keysOf e) (X.take i) (X.drop i)) ?_ Az X.length (e.Kind==1) ((keysOf e).map J8) 0 (fuel_lt AA) ⟨0,rfl,AA,by rw[aB0];exact BX (List.map J8) (wE.2 fun _ _=>rfl).symm,BU,rfl⟩);rintro n b ks x k3 ⟨i,rfl,hn,hks,hb,q⟩ hk3;unfold aA2;by_cases hi:i<X.length
 ·rw[aOp hi]at q;have hlk:((keysOf e).filter fun k=> !(X.take i).any (Ei k)).length≤5:=Ej (Kt _ _) hk5;rw[Ce hi,hks,aiC _ _ AA,Ac];have z:=aQ8 (p:=fun k=>Ei k X[i]) ((keysOf e).filter fun k=> !(X.take i).any (Ei k))
  have I:(((keysOf e).filter fun k=> !(X.take i).any (Ei k)).any fun k=>Ei k X[i])=((keysOf e).any (fun k=>Ei k X[i])&& !(X.take i).any (jY X[i])):=by
   rw[QM,Hd,DJ,Hd,RZ,←Kz,Hd];constructor
   ·rintro⟨k,u,J⟩;obtain⟨hk1,U⟩:=Gn.1 u;refine⟨⟨k,hk1,J⟩,?_⟩;rintro⟨y,s,hs⟩;obtain⟨Y,Z⟩:=ZO.1 J;obtain⟨s1,s2⟩:=aRe.1 hs;rw[Hd.2 ⟨y,s,ZO.2 ⟨s1.trans Y,s2.trans Z⟩⟩]at U;cases U
   rintro⟨⟨k,u,J⟩,hno⟩;refine⟨k,Gn.2 ⟨u,?_⟩,J⟩;rw[RZ,←Kz,Hd];rintro⟨y,s,hs⟩;obtain⟨Y,Z⟩:=ZO.1 J;obtain⟨s1,s2⟩:=ZO.1 hs;exact hno ⟨y,s,aRe.2 ⟨s1.trans Y.symm,s2.trans Z.symm⟩⟩
  rw[←I,←z]at q;by_cases f:((keysOf e).filter fun k=> !(X.take i).any (Ei k)).findIdx (fun k=>Ei k X[i])<((keysOf e).filter fun k=> !(X.take i).any (Ei k)).length
  ·rw[D7 f,Ir AA,BZ];rw[Ib f,Fe]at q;have hlm:(((keysOf e).filter fun k=> !(X.take i).any (Ei k)).map J8).length=((keysOf e).filter fun k=> !(X.take i).any (Ei k)).length:=D6 ..
   have hpw:((keysOf e).filter fun k=> !(X.take i).any (Ei k)).Pairwise (fun a b=>¬(Ei a X[i]=true∧Ei b X[i]=true)):=by
    refine(List.Pairwise.sublist TT hsk).imp fun{a b} hab h=>?_;obtain⟨a1,a2⟩:=ZO.1 h.1;obtain⟨b1,b2⟩:=ZO.1 h.2;rw[pz (VX.2 ⟨a1.symm.trans b1,a2.symm.trans b2⟩)]at hab;cases hab
   have hd:=adp _ hpw f
   have L:((keysOf e).filter fun k=> !(X.take i).any (Ei k)).filter (fun k=> !Ei k X[i])=(keysOf e).filter fun k=> !(X.take (i+1)).any (Ei k):=by
    rw[List.filter_filter];refine List.filter_congr fun k _=>?_;rw[xI hi];cases(X.take i).any (Ei k)<;>cases Ei k X[i]<;>rfl
   rw[L]at hd;generalize((keysOf e).filter fun k=> !(X.take i).any (Ei k))=K at f hd hlm hlk;generalize K.findIdx (fun k=>Ei k X[i])=j at f hd;have s1:Gy (K.map J8) 0 (j:Int)=some (((K.map J8).drop 0).take (j-0)):=jD (lo:=0) (EY _) AA;have s2:Gy (K.map J8) (BA ((j:Int)+1)) ((K.map J8).length:Int)=some (((K.map J8).drop (j+1)).take ((K.map J8).length-(j+1))):=by rw[wrap_succ j AA];exact jD AA (E9 _)
   rw[s1,Ac,s2,Ac,DZ (by simp only[Fa,L6];omega),Ac];have hb3:(bif b then some true else(Aq X (i:Int)).bind fun x28=>some (x28.Kind==1))=some (b||X[i].Kind==1):=by rw[CQ hi];cases b<;>rfl
   rw[hb3,Ac];refine hk3 (n-1) _ _ _ AA ⟨i+1,wrap_succ i AA,AA,?_,?_,q⟩
   ·rw[hd,Jo,YI,Yt,Nat.sub_zero,pF,PW (l:=(K.map J8).drop (j+1)) (by rw[L6];omega)]
   rw[xI hi,hb,Bool.or_assoc]
  rw[DF f];rw[Ir f,Bool.false_and]at q;exact .ret (by rw[q];rfl)
 have :i=X.length:=AA
 subst this;rw[acI]at q;rw[Dk,q,hb,GY,Fe]
 have hc:(X.any fun x=>x.Kind==1)=X.any QV:=any_congr fun x M=>by
  obtain⟨k,u,J⟩:=aTx X [] q x M;obtain⟨Y,Z⟩:=ZO.1 J;unfold QV;cases hq:x.Kind==1 with
  |false=>rfl
  |true=>rw[Z,akt u (by rw[←Y];exact eq_of_beq hq)];simp
 rw[hc];cases(e.Kind==1||X.any QV)<;>exact .ret rfl
def Oo (l:List AY) (s:List BI):List AY:=ofIds l (s.map (·.Id))
def aGI (l:List AY) (s:List BI):(Oo l s).length≤s.length:=by have :=Zh l (s.map (·.Id));rwa [D6]at this
def aeG {l:List AY} (f:Dx l) (ids:List Int):Dx (ofIds l ids):=fun x h=>f x (aIy h)
def zQ {l:List AY} {s:List BI} {i:Nat} (h:i<s.length):Oo l (s.take (i+1))=Oo l (s.take i)++(EM l s[i].Id).toList:=by
 unfold Oo ofIds;rw[map_take h,ZQ,RN,List.filterMap_nil];cases EM l s[i].Id<;>rfl
def agG (l:List AY) (s:List BI) (u:l.length≤100) (h:s.length≤1000):yt l s=some (Oo l s):=by
 unfold yt wY;rw[Ac];unfold aeO;refine fK.eq (Fin (body:=aLV s) (Q:=(· =Oo l s)) (fun n a b c _ _=>∃i:Nat,b=i∧i+n=s.length∧c=l∧a=Oo l (s.take i)) ?_ Az s.length [] 0 l [] [] (fuel_lt AA) ⟨0,rfl,AA,rfl,rfl⟩);rintro n a b c d f k ⟨i,rfl,z,rfl,ha⟩ q;unfold aLV;by_cases hi:i<s.length
 ·have m:=aGI c (s.take i);rw[Fa]at m;rw[Ce hi,OG c _ AA,Ac,wrap_succ i AA];cases j:EM c s[i].Id with
  |none=>rw[Qm j];exact q (n-1) _ _ _ _ _ AA ⟨i+1,rfl,AA,rfl,by rw[zQ hi,j,ha];simp⟩
  |some x=>
   rw[N7 j];simp only[Bg];rw[DZ (by rw[ha];simp only[Om];omega),Ac];exact q (n-1) _ _ _ _ _ AA ⟨i+1,rfl,AA,rfl,by rw[zQ hi,j,ha];rfl⟩
 have :i=s.length:=AA
 subst this;rw[Dk];exact .ret W9
def amC (l:List AY) (s:List BI) (n:l.length≤100) (h:s.length≤1000):aCg l s=some (Oo l s):=by
 unfold aCg adw;refine fK.eq (Jm s.length (fuel_lt AA) (fun i a=>a=Oo l (s.take i)) rfl (fun i a k hi ha m=>?_) fun a k ha=>?_)
 ·have j:=aGI l (s.take i);rw[Fa]at j;unfold aIw aGk;rw[Ce hi,Lp l _ AA,Ac,wrap_succ i AA];cases f:EM l s[i].Id with
  |none=>rw[Qm f];exact m _ (by rw[zQ hi,f,ha];simp)
  |some x=>
   rw[N7 f];simp only[Bg];rw[DZ (by rw[ha];simp only[Om];omega),Ac];exact m _ (by rw[zQ hi,f,ha];rfl)
 unfold aIw;rw[DW];exact .ret W9
structure E8 where
 id:Int
 before:List BI
 after:List BI
 err:Int
def En (t:List E8) (x:Int):Option E8:=t.find? fun y=>y.id==x
def Kr (t:List E8) (x:Int):List BI:=((En t x).map (·.after)).getD []
def errOf (t:List E8) (x:Int):Int:=((En t x).map (·.err)).getD 0
def lX (l:List AY) (e:AY):Int:=bif St l e != 0 then St l e else QW e (V8 l e)
def OU (l:List AY) (t:List E8) (e:AY) (s:List BI):Int:=
 bif lX l e != 0 then lX l e else bif e.bM.any (fun x=>errOf t x != 0)then 16 else QW e (Oo l s)
def stB (l:List AY) (t:List E8) (e:AY):List BI:=iR l (e.bK.map (Kr t))
def aN (e:AY) (s:List BI) (r:Int):E8:=⟨e.Id,s,bif r==0&&HY e.Kind then FN s e.Kind e.Key e.Id else s,r⟩
def OH (l:List AY) (t:List E8) (e:AY):E8:=aN e (stB l t e) (OU l t e (stB l t e))
def MG (l:List AY) (ids:List Int):List E8:=ids.foldl (fun t id=>t++[OH l t (ev l id)]) []
def He (l:List AY):List E8:=MG l (Oi l)
def acP (l:List AY) {ids:List Int} {i:Nat} (h:i<ids.length):MG l (ids.take (i+1))=MG l (ids.take i)++[OH l (MG l (ids.take i)) (ev l ids[i])]:=aPe h
def aPZ {t:List E8} {x:Int}:En t x=none↔x∉t.map (·.id):=by
 unfold En;rw[aB4,Fh];exact⟨fun h ⟨y,f,e⟩=>h y f Qs,fun h y f e=>h ⟨y,f,Qs⟩⟩
def aAE {t:List E8} {y:E8} (h:En t y.id=none) (x:Int):En (t++[y]) x=bif x==y.id then some y else En t x:=by
 unfold En at h ⊢;rw[qV];cases f:x==y.id with
 |true=>
  have e:=eq_of_beq f;subst e;rw[h];simp
 |false=>
  have :(y.id==x)=false:=by rw[←f,QM,SN,SN];exact eq_comm
  simp[this]
def aoc {t:List E8} {x:Int} {y:E8} (h:En t x=some y):y.id=x:=by have :=aAs h;simpa using this
def aKO (l:List AY):∀(ids:List Int) (t:List E8),(∀x∈ids,dS l x=true)→(ids.foldl (fun t id=>t++[OH l t (ev l id)]) t).map (·.id)=t.map (·.id)++ids
 | [],t,_=>BU
 |x::ids,t,h=>by
  have f:(OH l t (ev l x)).id=x:=(Qe (h x (GR ..))).2;rw[G6,aKO l ids _ fun y j=>h y (Hr _ j),Jo,Ko,List.map_nil,f,H7];rfl
def KR (l:List AY) (t:List E8):Prop:=∀y∈t,IQ l y.before∧IQ l y.after
def KR.after {l:List AY} {t:List E8} (h:KR l t) (x:Int):IQ l (Kr t x):=by
 unfold Kr;cases f:En t x with
 |none=>exact .nil l
 |some y=>exact(h y (U9 f)).2
def KR.states {l:List AY} {t:List E8} (h:KR l t) (ids:List Int):∀s∈ids.map (Kr t),IQ l s:=fun s f=>by
 obtain⟨x,_,rfl⟩:=Fh.1 f;exact h.after x
def KR.okay {l:List AY} {t:List E8} (h:KR l t) (f:l.length≤100) (j:Dx l) (ids:List Int) (hi:ids.length≤100):KT l (ids.map (Kr t)):=IQ.okay f j aHt (h.states ids)
def KR.stB {l:List AY} {t:List E8} (h:KR l t) (f:l.length≤100) (j:Dx l) {e:AY} (m:e.bK.length≤40):IQ l (stB l t e):=IQ.resolve (h.okay f j _ AA) (h.states _)
def KR.line {l:List AY} {t:List E8} (h:KR l t) (n:l.length≤100) (q:Dx l) {e:AY} (s:e.bK.length≤40) (u:HY e.Kind=true→dS l e.Id=true∧ev l e.Id=e):KR l (t++[OH l t e]):=fun y f=>by
 rcases I8.1 f with f|f
 ·exact h y f
 rw[KQ.1 f];have j:=h.stB n q s;refine⟨j,?_⟩;show IQ l (bif OU l t e (Go.Proofs.YtolgdkhlelfpoaaGreat.stB l t e)==0&&HY e.Kind then FN _ e.Kind e.Key e.Id else _);cases m:(OU l t e (Go.Proofs.YtolgdkhlelfpoaaGreat.stB l t e)==0&&HY e.Kind)with
 |false=>exact j
 |true=>
  have hst:HY e.Kind=true:=by rw[DJ]at m;exact m.2
  obtain⟨z,k2⟩:=u hst;exact j.set z k2 hst
def akr {l:List AY} {id:Int} (h:HY (ev l id).Kind=true):dS l (ev l id).Id=true∧ev l (ev l id).Id=ev l id:=by
 cases f:EM l id with
 |none=>unfold ev at h;rw[Qm f]at h;exact absurd h Bd
 |some e=>
  have j:dS l id=true:=by unfold dS;rw[f];rfl
  have :=(Qe j).2;rw[this];exact⟨j,rfl⟩
def akk :I9 Et:=⟨EY _,EY _,EY _,EY _,EY _,EY _,EY _,EY _,EY _,EY _,EY _,EY _,fun _ h=>absurd h Fv,fun _ h=>absurd h Fv,fun _ h=>absurd h Fv⟩
def aCv {l:List AY} (f:Dx l) (id:Int):I9 (ev l id):=by
 unfold ev I5;cases h:EM l id with
 |none=>exact akk
 |some e=>exact f e (OY h)
def aBA {l:List AY} (j:l.length≤100) (f:Dx l):∀(ids:List Int) (t:List E8),KR l t→KR l (ids.foldl (fun t id=>t++[OH l t (ev l id)]) t)
 | [],t,h=>h
 |x::ids,t,h=>by rw[G6];exact aBA j f ids _ (h.line j f (aCv f x).prev akr)
structure OM (t:List E8) (m1 m2:List (Int×List BI)) (m3:List (Int×Int)):Prop where
 b:∀x,CX m1 x=(En t x).map (·.before)
 a:∀x,CX m2 x=(En t x).map (·.after)
 r:∀x,CX m3 x=(En t x).map (·.err)
def OM.after {t:List E8} {j f:List (Int×List BI)} {m:List (Int×Int)} (h:OM t j f m) (x:Int):(CX f x).getD []=Kr t x:=by rw[h.a];rfl
def OM.err {t:List E8} {j m:List (Int×List BI)} {f:List (Int×Int)} (h:OM t j m f) (x:Int):(CX f x).getD 0=errOf t x:=by rw[h.r];rfl
def alR {t:List E8} {j m:List (Int×List BI)} {n:List (Int×Int)} (h:OM t j m n) (l:List AY) (e:AY) (s:List BI) (q:l.length≤100) (u:Dx l) (f:I9 e) (z:s.length≤100):
 aFU j m n l e s=some (OU l t e s):=by
 have J:=f.auth;have L:=aGI l s;unfold aFU OU lX;rw[akd l e q f,Ac];cases I:St l e != 0 with
 |true=>simp only[Bg];rw[I];rfl
 |false=>
  simp only[BZ];rw[acg l e AA AA,Ac,aKL e _ (Ej (aAI l e) AA) (u.from e) f,Ac];cases ha:QW e (V8 l e) != 0 with
  |true=>rfl
  |false=>
   simp only[BZ];unfold aSN;rw[GL e.bM (fuel_lt AA) (fun x=>errOf t x != 0) 16 (some (QW e (Oo l s)))]
   ·cases e.bM.any (fun x=>errOf t x != 0)<;>rfl
   ·intro k i hi;unfold aOb;rw[Ce hi,h.err]
   intro k;unfold aOb;rw[Dk,agG l s q AA,Ac,aKL e (Oo l s) AA (aeG u _) f];rfl
def OM.snoc {t:List E8} {q s f j:List (Int×List BI)} {u m:List (Int×Int)} (h:OM t q s u) {y:E8} (n:En t y.id=none)
 (z:∀x,CX f x=bif x==y.id then some y.before else CX q x) (I:∀x,CX j x=bif x==y.id then some y.after else CX s x) (J:∀x,CX m x=bif x==y.id then some y.err else CX u x):OM (t++[y]) f j m:=by
 refine⟨fun x=>?_,fun x=>?_,fun x=>?_⟩
 ·rw[z,aAE n,h.b];cases x==y.id<;>rfl
 ·rw[I,aAE n,h.a];cases x==y.id<;>rfl
 rw[J,aAE n,h.r];cases x==y.id<;>rfl
def add_eq {t:List E8} {u z:List (Int×List BI)} {I:List (Int×Int)} (h:OM t u z I) (l:List AY) (e:AY) (q:l.length≤100) (s:Dx l) (J:I9 e) (L:KR l t) (M:En t e.Id=none):
 fK (Rep u z I l e) (fun r=>OM (t++[OH l t e]) r.1 r.2.1 r.2.2):=by
 have O:=J.prev;unfold Rep abf;refine Jm e.bK.length (fuel_lt AA) (fun i a=>a=(e.bK.take i).map (Kr t)) rfl (fun i a k hi ha S=>?_) fun a k ha=>?_
 ·have U:a.length≤i:=oG
  unfold aKd;rw[Ce hi,DZ FU,Ac,wrap_succ i AA,h.after];exact S _ zh
 rw[GY]at ha;subst ha;unfold aKd;have Y:IQ l (stB l t e):=L.stB q s O;have Z:=Y.length;have n:kQ l (e.bK.map (Kr t))=some (stB l t e):=aTS (L.okay q s _ AA);rw[Dk,n,Ac,alR h l e _ q s J AA,Ac];have j:OH l t e=aN e (stB l t e) (OU l t e (stB l t e)):=rfl;rw[j];generalize OU l t e (stB l t e)=r;have m:∀(c d f:Bool) {R:Type} (g:Bool→Option R),((bif c then some d else some false).bind fun x9=>(bif x9 then some f else some false).bind g)=g (c&&(d&&f)):=fun c d f R g=>by cases c<;>cases d<;>rfl
 rw[m];show fK (bif (r==0&&HY e.Kind)then _ else _) _;unfold aN;cases hc:(r==0&&HY e.Kind)with
 |true=>
  simp only[Bg];rw[XE _ _ _ _ AA,Ac];refine .ret (h.snoc M (fun x=>Q5 ..) (fun x=>?_) fun x=>Q5 ..);rw[Q5,Q5];cases x==e.Id<;>rfl
 |false=>exact .ret (h.snoc M (fun x=>Q5 ..) (fun x=>Q5 ..) fun x=>Q5 ..)
def run_go (l:List AY) (ids:List Int) (z:l.length≤100) (q:Dx l) (h:∀x∈ids,dS l x=true) (s:ids.Nodup) (I:ids.length≤1000):fK (aNQ ids l 0 [] [] []) (fun o=>∃T,o=some T∧OM (MG l ids) T.1 T.2.1 T.2.2):=by
 unfold aNQ;refine aH4 (body:=aMW ids l) (Q:=fun o=>∃T,o=some T∧OM (MG l ids) T.1 T.2.1 T.2.2) (fun n a b c d=>∃i:Nat,a=i∧i+n=ids.length∧OM (MG l (ids.take i)) b c d) ?_ Az ids.length 0 [] [] [] (fuel_lt AA) ⟨0,rfl,AA,⟨fun x=>rfl,fun x=>rfl,fun x=>rfl⟩⟩;rintro n a b c d k ⟨i,rfl,U,m⟩ J;unfold aMW;by_cases hi:i<ids.length
 ·have u:=h _ (ET hi)
  have f:En (MG l (ids.take i)) (ev l ids[i]).Id=none:=by
   rw[aPZ,(Qe u).2];unfold MG;rw[aKO l _ _ fun x L=>h x (uO L),List.map_nil,IE];intro m;obtain⟨j,M,e⟩:=Ii m;rw[Fa]at M;rw[aAz]at e;have :=KY.1 (aaE.1 s) j i AA hi AA;exact this e
  rw[Ce hi,OG l _ AA,Ac];refine(add_eq m l _ z q (aCv q ids[i]) (aBA z q _ _ fun y O=>absurd O Fv) f).bind fun r S=>?_;exact J (n-1) _ _ _ _ AA ⟨i+1,wrap_succ i AA,AA,by rw[acP l hi];exact S⟩
 have :i=ids.length:=AA
 subst this;rw[Dk];exact .ret ⟨_,rfl,by rw[GY]at m;exact m⟩
structure LQ (l:List AY):Prop where
 len:l.length≤100
 small:Dx l
 nodup:(l.map (·.Id)).Nodup
 dep:jl l
def aHP {l:List AY} {x:Int}:dS l x=true↔x∈l.map (·.Id):=by
 unfold dS EM;rw[List.find?_isSome,Fh];exact⟨fun⟨e,f,h⟩=>⟨e,f,JB⟩,fun⟨e,f,h⟩=>⟨e,f,JB⟩⟩
def aQh (l:List AY):(Oi l).Perm (l.map (·.Id)):=(anZ l).map _
def aIj {l:List AY} {x:Int}:x∈Oi l↔dS l x=true:=by rw[(aQh l).mem_iff,aHP]
def aJE (l:List AY):(Oi l).length=l.length:=by unfold Oi;rw[D6,aI8]
def LQ.order {l:List AY} (h:LQ l):(Oi l).Nodup:=(aQh l).nodup_iff.2 h.nodup
def Ik (l:List AY) (c:Int):List E8:=bif c==0&&UU l==0 then He l else[]
def run_eq (l:List AY) {c:Int} (n:PG l=some c) (h:c=0→LQ l):
 fK (Us l) (fun o=>(Ik l c=[]∧o=none)∨(Ik l c=He l∧LQ l∧∃T,o=some T∧OM (He l) T.1 T.2.1 T.2.2)):=by
 unfold Us Ik;rw[n,Ac];by_cases m:c=0
 ·subst m;have f:=h rfl;rw[aky l f.len f.small f.dep];cases hd:UU l==0 with
  |false=>
   have j:(UU l != 0)=true:=by unfold bne;rw[hd];rfl
   simp only[tX,BZ,Ac,j,Bg];exact .ret (.inl ⟨rfl,rfl⟩)
  |true=>
   have j:(UU l != 0)=false:=by unfold bne;rw[hd];rfl
   simp only[tX,BZ,Ac,j];rw[afA l (by have :=f.len;omega),Ac];exact(run_go l (Oi l) f.len f.small (fun x q=>aIj.1 q) f.order (by rw[aJE];have :=f.len;omega)).mono fun o s=>.inr ⟨rfl,f,s⟩
 have u:(c != 0)=true:=Zn
 have z:(c==0)=false:=Zn
 rw[u,z];exact .ret (.inl ⟨rfl,rfl⟩)
def aLl {l:List AY} (h:LQ l):KR l (He l):=aBA h.len h.small _ _ fun y f=>absurd f Fv
def ahC (l:List AY):(He l).map (·.id)=Oi l:=by
 have :=aKO l (Oi l) [] fun x f=>aIj.1 f;simpa[He,MG]using this
def ad9 {l:List AY} {x:Int} (h:dS l x=true):∃y,En (He l) x=some y:=by
 cases f:En (He l) x with
 |some y=>exact⟨y,rfl⟩
 |none=>rw[aPZ,ahC]at f;exact absurd (aIj.2 h) f
def Ji (t:List E8) (x:Int):Bool:=match En t x with
 |some y=>y.err==0
 |none=>false
def Jl (l:List AY) (t:List E8):List Int:=(l.filter fun e=>Ji t e.Id).map (·.Id)
def YJ (l:List AY) (t:List E8):List BI:=iR l ((Ti l (Jl l t)).map (Kr t))
def vU (l:List AY) (t:List E8):(Jl l t).length≤l.length:=by unfold Jl;rw[D6];exact Kt _ _
def aLp (l:List AY):Jl l []=[]:=by
 unfold Jl;rw[aF1.2 fun e _=>by unfold Ji En;simp];rfl
def aJT (l:List AY):YJ l []=[]:=by unfold YJ;rw[aLp];rfl
def yZ {l:List AY} {t:List E8} {i:Nat} (h:i<l.length):Jl (l.take (i+1)) t=Jl (l.take i) t++bif Ji t l[i].Id then[l[i].Id]else[]:=by
 unfold Jl;rw[aMA h,Jo];cases Ji t l[i].Id<;>rfl
def aja {l:List AY} {x:Int} (h:dS l x=true):Ji (He l) x=(errOf (He l) x==0):=by
 obtain⟨y,f⟩:=ad9 h;unfold Ji errOf;rw[f];rfl
def aQk {l:List AY} {f j:List (Int×List BI)} {m:List (Int×Int)} (h:OM (He l) f j m) (z:l.length≤100):aU f j m l=some (Jl l (He l)):=by
 unfold aU
 have s:aAb l f j m=some (Jl l (He l)):=by
  unfold aAb aSW;refine fK.eq (Jm l.length (fuel_lt AA) (fun i a=>a=Jl (l.take i) (He l)) rfl (fun i a k hi ha n=>?_) fun a k ha=>?_)
  ·have u:a.length≤i:=aSw
   unfold aMH aJ1 aCz;rw[Ce hi,Ac,h.err,←aja (aHP.2 (Fh.2 ⟨_,ET hi,rfl⟩)),wrap_succ i AA];cases q:Ji (He l) l[i].Id with
   |true=>
    rw[Bg,CQ hi,Ac,DZ FU,Ac];exact n _ (by rw[yZ hi,q,ha];rfl)
   |false=>exact n _ (by rw[yZ hi,q,ha];simp)
  unfold aMH;rw[Dk];exact .ret W9
 rw[s];rfl
def apH {l:List AY} {c:Int} (q:PG l=some c) (h:c=0→LQ l):wJ l=some (YJ l (Ik l c)):=by
 unfold wJ;refine fK.eq ((run_eq l q h).bind fun o f=>?_);rcases f with⟨j,rfl⟩|⟨j,f,T,rfl,n⟩
 ·rw[j,aJT];exact .ret rfl
 rw[j];have m:=f.len;have ha:=vU l (He l);have s:=aHX l (Jl l (He l));show fK ((aU T.1 T.2.1 T.2.2 l).bind _) _;rw[aQk n m,Ac,ala l _ m f.small AA,Ac];unfold YJ;generalize Ti l (Jl l (He l))=H at s;unfold aal;refine Jm H.length (fuel_lt AA) (fun i a=>a=(H.take i).map (Kr (He l))) rfl (fun i a k hi ha u=>?_) fun a k ha=>?_
 ·have z:a.length≤i:=oG
  unfold aIY;rw[Ce hi,DZ FU,Ac,n.after,wrap_succ i AA];exact u _ zh
 rw[GY]at ha;unfold aIY;rw[Dk,ha,aTS ((aLl f).okay m f.small _ AA),Ac];exact .ret rfl
def agS {l:List AY} {c:Int} (h:c=0→LQ l):IQ l (YJ l (Ik l c)):=by
 unfold Ik;cases j:(c==0&&UU l==0)with
 |false=>rw[BZ,aJT];exact .nil l
 |true=>
  rw[DJ]at j;have f:=h (eq_of_beq j.1);have m:=aLl f;have ha:=vU l (He l);have q:=aHX l (Jl l (He l));have n:=f.len;rw[Bg];exact IQ.resolve (m.okay n f.small _ AA) (m.states _)
def Qp (t:List E8) (s:List BI):Prop:=∀x∈s,Ji t x.Id=true
structure Q7 (l:List AY) (t:List E8):Prop where
 st:∀y∈t,Qp t y.before∧Qp t y.after
 au:∀y∈t,y.err=0→∀a∈G5 l y.id,Ji t a=true
def nK {t:List E8} {x:Int}:Ji t x=true↔∃y,En t x=some y∧y.err=0:=by
 unfold Ji;cases En t x with
 |none=>simp
 |some y=>simp
def ai7 {t:List E8} {x:Int} {y:E8} (h:En t x=some y) (z:E8):En (t++[z]) x=some y:=by
 unfold En at *;rw[qV,h];rfl
def aCy {t:List E8} {x:Int} (h:Ji t x=true) (z:E8):Ji (t++[z]) x=true:=by
 obtain⟨y,f,j⟩:=nK.1 h;exact nK.2 ⟨y,ai7 f z,j⟩
def Qp.nil (t:List E8):Qp t []:=fun _ h=>absurd h Fv
def Q7.after {l:List AY} {t:List E8} (h:Q7 l t) (x:Int):Qp t (Kr t x):=by
 unfold Kr;cases f:En t x with
 |none=>exact .nil t
 |some y=>exact(h.st y (U9 f)).2
def Q7.auth {l:List AY} {t:List E8} (h:Q7 l t) {x:Int} (j:Ji t x=true):∀a∈G5 l x,Ji t a=true:=by
 obtain⟨y,f,m⟩:=nK.1 j;have :=h.au y (U9 f) m
 rwa [aoc f]at this
def Q7.chain {l:List AY} {t:List E8} (h:Q7 l t) {ids:List Int} (hi:∀x∈ids,Ji t x=true) {x:Int} (j:MI l ids x):Ji t x=true:=by
 induction j with
 |one m f _=>exact h.auth (hi _ m) _ f
 |more _ f _ n=>exact h.auth n _ f
def Q7.full {l:List AY} {t:List E8} (h:Q7 l t) {j:List (List BI)} (u:∀s∈j,Qp t s) {x:Int} (f:x∈Jf l j):Ji t x=true:=by
 have n:∀s∈j,∀y∈SC s,Ji t y=true:=fun s m y I=>by
  obtain⟨z,q,rfl⟩:=Fh.1 I;exact u s m z q
 unfold Jf at f;rcases VG.1 f with f|f
 ·rw[LZ]at f;unfold Pq at f;obtain⟨z,q,rfl⟩:=Fh.1 f;obtain⟨s,m,q⟩:=UG.1 q;exact u s m z (Gn.1 q).1
 obtain⟨⟨s,m,f⟩,_⟩:=amX.1 f;unfold Ez at f;rcases VG.1 f with f|f
 ·exact n s m x f
 exact h.chain (n s m) (aEq.1 f)
def Q7.resolve {l:List AY} {t:List E8} (h:Q7 l t) {f:List (List BI)} (m:KT l f) (j:∀s∈f,Qp t s):Qp t (iR l f):=by
 match f,m,j with
 | [],_,_=>exact .nil t
 | [s],_,j=>exact j s (GR ..)
 |s::r::f,m,j=>
  intro x q;rcases acE q with u|⟨id,n,z,_,I⟩
  ·exact j s (GR ..) x ((aQY m.states (List.cons_ne_nil _ _)).1 u s (GR ..))
  have J:x.Id=id:=by rw[I];exact(Qe z).2
  rw[J];exact h.full j n
def Q7.line {l:List AY} {t:List E8} (h:Q7 l t) (S:KR l t) (U:l.length≤100) (z:Dx l) {id:Int} (Y:dS l id=true) (Z:En t id=none) (ha:∀a∈G5 l id,∃y,En t a=some y):Q7 l (t++[OH l t (ev l id)]):=by
 have q:(ev l id).Id=id:=(Qe Y).2
 have J:Qp t (stB l t (ev l id)):=h.resolve (S.okay U z _ (by have :=(aCv z id).prev;omega)) fun s n=>by
  obtain⟨x,_,rfl⟩:=Fh.1 n;exact h.after x
 have f:∀{s:List BI},Qp t s→Qp (t++[OH l t (ev l id)]) s:=fun z x u=>aCy (z x u) _;refine⟨fun y j=>?_,fun y j m a n=>?_⟩
 ·rcases I8.1 j with j|j
  ·exact⟨f (h.st y j).1,f (h.st y j).2⟩
  rw[KQ.1 j];refine⟨f J,?_⟩;show Qp _ (bif OU l t (ev l id) (stB l t (ev l id))==0&&HY (ev l id).Kind then FN _ (ev l id).Kind (ev l id).Key (ev l id).Id else _);cases M:(OU l t (ev l id) (stB l t (ev l id))==0&&HY (ev l id).Kind)with
  |false=>exact f J
  |true=>
   rw[DJ]at M;intro x u;rcases Sm u with rfl|u
   ·refine nK.2 ⟨OH l t (ev l id),?_,eq_of_beq M.1⟩;show En _ (ev l id).Id=_;have L:En t (OH l t (ev l id)).id=none:=by show En t (ev l id).Id=none;rw[q];exact Z
    rw[aAE L,show((ev l id).Id==(OH l t (ev l id)).id)=true from dz _];rfl
   exact aCy (J x u) _
 rcases I8.1 j with j|j
 ·exact aCy (h.au y j m a n) _
 rw[KQ.1 j]at m n;have n:a∈G5 l id:=by rw[←q];exact n
 have m:OU l t (ev l id) (stB l t (ev l id))=0:=m;obtain⟨y,j⟩:=ha a n;refine aCy (nK.2 ⟨y,j,?_⟩) _;unfold OU at m;cases I:lX l (ev l id) != 0 with
 |true=>rw[I,Bg]at m;rw[m]at I;cases I
 |false=>
  rw[I,BZ]at m;cases O:(ev l id).bM.any (fun x=>errOf t x != 0)with
  |true=>rw[O,Bg]at m;cases m
  |false=>
   have h3:=aLR.1 O a n;have :errOf t a=0:=by simpa using h3
   unfold errOf at this;rw[j]at this;exact this
def IZ (x:E8):GZ:=⟨x.id,x.before,x.after,x.err⟩
def QI (t:List E8) (x:Int):GZ×Bool:=match En t x with
 |some y=>(IZ y,true)
 |none=>(UL,false)
def aPf (t:List E8) (x:Int):(QI t x).1.After=Kr t x:=by unfold QI Kr;cases En t x<;>rfl
def apM (t:List E8) (x:Int):(QI t x).1.Err=errOf t x:=by unfold QI errOf;cases En t x<;>rfl
def jR (t:List E8) (x:Int) (L:t.length≤1000000):Xw (t.map IZ) x=some (QI t x):=by
 unfold Xw aaY;have z:(t.map IZ).length=t.length:=D6 ..;refine fK.eq (Xv (body:=aJj (t.map IZ) x) (Q:=(· =QI t x)) (fun n a _=>∃i:Nat,a=i∧i+n=t.length∧∀j,(f:j<i)→(u:j<t.length)→¬(t[j].id==x)=true) ?_ Az t.length 0 _ (fuel_lt AA) ⟨0,rfl,AA,fun j f=>AA⟩);rintro n a b k ⟨i,rfl,M,m⟩ I;unfold aJj;by_cases hi:i<t.length
 ·have h:i<(t.map IZ).length:=AA
  rw[Ce h,CQ h,Ac,UC];show fK (bif t[i].id==x then some (IZ t[i],true)else k _ b) _;cases s:t[i].id==x with
  |true=>
   have q:En t x=some t[i]:=by
    unfold En;rw[List.find?_eq_some_iff_getElem];exact⟨s,i,hi,rfl,fun j f=>by have :=m j f AA;simpa using this⟩
   exact .ret (by unfold QI;rw[q])
  |false=>
   refine I (n-1) _ _ AA ⟨i+1,wrap_succ i AA,AA,fun j f u=>?_⟩;by_cases e:j=i
   ·subst e;rw[s];simp
   exact m j AA u
 have :i=t.length:=AA
 subst this;rw[←z,DW]
 have q:En t x=none:=by
  unfold En;rw[aB4];intro y J;obtain⟨j,f,rfl⟩:=Ii J;exact m j f f
 exact .ret (by unfold QI;rw[q])
def aTi (t:List GZ) (x:Int):zO t x=Xw t x:=rfl
def akB (l:List AY) (t:List E8) (e:AY) (s:List BI) (n:l.length≤100) (q:Dx l) (m:I9 e) (J:s.length≤100) (S:t.length≤1000):pq l (t.map IZ) e s=some (OU l t e s):=by
 have U:=m.auth;have Y:=aGI l s
 have u:∀v,sJ e (t.map IZ) l s v=some (bif v != 0 then v else bif e.bM.any (fun x=>errOf t x != 0)then 16 else QW e (Oo l s)):=fun v=>by
  unfold sJ aSm
  refine fK.eq (Jm e.bM.length (fuel_lt AA) (fun i a=>a=bif v != 0 then v else bif (e.bM.take i).any (fun x=>errOf t x != 0)then 16 else 0) (by cases h:v != 0 with
   |true=>rfl
   |false=>exact JB) (fun i a k hi ha z=>?_) fun a k ha=>?_)
  ·unfold aKQ aAv;rw[Ce hi,aTi,jR _ _ AA,Ac,apM,wrap_succ i AA];have L:(bif a==0 then some (errOf t e.bM[i] != 0)else some false)=some (a==0&&errOf t e.bM[i] != 0):=by cases a==0<;>rfl
   rw[L,Ac]
   have f:∀b:Int,b=(bif a==0&&errOf t e.bM[i] != 0 then 16 else a)→b=bif v != 0 then v else bif (e.bM.take (i+1)).any (fun x=>errOf t x != 0)then 16 else 0:=fun b M=>by
    rw[xI hi,M,ha];cases h:v != 0 with
    |true=>
     have :(v==0)=false:=JB
     simp only[Bg,this,Bool.false_and,BZ]
    |false=>
     simp only[BZ];cases(e.bM.take i).any (fun x=>errOf t x != 0)<;>cases errOf t e.bM[i] != 0<;>rfl
   cases I:(a==0&&errOf t e.bM[i] != 0)with
   |true=>exact z _ (f 16 (by rw[I];rfl))
   |false=>exact z _ (f a (by rw[I];rfl))
  unfold aKQ;rw[DW,BZ,ha,GY,amC l s n AA,Ac,aKb e (Oo l s) AA (aeG q _) m];cases h:v != 0 with
  |true=>simp only[Bg,h];exact .ret rfl
  |false=>
   cases e.bM.any (fun x=>errOf t x != 0)with
   |true=>exact .ret rfl
   |false=>exact .ret rfl
 unfold pq OU lX;rw[aoj l e n m,Ac,aSp l e AA AA,Ac,aKb e _ (Ej (aAI l e) AA) (q.from e) m,Ac,u,u];have j:(St l e != 0)= !(St l e==0):=rfl;rw[j];cases O:St l e==0 with
 |true=>rfl
 |false=>rw[IX,Bg,Bg,j,O];rfl
def aH8 (l:List AY):∀(ids:List Int) (t:List E8),(ids.foldl (fun t id=>t++[OH l t (ev l id)]) t).length=t.length+ids.length
 | [],t=>rfl
 |x::ids,t=>by rw[G6,aH8 l ids,EL,Fp];simp;omega
def apx {l:List AY} (h:LQ l):Sub l=some ((He l).map IZ):=by
 have L:=h.len;have u:=h.small;have M:=aJE l;unfold Sub;rw[arZ l AA,Ac];unfold He;generalize Oi l=ids at M;unfold aeA;refine fK.eq (Jm ids.length (fuel_lt AA) (fun i a=>a=(MG l (ids.take i)).map IZ) rfl (fun i a k hi ha hk=>?_) fun a k ha=>?_)
 ·have O:KR l (MG l (ids.take i)):=aBA L u _ _ fun y S=>absurd S Fv
  have U:(MG l (ids.take i)).length≤100:=by
   have :=aH8 l (ids.take i) [];unfold MG;rw[this,Fa,Lm];omega
  have f:=acP l hi;have he:=aCv u ids[i];have Y:=he.prev;generalize MG l (ids.take i)=t at ha O U f;subst ha;unfold aLD;rw[Ce hi,Lp l _ AA,Ac];have z:(I5 l ids[i]).1=ev l ids[i]:=rfl;unfold aTI;refine SP (body:=aMa (I5 l ids[i]) l k (i:Int)) (Q:=_) (fun n a b c=>∃j:Nat,b=j∧j+n=(ev l ids[i]).bK.length∧c=t.map IZ∧a=((ev l ids[i]).bK.take j).map (Kr t)) ?_ Az (ev l ids[i]).bK.length [] 0 (t.map IZ) (fuel_lt AA) ⟨0,rfl,AA,rfl,rfl⟩;rintro n a b c k2 ⟨j,rfl,hn,rfl,ha⟩ Z;unfold aMa;rw[z];by_cases hj:j<(ev l ids[i]).bK.length
  ·have hal:a.length≤j:=oG
   rw[Ce hj,aTi,jR _ _ AA,Ac,aPf,DZ FU,Ac,wrap_succ j AA];exact Z (n-1) _ _ _ AA ⟨j+1,rfl,AA,rfl,by rw[map_take hj,ha]⟩
  have :j=(ev l ids[i]).bK.length:=AA
  subst this;rw[GY]at ha;subst ha;rw[DW,BZ];have hp:=O.stB L u Y;have I:=hp.length
  have hJ:fK (uN l (I5 l ids[i]) k (i:Int) (t.map IZ) ⟨(ev l ids[i]).Id,stB l t (ev l ids[i]),[],0⟩) (fun x=>x=(MG l ids).map IZ):=by
   unfold uN;rw[z];show fK ((pq l (t.map IZ) (ev l ids[i]) (stB l t (ev l ids[i]))).bind _) _;rw[akB l t (ev l ids[i]) _ L u he AA AA,Ac];have m:OH l t (ev l ids[i])=aN (ev l ids[i]) (stB l t (ev l ids[i])) (OU l t (ev l ids[i]) (stB l t (ev l ids[i]))):=rfl;rw[m]at f;generalize OU l t (ev l ids[i]) (stB l t (ev l ids[i]))=r at f;generalize stB l t (ev l ids[i])=s at f I
   have J:∀y:E8,y=aN (ev l ids[i]) s r→fK (xF k (i:Int) (t.map IZ) (IZ y)) (fun x=>x=(MG l ids).map IZ):=fun y S=>by
    unfold xF;rw[DZ (by simp only[Om,D6];omega),Ac,wrap_succ i AA];exact hk _ (by rw[f,S,Jo];rfl)
   show fK ((bif r==0 then(SL (ev l ids[i]).Kind).bind fun q=>some q else some false).bind _) _;rw[aCa,show(bif r==0 then(some (HY (ev l ids[i]).Kind)).bind fun q=>some q else some false)=some (r==0&&HY (ev l ids[i]).Kind) by cases r==0<;>rfl,Ac];cases hc:(r==0&&HY (ev l ids[i]).Kind)with
   |true=>
    rw[Bg];show fK ((Zq s (ev l ids[i]).Kind (ev l ids[i]).Key (ev l ids[i]).Id).bind _) _;rw[aKo _ _ _ _ AA,Ac];exact J ⟨(ev l ids[i]).Id,s,FN s (ev l ids[i]).Kind (ev l ids[i]).Key (ev l ids[i]).Id,r⟩ (by unfold aN;rw[hc];rfl)
   |false=>
    rw[BZ];exact J ⟨(ev l ids[i]).Id,s,s,r⟩ (by unfold aN;rw[hc];rfl)
  by_cases hz:(ev l ids[i]).bK=[]
  ·have hst:stB l t (ev l ids[i])=[]:=by unfold stB;rw[hz];rfl
   rw[hst]at hJ;rw[hz];exact hJ
  have hpos:0<(ev l ids[i]).bK.length:=iK.2 hz;rw[Ib WZ,Bg,aPm (O.okay L u _ AA),Ac];exact hJ
 unfold aLD;rw[DW];exact .ret W9
def aKp (l:List AY) (t:List E8) (n:l.length≤1000) (q:t.length≤1000):jH l (t.map IZ)=some (Jl l t):=by
 unfold jH adZ;refine fK.eq (Jm l.length (fuel_lt AA) (fun i a=>a=Jl (l.take i) t) rfl (fun i a k hi ha h=>?_) fun a k ha=>?_)
 ·have m:a.length≤i:=aSw
  unfold aLK zf;have f:(bif (QI t l[i].Id).2 then some ((QI t l[i].Id).1.Err==0)else some false)=some (Ji t l[i].Id):=by unfold QI Ji;cases En t l[i].Id<;>rfl
  rw[Ce hi,jR _ _ AA,Ac,f,Ac,wrap_succ i AA];cases j:Ji t l[i].Id with
  |true=>
   rw[Bg,CQ hi,Ac,DZ FU,Ac];exact h _ (by rw[yZ hi,j,ha];rfl)
  |false=>exact h _ (by rw[yZ hi,j,ha];simp)
 unfold aLK;rw[DW];exact .ret W9
def apC (l:List AY) (t:List E8) (j:l.length≤100) (h:Dx l) (m:KR l t) (f:t.length≤1000):fJ l (t.map IZ)=some (YJ l t):=by
 have ha:=vU l t;have n:=aHX l (Jl l t);unfold fJ lR YJ;rw[aKp l t AA f,Ac,anK l _ AA h AA,Ac,Ac];generalize Ti l (Jl l t)=H at n;unfold aNJ;refine fK.eq (Jm H.length (fuel_lt AA) (fun i a=>a=(H.take i).map (Kr t)) rfl (fun i a k hi ha q=>?_) fun a k ha=>?_)
 ·have s:a.length≤i:=oG
  unfold aJD;rw[Ce hi,jR _ _ AA,Ac,aPf,DZ FU,Ac,wrap_succ i AA];exact q _ zh
 rw[GY]at ha;unfold aJD;rw[DW,BZ,ha,aPm (m.okay j h _ AA),Ac];cases H with
 |nil=>exact .ret rfl
 |cons x H=>exact .ret rfl
def zT {l:List AY} {c:Int} (m:XV l=some c) (h:c=0→LQ l):Zl l=some ((Ik l c).map IZ)∧KR l (Ik l c)∧(Ik l c).length≤l.length:=by
 unfold Zl aHM Ik;rw[m,Ac];cases n:c==0 with
 |false=>exact⟨rfl,fun y j=>absurd j Fv,EY _⟩
 |true=>
  have f:=h (eq_of_beq n);have hlen:(He l).length=l.length:=by rw[←aJE l];have :=aH8 l (Oi l) [];simpa[He,MG]using this
  rw[Bg,afE l f.len f.small f.dep,Ac,Ac,Ac,Fe];cases hd:UU l==0 with
  |false=>exact⟨rfl,fun y j=>absurd j Fv,EY _⟩
  |true=>
   rw[EW,BZ,apx f,Ac,Bg];exact⟨rfl,aLl f,Yf hlen⟩
end Go.Proofs.YtolgdkhlelfpoaaGreat
end
section
namespace Go.Proofs.YtolgdkhlelfpoaaGreat
def TR (n:Int):Int:=if n<0 then bits .xor .u64 IntKind.u64.max (IntKind.u64.wrap (IntKind.u64.wrap n*2))else IntKind.u64.wrap (IntKind.u64.wrap n*2)
def nJ (n:Int):0≤TR n∧TR n<18446744073709551616:=by
 unfold TR;have f:∀x:Int,0≤IntKind.u64.wrap x∧IntKind.u64.wrap x<18446744073709551616:=fun x=>by rw[fQ];omega
 split
 ·obtain⟨h,m⟩:=f (IntKind.u64.wrap n*2);generalize IntKind.u64.wrap (IntKind.u64.wrap n*2)=y at *;obtain⟨k,rfl⟩:=Int.eq_ofNat_of_zero_le h;have :(IntKind.u64.max:Int)=((18446744073709551615:Nat):Int):=Bd
  rw[this,bits_xor_u64_nat _ _ AA AA];have :18446744073709551615^^^k<2^64:=Nat.xor_lt_two_pow AA AA;constructor
  ·exact aL4 _
  have j:(2:Nat)^64=18446744073709551616:=Bd
  omega
 exact f _
def NU (u:Nat):List Int:=if u<128 then[(u:Int)]else((u % 128+128:Nat):Int)::NU (u/128)
termination_by u
decreasing_by omega
def dA {u:Nat} (h:u<128):NU u=[(u:Int)]:=by rw[NU,D7 h]
def aK8 {u:Nat} (h:¬u<128):NU u=((u % 128+128:Nat):Int)::NU (u/128):=by rw[NU,DF h]
def aRS :∀(j u:Nat),u<128^(j+1)→(NU u).length≤j+1
 |0,u,h=>by rw[dA JB];simp
 |j+1,u,h=>by
  by_cases f:u<128
  ·rw[dA f];simp
  rw[aK8 f]
  have :u/128<128^(j+1):=by
   rw[Nat.div_lt_iff_lt_mul AA];rw[Nat.pow_succ]at h;exact h
  have :=aRS j (u/128) this;simp;omega
def enc (n:Int):List Int:=NU (TR n).toNat
def OA (n:Int):(enc n).length≤10:=by
 have h:=(nJ n).2;refine aRS 9 _ ?_;have :(128:Nat)^10=1180591620717411303424:=Bd
 rw[this];have :=(nJ n).1;omega
def ajV (k:Nat):bits .or .u8 ((k:Int) % 256) 128=((k % 128+128:Nat):Int):=by
 have h:=u8_or_nat (k % 256) 128 AA AA;rw[show((k:Int) % 256)=((k % 256:Nat):Int)from by omega];have f:(128:Int)=((128:Nat):Int):=rfl;rw[f,h];congr 1;have key:∀x,x<256→x|||128=x % 128+128:=Nq
 rw[key _ AA];omega
def mV (u c:Int):Int:=(IntKind.u64.wrap (bits .xor .u64 u (IntKind.u64.wrap c)*1099511628211)).tmod 4611686018427387904
def aT4 (x:Int):bits .and .u64 (IntKind.u64.wrap x) 4611686018427387903=(IntKind.u64.wrap x).tmod 4611686018427387904:=by
 rw[fQ];have h:=bits_mask .u64 64 Bd (fun n j m=>by rw[fQ];omega) 62 Bd (x % 18446744073709551616) AA AA;have e:((2:Int)^62-1)=4611686018427387903:=Bd
 have f:((2:Int)^62)=4611686018427387904:=Bd
 rw[aTr AA];simpa[e,f]using h
def alm (u c:Int):bits .and .u64 (IntKind.u64.wrap (bits .xor .u64 u (IntKind.u64.wrap c)*1099511628211)) 4611686018427387903=mV u c:=aT4 _
def aBJ (op:BinOp) (k:IntKind) (x y:Int) (h:op=.and∨op=.or∨op=.xor):EP op k x y=bits op k x y:=by
 rcases h with rfl|rfl|rfl<;>rfl
def MW {α:Type} {b:Nat} {l m:List α} (f:b≤100) (h:(l++m).length≤1099511627776):CZ b l m=some (l++m):=by
 refine DZ ?_;rw[EL]at h;have :(l.length+m.length)*b≤1099511627776*100:=aDe h f;omega
def apQ (u:Nat):EP .or .u8 (IntKind.u8.wrap (u:Int)) 128=((u % 128+128:Nat):Int):=by
 rw[aBJ _ _ _ _ (.inr (.inl rfl)),show IntKind.u8.wrap (u:Int)=(u:Int) % 256 from by rw[kV],ajV]
def aot (u:Nat):OX .shr .u64 (u:Int) 7=some ((u/128:Nat):Int):=by
 unfold OX;rw[DF AA];show some ((u:Int).fdiv (2^7))=_;rw[adk _ Bd];congr 1
def aSP {u n:Nat} (h:u<128^(n+1+1)):u/128<128^(n+1):=by
 rw[Nat.div_lt_iff_lt_mul AA];rw[Nat.pow_succ]at h;exact h
def ani :∀(n u:Nat),u<128^(n+1)→∀m b,n<m→(b++NU u).length≤1099511627776→aV VN m b (u:Int)=some (b++NU u):=by
 intro n
 induction n with
 |zero=>
  intro u j m b z f;obtain⟨m,rfl⟩:∃q,m=q+1:=⟨m-1,AA⟩
  have h:u<128:=Ny
  rw[dA h]at f ⊢;show VN (aV VN m) b (u:Int)=_;simp only[VN,show decide ((u:Int)≥128)=false from by simp;omega,BZ];rw[show IntKind.u8.wrap (u:Int)=(u:Int)from by rw[kV];omega,MW AA f];rfl
 |succ n I=>
  intro u j m b z f;obtain⟨m,rfl⟩:∃q,m=q+1:=⟨m-1,AA⟩
  show VN (aV VN m) b (u:Int)=_;by_cases h:u<128
  ·rw[dA h]at f ⊢;simp only[VN,show decide ((u:Int)≥128)=false from by simp;omega,BZ];rw[show IntKind.u8.wrap (u:Int)=(u:Int)from by rw[kV];omega,MW AA f];rfl
  rw[aK8 h]at f ⊢;have e:(b++((u % 128+128:Nat):Int)::NU (u/128))=(b++[((u % 128+128:Nat):Int)])++NU (u/128):=BU
  have s:(b++[((u % 128+128:Nat):Int)]).length≤1099511627776:=by simp only[EL,Fp,Lm]at f ⊢;omega
  simp only[VN,show decide ((u:Int)≥128)=true from by simp;omega,Bg,apQ,MW (show 1≤100 by omega) s,aot,Ac];rw[e];exact I (u/128) (aSP j) m _ AA (by rw[←e];exact f)
def afO :∀(n u:Nat),u<128^(n+1)→u<18446744073709551616→∀m b,n<m→(b++NU u).length≤1099511627776→aV VH m (u:Int) b=some (b++NU u):=by
 intro n
 induction n with
 |zero=>
  intro u j _ m b z f;obtain⟨m,rfl⟩:∃q,m=q+1:=⟨m-1,AA⟩
  have h:u<128:=Ny
  rw[dA h]at f ⊢;show VH (aV VH m) (u:Int) b=_;simp only[VH,show decide ((u:Int)≥128)=false from by simp;omega,BZ];rw[show IntKind.u8.wrap (u:Int)=(u:Int)from by rw[kV];omega,MW AA f];rfl
 |succ n I=>
  intro u j J m b z f;obtain⟨m,rfl⟩:∃q,m=q+1:=⟨m-1,AA⟩
  show VH (aV VH m) (u:Int) b=_;by_cases h:u<128
  ·rw[dA h]at f ⊢;simp only[VH,show decide ((u:Int)≥128)=false from by simp;omega,BZ];rw[show IntKind.u8.wrap (u:Int)=(u:Int)from by rw[kV];omega,MW AA f];rfl
  rw[aK8 h]at f ⊢;have e:(b++((u % 128+128:Nat):Int)::NU (u/128))=(b++[((u % 128+128:Nat):Int)])++NU (u/128):=BU
  have s:(b++[((u % 128+128:Nat):Int)]).length≤1099511627776:=by simp only[EL,Fp,Lm]at f ⊢;omega
  have L:Vj (u:Int) 128=some ((u % 128:Nat):Int):=by unfold Vj;rw[DF AA,aTr AA];congr 1
  have M:sB .u64 (u:Int) 128=some ((u/128:Nat):Int):=by
   unfold sB;rw[DF AA,Int.tdiv_eq_ediv_of_nonneg AA];congr 1;rw[fQ];omega
  have O:IntKind.u8.wrap (IntKind.u64.wrap (((u % 128:Nat):Int)+128))=((u % 128+128:Nat):Int):=by rw[fQ,kV];omega
  simp only[VH,show decide ((u:Int)≥128)=true from by simp;omega,Bg,L,O,M,MW (show 1≤100 by omega) s,Ac];rw[e];exact I (u/128) (aSP j) AA m _ AA (by rw[←e];exact f)
def aeJ (x:Int):OX .shl .u64 x 1=some (IntKind.u64.wrap (x*2)):=rfl
def aS9 (x:Int):Yo .u64 x=bits .xor .u64 IntKind.u64.max x:=rfl
def aSv (n:Int):(TR n).toNat<128^(9+1):=by
 have f:=nJ n;have :(128:Nat)^(9+1)=1180591620717411303424:=Bd
 rw[this];omega
def ab6 :9<Az:=jG
def number_eq {b:List Int} {n:Int} (h:(b++enc n).length≤1099511627776):Xq b n=some (b++enc n):=by
 have m:=nJ n
 have f:aSy b (TR n)=some (b++enc n):=by
  have :=ani 9 (TR n).toNat (aSv n) Az b ab6 h
  rwa [Int.toNat_of_nonneg m.1]at this
 unfold Xq;rw[aeJ,Ac];unfold aAJ;unfold TR at f;by_cases j:n<0
 ·rw[D7 j]at f;rw[show decide (n<0)=true by simpa using j,Bg,aS9];exact f
 rw[DF j]at f;rw[show decide (n<0)=false by simpa using j,BZ];exact f
def akQ (n:Int):([]++enc n).length≤1099511627776:=by have :=OA n;simp only[IE];omega
def aQ4 (n:Int):ru n=some (enc n):=by
 have j:=nJ n
 have f:aRb (TR n) []=some (enc n):=by
  have :=afO 9 (TR n).toNat (aSv n) AA Az [] ab6 (akQ n)
  rwa [Int.toNat_of_nonneg j.1]at this
 unfold ru;rw[aeJ,Ac];unfold aET;unfold TR at f;by_cases h:n<0
 ·rw[D7 h]at f;rw[show decide (n<0)=true by simpa using h,Bg,aS9];exact f
 rw[DF h]at f;rw[show decide (n<0)=false by simpa using h,BZ];exact f
def nS {b:List Int} {m:Nat} (h:b.length+m≤1099511627776):Xm b (m:Int)=some b:=by
 unfold Xm;rw[PN AA AA];unfold JM;rw[D7 ⟨AA,AA,AA⟩];simp[gCopy]
def aFM {a b:List Int} (h:(a++b).length≤1099511627776):a.length≤1099511627776:=by rw[EL]at h;omega
def JA (s:ByteArray):List Int:=enc s.size++Bv s
def text_eq {b:List Int} {s:ByteArray} (h:(b++JA s).length≤1099511627776):vC b s=some (b++JA s):=by
 unfold JA at h ⊢;rw[←H7]at h ⊢;unfold vC;rw[number_eq (aFM h),Ac,MW AA h];rfl
def tV {b:List Int} {n:Int} (h:b.length+10≤1099511627776):N9 b n=some (b++enc n):=by
 have :=OA n;unfold N9;rw[show(10:Int)=((10:Nat):Int)from rfl,nS AA,Ac,number_eq KC];rfl
def Xz {b:List Int} {n:Int} (h:b.length+10≤1099511627776):Jq b n=some (b++enc n):=by
 have :=OA n;unfold Jq;rw[MW AA aAr,Ac,aQ4,Ac,IE,MW AA KC];rfl
def jO (s:ByteArray):(JA s).length≤s.size+10:=by
 have :=OA s.size;unfold JA;rw[EL,Gx];omega
def atH {b:List Int} {s:ByteArray} (h:b.length+s.size+10≤1099511627776):RF b s=some (b++JA s):=by
 have :=jO s;unfold RF;rw[PN AA AA,show(s.size:Int)+10=((s.size+10:Nat):Int) by omega,nS AA,Ac,text_eq KC];rfl
def acU {b:List Int} {s:ByteArray} (h:b.length+s.size+10≤1099511627776):Pe b s=some (b++JA s):=by
 have :=jO s;unfold Pe;rw[Xz AA,Ac,MW AA (by unfold JA at this;rw[EL]at this;rw[EL,EL];omega)];simp[JA]
def asV {b:List Int} {f:Bool} (h:b.length+10≤1099511627776):YB b f=some (b++[bif f then 1 else 0]):=by
 unfold YB;rw[show(1:Int)=((1:Nat):Int)from rfl,nS AA,Ac];cases f<;>simp only[Bg,BZ]<;>rw[MW AA aMv]<;>rfl
def am4 {b:List Int} {f:Bool} (h:b.length+10≤1099511627776):dJ b f=some (b++[bif f then 1 else 0]):=by
 unfold dJ;rw[MW AA aAr,Ac,IE];cases f<;>simp only[Bg,BZ]<;>rw[MW AA aMv]<;>rfl
def aHA {α:Type} {body:(List Int→Int→Option (List Int))→List Int→Int→Option (List Int)} (l:List α) (s:l.length<Az) (g:α→List Int)
 (u:∀k b (i:Nat) (h:i<l.length),(b++g l[i]).length≤1099511627776→body k b (i:Int)=k (b++g l[i]) (BA ((i:Int)+1))) (z:∀k b,body k b (l.length:Int)=some b) (b:List Int) (f:(b++l.flatMap g).length≤1099511627776):
 aV body Az b 0=some (b++l.flatMap g):=by
 have L:Az=9223372036854775808:=rfl
 have key:∀n (i:Nat) b,i+n=l.length→(b++(l.drop i).flatMap g).length≤1099511627776→∀m,n<m→aV body m b (i:Int)=some (b++(l.drop i).flatMap g):=by
  intro n
  induction n with
  |zero=>
   intro i b hi f m I;obtain⟨m,rfl⟩:∃q,m=q+1:=⟨m-1,AA⟩
   have :i=l.length:=AA
   subst this;show body (aV body m) _ _=_;rw[z,OV];simp
  |succ n J=>
   intro i b hi f m I;obtain⟨m,rfl⟩:∃q,m=q+1:=⟨m-1,AA⟩
   have j:i<l.length:=AA
   rw[LV j,Nw,←H7]at f ⊢;show body (aV body m) _ _=_;rw[u _ _ i j (aFM f),wrap_succ i AA];exact J (i+1) _ AA f m AA
 exact key l.length 0 b AA f Az s
def PU (l:List Int):List Int:=enc l.length++l.flatMap enc
def Oz (l:List ByteArray):List Int:=enc l.length++l.flatMap JA
def ais {b:List Int} {l:List Int} (h:(b++PU l).length≤1099511627776) (j:l.length≤1000):aAV b l=some (b++PU l):=by
 have m:Az=9223372036854775808:=rfl;unfold PU at h ⊢;rw[←H7]at h ⊢;unfold aAV;rw[number_eq (aFM h),Ac];unfold aRP;refine aHA l AA enc (fun k b i hi f=>?_) (fun k b=>?_) _ h
 ·simp only[aMZ,dec_lt hi,Bg,CQ hi,number_eq f,Ac]
 simp only[aMZ,DW,BZ]
def as6 {b:List Int} {l:List ByteArray} (h:(b++Oz l).length≤1099511627776) (j:l.length≤1000):aCA b l=some (b++Oz l):=by
 have m:Az=9223372036854775808:=rfl;unfold Oz at h ⊢;rw[←H7]at h ⊢;unfold aCA;rw[number_eq (aFM h),Ac];unfold abI;refine aHA l AA JA (fun k b i hi f=>?_) (fun k b=>?_) _ h
 ·simp only[aJC,dec_lt hi,Bg,CQ hi,text_eq f,Ac]
 simp only[aJC,DW,BZ]
def aCq {α:Type} {g:α→List Int} {m:Nat}:∀{l:List α},(∀x∈l,(g x).length≤m)→(l.flatMap g).length≤l.length*m
 | [],_=>BU
 |x::l,h=>by
  rw[Nw,EL,Fp,Ty];have :=h x GR;have :=aCq (l:=l) (fun y f=>h y (Hr _ f));omega
def aHJ (l:List Int):(PU l).length≤l.length*10+10:=by
 have f:=OA l.length;have h:=aCq (g:=enc) (m:=10) (l:=l) (fun x _=>OA x);unfold PU;rw[EL];omega
def aHZ {l:List ByteArray} {m:Nat} (h:∀s∈l,s.size≤m):(Oz l).length≤l.length*(m+10)+10:=by
 have j:=OA l.length;have n:=aCq (g:=JA) (m:=m+10) (l:=l) (fun s f=>by have :=jO s;have :=h s f;omega);unfold Oz;rw[EL];omega
def alE {b:List Int} {l:List Int} (h:b.length+20000≤1099511627776) (f:l.length≤1000):Xp b l=some (b++PU l):=by
 have j:=aHJ l;unfold Xp;rw[PN (x:=2*(l.length:Int)) AA AA,PN AA AA,show 2*(l.length:Int)+10=((2*l.length+10:Nat):Int) by omega,nS AA,Ac,ais KC f];rfl
def ajy {b:List Int} {l:List Int} (j:b.length+20000≤1099511627776) (m:l.length≤1000):jV b l=some (b++PU l):=by
 have n:Az=9223372036854775808:=rfl;have q:=aHJ l;have h:(b++PU l).length≤1099511627776:=KC
 unfold PU at h ⊢;rw[←H7]at h ⊢;unfold jV;rw[Xz AA,Ac];unfold aag;refine aHA l AA enc (fun k b i hi f=>?_) (fun k b=>?_) _ h
 ·simp only[aIn,dec_lt hi,Bg,CQ hi,aQ4,MW (show 1≤100 by omega) f,Ac]
 simp only[aIn,DW,BZ]
def ak9 {b:List Int} {l:List ByteArray} (j:b.length+3000000≤1099511627776) (f:l.length≤1000) (h:∀s∈l,s.size≤2000):cZ b l=some (b++Oz l):=by
 have m:=aHZ h;unfold cZ;rw[PN (x:=8*(l.length:Int)) AA AA,PN AA AA,show 8*(l.length:Int)+10=((8*l.length+10:Nat):Int) by omega,nS AA,Ac,as6 KC f];rfl
def agc {b:List Int} {l:List ByteArray} (J:b.length+3000000≤1099511627776) (L:l.length≤1000) (q:∀s∈l,s.size≤2000):jo b l=some (b++Oz l):=by
 have M:Az=9223372036854775808:=rfl;have O:=aHZ q;have h:(b++Oz l).length≤1099511627776:=KC
 have key:∀n (i:Nat) b,i+n=l.length→b.length+(n*2020)≤1099511620000→∀m,n<m→aV (Xx l) m b (i:Int)=some (b++(l.drop i).flatMap JA):=by
  intro n
  induction n with
  |zero=>
   intro i b hi u m z;obtain⟨m,rfl⟩:∃j,m=j+1:=⟨m-1,AA⟩
   have :i=l.length:=AA
   subst this;show Xx l (aV (Xx l) m) _ _=_;simp only[Xx,DW,BZ,OV];simp
  |succ n I=>
   intro i b hi u m z;obtain⟨m,rfl⟩:∃j,m=j+1:=⟨m-1,AA⟩
   have f:i<l.length:=AA
   have S:=q l[i] (ET f);have U:=jO l[i];rw[LV f,Nw,←H7];show Xx l (aV (Xx l) m) _ _=_;simp only[Xx,dec_lt f,Bg,CQ f,Ac];rw[acU AA,Ac,wrap_succ i AA];exact I (i+1) _ AA KC m AA
 unfold Oz;rw[←H7];unfold jo;rw[Xz AA,Ac];unfold aRz;have :=key l.length 0 (b++enc l.length) AA (by have :=OA l.length;rw[EL];omega) Az AA;exact this
structure Rt (c:CW):Prop where
 allow:c.Allow.length≤100
 deny:c.iE.length≤100
 users:c.Levels.Users.length≤100
 kinds:c.Levels.Kinds.length≤100
 text:c.Text.size≤2000
 via:c.Via.size≤2000
 allows:∀x∈c.Allow,x.size≤2000
 denies:∀x∈c.iE,x.size≤2000
 names:∀x∈c.Levels.Users,x.User.size≤2000
def I9.content {e:AY} (h:I9 e):Rt e.Content:=⟨h.allow,h.deny,h.users,h.kinds,h.text,h.via,h.allows,h.denies,h.names⟩
section
variable {b : List Int} {k : Nat}
def SV (h:b.length≤k) (f:k≤1000000000) (n:Int):N9 b n=some (b++enc n)∧Jq b n=some (b++enc n)∧(b++enc n).length≤k+10:=by
 have :=OA n;exact⟨tV AA,Xz AA,KC⟩
def aQN (h:b.length≤k) (j:k≤1000000000) (f:Bool):YB b f=some (b++[bif f then 1 else 0])∧dJ b f=some (b++[bif f then 1 else 0])∧(b++[bif f then(1:Int)else 0]).length≤k+10:=
 ⟨asV AA,am4 AA,aMv⟩
def Ut (h:b.length≤k) (f:k≤1000000000) {s:ByteArray} (m:Nat) (j:s.size≤m) (n:m≤1000000000):RF b s=some (b++JA s)∧Pe b s=some (b++JA s)∧(b++JA s).length≤k+m+10:=by
 have :=jO s;exact⟨atH AA,acU AA,KC⟩
def adI (h:b.length≤k) (f:k≤1000000000) {l:List Int} (j:l.length≤100):Xp b l=some (b++PU l)∧jV b l=some (b++PU l)∧(b++PU l).length≤k+1010:=by
 have :=aHJ l;exact⟨alE AA AA,ajy AA AA,KC⟩
def aQK (h:b.length≤k) (j:k≤1000000000) {l:List ByteArray} (m:l.length≤100) (f:∀s∈l,s.size≤2000):cZ b l=some (b++Oz l)∧jo b l=some (b++Oz l)∧(b++Oz l).length≤k+201010:=by
 have :=aHZ f;exact⟨ak9 AA AA f,agc AA AA f,KC⟩
end
def QX (u:Gl):List Int:=JA u.User++enc u.N
def Rl (u:Ij):List Int:=enc u.Kind++enc u.N
def JK (l:CO):List Int:=[l.User,l.Message,l.State,l.gB,l.jI,l.lV,l.gQ]
def ahN (b:List Int) (l:CO):List Int:=b++enc l.Users.length++l.Users.flatMap QX++enc l.Kinds.length++l.Kinds.flatMap Rl++(JK l).flatMap enc
def ji (c:CW):List Int:=ahN ([]++JA c.Text++enc c.N++enc c.Target++[bif c.Thread then 1 else 0]++JA c.Via++Oz c.Allow++Oz c.iE) c.Levels
def aea {u:Gl} (h:u.User.size≤2000):(QX u).length≤2020:=by
 have :=jO u.User;have :=OA u.N;unfold QX;rw[EL];omega
def ae4 (u:Ij):(Rl u).length≤20:=by
 have :=OA u.Kind;have :=OA u.N;unfold Rl;rw[EL];omega
def kK {R α:Type} {body:(List Int→Int→Option R)→List Int→Int→Option R} (l:List α) (u:l.length≤1000) (g:α→List Int) (m:Nat) (j:∀x∈l,(g x).length≤m) (f:List Int→Option R) (b:List Int)
 (n:∀k a (i:Nat) (h:i<l.length),a.length≤b.length+i*m→body k a (i:Int)=k (a++g l[i]) (BA ((i:Int)+1)))
 (q:∀k a,a.length≤b.length+l.length*m→body k a (l.length:Int)=f a):aV body Az b 0=f (b++l.flatMap g)∧(b++l.flatMap g).length≤b.length+l.length*m:=by
 constructor
 ·rw[Gw l AA (fun a x=>a++g x) (fun i a=>a.length≤b.length+i*m) f AA (fun k a i h s=>⟨?_,n k a i h s⟩) q,foldl_append g];have :=j l[i] (ET h);rw[EL,Ty];omega
 have :=aCq j;rw[EL];omega
def ajG (c:CW) (b:List Int) (s:b.length≤900000):(aJe c b 0=some (b++(JK c.Levels).flatMap enc)∧aNx (JK c.Levels) b 0=some (b++(JK c.Levels).flatMap enc))∧(b++(JK c.Levels).flatMap enc).length≤b.length+70:=by
 have m:∀i:Nat,(h:i<(JK c.Levels).length)→Aq ([c.Levels.User,c.Levels.Message,c.Levels.State,c.Levels.gB,c.Levels.jI,c.Levels.lV,c.Levels.gQ]:List Int) (i:Int)=some (JK c.Levels)[i]:=fun i h=>CQ h
 have j:=kK (body:=aIV c) (JK c.Levels) (by simp[JK]) enc 10 (fun x _=>OA x) some b (fun k a i h f=>by
  have n:i<7:=h;unfold aIV
  rw[Ib (show(i:Int)<7 by omega),Bg,m i h,Ac,tV AA,Ac]) fun k a f=>rfl
 have q:=kK (body:=aGf (JK c.Levels)) (JK c.Levels) (by simp[JK]) enc 10 (fun x _=>OA x) some b (fun k a i h f=>by
  have n:i<7:=h;unfold aGf
  rw[Ce h,Xz AA,Ac]) fun k a f=>by unfold aGf;rw[DW];rfl
 exact⟨⟨j.1,q.1⟩,j.2⟩
def agb (c:CW) (b:List Int) (u:b.length≤800000) (z:c.Levels.Kinds.length≤100):(aLs c b 0=some (b++c.Levels.Kinds.flatMap Rl++(JK c.Levels).flatMap enc)∧aMq c b 0=some (b++c.Levels.Kinds.flatMap Rl++(JK c.Levels).flatMap enc))∧(b++c.Levels.Kinds.flatMap Rl++(JK c.Levels).flatMap enc).length≤b.length+2070:=by
 have m:=kK (body:=aEU c) c.Levels.Kinds AA Rl 20 (fun x _=>ae4 x) (fun a=>aJe c a 0) b (fun k a i h f=>by
  obtain⟨j,_,q⟩:=SV (b:=a) (k:=900000) AA AA c.Levels.Kinds[i].Kind;unfold aEU
  rw[Ce h,j,Ac,tV AA,Ac,H7];rfl) fun k a f=>by unfold aEU;rw[DW];rfl
 have s:=kK (body:=aEr c) c.Levels.Kinds AA Rl 20 (fun x _=>ae4 x) (fun a=>aNx (JK c.Levels) a 0) b (fun k a i h f=>by
  obtain⟨_,j,q⟩:=SV (b:=a) (k:=900000) AA AA c.Levels.Kinds[i].Kind;unfold aEr
  rw[Ce h,j,Ac,CQ h,Ac,Xz AA,Ac,H7];rfl) fun k a f=>by unfold aEr aOA;rw[DW,BZ,Ac];rfl
 have I:=m.2;have n:=ajG c (b++c.Levels.Kinds.flatMap Rl) AA;exact⟨⟨m.1.trans n.1.1,s.1.trans n.1.2⟩,AA⟩
def amq (c:CW) (b:List Int) (S:b.length≤500000) (f:Rt c):(aTo c b 0=some (b++c.Levels.Users.flatMap QX++enc c.Levels.Kinds.length++c.Levels.Kinds.flatMap Rl++(JK c.Levels).flatMap enc)∧aas c b 0=some (b++c.Levels.Users.flatMap QX++enc c.Levels.Kinds.length++c.Levels.Kinds.flatMap Rl++(JK c.Levels).flatMap enc))∧(b++c.Levels.Users.flatMap QX++enc c.Levels.Kinds.length++c.Levels.Kinds.flatMap Rl++(JK c.Levels).flatMap enc).length≤b.length+204080:=by
 have U:=f.users;have u:∀x∈c.Levels.Users,(QX x).length≤2020:=fun x I=>aea (f.names x I)
 have z:=kK (body:=aA9 c) c.Levels.Users AA QX 2020 u (fun a=>aLs c (a++enc c.Levels.Kinds.length) 0) b (fun k a i h j=>by
  have m:=f.names _ (ET h);obtain⟨n,_,J⟩:=Ut (b:=a) (k:=900000) AA AA (s:=c.Levels.Users[i].User) 2000 m AA;unfold aA9
  rw[Ce h,n,Ac,tV AA,Ac,H7];rfl) fun k a j=>by unfold aA9;rw[DW,BZ,tV AA,Ac]
 have L:=kK (body:=aAa c) c.Levels.Users AA QX 2020 u (fun a=>aMq c (a++enc c.Levels.Kinds.length) 0) b (fun k a i h j=>by
  have m:=f.names _ (ET h);obtain⟨_,n,J⟩:=Ut (b:=a) (k:=900000) AA AA (s:=c.Levels.Users[i].User) 2000 m AA;unfold aAa
  rw[Ce h,n,Ac,CQ h,Ac,Xz AA,Ac,H7];rfl) fun k a j=>by unfold aAa;rw[DW,BZ,Xz AA,Ac]
 have Y:=z.2;have Z:=OA (c.Levels.Kinds.length:Int);have M:(b++c.Levels.Users.flatMap QX++enc c.Levels.Kinds.length).length=(b++c.Levels.Users.flatMap QX).length+(enc c.Levels.Kinds.length).length:=EL ..;have q:=agb c (b++c.Levels.Users.flatMap QX++enc c.Levels.Kinds.length) AA f.kinds;have O:=q.2;rw[M]at O;exact⟨⟨z.1.trans q.1.1,L.1.trans q.1.2⟩,AA⟩
def aQW {c:CW} (f:Rt c):uw c=some (ji c)∧tN c=some (ji c)∧(ji c).length≤700000:=by
 obtain⟨h,j,m⟩:=Ut (b:=[]) (k:=0) (E9 _) AA 2000 f.text AA;obtain⟨n,q,s⟩:=SV m AA c.N;obtain⟨u,z,I⟩:=SV s AA c.Target;obtain⟨J,L,M⟩:=aQN I AA c.Thread;obtain⟨O,S,U⟩:=Ut M AA 2000 f.via AA;obtain⟨Y,Z,h6⟩:=aQK U AA f.allow f.allows;obtain⟨a7,b7,h7⟩:=aQK h6 AA f.deny f.denies;obtain⟨a8,b8,h8⟩:=SV h7 AA (c.Levels.Users.length:Int);obtain⟨⟨a9,b9⟩,h9⟩:=amq c _ (Ej h8 AA) f;refine⟨?_,?_,Ej h9 AA⟩
 ·unfold uw;rw[h,Ac,n,Ac,u,Ac,J,Ac,O,Ac,Y,Ac,a7,Ac,a8,Ac];exact a9
 unfold tN;rw[j,Ac,q,Ac,z,Ac,L,Ac,S,Ac,Z,Ac,b7,Ac,b8,Ac];exact b9
def aCW (e:AY):List Int:=
 []++enc e.Id++JA e.Room++JA e.bG++enc e.Kind++[bif e.State then 1 else 0]++JA e.Key++enc e.Time++enc e.Depth++PU e.bK++PU e.bM++JA (PO (ji e.Content))++enc e.Hash++JA e.qR.Server++enc e.qR.Sum
def afv (l:List Int):(PO l).size=l.length:=by
 have key:∀(l:List Int) (r:ByteArray),(l.foldl (fun r n=>r.push (UInt8.ofNat n.toNat)) r).size=r.size+l.length:=by
  intro l
  induction l with
  |nil=>intro r;rfl
  |cons x l f=>intro r;rw[G6,f,ByteArray.size_push,Fp];omega
 unfold PO;rw[key];simp
def aBg {S α:Type} {body:(Int→S→Option S)→Int→S→Option S} (l:List α) (L:l.length<1000) (f:S→α→Option S)
 (u:∀k (i:Nat) (h:i<l.length) s,body k (i:Int) s=(f s l[i]).bind fun x=>k (BA ((i:Int)+1)) x) (z:∀k s,body k (l.length:Int) s=some s) (s:S):aV body Az 0 s=l.foldlM f s:=by
 have M:Az=9223372036854775808:=rfl
 have key:∀n (i:Nat) s,i+n=l.length→∀m,n<m→aV body m (i:Int) s=(l.drop i).foldlM f s:=by
  intro n
  induction n with
  |zero=>
   intro i s hi m I;obtain⟨m,rfl⟩:∃q,m=q+1:=⟨m-1,AA⟩
   have :i=l.length:=AA
   subst this;rw[OV];exact z _ _
  |succ n J=>
   intro i s hi m I;obtain⟨m,rfl⟩:∃q,m=q+1:=⟨m-1,AA⟩
   have j:i<l.length:=AA
   rw[LV j,TU];show body (aV body m) _ _=(f s l[i]).bind _;rw[u _ i j,wrap_succ i AA];congr 1;funext x;exact J (i+1) x AA m AA
 exact key l.length 0 s AA Az AA
def aSk (w:Ew) (l:List Int) (f:l.length<1000):Sv w l=l.foldlM dh w:=by
 unfold Sv aQV;exact aBg l f _ (fun k i h s=>by simp only[aNi,dec_lt h,Bg,CQ h,Ac]) (fun k s=>by simp only[aNi,DW,BZ]) w
def acA (w:Ew) (l:List ByteArray) (f:l.length<1000):V3 w l=l.foldlM eA w:=by
 unfold V3 abe;exact aBg l f _ (fun k i h s=>by simp only[aNN,dec_lt h,Bg,CQ h,Ac]) (fun k s=>by simp only[aNN,DW,BZ]) w
def apZ (w:Ew) (l:List Bool) (f:l.length<1000):rH w l=l.foldlM pW w:=by
 unfold rH adu;exact aBg l f _ (fun k i h s=>by simp only[aO1,dec_lt h,Bg,CQ h,Ac]) (fun k s=>by simp only[aO1,DW,BZ]) w
def agL (w:Ew) (l:List (List Int)) (f:l.length<1000):wV w l=l.foldlM dZ w:=by
 unfold wV acG;exact aBg l f _ (fun k i h s=>by simp only[aNa,dec_lt h,Bg,CQ h,Ac]) (fun k s=>by simp only[aNa,DW,BZ]) w
def aL1 {b c:List Int} {n:Int} (h:N9 b n=some c):dh ⟨b⟩ n=some ⟨c⟩:=by unfold dh;rw[h];rfl
def aGw {b c:List Int} {n:ByteArray} (h:RF b n=some c):eA ⟨b⟩ n=some ⟨c⟩:=by unfold eA;rw[h];rfl
def ah2 {b c:List Int} {n:Bool} (h:YB b n=some c):pW ⟨b⟩ n=some ⟨c⟩:=by unfold pW;rw[h];rfl
def aQl {b c:List Int} {n:List Int} (h:Xp b n=some c):dZ ⟨b⟩ n=some ⟨c⟩:=by unfold dZ;rw[h];rfl
def aD6 {b c:List Int} {n:Int} (h:N9 b n=some c):Sv ⟨b⟩ [n]=some ⟨c⟩:=by
 rw[aSk _ _ BU,TU,aL1 h];rfl
def agZ {b c d:List Int} {n m:Int} (h:N9 b n=some c) (k:N9 c m=some d):Sv ⟨b⟩ [n,m]=some ⟨d⟩:=by
 rw[aSk _ _ BU,TU,aL1 h];show(dh ⟨c⟩ m).bind _=_;rw[aL1 k];rfl
def aMl {b c:List Int} {n:ByteArray} (h:RF b n=some c):V3 ⟨b⟩ [n]=some ⟨c⟩:=by
 rw[acA _ _ BU,TU,aGw h];rfl
def ai9 {b c d:List Int} {n m:ByteArray} (h:RF b n=some c) (k:RF c m=some d):V3 ⟨b⟩ [n,m]=some ⟨d⟩:=by
 rw[acA _ _ BU,TU,aGw h];show(eA ⟨c⟩ m).bind _=_;rw[aGw k];rfl
def aqD {b c:List Int} {n:Bool} (h:YB b n=some c):rH ⟨b⟩ [n]=some ⟨c⟩:=by
 rw[apZ _ _ BU,TU,ah2 h];rfl
def ai0 {b c d:List Int} {n m:List Int} (h:Xp b n=some c) (k:Xp c m=some d):wV ⟨b⟩ [n,m]=some ⟨d⟩:=by
 rw[agL _ _ BU,TU,aQl h];show(dZ ⟨c⟩ m).bind _=_;rw[aQl k];rfl
def aq2 {e:AY} (f:I9 e):xX e=some (aCW e)∧oI e=some (aCW e)∧(aCW e).length≤1000000:=by
 obtain⟨Z,bc,hc⟩:=aQW f.content;obtain⟨a1,b1,h1⟩:=SV (b:=[]) (k:=0) (E9 _) AA e.Id;obtain⟨a2,b2,h2⟩:=Ut h1 AA 2000 f.room AA;obtain⟨a3,b3,h3⟩:=Ut h2 AA 2000 f.sender AA;obtain⟨a4,b4,h4⟩:=SV h3 AA e.Kind;obtain⟨a5,b5,h5⟩:=aQN h4 AA e.State;obtain⟨a6,b6,h6⟩:=Ut h5 AA 2000 f.key AA;obtain⟨a7,b7,h7⟩:=SV h6 AA e.Time;obtain⟨a8,b8,h8⟩:=SV h7 AA e.Depth;obtain⟨a9,b9,h9⟩:=adI h8 AA (Ej f.prev AA);obtain⟨h,j,m⟩:=adI h9 AA (Ej f.auth AA);obtain⟨n,q,u⟩:=Ut m AA (s:=PO (ji e.Content)) 700000 (by rw[afv];exact hc) AA;obtain⟨z,I,J⟩:=SV u AA e.Hash;obtain⟨L,M,O⟩:=Ut J AA 2000 f.server AA;obtain⟨S,U,Y⟩:=SV O AA e.qR.Sum;refine⟨?_,?_,Ej Y AA⟩
 ·unfold xX
  rw[show Sv aGN [e.Id]=_ from aD6 a1,Ac,ai9 a2 a3,Ac,aD6 a4,Ac,aqD a5,Ac,aMl a6,Ac,agZ a7 a8,Ac,ai0 a9 h,Ac,
   Z,Ac,aMl n,Ac,aD6 z,Ac,aMl L,Ac,aD6 S,Ac]
  rfl
 unfold oI;rw[b1,Ac,b2,Ac,b3,Ac,b4,Ac,b5,Ac,b6,Ac,b7,Ac,b8,Ac,b9,Ac,j,Ac,bc,Ac,q,Ac,I,Ac,M,Ac,U,Ac];rfl
def aCu (l:List Int):Int:=BA (l.foldl mV ((IntKind.u64.wrap 860922984064492325).tmod 4611686018427387904))
def aRK {l:List Int} (f:l.length≤1000000):sQ l=some (aCu l):=by
 unfold sQ aKN;rw[Ac];unfold aN1 aad
 rw[aBJ _ _ _ _ (.inl rfl),aT4,Gw l AA mV (fun _ _=>True) (fun s=>some (BA s)) trivial (fun k s i h _=>⟨trivial,by
  simp only[aN3,dec_lt h,Bg,CQ h,Ac,aBJ _ _ _ _ (.inl rfl),aBJ _ _ _ _ (.inr (.inr rfl)),alm]⟩) fun k s _=>by
  simp only[aN3,DW,BZ]]
 rfl
def aeF {l:List Int} (f:l.length≤1000000):qI l=some (aCu l):=by
 unfold qI;rw[show aHf=some 860922984064492325 from rfl,Ac];unfold aHN adH
 rw[show Vj (IntKind.u64.wrap 860922984064492325) 4611686018427387904=some ((IntKind.u64.wrap 860922984064492325).tmod 4611686018427387904)from rfl,Ac,Gw l AA mV (fun _ _=>True) (fun s=>some (BA s)) trivial (fun k s i h _=>⟨trivial,by
  have e:Vj (IntKind.u64.wrap ((EP .xor .u64 s (IntKind.u64.wrap l[i]))*1099511628211)) 4611686018427387904=some (mV s l[i]):=rfl
  simp only[aL2,dec_lt h,Bg,CQ h,Ac,e]⟩) fun k s _=>by
  simp only[aL2,DW,BZ]]
 rfl
def Wx (k:Int) (c:CW):CW:=
 if k=1 then c else if k=2 then{ EF with N:=c.N,Via:=c.Via }else if k=3 then{ EF with Levels:=c.Levels }else if k=4 then{ EF with N:=c.N,Allow:=c.Allow }else
 if k=5 then{ EF with N:=c.N }else if k=6 then{ EF with Allow:=c.Allow,iE:=c.iE }else if k=14 then{ EF with Target:=c.Target }else EF
def aah {R:Type} (a b:Int) (x y:R):(bif a==b then x else y)=if a=b then x else y:=by
 by_cases h:a=b
 ·subst h;simp
 have :(a==b)=false:=JB
 rw[this,DF h];rfl
def aTb {R:Type} (p:Prop) [Decidable p] (x y:R):(if p then some x else some y)=some (if p then x else y):=by split<;>rfl
def aQt (k:Int) (c:CW):nY k c=some (Wx k c):=by
 unfold nY Wx;simp only[aah,aTb]
def texts_eq {l:List ByteArray} (h:l.length≤100):Qi l=some l:=by
 unfold Qi;rw[MW AA aAr];rfl
def aSH {l:CO} (h:l.Users.length≤100) (f:l.Kinds.length≤100):bH l=some l:=by
 unfold bH;rw[MW AA aAr,Ac,MW AA (by rw[IE];exact Ej f AA)];rfl
def aDv (k:Int):Int:=if k=2 then 18 else if k=3 then 128 else if k=4 then 34 else if k=5 then 2 else if k=6 then 96 else if k=14 then 4 else 0
def anr (k:Int):kM k=some (aDv k):=by
 by_cases h:k=2
 ·subst h;rfl
 by_cases j:k=3
 ·subst j;rfl
 by_cases m:k=4
 ·subst m;rfl
 by_cases n:k=5
 ·subst n;rfl
 by_cases f:k=6
 ·subst f;rfl
 unfold kM jW aDv;simp only[aah,h,j,m,n,f,Jg,show(k==6)=false from by simpa using f,BZ,aTb]
def aPA (k:Int) {c:CW} (f:Rt c):uh k c=some (Wx k c):=by
 by_cases j:k=1
 ·subst j;show(Qi c.Allow).bind (fun z=>(Qi c.iE).bind fun I=>(bH c.Levels).bind fun J=>some ({ { { c with Allow:=z }with iE:=I }with Levels:=J }))=_;rw[texts_eq f.allow,Ac,texts_eq f.deny,Ac,aSH f.users f.kinds];rfl
 unfold uh;rw[show(k==1)=false from by simpa using j,BZ,anr,Ac];by_cases m:k=2
 ·subst m;rfl
 by_cases n:k=3
 ·subst n;show(bH c.Levels).bind (fun x=>some { EF with Levels:=x })=_;rw[aSH f.users f.kinds];rfl
 by_cases q:k=4
 ·subst q;show(Qi c.Allow).bind (fun x=>some { EF with N:=c.N,Allow:=x })=_;rw[texts_eq f.allow];rfl
 by_cases s:k=5
 ·subst s;rfl
 by_cases u:k=6
 ·subst u;show(Qi c.Allow).bind (fun x=>(Qi c.iE).bind fun y=>some { EF with Allow:=x,iE:=y })=_;rw[texts_eq f.allow,Ac,texts_eq f.deny];rfl
 by_cases h:k=14
 ·subst h;rfl
 have L:aDv k=0:=by unfold aDv;simp only[m,n,q,s,u,h,Jg]
 have M:Wx k c=EF:=by unfold Wx;simp only[j,m,n,q,s,u,h,Jg]
 rw[L,M];rfl
def Rt.strip {c:CW} (h:Rt c) (k:Int):Rt (Wx k c):=by
 have f:(0:Nat)≤2000:=AA
 unfold Wx
 repeat' split
 all_goals first|exact h|exact⟨by simp[EF,Iy,h.allow],by simp[EF,Iy,h.deny],by simp[EF,Iy,h.users],by simp[EF,Iy,h.kinds],by first|exact h.text|exact f,by first|exact h.via|exact f,by first|exact h.allows|simp[EF],by first|exact h.denies|simp[EF],by first|exact h.names|simp[EF,Iy]⟩
def aLr (e:AY):AY:={ e with Content:=Wx e.Kind e.Content }
def SX (e:AY):Prop:=I9 { e with qR:=ZF }
def SX.content {e:AY} (h:SX e):Rt e.Content:=I9.content (e:={ e with qR:=ZF }) h
def I9.x {e:AY} (h:I9 e):SX e:=⟨h.prev,h.auth,h.allow,h.deny,h.users,h.kinds,h.room,h.sender,h.key,h.text,h.via,EY _,h.allows,h.denies,h.names⟩
def atT {e:AY} (f:SX e):aAO e=some (aLr e)∧aAn e=some (aLr e):=by
 unfold aAO aAn;rw[aPA _ f.content,aQt];exact⟨rfl,rfl⟩
def mO (e:AY):Int:=aCu (ji e.Content)
def aEo (e:AY):AY:={ { aLr e with Id:=0 }with qR:=ZF }
def aSn (e:AY):Int:=aCu (aCW (aEo e))
def SX.bare {e:AY} (h:SX e):I9 (aEo e):=by
 have f:=h.content.strip e.Kind;exact⟨h.prev,h.auth,f.allow,f.deny,f.users,f.kinds,h.room,h.sender,h.key,f.text,f.via,by show(0:Nat)≤2000;omega,f.allows,f.denies,f.names⟩
def aSD {e:AY} (f:SX e):vH e=some (mO e)∧aEI e=some (mO e):=by
 obtain⟨a,b,h⟩:=aQW f.content;unfold vH aEI;rw[a,b,Ac,Ac,aRK AA,aeF AA];exact⟨rfl,rfl⟩
def aTf {e:AY} (f:SX e):o8 e=some (aSn e)∧aBk e=some (aSn e):=by
 obtain⟨a,b⟩:=atT f;obtain⟨c,d,h⟩:=aq2 f.bare;unfold o8 aBk;rw[a,b,Ac,Ac];show(xX (aEo e)).bind _=_∧(oI (aEo e)).bind _=_;rw[c,d,Ac,Ac,aRK AA,aeF AA];exact⟨rfl,rfl⟩
def QL (s:ByteArray):Int:=bif GV s 64 then 0 else 3
def Tv (s:ByteArray):Int:=bif GV s 33 then 0 else 3
def Wq {s:ByteArray} (f:s.size≤9223372036854775807):ZW s=some (QL s)∧Xc s=some (QL s):=by
 unfold ZW qU Xc QL;rw[aKT f (marks:=uo) (by rw[show Bv uo=[64]from rfl];intro m h;simp only[F6,Fv,eF]at h;omega),aB9 f Bd,show((Bv uo).any fun m=>GV s m)=(GV s 64||false)from rfl];cases GV s 64<;>exact⟨rfl,rfl⟩
def vg {s:ByteArray} (f:s.size≤9223372036854775807):qM s=some (Tv s)∧jA s=some (Tv s):=by
 unfold qM qU jA Tv;rw[aKT f (marks:=rY) (by rw[show Bv rY=[33]from rfl];intro m h;simp only[F6,Fv,eF]at h;omega),aB9 f Bd,show((Bv rY).any fun m=>GV s m)=(GV s 33||false)from rfl];cases GV s 33<;>exact⟨rfl,rfl⟩
def ar5 {l:List Int} (h:Ur l=true):(58:Int)∉l:=by
 intro f;unfold Ur PV at h;simp only[DJ,ER]at h;have :=h.2 58 f;exact absurd this Bd
def aiw (s:ByteArray) (j:s.size≤2000):(splitB s (JU s)).1.size≤2000∧(58:Int)∉Bv (splitB s (JU s)).1∧(splitB s (JU s)).2.1.size≤2000:=by
 have m:Bf.size≤2000:=Bd
 cases h:JU s with
 |false=>exact⟨m,by show(58:Int)∉Bv Bf;decide,m⟩
 |true=>
  have f:Ru s=true:=by
   unfold JU GV at h;cases f:Ru s with
   |true=>rfl
   |false=>rw[f]at h;simp at h
  refine⟨Ej (extract_size _ _ _) j,ar5 ?_,Ej (extract_size _ _ _) j⟩;unfold Ru at f;simp only[DJ]at f;exact f.1.2
def any_false {α:Type} (l:List α):(l.any fun _=>false)=false:=BU
def tJ {α:Type} {body:(Int→Option Bool)→Int→Option Bool} (l:List α) (m:l.length≤1000) (rest:Option Bool) (f:∀k (i:Nat) (h:i<l.length),body k (i:Int)=k (BA ((i:Int)+1))) (j:∀k,body k (l.length:Int)=rest):bD body Az 0=rest:=by
 rw[GL l (vS AA) (fun _=>false) false rest (fun k i h=>by rw[f k i h];rfl) j,any_false];rfl
def ai4 {l:List ByteArray} (h:l.length≤1000):Uk l l=some true:=by
 unfold Uk aLg;rw[show((l.length:Int) != (l.length:Int))=false from by simp,BZ];exact tJ l h _ (fun k i h=>by simp only[qo,dec_lt h,Bg,CQ h,Ac,dz,EW,BZ]) (fun k=>by simp only[qo,DW,BZ])
structure KH (c:CW):Prop where
 allow:c.Allow.length≤9223372036854775807
 deny:c.iE.length≤9223372036854775807
 users:c.Levels.Users.length≤9223372036854775807
 kinds:c.Levels.Kinds.length≤9223372036854775807
 text:c.Text.size≤9223372036854775807
 via:c.Via.size≤9223372036854775807
 allows:∀x∈c.Allow,x.size≤9223372036854775807
 denies:∀x∈c.iE,x.size≤9223372036854775807
 names:∀x∈c.Levels.Users,x.User.size≤9223372036854775807
structure Oy (e:AY):Prop where
 prev:e.bK.length≤9223372036854775807
 auth:e.bM.length≤9223372036854775807
 room:e.Room.size≤9223372036854775807
 sender:e.bG.size≤9223372036854775807
 key:e.Key.size≤9223372036854775807
 server:e.qR.Server.size≤9223372036854775807
 content:KH e.Content
def yS (k:Int):uH k=some (decide (k≥1)&&decide (k≤14))∧dK k=some (decide (k≥1)&&decide (k≤14)):=by
 unfold uH dK;cases decide (k≥1)<;>cases decide (k≤14)<;>exact⟨rfl,rfl⟩
def Qg (n:Int):Bool:=decide (n< -1000)||decide (n>1000)
def yL (n:Int):fH n=some (Qg n)∧RQ n=some (Qg n):=by
 unfold fH RQ Qg;cases decide (n< -1000)<;>cases decide (n>1000)<;>exact⟨rfl,rfl⟩
def O6 (c:Int):Bool:=decide (c<33)||decide (c>126)
def aBh (s:ByteArray):(s.toList==Bf.toList)=((s.size:Int)==0):=by
 rw[Ia];by_cases h:s=Bf
 ·subst h;rfl
 have :¬s.size=0:=fun f=>h (bytes_inj (by
  have j:Bv s=[]:=Gt (by rw[Gx];exact f)
  rw[j];rfl))
 rw[Ir h];symm;rw[lu];omega
def aDE (s:ByteArray):Int:=if s.size=0 then 9 else if s.size>64 then 7 else bif (Bv s).any O6 then 3 else 0
def aIf {s:ByteArray} (f:s.size≤9223372036854775807):lN s=some (aDE s)∧dP s=some (aDE s):=by
 have n:aJy s 0=some (bif (Bv s).any O6 then 3 else 0):=by
  unfold aJy;rw[GL (Bv s) kF O6 3 (some 0) (fun k i h=>?_) (fun k=>?_),JZ]
  ·have h':i<s.size:=Ux
   simp only[aKr,dec_lt h',Bg,Tz h,Ac,O6];cases decide ((Bv s)[i]<33)<;>cases decide ((Bv s)[i]>126)<;>rfl
  simp only[aKr,Gx,DW,BZ]
 have q:aJH s 0=some (bif (Bv s).any O6 then 3 else 0):=by
  unfold aJH;rw[GL (Bv s) kF O6 3 (some 0) (fun k i h=>?_) (fun k=>?_),JZ]
  ·have h':i<s.size:=Ux
   simp only[aOF,dec_lt h',Bg,Tz h,Ac,O6];cases decide ((Bv s)[i]<33)<;>cases decide ((Bv s)[i]>126)<;>rfl
  simp only[aOF,Gx,DW,BZ]
 unfold lN dP aDE;rw[aBh,n,q];by_cases j:s.size=0
 ·simp[j]
 have :((s.size:Int)==0)=false:=by rw[lu];omega
 rw[this,DF j];by_cases m:s.size>64
 ·have :decide ((s.size:Int)>64)=true:=Dy
  rw[this,D7 m];exact⟨rfl,rfl⟩
 have :decide ((s.size:Int)>64)=false:=Dy
 rw[this,DF m];exact⟨rfl,rfl⟩
def wH (s:ByteArray):Bool:=decide ((s.size:Int)≥1)&&decide ((s.size:Int)≤32)&& !(Bv s).any O6
def apj {s:ByteArray} (f:s.size≤9223372036854775807):aEv s=some (wH s):=by
 unfold aEv aSO;rw[GL (Bv s) kF O6 false (some (decide ((s.size:Int)≥1)&&decide ((s.size:Int)≤32))) (fun k i h=>?_) (fun k=>?_)]
 ·unfold wH;cases(Bv s).any O6<;>cases decide ((s.size:Int)≥1)<;>cases decide ((s.size:Int)≤32)<;>rfl
 ·have h':i<s.size:=Ux
  simp only[aIk,dec_lt h',Bg,Tz h,Ac,O6];cases decide ((Bv s)[i]<33)<;>cases decide ((Bv s)[i]>126)<;>rfl
 simp only[aIk,Gx,DW,BZ];cases decide ((s.size:Int)≥1)<;>cases decide ((s.size:Int)≤32)<;>rfl
def U1 (k:Int) (s:ByteArray):Bool:=if k=2 then QL s==0 else if k=9 then wH s else true
def acW {k:Int} {s:ByteArray} (m:s.size≤9223372036854775807):aDh k s=some (U1 k s):=by
 have n:aJ3 s 0=some (bif (Bv s).any O6 then false else true):=by
  unfold aJ3;rw[GL (Bv s) (by rw[Gx];exact vS m) O6 false (some true) (fun k i h=>?_) (fun k=>?_),JZ]
  ·have h':i<s.size:=Ux
   simp only[aNy,dec_lt h',Bg,Tz h,Ac,O6];cases decide ((Bv s)[i]<33)<;>cases decide ((Bv s)[i]>126)<;>rfl
  simp only[aNy,Gx,DW,BZ]
 unfold aDh U1;rw[(Wq m).2,n];by_cases f:k=2
 ·subst f;rfl
 rw[show(k==2)=false from by simpa using f,DF f,BZ];by_cases j:k=9
 ·subst j;unfold wH;have q:decide ((s.size:Int)≥1)= !decide ((s.size:Int)<1):=aH2
  have u:decide ((s.size:Int)≤32)= !decide ((s.size:Int)>32):=aO8
  rw[q,u];cases decide ((s.size:Int)<1)<;>cases decide ((s.size:Int)>32)<;>cases(Bv s).any O6<;>rfl
 rw[show(k != 9)=true from by simpa using j,DF j];rfl
def ah8 {e:AY} (f:Oy e):aD8 e=some (Tv e.Room==0&&QL e.bG==0&&U1 e.Kind e.Key):=by
 have j:=f.room;have m:=f.sender;have n:=f.key;unfold aD8 U1;rw[(vg AA).1,(Wq (s:=e.bG) AA).1,(Wq (s:=e.Key) AA).1,apj AA];simp only[Ac,bne];cases Tv e.Room==0 with
 |false=>rfl
 |true=>
  cases QL e.bG==0 with
  |false=>rfl
  |true=>
   by_cases k2:e.Kind=2
   ·rw[k2];rfl
   by_cases h:e.Kind=9
   ·rw[h];rfl
   rw[show(e.Kind==2)=false from by simpa using k2,show(e.Kind==9)=false from by simpa using h,DF k2,DF h];rfl
def Cc {R:Type} (x y:Option R):Prop:=∃r,x=some r∧y=some r
section
variable {A R : Type}
def Cc.ret (r:R):Cc (some r) (some r):=⟨r,rfl,rfl⟩
def Cc.bind {a b:Option A} {f g:A→Option R} (h:Cc a b) (k:∀x,Cc (f x) (g x)):Cc (a.bind f) (b.bind g):=by
 obtain⟨x,rfl,rfl⟩:=h;exact k x
def Cc.bif {c:Bool} {x y f h:Option R} (j:c=true→Cc x f) (m:c=false→Cc y h):Cc (bif c then x else y) (bif c then f else h):=by
 cases c with
 |true=>exact j rfl
 |false=>exact m rfl
def Cc.of {x y:Option R} {r:R} (f:x=some r) (h:y=some r):Cc x y:=⟨r,f,h⟩
def Cc.loop {f g:(Int→Option R)→Int→Option R} (n:Nat) (s:n≤9223372036854775807) (h:∀k k' (i:Nat),i<n→Cc (k ((i+1:Nat):Int)) (k' ((i+1:Nat):Int))→Cc (f k (i:Int)) (g k' (i:Int))) (j:∀k k',Cc (f k (n:Int)) (g k' (n:Int))):Cc (bD f Az 0) (bD g Az 0):=by
 have u:Az=9223372036854775808:=rfl
 have key:∀m (i:Nat),i+m=n→∀a,m<a→Cc (bD f a (i:Int)) (bD g a (i:Int)):=by
  intro m
  induction m with
  |zero=>
   intro i hi a ha;obtain⟨a,rfl⟩:∃a',a=a'+1:=⟨a-1,AA⟩
   have :i=n:=AA
   subst this;exact j _ _
  |succ m q=>
   intro i hi a ha;obtain⟨a,rfl⟩:∃a',a=a'+1:=⟨a-1,AA⟩
   exact h _ _ i AA (q (i+1) AA a AA)
 exact key n 0 AA Az AA
end
def qZ {i:Nat} (h:i≤9223372036854775806):BA ((i:Int)+1)=((i+1:Nat):Int):=wrap_succ i AA
def xg {α:Type} {l:List α} {i:Nat} (h:i<l.length) (j:l.length≤9223372036854775807) (f:decide ((i:Int)>0)=true):Aq l (BA ((i:Int)-1))=some (l[i-1]' AA):=by
 have f:0<i:=KZ
 rw[PN AA AA,show(i:Int)-1=((i-1:Nat):Int) by omega];exact CQ AA
def aQH {l:List Int} (f:l.length≤9223372036854775807):Cc (xM l) (Zx l):=by
 unfold xM aOs Zx aK5;refine Cc.loop l.length f (fun k k' i h j=>?_) (fun k k'=>?_)
 ·simp only[aHH,aGi,Z7,dec_lt h,Bg,CQ h,Ac,qZ (show i≤9223372036854775806 by omega)];cases decide (l[i]<0)with
  |true=>exact .ret _
  |false=>
   simp only[BZ];cases m:decide ((i:Int)>0)with
   |true=>
    simp only[Bg,xg h f m,Ac,ge_iff_le];cases decide (l[i]≤l[i-1])with
    |true=>exact .ret _
    |false=>exact j
   |false=>exact j
 simp only[aHH,aGi,DW,BZ];exact .ret _
def ae1 {l:List ByteArray} (f:l.length≤9223372036854775807) (j:∀s∈l,s.size≤9223372036854775807):Cc (Vr l) (Qn l):=by
 unfold Vr Qn;refine Cc.bif (fun _=>.ret _) fun _=>?_;unfold aaQ aMD;refine Cc.loop l.length f (fun k k' i h m=>?_) (fun k k'=>?_)
 ·obtain⟨n,q⟩:=aIf (s:=l[i]) (by have :=j _ (ET h);omega);simp only[aHO,oK,dec_lt h,Bg,CQ h,Ac,n,q,qZ (show i≤9223372036854775806 by omega)];exact Cc.bif (fun _=>.ret _) fun _=>m
 simp only[aHO,oK,DW,BZ];exact .ret _
def am0 {c:CW} (f:KH c):Cc (VR 4 c) (YQ c):=by
 have u:=f.allow;unfold VR YQ;rw[show((4:Int)==6)=false from rfl,BZ];refine Cc.bind (Cc.bif (fun _=>.ret _) fun _=>.ret _) fun x=>Cc.bif (fun _=>.ret _) fun _=>Cc.bif (fun _=>.ret _) fun _=>?_;unfold aaF aeL;refine Cc.loop c.Allow.length AA (fun k k' i h j=>?_) (fun k k'=>?_)
 ·obtain⟨m,n⟩:=vg (s:=c.Allow[i]) (by have :=f.allows _ (ET h);omega);simp only[aJi,aDn,lg,dec_lt h,Bg,CQ h,Ac,m,n,qZ (show i≤9223372036854775806 by omega)];refine Cc.bif (fun _=>.ret _) fun _=>?_;cases q:decide ((i:Int)>0)with
  |true=>
   simp only[Bg,xg h (show c.Allow.length≤9223372036854775807 by omega) q,Ac];exact Cc.bif (fun _=>.ret _) fun _=>j
  |false=>exact j
 simp only[aJi,aDn,DW,BZ];exact .ret _
def aie {l:List Gl} (f:l.length≤9223372036854775807) (m:∀u∈l,u.User.size≤9223372036854775807):Cc (aAP l) (Wy l):=by
 unfold aAP Wy;refine Cc.bif (fun _=>.ret _) fun _=>?_;unfold aPG aKZ;refine Cc.loop l.length f (fun k k' i h j=>?_) (fun k k'=>?_)
 ·obtain⟨n,q⟩:=Wq (s:=l[i].User) (by have :=m _ (ET h);omega);obtain⟨z,I⟩:=yL l[i].N;simp only[aKn,oO,aBb,kR,dec_lt h,Bg,CQ h,Ac,n,q,z,I,qZ (show i≤9223372036854775806 by omega)];refine Cc.bif (fun _=>.ret _) fun _=>?_;cases J:decide ((i:Int)>0)with
  |true=>
   simp only[Bg,xg h f J,Ac];exact Cc.bif (fun _=>.ret _) fun _=>Cc.bif (fun _=>.ret _) fun _=>j
  |false=>
   simp only[BZ];exact Cc.bif (fun _=>.ret _) fun _=>j
 simp only[aKn,oO,DW,BZ];exact .ret _
def ate {l:List Ij} (f:l.length≤9223372036854775807):Cc (aFX l) (Wi l):=by
 unfold aFX Wi;refine Cc.bif (fun _=>.ret _) fun _=>?_;unfold acD aNA;refine Cc.loop l.length f (fun k k' i h j=>?_) (fun k k'=>?_)
 ·obtain⟨m,n⟩:=yS l[i].Kind;obtain⟨q,s⟩:=yL l[i].N;simp only[aNZ,aB3,aCr,aAN,dec_lt h,Bg,CQ h,Ac,m,n,q,s,qZ (show i≤9223372036854775806 by omega)];refine Cc.bif (fun _=>.ret _) fun _=>?_;cases u:decide ((i:Int)>0)with
  |true=>
   simp only[Bg,xg h f u,Ac];exact Cc.bif (fun _=>.ret _) fun _=>Cc.bif (fun _=>.ret _) fun _=>j
  |false=>
   simp only[BZ];exact Cc.bif (fun _=>.ret _) fun _=>j
 simp only[aNZ,aB3,DW,BZ];exact .ret _
def akO {l:CO} (n:l.Users.length≤9223372036854775807) (q:l.Kinds.length≤9223372036854775807) (f:∀u∈l.Users,u.User.size≤9223372036854775807):Cc (ZG l) (XK l):=by
 have j:aMX l 0=some (bif (JK l).any Qg then 2 else 0):=by
  unfold aMX;rw[GL (JK l) (by have :Az=9223372036854775808:=rfl;simp[JK,this]) Qg 2 (some 0) (fun k i h=>?_) (fun k=>rfl),JZ];have s:i<7:=h;have m:Aq ([l.User,l.Message,l.State,l.gB,l.jI,l.lV,l.gQ]:List Int) (i:Int)=some ((JK l)[i]'(h)):=CQ h;simp only[ada,show decide ((i:Int)<7)=true from by simp;omega,Bg,m,Ac,(yL _).1]
 unfold ZG XK;refine Cc.bind (aie AA f) fun x=>Cc.bif (fun _=>.ret _) fun _=>Cc.bind (ate AA) fun y=>Cc.bif (fun _=>.ret _) fun _=>?_;rw[j];simp only[(yL _).2,Ac,JK,qx,List.any_nil];cases Qg l.User<;>cases Qg l.Message<;>cases Qg l.State<;>cases Qg l.gB<;>cases Qg l.jI<;>cases Qg l.lV<;>cases Qg l.gQ<;>exact .ret _
def TK {α:Type} {l:List α} (h:((l.length:Int)==0)=true):l=[]:=Gt aND
def MS (l:CO):Bool:=((l.Users.length:Int)==0)&&((l.Kinds.length:Int)==0)&&(l.User==0)&&(l.Message==0)&&(l.State==0)&&(l.gB==0)&&(l.jI==0)&&(l.lV==0)&&(l.gQ==0)
def bare_eq (l:CO):aE3 l=some (MS l):=by
 unfold aE3 MS;simp only[JZ,Ac,TI]
def aQ1 (l:CO):aJ l Iy=some (MS l):=by
 unfold aJ MS;show(bif ((l.Users.length:Int) != 0)then some true else some ((l.Kinds.length:Int) != 0)).bind _=_;simp only[bne];cases m:((l.Users.length:Int)==0)with
 |false=>rfl
 |true=>
  cases n:((l.Kinds.length:Int)==0)with
  |false=>rfl
  |true=>
   have f:=TK m;have j:=TK n
   have q:iQ l Iy 0=some ((l.User==0)&&(l.Message==0)&&(l.State==0)&&(l.gB==0)&&(l.jI==0)&&(l.lV==0)&&(l.gQ==0)):=by
    unfold iQ;refine tJ l.Kinds (by rw[j];simp) _ (fun k i h=>by rw[j]at h;simp at h) (fun k=>?_);simp only[aBY,DW,BZ,JZ,Ac,TI];rfl
   have s:aDZ l Iy 0=some ((l.User==0)&&(l.Message==0)&&(l.State==0)&&(l.gB==0)&&(l.jI==0)&&(l.lV==0)&&(l.gQ==0)):=by
    unfold aDZ;refine tJ l.Users (by rw[f];simp) _ (fun k i h=>by rw[f]at h;simp at h) (fun k=>?_);simp only[aDV,DW,BZ];exact q
   simp only[EW,BZ,Ac,s,Fe]
def atd (l:CO):aFC l=some (MS l):=by
 unfold aFC;rw[aQ1];rfl
def ajI (l:List ByteArray):Uk l []=some ((l.length:Int)==0):=by
 cases h:((l.length:Int)==0)with
 |true=>rw[TK h];exact ai4 (l:=[]) BU
 |false=>
  unfold Uk;show(bif ((l.length:Int) != 0)then some false else _)=_;simp only[bne,h,IX,Bg]
def jf (a0 f h j m n q s:Bool):Bool:=a0&&f&&h&&j&&m&&n&&q&&s
def aQv (c:CW):XW c EF=some (jf (c.Text.toList==Bf.toList) (c.N==0) (c.Target==0) (!c.Thread) (c.Via.toList==Bf.toList) ((c.Allow.length:Int)==0) ((c.iE.length:Int)==0) (MS c.Levels)):=by
 unfold XW jf;show(bif c.Text.toList==Bf.toList then some (c.N==0)else some false).bind _=_;simp only[show EF.Allow=[]from rfl,show EF.iE=[]from rfl,show EF.Levels=Iy from rfl,show EF.Target=0 from rfl,show EF.Thread=false from rfl,show EF.Via=Bf from rfl,ajI,aQ1,JZ,Ac,TI];congr 1;cases c.Thread<;>simp
def aAH (a0 f h j m n q s:Bool):Int:=
 let v:=bif !a0 then EP .or .i64 0 1 else 0
 let v:=bif !f then EP .or .i64 v 2 else v
 let v:=bif !h then EP .or .i64 v 4 else v
 let v:=bif !j then EP .or .i64 v 8 else v
 let v:=bif !m then EP .or .i64 v 16 else v
 let v:=bif !n then EP .or .i64 v 32 else v
 let v:=bif !q then EP .or .i64 v 64 else v
 bif !s then EP .or .i64 v 128 else v
def pos_eq {α:Type} (l:List α):decide ((l.length:Int)>0)= !((l.length:Int)==0):=by
 cases h:((l.length:Int)==0)with
 |true=>have :=eq_of_beq h;rw[EW,iG];omega
 |false=>have :=ne_of_beq_false h;rw[IX,Gi];omega
def agB (c:CW):sV c=some (aAH (c.Text.toList==Bf.toList) (c.N==0) (c.Target==0) (!c.Thread) (c.Via.toList==Bf.toList) ((c.Allow.length:Int)==0) ((c.iE.length:Int)==0) (MS c.Levels)):=by
 unfold sV aCJ aBU zS aFm aFR yE aBl aCf aAH;rw[bare_eq,pos_eq,pos_eq];simp only[Ac,bne,xQ];generalize(c.Text.toList==Bf.toList)=f;generalize(c.N==0)=h;generalize(c.Target==0)=j;generalize c.Thread=m;generalize(c.Via.toList==Bf.toList)=n;generalize((c.Allow.length:Int)==0)=q;generalize((c.iE.length:Int)==0)=s;generalize MS c.Levels=u;cases f<;>cases h<;>cases j<;>cases m<;>cases n<;>cases q<;>cases s<;>cases u<;>rfl
def aep :∀a0 f h j m n q s:Bool,(aAH a0 f h j m n q s==0)=jf a0 f h j m n q s:=Nq
def KW (f h j m n q s u a0 z I J L M O S:Bool):Bool:=(a0||f)&&(z||h)&&(I||j)&&(J||m)&&(L||n)&&(M||q)&&(O||s)&&(S||u)
def ace {K:Int} {c:CW} {f h j m n q s u:Bool} (z:CM K Gm=some f) (I:CM K Hq=some h) (J:CM K Hy=some j) (L:CM K KA=some m) (M:CM K Jy=some n) (O:CM K JE=some q) (S:CM K Jz=some s) (U:CM K Jt=some u):bI K c=some (KW f h j m n q s u (c.Text.toList==Bf.toList) (c.N==0) (c.Target==0) (!c.Thread) (c.Via.toList==Bf.toList) ((c.Allow.length:Int)==0) ((c.iE.length:Int)==0) (MS c.Levels)):=by
 unfold bI KW;simp only[z,I,J,L,M,O,S,U,atd,JZ,Ac,eP,TI]
def GU (x r:Option Int):Option Int:=x.bind fun v=>bif v != 0 then some v else r
def EG {x r:Option Int} (h:x=some 0):GU x r=r:=by rw[h];rfl
def ML {x y r s:Option Int} (h:Cc x y) (k:Cc r s):Cc (GU x r) (GU y s):=Cc.bind h fun _=>Cc.bif (fun _=>.ret _) fun _=>k
def SPr (x:Option Int):GU x (some 0)=x:=by
 cases x with
 |none=>rfl
 |some v=>
  show(bif v != 0 then some v else some 0)=some v;by_cases h:v=0
  ·subst h;rfl
  rw[show(v != 0)=true from by simpa using h];rfl
def aGQ {A:Type} (x:Option A):(x.bind fun v=>some v)=x:=by cases x<;>rfl
def NG (K:Int) (c:CW):Option Int:=GU (Wu K c) (GU (MP K c.N) (GU (WB K c) (GU (XC c) (bif K==4 then YQ c else GU (Qn c.Allow) (GU (Qn c.iE) (XK c.Levels))))))
def frame {K M kp:Int} {br:Bool} {c:CW} {h j m n q s u z:Bool} (S:jZ K=some M) (U:(decide (K≥1)&&decide (K≤14))=true) (I:kM K=some kp) (Y:aGe K=some br) (Z:CM K Gm=some h) (h1:CM K Hq=some j) (h2:CM K Hy=some m) (h3:CM K KA=some n) (h4:CM K Jy=some q) (h5:CM K JE=some s) (h6:CM K Jz=some u) (h7:CM K Jt=some z)
 (hM:∀a0 a1 a2 a3 a4 a5 a6 a7:Bool,(EP .andNot .i64 (aAH a0 a1 a2 a3 a4 a5 a6 a7) M != 0)= !KW h j m n q s u z a0 a1 a2 a3 a4 a5 a6 a7) (J:(br=true→kp=0)) (hA:kp=0→br=false→LK M K 0 c=some 0)
 (f:KW h j m n q s u z (c.Text.toList==Bf.toList) (c.N==0) (c.Target==0) (!c.Thread) (c.Via.toList==Bf.toList) ((c.Allow.length:Int)==0) ((c.iE.length:Int)==0) (MS c.Levels)=true→Cc (LK M K 0 c) (NG K c)):Cc (Kv K c) (J3 K c):=by
 have ht:J3 K c=(dK K).bind fun x1=>(bif (!x1)then some true else(bI K c).bind fun x4=>some (!x4)).bind fun x2=>(bif x2 then some 1 else(aGe K).bind fun x6=>(bif x6 then(XW c EF).bind fun x9=>some x9 else some false).bind fun x7=>(bif x7 then some 0 else NG K c)):=by
  unfold J3 NG GU;simp only[aGQ]
 rw[ht];unfold Kv;obtain⟨O,k2⟩:=yS K;rw[U]at O k2;rw[S,O,k2,agB,I,Y,ace Z h1 h2 h3 h4 h5 h6 h7,aQv];simp only[Ac,EW,BZ,hM,aep];cases ho:KW h j m n q s u z (c.Text.toList==Bf.toList) (c.N==0) (c.Target==0) (!c.Thread) (c.Via.toList==Bf.toList) ((c.Allow.length:Int)==0) ((c.iE.length:Int)==0) (MS c.Levels)with
 |false=>exact .ret _
 |true=>
  simp only[EW,BZ];have f:=f ho;cases ha:jf (c.Text.toList==Bf.toList) (c.N==0) (c.Target==0) (!c.Thread) (c.Via.toList==Bf.toList) ((c.Allow.length:Int)==0) ((c.iE.length:Int)==0) (MS c.Levels)with
  |false=>
   simp only[BZ,Ac];cases br<;>exact f
  |true=>
   simp only[Bg,Ac];cases L:kp==0 with
   |false=>
    cases br with
    |false=>exact f
    |true=>rw[J rfl]at L;cases L
   |true=>
    cases br with
    |true=>exact .ret _
    |false=>
     have e:=hA (eq_of_beq L) rfl;rw[e]at f;exact f
def Qq (M b:Int) (x r:Option Int):Option Int:=bif EP .and .i64 M b==0 then r else GU x r
def Zr {S B R:Type} (body:(S→B→Option R)→S→B→Option R) (n:Nat) (a:S) (b:B):aV body (n+1) a b=body (aV body n) a b:=rfl
def aq4 (M K:Int) (c:CW):LK M K 0 c=Qq M 1 (PY K c) (Qq M 2 (Nr K c) (Qq M 4 (RX K c) (Qq M 8 (aX K c) (Qq M 16 (YN K c) (Qq M 32 (VR K c)
 (bif EP .and .i64 M 64 != 0 then Vr c.iE else bif EP .and .i64 M 128 != 0 then ZG c.Levels else some 0)))))):=by
 have f:Az=9223372036854775801+1+1+1+1+1+1+1:=rfl;have h:∀k,XY M K k 0 c=Qq M 1 (PY K c) (k 1 c):=fun k=>rfl;have j:∀k,XY M K k 1 c=Qq M 2 (Nr K c) (k 2 c):=fun k=>rfl;have m:∀k,XY M K k 2 c=Qq M 4 (RX K c) (k 3 c):=fun k=>rfl;have n:∀k,XY M K k 3 c=Qq M 8 (aX K c) (k 4 c):=fun k=>rfl;have q:∀k,XY M K k 4 c=Qq M 16 (YN K c) (k 5 c):=fun k=>rfl;have s:∀k,XY M K k 5 c=Qq M 32 (VR K c) (k 6 c):=fun k=>rfl;have u:∀k,XY M K k 6 c=(bif EP .and .i64 M 64 != 0 then(Vr c.iE).bind fun x=>some x else bif EP .and .i64 M 128 != 0 then(ZG c.Levels).bind fun x=>some x else some 0):=fun k=>rfl;unfold LK;rw[f,Zr,h,Zr,j,Zr,m,Zr,n,Zr,q,Zr,s,Zr,u,aGQ,aGQ]
section
variable {c : CW} {K : Int}
def text0 (h:(c.Text.toList==Bf.toList)=true) (f:K≠12):Wu K c=some 0:=by
 have j:(c.Text.size:Int)=0:=by rw[aBh]at h;exact eq_of_beq h
 unfold Wu;rw[h,j,show(K==12)=false from by simpa using f];cases K==9<;>rfl
def U3 (h:CM K Hy=some false) (f:(!c.Thread)=true):WB K c=some 0:=by
 unfold WB;rw[h,show c.Thread=false from by simpa using f];rfl
def Pz (h:(c.Via.toList==Bf.toList)=true):XC c=some 0:=by unfold XC;rw[h];rfl
def JG {l:List ByteArray} (h:((l.length:Int)==0)=true):Qn l=some 0:=by
 rw[TK h];unfold Qn aMD;show bD (oK []) Az 0=some 0;rw[GL ([]:List ByteArray) Bd (fun _=>false) 0 (some 0) (fun k i h=>Hl) (fun k=>rfl)];rfl
def Qx {l:CO} (h:MS l=true):XK l=some 0:=by
 unfold MS at h;simp only[DJ]at h;obtain⟨⟨⟨⟨⟨⟨⟨⟨f,j⟩,m⟩,n⟩,q⟩,s⟩,u⟩,z⟩,I⟩:=h
 have J:Wy []=some 0:=by
  unfold Wy aKZ;show bD (oO []) Az 0=some 0;rw[GL ([]:List ByteArray) Bd (fun _=>false) 0 (some 0) (fun k i h=>Hl) (fun k=>rfl)];rfl
 have L:Wi []=some 0:=by
  unfold Wi aNA;show bD (aB3 []) Az 0=some 0;rw[GL ([]:List ByteArray) Bd (fun _=>false) 0 (some 0) (fun k i h=>Hl) (fun k=>rfl)];rfl
 unfold XK;rw[TK f,TK j,J,L,eq_of_beq m,eq_of_beq n,eq_of_beq q,eq_of_beq s,eq_of_beq u,eq_of_beq z,eq_of_beq I];rfl
def aj (j:KH c):Cc (PY K c) (Wu K c):=by
 have u:=j.text;obtain⟨m,n⟩:=aIf (s:=c.Text) AA;unfold PY aD3 Wu;rw[m,n];have e:=aBh c.Text;by_cases f:K=9
 ·subst f;cases h:(c.Text.toList==Bf.toList)with
  |false=>exact .ret _
  |true=>
   have q:(c.Text.size:Int)=0:=by rw[e]at h;exact eq_of_beq h
   rw[q];exact .ret _
 rw[show(K==9)=false from by simpa using f];cases K==12<;>cases(c.Text.toList==Bf.toList)<;>cases decide ((c.Text.size:Int)>32)<;>cases decide ((c.Text.size:Int)>400)<;>exact .ret _
def as5 (f:KH c):Cc (YN K c) (XC c):=by
 have m:=f.via;obtain⟨h,j⟩:=Wq (s:=c.Via) AA;unfold YN XC;rw[h,j];exact Cc.bif (fun _=>.ret _) fun _=>Cc.bif (fun _=>.ret _) fun _=>.ret _
def aHU (h:CM K Hy=some true) (f:(!c.Thread)=true):Cc (RX K c) (WB K c):=by
 unfold RX WB;rw[h,show c.Thread=false from by simpa using f];cases decide (c.Target<0)<;>cases c.Target==0<;>cases K != 11<;>exact .ret _
def ai8 (h:CM K Hy=some true):Cc (GU (RX K c) (aX K c)) (WB K c):=by
 unfold RX aX WB GU;rw[h];cases decide (c.Target<0)<;>cases c.Target==0<;>cases K != 11<;>cases c.Thread<;>exact .ret _
def ak2 (f:KH c):Cc (VR 6 c) (Qn c.Allow):=by
 have h:=f.allow;have :=ae1 (l:=c.Allow) AA f.allows;show Cc ((Vr c.Allow).bind fun x=>some x) _;rw[aGQ];exact this
end
def qA (a b:Int):decide (a≥b)= !decide (a<b):=by by_cases h:a<b<;>simp[h]<;>omega
def pI (a b:Int):decide (a≤b)= !decide (a>b):=by by_cases h:a>b<;>simp[h]<;>omega
def amo {c:CW} (hc:KH c):Cc (Kv 1 c) (J3 1 c):=by
 have m:CM 1 Gm=some false:=A8
 have n:CM 1 Hq=some false:=A8
 have j:CM 1 Hy=some false:=A8
 have q:CM 1 KA=some false:=A8
 have s:CM 1 Jy=some false:=A8
 have u:CM 1 JE=some false:=A8
 have z:CM 1 Jz=some false:=A8
 have I:CM 1 Jt=some false:=A8
 refine frame (M:=0) (kp:=0) (br:=false) rfl rfl rfl rfl m n j q s u z I Nq (fun h=>I4) (fun h h'=>rfl) fun f=>?_;unfold KW at f;simp only[O1,KP,NV,Fe,DJ]at f;obtain⟨⟨⟨⟨⟨⟨⟨J,e1⟩,e2⟩,L⟩,O⟩,S⟩,U⟩,Y⟩:=f;have Z:LK 0 1 0 c=(some 0):=P5
 rw[Z];unfold NG;rw[EG (text0 J Bd),EG (show MP 1 c.N=some 0 from rfl),EG (U3 j L),EG (Pz O),show((1:Int)==4)=false from rfl,BZ,EG (JG S),EG (JG U),Qx Y];exact .ret _
def agT (c:CW):Cc (Nr 2 c) (MP 2 c.N):=by
 show Cc ((bif decide (c.N<0)then some true else some (decide (c.N>4))).bind fun f=>(bif f then some 2 else some 0)) ((bif decide (c.N≥0)then some (decide (c.N≤4))else some false).bind fun h=>(bif (!h)then some 2 else some 0));rw[qA,pI];cases decide (c.N<0)<;>cases decide (c.N>4)<;>exact .ret _
def aoD {c:CW} (j:KH c):Cc (Kv 2 c) (J3 2 c):=by
 have n:CM 2 Gm=some true:=A8
 have q:CM 2 Hq=some true:=A8
 have m:CM 2 Hy=some false:=A8
 have s:CM 2 KA=some false:=A8
 have u:CM 2 Jy=some true:=A8
 have z:CM 2 JE=some false:=A8
 have I:CM 2 Jz=some false:=A8
 have J:CM 2 Jt=some false:=A8
 refine frame (M:=19) (kp:=18) (br:=false) rfl rfl rfl rfl n q m s u z I J Nq (fun h=>I4) (fun h h'=>I4) fun f=>?_;unfold KW at f;simp only[O1,KP,NV,Fe,DJ]at f;obtain⟨⟨⟨⟨Z,L⟩,O⟩,S⟩,U⟩:=f;have Y:LK 19 2 0 c=(GU (PY 2 c) (GU (Nr 2 c) (GU (YN 2 c) (some 0)))):=P5
 rw[Y];unfold NG;rw[EG (U3 m L),show((2:Int)==4)=false from rfl,BZ,EG (JG O),EG (JG S),Qx U];exact ML (aj j) (ML (agT c) (ML (as5 j) (.ret _)))
def ao9 {c:CW} (f:KH c):Cc (Kv 3 c) (J3 3 c):=by
 have n:CM 3 Gm=some false:=A8
 have q:CM 3 Hq=some false:=A8
 have m:CM 3 Hy=some false:=A8
 have s:CM 3 KA=some false:=A8
 have u:CM 3 Jy=some false:=A8
 have z:CM 3 JE=some false:=A8
 have I:CM 3 Jz=some false:=A8
 have J:CM 3 Jt=some true:=A8
 refine frame (M:=128) (kp:=128) (br:=false) rfl rfl rfl rfl n q m s u z I J Nq (fun h=>I4) (fun h h'=>I4) fun j=>?_;unfold KW at j;simp only[O1,KP,NV,Fe,DJ]at j;obtain⟨⟨⟨⟨⟨⟨L,e1⟩,e2⟩,O⟩,S⟩,U⟩,Y⟩:=j;have Z:LK 128 3 0 c=(ZG c.Levels):=P5
 rw[Z];unfold NG;rw[EG (text0 L Bd),EG (show MP 3 c.N=some 0 from rfl),EG (U3 m O),EG (Pz S),show((3:Int)==4)=false from rfl,BZ,EG (JG U),EG (JG Y)];exact akO f.users f.kinds f.names
def aru (c:CW):Cc (Nr 4 c) (MP 4 c.N):=by
 show Cc ((bif decide (c.N<0)then some true else some (decide (c.N>3))).bind fun f=>(bif f then some 2 else some 0)) ((bif decide (c.N≥0)then some (decide (c.N≤3))else some false).bind fun h=>(bif (!h)then some 2 else some 0));rw[qA,pI];cases decide (c.N<0)<;>cases decide (c.N>3)<;>exact .ret _
def anb {c:CW} (m:KH c):Cc (Kv 4 c) (J3 4 c):=by
 have n:CM 4 Gm=some false:=A8
 have q:CM 4 Hq=some true:=A8
 have j:CM 4 Hy=some false:=A8
 have s:CM 4 KA=some false:=A8
 have u:CM 4 Jy=some false:=A8
 have z:CM 4 JE=some true:=A8
 have I:CM 4 Jz=some false:=A8
 have J:CM 4 Jt=some false:=A8
 refine frame (M:=34) (kp:=34) (br:=false) rfl rfl rfl rfl n q j s u z I J Nq (fun h=>I4) (fun h h'=>I4) fun f=>?_;unfold KW at f;simp only[O1,KP,NV,Fe,DJ]at f;obtain⟨⟨⟨⟨⟨L,Y⟩,O⟩,S⟩,Z⟩,e7⟩:=f;have U:LK 34 4 0 c=(GU (Nr 4 c) (GU (VR 4 c) (some 0))):=P5
 rw[U];unfold NG;rw[EG (text0 L Bd),EG (U3 j O),EG (Pz S),show((4:Int)==4)=true from rfl,Bg];rw[SPr];exact ML (aru c) (am0 m)
def aje (c:CW):Cc (Nr 5 c) (MP 5 c.N):=by
 show Cc ((bif decide (c.N<0)then some true else some (decide (c.N>3))).bind fun f=>(bif f then some 2 else some 0)) ((bif decide (c.N≥0)then some (decide (c.N≤3))else some false).bind fun h=>(bif (!h)then some 2 else some 0));rw[qA,pI];cases decide (c.N<0)<;>cases decide (c.N>3)<;>exact .ret _
def amO {c:CW} (hc:KH c):Cc (Kv 5 c) (J3 5 c):=by
 have m:CM 5 Gm=some false:=A8
 have n:CM 5 Hq=some true:=A8
 have j:CM 5 Hy=some false:=A8
 have q:CM 5 KA=some false:=A8
 have s:CM 5 Jy=some false:=A8
 have u:CM 5 JE=some false:=A8
 have z:CM 5 Jz=some false:=A8
 have I:CM 5 Jt=some false:=A8
 refine frame (M:=2) (kp:=2) (br:=false) rfl rfl rfl rfl m n j q s u z I Nq (fun h=>I4) (fun h h'=>I4) fun f=>?_;unfold KW at f;simp only[O1,KP,NV,Fe,DJ]at f;obtain⟨⟨⟨⟨⟨⟨J,e2⟩,L⟩,O⟩,S⟩,U⟩,Y⟩:=f;have Z:LK 2 5 0 c=(GU (Nr 5 c) (some 0)):=P5
 rw[Z];unfold NG;rw[EG (text0 J Bd),EG (U3 j L),EG (Pz O),show((5:Int)==4)=false from rfl,BZ,EG (JG S),EG (JG U),Qx Y];exact ML (aje c) (.ret _)
def as2 {c:CW} (f:KH c):Cc (Kv 6 c) (J3 6 c):=by
 have q:CM 6 Gm=some false:=A8
 have m:CM 6 Hq=some false:=A8
 have n:CM 6 Hy=some false:=A8
 have s:CM 6 KA=some false:=A8
 have u:CM 6 Jy=some false:=A8
 have z:CM 6 JE=some true:=A8
 have I:CM 6 Jz=some true:=A8
 have J:CM 6 Jt=some false:=A8
 refine frame (M:=96) (kp:=96) (br:=false) rfl rfl rfl rfl q m n s u z I J Nq (fun h=>I4) (fun h h'=>I4) fun j=>?_;unfold KW at j;simp only[O1,KP,NV,Fe,DJ]at j;obtain⟨⟨⟨⟨⟨L,Z⟩,e2⟩,O⟩,S⟩,U⟩:=j;have Y:LK 96 6 0 c=(GU (VR 6 c) (Vr c.iE)):=P5
 rw[Y];unfold NG;rw[EG (text0 L Bd),EG (show MP 6 c.N=some 0 from rfl),EG (U3 n O),EG (Pz S),show((6:Int)==4)=false from rfl,BZ,Qx U];have m:=f.deny;rw[SPr];exact ML (ak2 f) (ae1 AA f.denies)
def alh {c:CW} (m:KH c):Cc (Kv 7 c) (J3 7 c):=by
 have n:CM 7 Gm=some true:=A8
 have q:CM 7 Hq=some false:=A8
 have j:CM 7 Hy=some false:=A8
 have s:CM 7 KA=some false:=A8
 have u:CM 7 Jy=some false:=A8
 have z:CM 7 JE=some false:=A8
 have I:CM 7 Jz=some false:=A8
 have J:CM 7 Jt=some false:=A8
 refine frame (M:=1) (kp:=0) (br:=true) rfl rfl rfl rfl n q j s u z I J Nq (fun h=>rfl) (fun h h'=>bC) fun f=>?_;unfold KW at f;simp only[O1,KP,NV,Fe,DJ]at f;obtain⟨⟨⟨⟨⟨⟨e1,e2⟩,L⟩,O⟩,S⟩,U⟩,Y⟩:=f;have Z:LK 1 7 0 c=(GU (PY 7 c) (some 0)):=P5
 rw[Z];unfold NG;rw[EG (show MP 7 c.N=some 0 from rfl),EG (U3 j L),EG (Pz O),show((7:Int)==4)=false from rfl,BZ,EG (JG S),EG (JG U),Qx Y];exact ML (aj m) (.ret _)
def aiO (c:CW):Cc (Nr 8 c) (MP 8 c.N):=by
 show Cc ((bif decide (c.N<0)then some true else some (decide (c.N>1000000000))).bind fun f=>(bif f then some 2 else some 0)) ((bif decide (c.N≥0)then some (decide (c.N≤1000000000))else some false).bind fun h=>(bif (!h)then some 2 else some 0));rw[qA,pI];cases decide (c.N<0)<;>cases decide (c.N>1000000000)<;>exact .ret _
def afH {c:CW} (hc:KH c):Cc (Kv 8 c) (J3 8 c):=by
 have m:CM 8 Gm=some false:=A8
 have n:CM 8 Hq=some true:=A8
 have j:CM 8 Hy=some false:=A8
 have q:CM 8 KA=some false:=A8
 have s:CM 8 Jy=some false:=A8
 have u:CM 8 JE=some false:=A8
 have z:CM 8 Jz=some false:=A8
 have I:CM 8 Jt=some false:=A8
 refine frame (M:=2) (kp:=0) (br:=true) rfl rfl rfl rfl m n j q s u z I Nq (fun h=>rfl) (fun h h'=>bC) fun f=>?_;unfold KW at f;simp only[O1,KP,NV,Fe,DJ]at f;obtain⟨⟨⟨⟨⟨⟨J,e2⟩,L⟩,O⟩,S⟩,U⟩,Y⟩:=f;have Z:LK 2 8 0 c=(GU (Nr 8 c) (some 0)):=P5
 rw[Z];unfold NG;rw[EG (text0 J Bd),EG (U3 j L),EG (Pz O),show((8:Int)==4)=false from rfl,BZ,EG (JG S),EG (JG U),Qx Y];exact ML (aiO c) (.ret _)
def aiB (c:CW):Cc (Nr 9 c) (MP 9 c.N):=by
 show Cc ((bif (c.N==1)then some true else some (c.N==2)).bind fun f=>(bif f then some true else some (c.N==6)).bind fun h=>(bif h then some 0 else some 2)) ((bif (c.N==1)then some true else some (c.N==2)).bind fun j=>(bif j then some true else some (c.N==6)).bind fun m=>(bif (!m)then some 2 else some 0));cases c.N==1<;>cases c.N==2<;>cases c.N==6<;>exact .ret _
def amE {c:CW} (m:KH c):Cc (Kv 9 c) (J3 9 c):=by
 have n:CM 9 Gm=some true:=A8
 have q:CM 9 Hq=some true:=A8
 have j:CM 9 Hy=some false:=A8
 have s:CM 9 KA=some false:=A8
 have u:CM 9 Jy=some false:=A8
 have z:CM 9 JE=some false:=A8
 have I:CM 9 Jz=some false:=A8
 have J:CM 9 Jt=some false:=A8
 refine frame (M:=3) (kp:=0) (br:=true) rfl rfl rfl rfl n q j s u z I J Nq (fun h=>rfl) (fun h h'=>bC) fun f=>?_;unfold KW at f;simp only[O1,KP,NV,Fe,DJ]at f;obtain⟨⟨⟨⟨⟨e2,L⟩,O⟩,S⟩,U⟩,Y⟩:=f;have Z:LK 3 9 0 c=(GU (PY 9 c) (GU (Nr 9 c) (some 0))):=P5
 rw[Z];unfold NG;rw[EG (U3 j L),EG (Pz O),show((9:Int)==4)=false from rfl,BZ,EG (JG S),EG (JG U),Qx Y];exact ML (aj m) (ML (aiB c) (.ret _))
def aqH (c:CW):Cc (Nr 10 c) (MP 10 c.N):=by
 show Cc ((bif decide (c.N<1)then some true else some (decide (c.N>10000))).bind fun f=>(bif f then some 2 else some 0)) ((bif decide (c.N≥1)then some (decide (c.N≤10000))else some false).bind fun h=>(bif (!h)then some 2 else some 0));rw[qA,pI];cases decide (c.N<1)<;>cases decide (c.N>10000)<;>exact .ret _
def agA {c:CW} (hc:KH c):Cc (Kv 10 c) (J3 10 c):=by
 have m:CM 10 Gm=some false:=A8
 have n:CM 10 Hq=some true:=A8
 have j:CM 10 Hy=some false:=A8
 have q:CM 10 KA=some false:=A8
 have s:CM 10 Jy=some false:=A8
 have u:CM 10 JE=some false:=A8
 have z:CM 10 Jz=some false:=A8
 have I:CM 10 Jt=some false:=A8
 refine frame (M:=2) (kp:=0) (br:=true) rfl rfl rfl rfl m n j q s u z I Nq (fun h=>rfl) (fun h h'=>bC) fun f=>?_;unfold KW at f;simp only[O1,KP,NV,Fe,DJ]at f;obtain⟨⟨⟨⟨⟨⟨J,e2⟩,L⟩,O⟩,S⟩,U⟩,Y⟩:=f;have Z:LK 2 10 0 c=(GU (Nr 10 c) (some 0)):=P5
 rw[Z];unfold NG;rw[EG (text0 J Bd),EG (U3 j L),EG (Pz O),show((10:Int)==4)=false from rfl,BZ,EG (JG S),EG (JG U),Qx Y];exact ML (aqH c) (.ret _)
def aii {c:CW} (m:KH c):Cc (Kv 11 c) (J3 11 c):=by
 have n:CM 11 Gm=some true:=A8
 have q:CM 11 Hq=some false:=A8
 have j:CM 11 Hy=some true:=A8
 have s:CM 11 KA=some true:=A8
 have u:CM 11 Jy=some false:=A8
 have z:CM 11 JE=some false:=A8
 have I:CM 11 Jz=some false:=A8
 have J:CM 11 Jt=some false:=A8
 refine frame (M:=13) (kp:=0) (br:=true) rfl rfl rfl rfl n q j s u z I J Nq (fun h=>rfl) (fun h h'=>bC) fun f=>?_;unfold KW at f;simp only[O1,KP,NV,Fe,DJ]at f;obtain⟨⟨⟨⟨Z,L⟩,O⟩,S⟩,U⟩:=f;have Y:LK 13 11 0 c=(GU (PY 11 c) (GU (RX 11 c) (GU (aX 11 c) (some 0)))):=P5
 rw[Y];unfold NG;rw[EG (show MP 11 c.N=some 0 from rfl),EG (Pz L),show((11:Int)==4)=false from rfl,BZ,EG (JG O),EG (JG S),Qx U];rw[SPr,SPr];exact ML (aj m) (ai8 j)
def af6 {c:CW} (m:KH c):Cc (Kv 12 c) (J3 12 c):=by
 have n:CM 12 Gm=some true:=A8
 have q:CM 12 Hq=some false:=A8
 have j:CM 12 Hy=some true:=A8
 have s:CM 12 KA=some false:=A8
 have u:CM 12 Jy=some false:=A8
 have z:CM 12 JE=some false:=A8
 have I:CM 12 Jz=some false:=A8
 have J:CM 12 Jt=some false:=A8
 refine frame (M:=5) (kp:=0) (br:=true) rfl rfl rfl rfl n q j s u z I J Nq (fun h=>rfl) (fun h h'=>bC) fun f=>?_;unfold KW at f;simp only[O1,KP,NV,Fe,DJ]at f;obtain⟨⟨⟨⟨⟨e1,L⟩,O⟩,S⟩,U⟩,Y⟩:=f;have Z:LK 5 12 0 c=(GU (PY 12 c) (GU (RX 12 c) (some 0))):=P5
 rw[Z];unfold NG;rw[EG (show MP 12 c.N=some 0 from rfl),EG (Pz O),show((12:Int)==4)=false from rfl,BZ,EG (JG S),EG (JG U),Qx Y];exact ML (aj m) (ML (aHU j L) (.ret _))
def agl {c:CW} (m:KH c):Cc (Kv 13 c) (J3 13 c):=by
 have n:CM 13 Gm=some true:=A8
 have q:CM 13 Hq=some false:=A8
 have j:CM 13 Hy=some true:=A8
 have s:CM 13 KA=some false:=A8
 have u:CM 13 Jy=some false:=A8
 have z:CM 13 JE=some false:=A8
 have I:CM 13 Jz=some false:=A8
 have J:CM 13 Jt=some false:=A8
 refine frame (M:=5) (kp:=0) (br:=true) rfl rfl rfl rfl n q j s u z I J Nq (fun h=>rfl) (fun h h'=>bC) fun f=>?_;unfold KW at f;simp only[O1,KP,NV,Fe,DJ]at f;obtain⟨⟨⟨⟨⟨e1,L⟩,O⟩,S⟩,U⟩,Y⟩:=f;have Z:LK 5 13 0 c=(GU (PY 13 c) (GU (RX 13 c) (some 0))):=P5
 rw[Z];unfold NG;rw[EG (show MP 13 c.N=some 0 from rfl),EG (Pz O),show((13:Int)==4)=false from rfl,BZ,EG (JG S),EG (JG U),Qx Y];exact ML (aj m) (ML (aHU j L) (.ret _))
def alY {c:CW} (m:KH c):Cc (Kv 14 c) (J3 14 c):=by
 have n:CM 14 Gm=some true:=A8
 have q:CM 14 Hq=some false:=A8
 have j:CM 14 Hy=some true:=A8
 have s:CM 14 KA=some false:=A8
 have u:CM 14 Jy=some false:=A8
 have z:CM 14 JE=some false:=A8
 have I:CM 14 Jz=some false:=A8
 have J:CM 14 Jt=some false:=A8
 refine frame (M:=5) (kp:=4) (br:=false) rfl rfl rfl rfl n q j s u z I J Nq (fun h=>I4) (fun h h'=>I4) fun f=>?_;unfold KW at f;simp only[O1,KP,NV,Fe,DJ]at f;obtain⟨⟨⟨⟨⟨e1,L⟩,O⟩,S⟩,U⟩,Y⟩:=f;have Z:LK 5 14 0 c=(GU (PY 14 c) (GU (RX 14 c) (some 0))):=P5
 rw[Z];unfold NG;rw[EG (show MP 14 c.N=some 0 from rfl),EG (Pz O),show((14:Int)==4)=false from rfl,BZ,EG (JG S),EG (JG U),Qx Y];exact ML (aj m) (ML (aHU j L) (.ret _))
def agX (k:Int) {c:CW} (h:KH c):Cc (Kv k c) (J3 k c):=by
 cases j:decide (k≥1)&&decide (k≤14)with
 |false=>
  obtain⟨m,k2⟩:=yS k;rw[j]at m k2
  have f:∀n:Int,1≤n→n≤14→(k==n)=false:=fun n q s=>by
   rw[lu];rintro rfl;rw[Ib (show k≥1 from q),Ib s]at j;cases j
  have u:jZ k=some 0:=by
   unfold jZ nI rE;rw[f 2 Bd Bd,f 3 Bd Bd,f 4 Bd Bd,f 5 Bd Bd,f 8 Bd Bd,f 10 Bd Bd,f 6 Bd Bd,f 7 Bd Bd,f 9 Bd Bd,f 11 Bd Bd,f 12 Bd Bd,f 13 Bd Bd,f 14 Bd Bd];rfl
  unfold Kv J3;rw[u,m,k2];exact .ret _
 |true=>
  simp only[DJ,Gi]at j;have :k=1∨k=2∨k=3∨k=4∨k=5∨k=6∨k=7∨k=8∨k=9∨k=10∨k=11∨k=12∨k=13∨k=14:=AA
  rcases this with rfl|rfl|rfl|rfl|rfl|rfl|rfl|rfl|rfl|rfl|rfl|rfl|rfl|rfl
  ·exact amo h
  ·exact aoD h
  ·exact ao9 h
  ·exact anb h
  ·exact amO h
  ·exact as2 h
  ·exact alh h
  ·exact afH h
  ·exact amE h
  ·exact agA h
  ·exact aii h
  ·exact af6 h
  ·exact agl h
  exact alY h
def NZ {α:Type} (p:α→α→Bool) (a b:List α):Bool:=((a.length:Int)==(b.length:Int))&& !((a.zip b).any fun x=> !p x.1 x.2)
def kJ {α R:Type} {body:(Int→Option R)→Int→Option R} (p:α→α→Bool) (a b:List α) (ha:a.length≤1000) (j:a.length=b.length) (bad:R) (rest:Option R)
 (m:∀k (i:Nat) (h:i<a.length) (h':i<b.length),body k (i:Int)=bif !p a[i] b[i]then some bad else k (BA ((i:Int)+1))) (n:∀k,body k (a.length:Int)=rest):bD body Az 0=bif (a.zip b).any fun x=> !p x.1 x.2 then some bad else rest:=by
 have f:(a.zip b).length=a.length:=Dy
 refine GL (a.zip b) (by rw[f];exact vS AA) (fun x=> !p x.1 x.2) bad rest (fun k i h=>?_) (fun k=>by rw[f];exact n k);have q:i<a.length:=AA
 have s:i<b.length:=AA
 rw[m k i q s,aNd]
def len_eq {α:Type} {a b:List α} (h:((a.length:Int)==(b.length:Int))=true):a.length=b.length:=aND
def VA (x y:ByteArray):Bool:=x.toList==y.toList
def Vs (x y:Gl):Bool:=x.User.toList==y.User.toList&&x.N==y.N
def U8 (x y:Ij):Bool:=x.Kind==y.Kind&&x.N==y.N
def yw {a b:List ByteArray} (ha:a.length≤1000):sW a b=some (NZ VA a b)∧Uk a b=some (NZ VA a b):=by
 unfold sW Uk NZ;simp only[bne];cases h:((a.length:Int)==(b.length:Int))with
 |false=>exact⟨rfl,rfl⟩
 |true=>
  have f:=len_eq h;simp only[EW,BZ,Fe];unfold aRa aLg
  rw[kJ VA a b ha f false (some true) (fun k i h h'=>by simp only[aMc,dec_lt h,Bg,CQ h,CQ h',Ac];rfl) (fun k=>by simp only[aMc,DW,BZ]),
   kJ VA a b ha f false (some true) (fun k i h h'=>by simp only[qo,dec_lt h,Bg,CQ h,CQ h',Ac];rfl) (fun k=>by simp only[qo,DW,BZ])]
  cases(a.zip b).any fun x=> !VA x.1 x.2<;>exact⟨rfl,rfl⟩
def akU {a b:List Gl} (ha:a.length≤1000):aAu a b=some (NZ Vs a b):=by
 unfold aAu NZ;simp only[bne];cases h:((a.length:Int)==(b.length:Int))with
 |false=>rfl
 |true=>
  have f:=len_eq h;simp only[EW,BZ,Fe];unfold aPF;rw[kJ Vs a b ha f false (some true) (fun k i h h'=>by simp only[aIO,dec_lt h,Bg,CQ h,CQ h',Ac,aDY,Vs,NV]) (fun k=>by simp only[aIO,DW,BZ])];cases(a.zip b).any fun x=> !Vs x.1 x.2<;>rfl
def aey {a b:List Ij} (ha:a.length≤1000):aBQ a b=some (NZ U8 a b):=by
 unfold aBQ NZ;simp only[bne];cases h:((a.length:Int)==(b.length:Int))with
 |false=>rfl
 |true=>
  have f:=len_eq h;simp only[EW,BZ,Fe];unfold aQC;rw[kJ U8 a b ha f false (some true) (fun k i h h'=>by simp only[aHT,dec_lt h,Bg,CQ h,CQ h',Ac,aDH,U8,NV]) (fun k=>by simp only[aHT,DW,BZ])];cases(a.zip b).any fun x=> !U8 x.1 x.2<;>rfl
def zY (a b:CO):Bool:=(a.User==b.User)&&(a.Message==b.Message)&&(a.State==b.State)&&(a.gB==b.gB)&&(a.jI==b.jI)&&(a.lV==b.lV)&&(a.gQ==b.gQ)
def aAp (a b:CO):Bool:=NZ Vs a.Users b.Users&&(NZ U8 a.Kinds b.Kinds&&zY a b)
def ag1 {a b:CO} (f:a.Users.length≤1000) (j:a.Kinds.length≤1000):aJ a b=some (aAp a b):=by
 unfold aJ aAp NZ;simp only[bne];cases m:((a.Users.length:Int)==(b.Users.length:Int))with
 |false=>rfl
 |true=>
  cases n:((a.Kinds.length:Int)==(b.Kinds.length:Int))with
  |false=>simp
  |true=>
   have q:=len_eq m;have ek:=len_eq n
   have s:iQ a b 0=bif (a.Kinds.zip b.Kinds).any fun x=> !U8 x.1 x.2 then some false else some (zY a b):=by
    unfold iQ;refine kJ U8 a.Kinds b.Kinds j ek false (some (zY a b)) (fun k i h h'=>?_) (fun k=>?_)
    ·simp only[aBY,dec_lt h,Bg,CQ h,CQ h',Ac,aD0,U8,bne];cases a.Kinds[i].Kind==b.Kinds[i].Kind<;>cases a.Kinds[i].N==b.Kinds[i].N<;>rfl
    simp only[aBY,DW,BZ,JZ,Ac,TI];rfl
   simp only[EW,BZ,Ac,Fe];unfold aDZ
   rw[kJ Vs a.Users b.Users f q false (iQ a b 0) (fun k i h h'=>by
    simp only[aDV,dec_lt h,Bg,CQ h,CQ h',Ac,aDc,Vs,bne]
    cases a.Users[i].User.toList==b.Users[i].User.toList<;>cases a.Users[i].N==b.Users[i].N<;>rfl) (fun k=>by simp only[aDV,DW,BZ]),s]
   cases(a.Users.zip b.Users).any fun x=> !Vs x.1 x.2<;>cases(a.Kinds.zip b.Kinds).any fun x=> !U8 x.1 x.2<;>rfl
def zk (a b:CW):Bool:=(a.Text.toList==b.Text.toList)&&(a.N==b.N)&&(a.Target==b.Target)&&(a.Thread==b.Thread)&&(a.Via.toList==b.Via.toList)&&NZ VA a.Allow b.Allow&&NZ VA a.iE b.iE&&aAp a.Levels b.Levels
def af5 {a:CW} (b:CW) (ha:Rt a):XW a b=some (zk a b):=by
 have f:=ha.allow;have h:=ha.deny;have j:=ha.users;have m:=ha.kinds;unfold XW zk;rw[(yw (a:=a.Allow) AA).2,(yw (a:=a.iE) AA).2,ag1 (a:=a.Levels) AA AA];simp only[JZ,Ac,TI]
def aos {a:CW} (b:CW) (ha:Rt a):aDt a b=some (zk a b):=by
 have u:=ha.allow;have z:=ha.deny;have I:=ha.users;have J:=ha.kinds;unfold aDt zk aAp zY;rw[(yw (a:=a.Allow) AA).1,(yw (a:=a.iE) AA).1,akU (a:=a.Levels.Users) AA,aey (a:=a.Levels.Kinds) AA];simp only[JZ,Ac,TI,eP,bne];generalize(a.Text.toList==b.Text.toList)=f;generalize(a.N==b.N)=h;generalize(a.Target==b.Target)=j;generalize(a.Thread==b.Thread)=m;generalize(a.Via.toList==b.Via.toList)=n;generalize NZ VA a.Allow b.Allow=q;generalize NZ VA a.iE b.iE=s;generalize NZ Vs a.Levels.Users b.Levels.Users=L;generalize NZ U8 a.Levels.Kinds b.Levels.Kinds=M;cases f<;>cases h<;>cases j<;>cases m<;>cases n<;>cases q<;>cases s<;>first|rfl|(simp only[EW,Bool.or_self,BZ,Fe,Bool.and_self,Bool.and_assoc])
def akM {e:AY} (f:Oy e) (v:Bool):Cc (Xr e v) ((Ro e v).bind fun h=>(bif (h != 0)then some h else(J3 e.Kind e.Content).bind fun n=>some n)):=by
 have U:=f.room;have Y:=f.sender;have Z:=f.key;have h4:=f.prev;have h5:=f.auth;unfold Xr Ro;rw[ah8 f,(vg (s:=e.Room) AA).2,(Wq (s:=e.bG) AA).2,acW AA];cases v with
 |true=>exact .ret _
 |false=>
  simp only[BZ,Ac,bne,JZ,eP];generalize(Tv e.Room==0)=a;generalize(QL e.bG==0)=b;generalize U1 e.Kind e.Key=u;cases a with
  |false=>exact .ret _
  |true=>
   cases b with
   |false=>exact .ret _
   |true=>
    cases u with
    |false=>exact .ret _
    |true=>
     simp only[EW,Bool.or_self,Bool.and_self,BZ,aDI];refine Cc.bif (fun _=>.ret _) fun _=>Cc.bif (fun _=>.ret _) fun hlen=>?_;simp only[yu,iG]at hlen;obtain⟨z,I,J⟩:=aQH (l:=e.bK) AA;obtain⟨L,M,O⟩:=aQH (l:=e.bM) AA;rw[I,M,J,O];simp only[Ac,JZ,eP,aDI];cases z with
     |false=>exact .ret _
     |true=>
     cases L with
     |false=>exact .ret _
     |true=>
     simp only[EW,BZ]
     have S:decide ((BA ((e.bK.length:Int)+(e.bM.length:Int)))>0)=(decide ((e.bK.length:Int)>0)||decide ((e.bM.length:Int)>0)):=by
      rw[PN AA AA];by_cases j:(e.bK.length:Int)>0
      ·rw[Ib j,Ib AA];rfl
      by_cases m:(e.bM.length:Int)>0
      ·rw[Ib m,Ib AA,O1]
      rw[Ir j,Ir m,Ir AA];rfl
     rw[S];generalize(bif ((e.bK.length:Int)==0)then !e.Kind==1 else false)=p;generalize(bif (e.Kind==1)then(decide ((e.bK.length:Int)>0)||decide ((e.bM.length:Int)>0))else false)=q;cases p with
     |true=>exact .ret _
     |false=>
      cases q with
      |true=>exact .ret _
      |false=>exact Cc.bind (agX e.Kind f.content) fun x=>.ret _
def ao2 {e:AY} (h:Oy e):Cc (aC8 e) (bU e):=by
 have f:=akM h;unfold aC8 bU zM;rw[show ZY e.Kind=SL e.Kind from rfl];simp only[aDI,bne,JZ,Ac];refine Cc.bif (fun _=>f _) fun _=>Cc.bif (fun _=>f _) fun _=>?_;have j:∃b,SL e.Kind=some b:=by unfold SL;cases decide (e.Kind≥1)<;>cases decide (e.Kind≤10)<;>exact⟨_,rfl⟩
 obtain⟨b,m⟩:=j;rw[m];simp only[Ac,aDI];refine Cc.bif (fun _=>f _) fun _=>Cc.bif (fun _=>?_) fun _=>f _;cases e.Kind==2 with
 |true=>exact f _
 |false=>exact f _
def abj {e:AY} (f:SX e):ig e=some (mO e==e.Hash)∧yH e=some (mO e==e.Hash):=by
 unfold ig yH;rw[(aSD f).1,(aSD f).2];exact⟨rfl,rfl⟩
def aqz {e:AY} (f:SX e) (v:Bool):Cc (aB e v) (jq e v):=by
 have q:e.bG.size≤2000:=f.sender;unfold aB jq;obtain⟨h,j⟩:=aTf f;obtain⟨m,n⟩:=kP (s:=e.bG) AA;rw[h,j,m,n];refine Cc.bif (fun _=>.ret _) fun _=>?_;simp only[Ac];refine Cc.bif (fun _=>.ret _) fun _=>?_;unfold aES aBt;show Cc (bif !((e.qR.Server.toList==(splitB e.bG (JU e.bG)).2.1.toList)&&((e.qR.Sum==e.Id)&&true))then some 12 else some 0) _;simp only[bne];cases(e.qR.Server.toList==(splitB e.bG (JU e.bG)).2.1.toList)<;>cases(e.qR.Sum==e.Id)<;>exact .ret _
def JI {a:Int} {c:Bool} {X:Option Int} (h:(bif c then some a else X)=some 0) (ha:a≠0):c=false∧X=some 0:=by
 cases c with
 |true=>exact absurd (Cm h) ha
 |false=>exact⟨rfl,h⟩
def Sj {a:Int} {x:Option Int} (h:(bif a != 0 then some a else x)=some 0):a=0∧x=some 0:=by
 by_cases ha:a=0
 ·subst ha;exact⟨rfl,h⟩
 rw[show(a != 0)=true from by simpa using ha]at h;exact absurd (Cm h) ha
def firsts {α R:Type} {body:(Int→Option R)→Int→Option R} {ok:R} (l:List α) (L:l.length≤9223372036854775807) (P:Nat→Prop)
 (u:∀k (i:Nat),i<l.length→body k (i:Int)=some ok→P i∧k ((i+1:Nat):Int)=some ok) (q:Nat) (h:bD body Az (q:Int)=some ok):∀i,q≤i→i<l.length→P i:=by
 have key:∀n (i:Nat) m,i+n=l.length→n<m→bD body m (i:Int)=some ok→∀j,i≤j→j<l.length→P j:=by
  intro n
  induction n with
  |zero=>intro i m hi _ _ j f s;omega
  |succ n z=>
   intro i m hi M I j f s;obtain⟨m,rfl⟩:∃J,m=J+1:=⟨m-1,AA⟩
   obtain⟨a,b⟩:=u (bD body m) i AA I;rcases aKg f with rfl|f
   ·exact a
   exact z (i+1) m AA AA b j f s
 intro i f s;have O:Az=9223372036854775808:=rfl;exact key (l.length-q) q Az AA AA h i f s
def nO {α:Type} {l:List α} {Q:α→Prop} (h:∀i,0≤i→i<l.length→∀x,l[i]? =some x→Q x):∀x∈l,Q x:=fun x f=>by
 obtain⟨i,hi,rfl⟩:=Ii f;exact h i (EY _) hi _ (Dn hi)
def aqY (s:ByteArray) (a b:Nat) (f:b≤s.size):(s.extract a b).size=b-a:=by rw[aHx];omega
def aS7 {l:List Int} {p:Int→Bool} (h:PV l p=true):l.length≤32:=(aTe h).2
def tu {s:ByteArray} {m:Int} (h:GV s m=true):s.size≤100:=by
 unfold GV Ru at h;simp only[DJ,Gi]at h;have n:=h.2.1.1;have f:=aS7 h.2.1.2
 have j:(Bv (Qk s)).length≤32:=by
  have :=h.2.2;unfold Y7 at this;simp only[DJ]at this;exact aS7 this.1.1
 rw[Gx]at f j;unfold U2 at f;unfold Qk at j;rw[aqY _ _ _ AA]at f j;omega
def aaR {s:ByteArray} (j:s.size≤9223372036854775807) (h:Xc s=some 0):s.size≤100∧GV s 64=true:=by
 rw[(Wq j).2]at h;have h:=Cm h;unfold QL at h;cases f:GV s 64 with
 |true=>exact⟨tu f,rfl⟩
 |false=>rw[f]at h;cases h
def ap5 {s:ByteArray} (j:s.size≤9223372036854775807) (h:jA s=some 0):s.size≤100∧GV s 33=true:=by
 rw[(vg j).2]at h;have h:=Cm h;unfold Tv at h;cases f:GV s 33 with
 |true=>exact⟨tu f,rfl⟩
 |false=>rw[f]at h;cases h
def aPP {s:ByteArray} (f:s.size≤9223372036854775807) (h:dP s=some 0):s.size≤100:=by
 rw[(aIf f).2]at h;have h:=Cm h;unfold aDE at h;split at h
 ·omega
 split at h
 ·cases h
 omega
def acO {l:List ByteArray} (m:l.length≤9223372036854775807) (n:∀s∈l,s.size≤9223372036854775807) (h:Qn l=some 0):l.length≤100∧∀s∈l,s.size≤100:=by
 unfold Qn at h;obtain⟨q,h⟩:=JI h Bd;refine⟨by have :=KG q;omega,nO (firsts l m (fun i=>∀x,l[i]? =some x→x.size≤100) (fun k i hi f=>?_) 0 h)⟩;unfold oK at f;rw[Ce hi]at f;obtain⟨x,u,f⟩:=DN f;obtain⟨e,f⟩:=Sj f;subst e;rw[wrap_succ i AA]at f;exact⟨fun y j=>by rw[Dn hi]at j;obtain rfl:=Cm j;exact aPP (n _ (ET hi)) u,f⟩
def amI {c:CW} (q:c.Allow.length≤9223372036854775807) (u:∀s∈c.Allow,s.size≤9223372036854775807) (h:YQ c=some 0):c.Allow.length≤100∧∀s∈c.Allow,s.size≤100:=by
 unfold YQ at h;obtain⟨x,_,h⟩:=DN h;obtain⟨_,h⟩:=JI h Bd;obtain⟨I,h⟩:=JI h Bd;refine⟨by have :=KG I;omega,nO (firsts c.Allow q (fun i=>∀x,c.Allow[i]? =some x→x.size≤100) (fun k i hi f=>?_) 0 h)⟩;unfold aDn lg at f;rw[Ce hi]at f;obtain⟨x,J,f⟩:=DN f;obtain⟨e,f⟩:=JI f Bd;have j:x=0:=Qs
 subst j;refine⟨fun y m=>by rw[Dn hi]at m;obtain rfl:=Cm m;exact(ap5 (u _ (ET hi)) J).1,?_⟩;cases n:decide ((i:Int)>0)with
 |true=>
  rw[n,Bg]at f;obtain⟨y,_,f⟩:=DN f;obtain⟨z,_,f⟩:=DN f;obtain⟨_,f⟩:=JI f Bd
  rwa [wrap_succ i AA]at f
 |false=>
  rw[n,BZ,BZ]at f
  rwa [wrap_succ i AA]at f
def asc {l:List Gl} (J:l.length≤9223372036854775807) (L:∀u∈l,u.User.size≤9223372036854775807) (h:Wy l=some 0):l.length≤100∧∀u∈l,u.User.size≤100:=by
 unfold Wy at h;obtain⟨M,h⟩:=JI h Bd;refine⟨by have :=KG M;omega,nO (firsts l J (fun i=>∀x,l[i]? =some x→x.User.size≤100) (fun k i hi j=>?_) 0 h)⟩
 have n:∀v,kR l (i:Int) k v=some 0→k ((i+1:Nat):Int)=some 0:=fun v f=>by
  unfold kR at f;obtain⟨_,f⟩:=JI f Bd;obtain⟨y,_,f⟩:=DN f;obtain⟨z,_,f⟩:=DN f;obtain⟨_,f⟩:=JI f Bd
  rwa [wrap_succ i AA]at f
 unfold oO at j;rw[Ce hi]at j;obtain⟨x,q,O⟩:=DN j;obtain⟨e,hd⟩:=JI O Bd;have m:x=0:=Qs
 rw[m]at q;refine⟨fun y s=>by rw[Dn hi]at s;obtain rfl:=Cm s;exact(aaR (L _ (ET hi)) q).1,?_⟩;cases I:decide ((i:Int)>0)with
 |true=>
  rw[I,Bg]at hd;obtain⟨y,_,S⟩:=DN hd;obtain⟨z,_,U⟩:=DN S;exact n _ U
 |false=>
  rw[I,BZ]at hd;exact n _ hd
def aq5 {l:List Ij} (h:Wi l=some 0):l.length≤100:=by
 unfold Wi at h;obtain⟨f,_⟩:=JI h Bd;have :=KG f;omega
def empty_of {s:ByteArray} (h:(s.toList==Bf.toList)=true):s.size≤100:=by rw[aBh]at h;have :=eq_of_beq h;omega
def ad4 {l:CO} (h:MS l=true):l.Users=[]∧l.Kinds=[]:=by
 unfold MS at h;simp only[DJ]at h;exact⟨TK h.1.1.1.1.1.1.1.1,TK h.1.1.1.1.1.1.1.2⟩
def aen {k:Int} {c:CW} (q:KH c) (h:J3 k c=some 0):Rt c:=by
 unfold J3 at h;rw[(yS k).2,Ac]at h;obtain⟨x2,J,h⟩:=DN h;obtain⟨e2,h⟩:=JI h Bd;subst e2
 have n:bI k c=some true:=by
  cases hk:(decide (k≥1)&&decide (k≤14))with
  |false=>rw[hk]at J;cases J
  |true=>
   rw[hk]at J;obtain⟨y,L,I⟩:=DN (show(bI k c).bind (fun x4=>some (!x4))=some false from J);have I:=Cm I;cases y with
   |true=>exact L
   |false=>cases I
 obtain⟨x6,_,h⟩:=DN h;obtain⟨x7,M,h⟩:=DN h;cases x7 with
 |true=>
  have I:jf (c.Text.toList==Bf.toList) (c.N==0) (c.Target==0) (!c.Thread) (c.Via.toList==Bf.toList) ((c.Allow.length:Int)==0) ((c.iE.length:Int)==0) (MS c.Levels)=true:=by
   cases x6 with
   |false=>cases M
   |true=>rw[aQv]at M;exact Cm M
  unfold jf at I;simp only[DJ]at I;obtain⟨⟨⟨⟨⟨⟨⟨t1,_⟩,_⟩,_⟩,t5⟩,t6⟩,t7⟩,t8⟩:=I;have p:=ad4 t8;have q1:=empty_of t1;have q2:=empty_of t5;have Y:=TK t6;have Z:=TK t7;refine⟨?_,?_,?_,?_,AA,AA,?_,?_,?_⟩<;>first|rw[Y]|rw[Z]|rw[p.1]|rw[p.2]
  all_goals first|exact EY _|exact fun x hx=>absurd hx Fv
 |false=>
  rw[BZ]at h;obtain⟨x11,f,h⟩:=DN h;obtain⟨e,h⟩:=Sj h;subst e;obtain⟨Qw,_,h⟩:=DN h;obtain⟨_,h⟩:=Sj h;obtain⟨x15,_,h⟩:=DN h;obtain⟨_,h⟩:=Sj h;obtain⟨x17,m,h⟩:=DN h;obtain⟨e,h⟩:=Sj h;subst e
  have ht:c.Text.size≤2000:=by
   unfold Wu at f;cases h9:k==9 with
   |true=>
    rw[h9,Bg]at f;cases S:(c.Text.toList==Bf.toList)with
    |true=>have :=empty_of S;omega
    |false=>
     rw[S,BZ]at f;obtain⟨y,L,f⟩:=DN f;obtain rfl:=Cm f;have :=aPP q.text L;omega
   |false=>
    rw[h9,BZ]at f;obtain⟨y,_,f⟩:=DN f;obtain⟨_,f⟩:=JI f Bd;obtain⟨z,I,f⟩:=DN f;obtain⟨e,_⟩:=JI f Bd;subst e;cases hd:decide ((c.Text.size:Int)>400)with
    |true=>rw[hd]at I;cases I
    |false=>have :=KG hd;omega
  have hv:c.Via.size≤2000:=by
   unfold XC at m;cases S:(c.Via.toList==Bf.toList)with
   |true=>have :=empty_of S;omega
   |false=>
    rw[S,BZ]at m;obtain⟨_,m⟩:=JI m Bd;obtain⟨y,L,m⟩:=DN m;obtain rfl:=Cm m;have :=(aaR q.via L).1;omega
  have O:∀{l:List ByteArray},(∀s∈l,s.size≤100)→∀s∈l,s.size≤2000:=fun h s hs=>Ej (h s hs) AA;cases h4:k==4 with
  |true=>
   have e4:=eq_of_beq h4;subst e4;rw[dz,Bg]at h;obtain⟨y,L,h⟩:=DN h;obtain rfl:=Cm h;obtain⟨r1,r2⟩:=amI q.allow q.allows L;rw[ace (K:=4) (c:=c) (show _=some false by kernel_rfl) (show _=some true by kernel_rfl) (show _=some false by kernel_rfl) (show _=some false by kernel_rfl) (show _=some false by kernel_rfl) (show _=some true by kernel_rfl) (show _=some false by kernel_rfl) (show _=some false by kernel_rfl)]at n;have U:=Cm n;unfold KW at U;simp only[DJ,KP]at U;have d:=TK U.1.2;have p:=ad4 U.2;refine⟨r1,?_,?_,?_,ht,hv,O r2,?_,?_⟩<;>first|rw[d]|rw[p.1]|rw[p.2]
   all_goals first|exact EY _|exact fun x hx=>absurd hx Fv
  |false=>
   rw[h4,BZ]at h;obtain⟨y1,hy1,h⟩:=DN h;obtain⟨e,h⟩:=Sj h;subst e;obtain⟨y2,hy2,h⟩:=DN h;obtain⟨e,h⟩:=Sj h;subst e;obtain⟨y3,j,h⟩:=DN h;obtain rfl:=Cm h;unfold XK at j;obtain⟨z1,hz1,j⟩:=DN j;obtain⟨e,j⟩:=Sj j;subst e;obtain⟨z2,hz2,j⟩:=DN j;obtain⟨e,j⟩:=Sj j;subst e;obtain⟨Y,Z⟩:=acO q.allow q.allows hy1;obtain⟨d1,d2⟩:=acO q.deny q.denies hy2;obtain⟨u1,u2⟩:=asc q.users q.names hz1;exact⟨Y,d1,u1,aq5 hz2,ht,hv,O Z,O d2,fun u hu=>Ej (u2 u hu) AA⟩
structure nN (e:AY):Prop where
 kind:1≤e.Kind∧e.Kind≤14
 state:e.State=HY e.Kind
 keyed:e.Key=Bf∨e.Kind=2∨e.Kind=9
 room:GV e.Room 33=true
 sender:GV e.bG 64=true
 key:U1 e.Kind e.Key=true
 time:0≤e.Time∧e.Time≤1000000000
 depth:1≤e.Depth∧e.Depth≤100000
 prev:e.bK.length≤10∧Inc e.bK∧∀x∈e.bK,0≤x
 auth:e.bM.length≤8∧Inc e.bM∧∀x∈e.bM,0≤x
 short:e.bK=[]→e.Kind=1
 form:e.Kind=1→e.bK=[]∧e.bM=[]
 content:J3 e.Kind e.Content=some 0
 small:SX e
def abr {l:List Int} (S:l.length≤9223372036854775807) (h:Zx l=some true):Inc l∧∀x∈l,0≤x:=by
 unfold Zx aK5 at h
 have m:=firsts l S (fun i=>∀x,l[i]? =some x→0≤x∧∀y,0<i→l[i-1]? =some y→y<x) (fun k i hi f=>by
  have s:∀v,Z7 k (i:Int) v=some true→v=false∧k ((i+1:Nat):Int)=some true:=fun v u=>by
   unfold Z7 at u;cases v with
   |true=>cases u
   |false=>rw[BZ,wrap_succ i AA]at u;exact⟨rfl,u⟩
  unfold aGi at f;rw[Ce hi]at f;cases I:decide (l[i]<0)with
  |true=>rw[I,Bg]at f;cases(s _ f).1
  |false=>
   have U:=KG I;rw[I,BZ]at f;cases z:decide ((i:Int)>0)with
   |false=>
    have Y:=KG z;rw[z,BZ]at f;refine⟨fun x n=>?_,(s _ f).2⟩;rw[Dn hi]at n;obtain rfl:=Cm n;exact⟨AA,fun y U J=>AA⟩
   |true=>
    rw[z,Bg,CQ hi,Ac,xg hi S z,Ac]at f;obtain⟨L,M⟩:=s _ f;refine⟨fun x n=>?_,M⟩;rw[Dn hi]at n;obtain rfl:=Cm n;refine⟨AA,fun y U J=>?_⟩;rw[Dn AA]at J;obtain rfl:=Cm J
    have :=KG L;omega) 0 h
 have q:∀i,(hi:i+1<l.length)→l[i]<l[i+1]:=fun i hi=>(m (i+1) AA hi _ (Dn hi)).2 _ AA (Dn AA);refine⟨?_,fun x n=>?_⟩
 ·rw[Inc,KY];intro i j hi s O
  induction j with
  |zero=>omega
  |succ j Z=>
   have L:=q j s;rcases aKg (Nat.le_of_lt_succ O)with rfl|M
   ·exact L
   have :=Z AA M;omega
 obtain⟨i,hi,rfl⟩:=Ii n;exact(m i (EY _) hi _ (Dn hi)).1
def pK {c:Bool} {X:Option Bool} {f:Bool→Option Int} {v:Int} (j:f true≠some v) (h:((bif c then some true else X).bind f)=some v):c=false∧X.bind f=some v:=by
 cases c with
 |true=>exact absurd h j
 |false=>exact⟨rfl,h⟩
def akI {e:AY} (J:Oy e) (h:bU e=some 0):nN e:=by
 unfold bU at h;obtain⟨x1,f,h⟩:=DN h;obtain⟨e1,h⟩:=Sj h;subst e1;obtain⟨x3,h3,h⟩:=DN h;obtain rfl:=Cm h;have z:=aen J.content h3
 have L:∀v,Ro e v=some 0→v=false:=fun v hv=>by
  cases v with
  |true=>cases hv
  |false=>rfl
 have U:Ro e false=some 0∧(1≤e.Kind∧e.Kind≤14)∧e.State=HY e.Kind∧(e.Key=Bf∨e.Kind=2∨e.Kind=9):=by
  unfold zM at f;cases S:decide (e.Kind<1)with
  |true=>rw[S,Bg]at f;cases L _ f
  |false=>
   cases Y:decide (e.Kind>14)with
   |true=>rw[S,Y,BZ,Bg]at f;cases L _ f
   |false=>
    rw[S,Y,BZ,BZ,aCa,Ac]at f;have k1:=KG S;have k2:=KG Y;cases Z:(e.State==HY e.Kind)with
    |false=>rw[Z,IX,Bg]at f;cases L _ f
    |true=>
     rw[Z,EW,BZ]at f;refine⟨?_,⟨AA,AA⟩,eq_of_beq Z,?_⟩
     all_goals cases c4:(e.Key.toList==Bf.toList)with
     |true=>rw[c4,EW,BZ]at f;first|exact f|exact .inl (toList_inj (eq_of_beq c4))
     |false=>
      rw[c4,IX,Bg]at f;cases c5:(e.Kind != 2)with
      |false=>rw[c5,BZ]at f;first|exact f|exact .inr (.inl (by simpa using c5))
      |true=>
       rw[c5,Bg]at f;have :=L _ f;rw[this]at f
       first|exact f|exact .inr (.inr aLa)
 clear f L;obtain⟨f,hk,hst,M⟩:=U;unfold Ro at f;rw[BZ,(vg (s:=e.Room) J.room).2,(Wq (s:=e.bG) J.sender).2,acW J.key]at f;simp only[Ac]at f
 have m:GV e.Room 33=true:=by
  cases I:GV e.Room 33 with
  |true=>rfl
  |false=>unfold Tv at f;rw[I]at f;cases f
 have r0:Tv e.Room=0:=by unfold Tv;rw[m];rfl
 rw[r0,tX,BZ,Ac]at f
 have n:GV e.bG 64=true:=by
  cases I:GV e.bG 64 with
  |true=>rfl
  |false=>unfold QL at f;rw[I]at f;cases f
 have u0:QL e.bG=0:=by unfold QL;rw[n];rfl
 rw[u0,tX,BZ,Ac]at f
 have j:U1 e.Kind e.Key=true:=by
  cases I:U1 e.Kind e.Key with
  |true=>rfl
  |false=>rw[I]at f;cases f
 rw[j,EW,BZ]at f;obtain⟨t1,f⟩:=pK nP f;rw[Ac]at f;obtain⟨t2,f⟩:=pK nP f;rw[Ac]at f;obtain⟨t3,f⟩:=pK nP f;rw[Ac]at f;obtain⟨t4,f⟩:=JI f Bd;obtain⟨t5,f⟩:=pK nP f;rw[Ac]at f;obtain⟨t6,f⟩:=JI f Bd;obtain⟨x21,h21,f⟩:=DN f;obtain⟨t7,f⟩:=pK nP f;rw[Option.bind_assoc]at f;obtain⟨x24,h24,f⟩:=DN f;rw[Ac]at f;obtain⟨t8,f⟩:=JI f Bd;obtain⟨zX,O,f⟩:=DN f;obtain⟨t9,f⟩:=JI f Bd;obtain⟨x29,u,f⟩:=DN f;obtain⟨t10,_⟩:=JI f Bd;have e21:x21=true:=by simpa using t7
 have e24:x24=true:=by simpa using t8
 subst e21 e24 t9 t10;have p1:=KG t5;have p2:=KG t6;have r1:=abr J.prev h21;have r2:=abr J.auth h24;have d1:=KG t1;have d2:=KG t2;have d3:=KG t3;have d4:=KG t4
 have hkz:e.Key.size≤2000:=by
  rcases M with h|h|h
  ·rw[h];exact EY _
  ·unfold U1 at j;rw[D7 h]at j;have :QL e.Key=0:=Ny
   unfold QL at this;cases I:GV e.Key 64 with
   |true=>have :=tu I;omega
   |false=>rw[I]at this;cases this
  unfold U1 at j;rw[DF AA,D7 h]at j;unfold wH at j;simp only[DJ,Gi]at j;have :=j.1.2;omega
 have z1:=tu m;have z2:=tu n;refine⟨hk,hst,M,m,n,j,⟨AA,AA⟩,⟨AA,AA⟩,⟨AA,r1⟩,⟨AA,r2⟩,fun hp=>?_,fun hk1=>?_,h3,⟨?_,?_,z.allow,z.deny,z.users,z.kinds,?_,?_,hkz,z.text,z.via,EY _,z.allows,z.denies,z.names⟩⟩
 ·rw[hp]at O;have :=Cm O;simpa using this
 ·rw[hk1]at u;have u:((bif decide ((e.bK.length:Int)>0)then some true else some (decide ((e.bM.length:Int)>0))).bind fun x31=>some x31)=some false:=u;cases q:decide ((e.bK.length:Int)>0)with
  |true=>rw[q]at u;cases u
  |false=>
   rw[q]at u;have q2:=Cm u;have :=KG q;have :=KG q2;exact⟨Gt AA,Gt AA⟩
 ·show e.bK.length≤40;omega
 ·show e.bM.length≤40;omega
 ·show e.Room.size≤2000;omega
 show e.bG.size≤2000;omega
def aRk {e:AY} (I:Oy e):∃c,aEW e=some c∧yQ e=some c∧(c=0→nN e∧I9 e):=by
 obtain⟨x,u,m⟩:=ao2 I;unfold aEW yQ;rw[u,m,Ac,Ac];cases n:x != 0 with
 |true=>exact⟨x,rfl,rfl,fun h=>by subst h;cases n⟩
 |false=>
  obtain rfl:x=0:=Nj
  have J:=akI I m;have f:=J.small;have z:e.bG.size≤2000:=f.sender;rw[BZ,BZ,(abj f).1,(abj f).2,aPA _ f.content,aQt];simp only[Ac];rw[aos _ f.content,af5 _ f.content];simp only[Ac]
  have key:∀v,∃c,aB e v=some c∧jq e v=some c∧(c=0→nN e∧I9 e):=fun v=>by
   obtain⟨c,j,M⟩:=aqz f v;refine⟨c,j,M,fun O=>⟨J,?_⟩⟩;subst O;unfold aB at j;obtain⟨_,j⟩:=JI j Bd;rw[(aTf f).1,Ac]at j;obtain⟨_,j⟩:=JI j Bd;rw[(kP (s:=e.bG) AA).1,Ac]at j;obtain⟨L,_⟩:=JI (show(bif !((e.qR.Server.toList==(splitB e.bG (JU e.bG)).2.1.toList)&&((e.qR.Sum==e.Id)&&true))then some 12 else some 0)=some (0:Int)from j) Bd
   have S:e.qR.Server=(splitB e.bG (JU e.bG)).2.1:=by
    cases q:(e.qR.Server.toList==(splitB e.bG (JU e.bG)).2.1.toList)with
    |true=>exact toList_inj (eq_of_beq q)
    |false=>rw[q]at L;cases L
   have U:=(aiw e.bG z).2.2;exact⟨f.prev,f.auth,f.allow,f.deny,f.users,f.kinds,f.room,f.sender,f.key,f.text,f.via,by rw[S];exact U,f.allows,f.denies,f.names⟩
  cases(!(mO e==e.Hash))with
  |true=>rw[Bg,Bg];exact key _
  |false=>rw[BZ,BZ];exact key _
def aOO {f g:(Int→Option Int)→Int→Option Int} (N lo:Nat) (s:∀k k' (i:Nat),lo≤i→i<N→Cc (k ((i+1:Nat):Int)) (k' ((i+1:Nat):Int))→Cc (f k (i:Int)) (g k' (i:Int))) (u:∀k k',Cc (f k (N:Int)) (g k' (N:Int))):
 ∀n (i:Nat),lo≤i→i+n=N→∀m h,n<m→n<h→Cc (bD f m (i:Int)) (bD g h (i:Int)):=by
 intro n
 induction n with
 |zero=>
  intro i j hi m h z I;obtain⟨m,rfl⟩:∃q,m=q+1:=⟨m-1,AA⟩
  obtain⟨h,rfl⟩:∃q,h=q+1:=⟨h-1,AA⟩
  have :i=N:=AA
  subst this;exact u _ _
 |succ n J=>
  intro i j hi m h z I;obtain⟨m,rfl⟩:∃q,m=q+1:=⟨m-1,AA⟩
  obtain⟨h,rfl⟩:∃q,h=q+1:=⟨h-1,AA⟩
  exact s _ _ i j AA (J (i+1) AA AA m h AA AA)
def lasts {R:Type} {body:(Int→Option R)→Int→Option R} {ok:R} (N:Nat) (M:N≤9223372036854775807) (P:Nat→Prop)
 (I:∀k (i:Nat),i<N→body k (i:Int)=some ok→P i∧k ((i+1:Nat):Int)=some ok) (f:Nat) (O:f≤N) (h:bD body Az (f:Int)=some ok):(∀i,f≤i→i<N→P i)∧∃k,body k (N:Int)=some ok:=by
 have key:∀n (i:Nat) m,i+n=N→n<m→bD body m (i:Int)=some ok→(∀j,i≤j→j<N→P j)∧∃k,body k (N:Int)=some ok:=by
  intro n
  induction n with
  |zero=>
   intro i m hi J s;obtain⟨m,rfl⟩:∃u,m=u+1:=⟨m-1,AA⟩
   have :i=N:=AA
   subst this;exact⟨fun j q z=>AA,_,s⟩
  |succ n L=>
   intro i m hi J s;obtain⟨m,rfl⟩:∃u,m=u+1:=⟨m-1,AA⟩
   obtain⟨a,b⟩:=I (bD body m) i AA s;obtain⟨c,d⟩:=L (i+1) m AA AA b;refine⟨fun j q z=>?_,d⟩;rcases aKg q with rfl|q
   ·exact a
   exact c j q z
 have S:Az=9223372036854775808:=rfl;exact key (N-f) f Az AA AA h
def aQo {α:Type} {l:List α} {i:Nat} (h:i+1<l.length) (f:l.length≤1000000):Aq l (BA (((i+1:Nat):Int)-1))=some l[i]:=by
 rw[show BA (((i+1:Nat):Int)-1)=(i:Int) by rw[bP];omega,CQ AA]
def anE {l:List AY} (s:∀e∈l,Oy e) (S:l.length≤1000):Cc (PG l) (XV l):=by
 by_cases n:l=[]
 ·subst n;exact⟨0,A8,A8⟩
 have f:0<l.length:=iK.2 n;have u:Az=9223372036854775807+1:=rfl
 have z:Cc (aB5 l 1) (aKf l 1):=by
  unfold aB5 aKf;refine aOO l.length 1 (fun k k' i m hi h=>?_) (fun k k'=>?_) (l.length-1) 1 (E9 _) AA Az Az AA AA
  ·obtain⟨i,rfl⟩:∃j,i=j+1:=⟨i-1,AA⟩
   unfold aEM aMm;rw[Ce hi,dec_lt hi,Bg,aQo hi AA,Ac,Ac,CQ hi,Ac,wrap_succ (i+1) AA];show Cc (bif decide (l[i+1].Id≤l[i].Id)then some 8 else k _) (bif decide (l[i].Id≥l[i+1].Id)then some 8 else k' _);exact Cc.bif (fun _=>.ret _) fun _=>h
  unfold aEM aMm;rw[DW];exact .ret _
 have q:Aq l 0=some l[0]:=CQ (i:=0) f
 have I:Cc (uK l 0) (aK9 l 1):=by
  have J:∀k,X3 l k 0=k 1:=fun k=>by
   unfold X3;rw[show decide ((0:Int)<(l.length:Int))=true by simpa using f,Bg,q,Ac,Ac,dz];rfl
  have L:uK l 0=bD (X3 l) 9223372036854775807 1:=by
   unfold uK;rw[u];exact J _
  rw[L];unfold aK9;refine aOO l.length 1 (fun k k' i m hi h=>?_) (fun k k'=>?_) (l.length-1) 1 (E9 _) AA _ Az AA AA
  ·unfold X3 aJL;rw[Ce hi,Ce hi,q,Ac,Ac,wrap_succ i AA];exact Cc.bif (fun _=>.ret _) fun _=>h
  unfold X3 aJL;rw[DW];exact z
 unfold PG XV;rw[Ir (show ¬(l.length:Int)>2000 by omega),BZ,BZ];unfold aOa acw;refine aOO l.length 0 (fun k k' i _ hi h=>?_) (fun k k'=>?_) l.length 0 (E9 _) AA Az Az AA AA
 ·unfold wR aIT;obtain⟨c,M,O,_⟩:=aRk (s _ (ET hi));rw[Ce hi,Ce hi,M,O,Ac,Ac,wrap_succ i AA];exact Cc.bif (fun _=>.ret _) fun _=>h
 unfold wR aIT;rw[DW];exact I
structure Src (l:List AY):Prop where
 ev:∀e∈l,nN e∧I9 e
 room:∀x∈l,∀y∈l,x.Room=y.Room
 inc:Inc (l.map (·.Id))
def afb {f:Nat→Int}:∀(n i j:Nat),(∀k,i≤k→k<j→f k<f (k+1))→i+n=j→0<n→f i<f j:=by
 intro n
 induction n with
 |zero=>intro i j _ _ h;omega
 |succ n s=>
  intro i j h m _;rcases YD n with q|q
  ·subst q;rw[←m];exact h i (E9 _) AA
  have a:=h i (E9 _) AA;have b:=s (i+1) j (fun k z u=>h k AA u) AA q;omega
def ahH {l:List AY} (U:∀e∈l,Oy e) (hl:l.length≤1000) (h:PG l=some 0):Src l:=by
 unfold PG at h;rw[Ir (show ¬(l.length:Int)>2000 by omega),BZ]at h;unfold aOa at h
 obtain⟨Y,k1,h⟩:=lasts l.length AA (fun i=>∀x,l[i]? =some x→nN x∧I9 x) (fun k i hi m=>by
  unfold wR at m;obtain⟨c,Z,_,c3⟩:=aRk (U _ (ET hi));rw[Ce hi,Z,Ac,wrap_succ i AA]at m;obtain⟨e,m⟩:=Sj m
  exact⟨fun x n=>by rw[Dn hi]at n;obtain rfl:=Cm n;exact c3 e,m⟩) 0 (EY _) h
 unfold wR at h;rw[DW,BZ]at h;unfold uK at h
 obtain⟨p2,k2,h⟩:=lasts l.length AA (fun i=>∀x y,l[i]? =some x→l[0]? =some y→x.Room=y.Room) (fun k i hi m=>by
  unfold X3 at m;have g0:Aq l 0=some l[0]:=CQ (i:=0) AA;rw[Ce hi,g0,Ac,wrap_succ i AA]at m;obtain⟨e,m⟩:=JI m Bd;refine⟨fun x y n s=>?_,m⟩;rw[Dn hi]at n;rw[Dn AA]at s;obtain rfl:=Cm n;obtain rfl:=Cm s
  exact toList_inj Qs) 0 (EY _) h
 unfold X3 at h;rw[DW,BZ]at h;refine⟨nO Y,fun x n y s=>?_,?_⟩
 ·have key:∀x∈l,∀y,l[0]? =some y→x.Room=y.Room:=nO fun i hi I x n y s=>p2 i hi I x y n s;have h0:0<l.length:=List.length_pos_of_mem n;have M:l[0]? =some l[0]:=Dn h0;rw[key x n _ M,key y s _ M]
 by_cases O:l=[]
 ·subst O;exact .nil
 have u:0<l.length:=iK.2 O;unfold aB5 at h
 obtain⟨p3,_⟩:=lasts l.length AA (fun i=>∀j x y,i=j+1→l[i]? =some x→l[j]? =some y→y.Id<x.Id) (fun k i hi m=>by
  unfold aEM at m;rw[Ce hi]at m;obtain⟨z,S,m⟩:=DN m;obtain⟨e,m⟩:=JI m Bd;rw[wrap_succ i AA]at m;refine⟨fun j x y J n s=>?_,m⟩;subst J;rw[aQo hi AA]at S;rw[Dn hi]at n;rw[Dn AA]at s;obtain rfl:=Cm n;obtain rfl:=Cm s;obtain rfl:=Cm S
  have :=KG e;omega) 1 u h
 rw[Inc,aKx,KY];intro i j hi J hij
 have :=afb (f:=fun q=>(l.getD q Et).Id) (j-i) i j (fun k h1 h2=>by
  have L:k+1<l.length:=AA
  have :=p3 (k+1) AA L k l[k+1] l[k] rfl (Dn L) (Dn AA)
  simpa[List.getD,Dn L,Dn (show k<l.length by omega)]using this) AA AA
 simpa[List.getD,Dn hi,Dn J]using this
def Src.ok {l:List AY} (h:Src l) (j:l.length≤100):LQ l:=⟨j,fun e f=>(h.ev e f).2,Xd h.inc,fun e f=>(h.ev e f).1.depth⟩
def aeE {l:List AY} (f:∀e∈l,Oy e) (n:l.length≤100):∃c,PG l=some c∧XV l=some c∧(c=0→Src l):=by
 obtain⟨c,j,m⟩:=anE f AA;exact⟨c,j,m,fun h=>ahH f AA (by rw[j,h])⟩
def aHn :ZB=some true:=A8
def aHd (t:List E8) (x:Int):List BI×Int:=match En t x with
 |some y=>(y.before,bif y.err != 0 then 2 else 4)
 |none=>([],0)
def aCQ (t:List E8) (x:Int):Int:=match En t x with
 |some y=>y.err
 |none=>5
def Si (l:List AY) (t:List E8):List Int:=l.filterMap fun e=>(En t e.Id).map fun y=>bif y.err != 0 then 2 else 4
section
variable {l : List AY} {c : Int}
def ak3 (m:PG l=some c) (h:c=0→LQ l) (id:Int):YZ l id=some (aHd (Ik l c) id):=by
 unfold YZ;refine fK.eq ((run_eq l m h).bind fun o n=>?_);rcases n with⟨f,rfl⟩|⟨f,_,T,rfl,j⟩
 ·rw[f];exact .ret rfl
 rw[f];simp only[SB];unfold YS qQ aHd;rw[j.r,j.b];cases En (He l) id with
 |none=>exact .ret rfl
 |some y=>
  show fK ((bif y.err != 0 then some 2 else some 4).bind fun q=>some (y.before,q)) (fun r=>r=(y.before,bif y.err != 0 then 2 else 4));cases y.err != 0<;>exact .ret rfl
def aic (m:PG l=some c) (h:c=0→LQ l) (id:Int):gy l id=some (Kr (Ik l c) id):=by
 unfold gy;refine fK.eq ((run_eq l m h).bind fun o n=>?_);rcases n with⟨f,rfl⟩|⟨f,_,T,rfl,j⟩
 ·rw[f];exact .ret rfl
 rw[f];simp only[SB];unfold YS Kr;rw[j.r,j.a];cases En (He l) id<;>exact .ret rfl
def aff (j:PG l=some c) (h:c=0→LQ l) (id:Int):gu l id=some (aCQ (Ik l c) id):=by
 unfold gu;refine fK.eq ((run_eq l j h).bind fun o m=>?_);rcases m with⟨f,rfl⟩|⟨f,_,T,rfl,n⟩
 ·rw[f];exact .ret rfl
 rw[f];simp only[SB];unfold YS aCQ;rw[n.r];cases En (He l) id<;>exact .ret rfl
def aej (m:PG l=some c) (h:c=0→LQ l):vO l=some (Jl l (Ik l c)):=by
 unfold vO;refine fK.eq ((run_eq l m h).bind fun o f=>?_);rcases f with⟨j,rfl⟩|⟨j,f,T,rfl,n⟩
 ·rw[j,aLp];exact .ret rfl
 rw[j];show fK ((aU T.1 T.2.1 T.2.2 l).bind _) _;rw[aQk n f.len];exact .ret rfl
def aaV (t:List E8) {i:Nat} (h:i<l.length):Si (l.take (i+1)) t=Si (l.take i) t++((En t l[i].Id).map fun y=>bif y.err != 0 then 2 else 4).toList:=by
 unfold Si;rw[Oe h,ZQ];congr 1
def abn (l:List AY) (t:List E8):(Si l t).length≤l.length:=List.length_filterMap_le ..
def aiJ (q:PG l=some c) (h:c=0→LQ l):lU l=some (Si l (Ik l c)):=by
 unfold lU;refine fK.eq ((run_eq l q h).bind fun o f=>?_);rcases f with⟨j,rfl⟩|⟨j,f,T,rfl,s⟩
 ·rw[j];exact .ret (show[]=Si l []from(List.filterMap_eq_nil_iff.2 fun _ _=>rfl).symm)
 rw[j];have J:=f.len;show fK (aLq l [] 0 T.1 T.2.1 T.2.2) _;unfold aLq;refine Fin (body:=aN8 l) (Q:=(· =Si l (He l))) (fun n a b c d e=>∃i:Nat,b=i∧i+n=l.length∧a=Si (l.take i) (He l)∧c=T.1∧d=T.2.1∧e=T.2.2) ?_ Az l.length [] 0 _ _ _ (fuel_lt AA) ⟨0,rfl,AA,rfl,rfl,rfl,rfl⟩;rintro n a b c d e k ⟨i,rfl,L,ha,rfl,rfl,rfl⟩ u;unfold aN8;by_cases hi:i<l.length
 ·have z:a.length≤i:=aRL
  obtain⟨y,m⟩:=ad9 (aHP.2 (Fh.2 ⟨_,ET hi,rfl⟩));unfold qQ;rw[Ce hi,s.err];have I:errOf (He l) l[i].Id=y.err:=by unfold errOf;rw[m];rfl
  rw[I,show(bif y.err != 0 then some 2 else some 4)=some (bif y.err != 0 then(2:Int)else 4) by cases y.err != 0<;>rfl,Ac,DZ FU,Ac,wrap_succ i AA];exact u (n-1) _ _ _ _ _ AA ⟨i+1,rfl,AA,by rw[aaV _ hi,m,ha];rfl,rfl,rfl,rfl⟩
 have :i=l.length:=AA
 subst this;rw[Dk];exact .ret W9
def aoL (n:XV l=some c) (h:c=0→LQ l) (z:l.length≤100):aGC l=some (Si l (Ik l c)):=by
 obtain⟨q,_,s⟩:=zT n h;unfold aGC;rw[q,Ac];generalize Ik l c=t at s;unfold aTF;refine fK.eq (Jm l.length (fuel_lt AA) (fun i a=>a=Si (l.take i) t) rfl (fun i a k hi ha j=>?_) fun a k ha=>?_)
 ·have u:a.length≤i:=aRL
  unfold aK7 aDF;rw[Ce hi,jR _ _ AA,Ac,wrap_succ i AA];have f:=aaV t hi;unfold QI;cases m:En t l[i].Id with
  |none=>
   rw[m]at f;exact j _ (by rw[f,ha];simp)
  |some y=>
   rw[m]at f;show fK ((aGL (IZ y)).bind _) _;unfold aGL;rw[show(bif (IZ y).Err != 0 then some 2 else some 4)=some (bif y.err != 0 then(2:Int)else 4) by show(bif y.err != 0 then some 2 else some 4)=_;cases y.err != 0<;>rfl,Ac,DZ FU,Ac];exact j _ (by rw[f,ha];rfl)
 unfold aK7;rw[DW];exact .ret W9
def arN (f:XV l=some c) (h:c=0→LQ l) (m:l.length≤100):aEu l=some (Jl l (Ik l c)):=by
 obtain⟨j,_,n⟩:=zT f h;unfold aEu;rw[j,Ac,aKp l _ AA AA];rfl
end
def ajt (l:List AY) (f:l.length≤1000):fJ l []=some []:=by
 have h:jH l []=some (Jl l []):=aKp l [] f (EY _);have j:mP l []=some []:=A8
 have m:lR l []=some []:=by
  unfold lR;rw[h,aLp,Ac,j];rfl
 have n:aNJ [] [] l [] 0=some []:=A8
 unfold fJ;rw[m];exact n
def aks {l:List AY} {t:List E8} (h:KR l t) {x:Int} {y:E8} (f:En t x=some y):IQ l y.before∧IQ l y.after:=h y (U9 f)
def aQU {l:List AY} {X:Option Bool} (h:l.length≤14→X=some true):((uF l).bind fun f=>(bif (!f)then(ZB).bind fun j=>some j else X))=some true:=by
 unfold uF;rw[aHn,Ac];by_cases m:l.length≤14
 ·rw[Ib (show(l.length:Int)≤14 by omega)];exact h m
 rw[Ir (show ¬(l.length:Int)≤14 by omega)];rfl
def aGm (x:Int):(x != x)=false:=tX x
def ahm {l:List AY} (L:∀e∈l,Oy e) (id:Int):aD5 l id=some true:=by
 unfold aD5;refine aQU fun hl=>?_;obtain⟨c,m,M,O⟩:=aeE L AA;have j:c=0→LQ l:=fun S=>(O S).ok AA;obtain⟨U,I,Y⟩:=zT M j;have J:=ak3 m j;have q:=aic m j;have s:=aff m j;rw[U,Ac];generalize Ik l c=t at I Y J q s
 have f:∀k (v:Int) x,nR l (t.map IZ) k v x=k (BA (v+1)):=fun k v x=>by
  unfold nR;rw[J,jR _ _ AA,Ac,Ac];unfold QI aHd;cases u:En t x with
  |none=>
   simp only[BZ];unfold eY Yi;rw[q,s,Ac,Ac];unfold Kr aCQ;rw[u];rfl
  |some y=>
   obtain⟨Z,p2⟩:=aks I u;have q1:=Z.length;have q2:=p2.length;simp only[Bg];unfold eY Yi;rw[q,s,Ac,Ac];unfold Kr aCQ;rw[u];have r1:XQ y.before y.before=some true:=aGz _ AA;have r2:XQ y.after y.after=some true:=aGz _ AA;simp only[IZ,r1,r2,IB,MC,Ac,EW,BZ,aGm];cases y.err != 0<;>rfl
 unfold aQX;refine fK.eq (aNI (body:=aMP l (t.map IZ) id) (Q:=(· =true)) (fun n a=>∃i:Nat,a=i∧i+n=l.length+1) ?_ Az (l.length+1) 0 (fuel_lt AA) ⟨0,rfl,AA⟩);rintro n a k ⟨i,rfl,hn⟩ hk;unfold aMP;by_cases hi:i≤l.length
 ·rw[Ib (show(i:Int)≤(l.length:Int) by omega),Bg,f,wrap_succ i AA];have h:=hk (n-1) _ AA ⟨i+1,rfl,AA⟩;by_cases z:i<l.length
  ·rw[Ce z,f,wrap_succ i AA];exact h
  have :i=l.length:=AA
  subst this;rw[DW];exact h
 rw[Ir (show ¬(i:Int)≤(l.length:Int) by omega),BZ,aHn];exact .ret rfl
def as3 {l:List AY} (s:∀e∈l,Oy e):aE1 l=some true:=by
 unfold aE1;refine aQU fun S=>?_;obtain⟨c,m,n,u⟩:=aeE s AA;have f:c=0→LQ l:=fun j=>(u j).ok AA;have z:=agS f;have I:=z.length;have J:=abn l (Ik l c);have ha:=vU l (Ik l c)
 have q:zl l=some (YJ l (Ik l c)):=by
  obtain⟨L,M,U⟩:=zT n f;unfold zl;rw[L,Ac];by_cases j:c=0
  ·rw[apC l _ AA (f j).small M AA];rfl
  have O:Ik l c=[]:=by unfold Ik;rw[show(c==0)=false by simpa using j];rfl
  rw[O,aJT,show(([]:List E8).map IZ)=[]from rfl,ajt l AA];rfl
 rw[aiJ m f,aoL n f AA,aej m f,arN n f AA,apH m f,q];simp only[Ac,aGm,BZ];rw[aGz _ AA];simp only[Ac,EW,BZ];generalize Si l (Ik l c)=A at J;generalize Jl l (Ik l c)=B at ha;unfold aQj;rw[tJ A AA (some true)]
 ·intro k i h;unfold aMx;rw[Ce h,CQ h,Ac,aGm,BZ]
 intro k;unfold aMx aPM;rw[DW,BZ,tJ B AA (some true)]
 ·intro k i h;unfold aHg;rw[Ce h,CQ h,Ac,aGm,BZ]
 intro k;unfold aHg;rw[DW,BZ,aHn];rfl
end Go.Proofs.YtolgdkhlelfpoaaGreat
end
