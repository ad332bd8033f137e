/- Part 6 of what the laws' proofs lean on: states of the walk, typed functions of the program and their laws (short forms written by wip/shrink.py; no condition). -/
import Derived.Test.YtolgdkhlelfpoaaGreatRf5
set_option linter.defProp false
set_option linter.unusedVariables false
set_option linter.unusedSimpArgs false
section
namespace Go.Proofs.YtolgdkhlelfpoaaGreat
open Go.RowKit
set_option maxRecDepth 20000
set_option maxHeartbeats 4000000
def aLG (j:AP) (f:Dl) (n:(Int→(List (Int×Bool))→Option Dl)):Int→(List (Int×Bool))→Option Dl:=fun h m=>(bif decide (h<(j.length:Int))then(Aj j h).bind fun q=>n (Aw (h+1)) (Df m q true)else(kR f m).bind fun s=>some s.1)
def adE (h:AP) (f:Dl):Int→(List (Int×Bool))→Option Dl:=aS (aLG h f) Ap
def oL (h:Dl) (f:Int):Option Dl:=(VO h f).bind fun j=>adE j h 0 []
def aa5 (eP iG r) (h:oL eP iG=some r):BA 27 [J8 eP,AQ iG] [] (J8 r) []:=Ak.aI Tryz.func27 rfl<|AU<|AL<|.e (x:=.mp 2) [.box (Af (ED eP)),.box (Af (ED Ji)),.map (List.map (BL BO D7) [])] (mX rfl)<|.aW<|AV<|AO h fun n q h=>AL<|.a 2<|.ca (aG0 eP iG n q).view<|.p (BK AY n BX rfl)<|.aW<|AB.block<|DF (fun I f=>⟨Az 23 [(2,.ptr 0 0),(4,.ptr 1 0),(5,.mp 2),(11,BZ n),(12,AQ (n.length:Int)),(13,AQ I)],[.box (Af (ED eP)),.box (Af (ED Ji)),.map (List.map (BL BO D7) f)],0⟩) _ _ _ _ (AZ 23 14388 [(0,true),(1,true),(2,true)]) h<|fun M O s I f h=>AU<|AV<|Ac h (fun h=>AB.skip<|AV<|AB.block<|AO h fun J u h=>AL<|.p (BG AY u BX Bo rfl)<|.aW<|Au<|.a 2<|.e [.box (Af (ED eP)),.box (Af (ED Ji)),.map (List.map (BL BO D7) (Df f J true))] (ZM (k:=2) (key:=J) (val:=true) (m:=f) D7 TW Hz A8 rfl)<|.nil<|Au<|.a 2<|.nil<|s _ _ _ (AZ 23 14388 [(0,true),(1,true),(2,true)]) h) fun h=>AB.exit<|AO h fun j z h=>AL<|.a 2<|.e (x:=(J8 j.1)) [.box (Af (ED eP)),.box (Af (ED Ji)),.map (List.map (BL BO D7) j.2)] (EC [.ent 2] [J8 eP,.mp 2] (aUy eP f j z) rfl)<|.aW<|AB.ret<|by rw[←CS h];exact⟨[J8 j.1],[],⟨⟨1,Af (ED j.1),true,9,A8,A8,A8,yX,Dh A8,aI0,A8⟩,trivial⟩,A8,A8,A8⟩
def yM (f:(Int→N7→Option Dl)) (h:Int) (j:N7):Option Dl:=f (Aw (h+1)) j
def aJ (s:AP) (j:Dl) (q:(Int→N7→Option Dl)):Int→N7→Option Dl:=fun f h=>(bif decide (f<(h.length:Int))then(Aj h f).bind fun u=>(QV s u.Id).bind fun m=>(bif m then(Aj h f).bind fun n=>yM q f (h.set (f).toNat ({ n with Gone:=true }))else yM q f h)else some ({ j with Rows:=h }))
def acS (h:AP) (f:Dl):Int→N7→Option Dl:=aS (aJ h f) Ap
def aCI (f:Dl) (h:Int):Option Dl:=(bW f h).bind fun j=>(CY 32 [] f.Rows).bind fun m=>acS j f 0 m
def aTd (eP iG r) (h:aCI eP iG=some r):BA 28 [J8 eP,AQ iG] [] (J8 r) []:=Ak.aI Tryz.func28 rfl<|AU<|AO h fun z I h=>AL<|.a 2<|.ca (aHi eP iG z I).view<|.aW<|AO h fun U J h=>AL<|.e [.box (Af (ED eP)),.box (Af (ED Ji)),(UM [])] (GL aFD aEm [] rfl)<|.a 2<|.e [.box (Af (ED eP)),.box (Af (ED Ji)),.dead,(UM U)] (DY (k:=2) Fr J aFD A8 (fun _=>rfl) BQ rfl)<|.aW<|AV<|AU<|AB.block<|DF (fun j f=>⟨Az 35 [(2,.ptr 0 0),(4,.ptr 1 0),(5,BZ z),(6,.aO 2),(7,AQ j)],[.box (Af (ED eP)),.box (Af (ED Ji)),(UM f)],0⟩) _ _ _ _ (AZ 35 244 [(0,true),(1,true),(3,true)]) h<|fun Y Z L j f h=>AV<|AL<|.a 2<|.p (Ip (k:=2) (e':=60) (s:=4) Fr f A8 NY rfl)<|.aW<|Ac h (fun h=>AB.skip<|CX (fun s=>∃(M:(List J9)),Bv s ⟨Az 35 [(2,.ptr 0 0),(4,.ptr 1 0),(5,BZ z),(6,.aO 2),(7,AQ j)],[.box (Af (ED eP)),.box (Af (ED Ji)),(UM M)],0⟩∧yM Z j M=some r) (by rintro s ⟨M,hs,h⟩;exact CQ hs<|Au<|.a 3<|.nil<|L _ _ _ (AZ 35 244 [(0,true),(1,true),(2,true)]) h)<|fun K8=>AB.block<|Bg h fun S q O u h=>AL<|.a 3<|.p (GN (e':=60) (kd:=.i64) Fr q (k:=2) A8 NY Vl rfl)<|.a 1<|.p (x:=(AQ S.Id)) (Il (e:=60) (size:=4) (k:=2) (i:=(j).toNat) (off:=1) Fr A8 A8 (FT q).2 Bo (Dh A8) (fun _=>rfl) rfl)<|.ca (VH z S.Id O u)<|.aV<|Ac h (fun h=>AO h fun n m h=>Au<|.a 2<|.p (GN (e':=60) (kd:=.i64) Fr m (k:=2) A8 NY Vl rfl)<|.a 1<|.e [.box (Af (ED eP)),.box (Af (ED Ji)),(UM (f.set (j).toNat ({ n with Gone:=true })))] (X0 (e:=60) (size:=4) (v:=(Ae true)) (k:=2) (i:=(j).toNat) (off:=3) (a':=({ n with Gone:=true })) Fr A8 (FT m).2 A8 (kL).size A8 (Dh A8) A8 (fun _=>rfl) rfl)<|.nil<|K8 _ ⟨(f.set (j).toNat ({ n with Gone:=true })),AZ 35 244 [(0,true),(1,true),(2,true)],h⟩) fun h=>AB.skip<|K8 _ ⟨f,AZ 35 244 [(0,true),(1,true),(2,true)],h⟩) fun h=>AB.exit<|AU<|AL<|.conv _ (aUS (e:=60) (s:=4) 2 0 (xs:=List.map Fr f) (cs:=setAt (Af (ED eP)) 2 [.aO 2]) A8 A8 A8)<|.aW<|AB.ret<|by rw[←CS h];exact⟨[J8 ({ eP with Rows:=f })],[],⟨⟨1,Af (ED ({ eP with Rows:=f })),true,9,A8,A8,A8,yX,Dh A8,KE,A8⟩,trivial⟩,A8,A8,A8⟩
def aMY (f:Bool):Option Bool:=some f
def aAD (h:Dl) (f:Int):Option Bool:=(rP h 14).bind fun j=>(bif j then some true else(oL h f).bind fun m=>(aCI h f).bind fun n=>(zq m n).bind fun q=>(bif q then(Yz).bind fun s=>aMY s else aMY false))
def ar2 (eP iG r) (h:aAD eP iG=some r):BA 6 [J8 eP,AQ iG] [] (Ae r) []:=Ak.aI Tryz.func6 rfl<|AU<|AV<|AO h fun L u h=>AL<|.a 1<|.ca (aSP eP 14 L u)<|.aV<|Ac h Bd fun h=>AB.skip<|CX (fun s=>∃(z:Bool),Bv s ⟨Az 17 [(4,Ae z)],[],0⟩∧aMY z=some r) (by rintro s ⟨z,M,h⟩;exact CQ M<|CV)<|fun K4=>H8 h fun n f q j O m h=>by cases O with |true=>exact(have h:=MK rfl h;AO h fun J I h=>AB.draw A8 A8 A8 (.a 2<|.ca (aa5 eP iG n f)<|.a 2<|.ca (aTd eP iG q j)<|.ca (acp n q true m)<|.a 1<|.ca (aRQ  J I)<|.a 2<|.nil _)<|K4 _ ⟨J,AZ 17 16 [],h⟩)|false=>exact(have h:=Lp rfl h;AB.draw A8 A8 A8 (.a 2<|.ca (aa5 eP iG n f)<|.a 2<|.ca (aTd eP iG q j)<|.ca (acp n q false m)<|.a 4<|.nil _)<|K4 _ ⟨false,AZ 17 16 [],h⟩)
end Go.Proofs.YtolgdkhlelfpoaaGreat
end
section
namespace Go.Proofs.YtolgdkhlelfpoaaGreat
open Go.RowKit
def XG (l:List Int) (h:l.length≤1099511627776):Qe l=some (ER l):=by
 unfold Qe aFp PL Vp;rw[Di E5];have f:(Rq l).length≤1099511627776:=by rw[(WB l).length_eq];exact h
 simp[h,aMe,aKI]
def MC (l:List Int):(ER l).length≤l.length:=by
 rw[←aKI];exact Ei (Lib.compact_length_le _) BP
def aMQ (a b:List Int):(Og a b).length≤a.length:=by
 unfold Og;exact Ei (Js _ _) (MC a)
def aJ6 (a b:List Int):(I5 a b).length≤a.length+b.length:=by
 rw[og];exact Ei (MC _) BP
def asa (a b:Int):cmp_Less_int a b=some (decide (a<b)):=by
 simp[cmp_Less_int,cmp_isNaN_int]
def aqj (l:List Int) (x:Int) (hi:Inc l) (hn:l.length≤1099511627776):fE (yw l x) (fun r=>r.2=Dj l x):=by
 unfold yw ab4;refine Xi (fun(m:Nat) (a b:Int)=>∃i j:Nat,a=i∧b=j∧i≤j∧j≤l.length∧m=j-i∧(∀q,(f:q<i)→(h:q<l.length)→l[q]<x)∧(∀q,(f:j≤q)→(h:q<l.length)→x≤l[q])) ?_ Ap l.length 0 (l.length:Int) bG ⟨0,l.length,rfl,rfl,Eh _,EG _,rfl,fun q f=>AA,fun q f h=>AA⟩;rintro m a b k ⟨i,j,rfl,rfl,hij,hj,rfl,M,Y⟩ Z;unfold aQg;refine fE.bif (fun e=>?_) fun e=>?_
 ·have O:i<j:=Q7
  have w1:Aw ((i:Int)+(j:Int))=((i+j:Nat):Int):=Yc
  have w2:IntKind.u64.wrap ((i+j:Nat):Int)=((i+j:Nat):Int):=by rw[jI];omega
  have w3:OQ .shr .u64 ((i+j:Nat):Int) 1=some (((i+j)/2:Nat):Int):=by
   have e0:((i+j:Nat):Int).fdiv (2^(min (1:Int).toNat IntKind.u64.bits))=(((i+j)/2:Nat):Int):=by
    have :(2:Int)^(min (1:Int).toNat IntKind.u64.bits)=2:=rfl;rw[this,abw _ AA];omega
   unfold OQ;rw[DN AA];exact BR some e0
  have w4:Aw (((i+j)/2:Nat):Int)=(((i+j)/2:Nat):Int):=Yc
  have n:(i+j)/2<l.length:=AA
  rw[w1,w2,w3];simp only[Aa];rw[w4,CB n];simp only[Aa];rw[asa,wrap_succ _ AA];simp only[Aa];have mono:∀p q,(z:p<l.length)→(f:q<l.length)→p<q→l[p]<l[q]:=fun p q z f s=>Ky.1 hi p q z f s;refine fE.bif (fun S=>?_) fun S=>?_
  ·have u:l[(i+j)/2]<x:=ZF
   refine Z (j-((i+j)/2+1)) _ _ AA ⟨(i+j)/2+1,j,rfl,rfl,AA,hj,rfl,fun q f h=>?_,Y⟩;by_cases eq:q=(i+j)/2
   ·subst eq;exact u
   have :=mono q ((i+j)/2) h n AA;omega
  have u:¬l[(i+j)/2]<x:=ZF
  refine Z ((i+j)/2-i) _ _ AA ⟨i,(i+j)/2,rfl,rfl,AA,AA,rfl,M,fun q f h=>?_⟩;by_cases eq:q=(i+j)/2
  ·subst eq;omega
  have :=mono ((i+j)/2) q n h AA;omega
 have O:¬i<j:=Q7
 have I:i=j:=AA
 subst I;have mono:∀p q,(z:p<l.length)→(f:q<l.length)→p<q→l[p]<l[q]:=fun p q z f s=>Ky.1 hi p q z f s;by_cases h:i<l.length
 ·rw[show decide ((i:Int)<(l.length:Int))=true by simpa using h,CB h];simp only[Ba,Aa];by_cases u:l[i]=x
  ·have L:(l[i]==x)=true:=RF
   rw[L];refine .ret ?_;exact(KZ.2 (u▸Eb h)).symm
  have L:(l[i]==x)=false:=RF
  rw[L]
  have U:Dj l x=false:=OY.2 fun n=>by
   obtain⟨q,f,e5⟩:=JJ n;rcases aEQ q i with J|J|J
   ·have :=M q J f;omega
   ·subst J;exact u e5
   have :=mono i q h f J;have :=Y i (EG _) h;omega
  simp[aBF,U,fE]
 rw[show decide ((i:Int)<(l.length:Int))=false by simpa using h];refine .ret ?_;refine(OY.2 fun n=>?_).symm;obtain⟨q,f,L⟩:=JJ n;have :=M q AA f;omega
def amZ {l b:List Int} {i:Nat} (h:i<l.length):(l.take (i+1)).filter (fun x=> !Dj b x)=(l.take i).filter (fun x=> !Dj b x)++(if Dj b l[i]then[]else[l[i]]):=by
 rw[P5 h,PZ];cases f:Dj b l[i]<;>simp[f]
def ag4 (a b:List Int) (h:a.length≤274877906944) (I:b.length≤274877906944):aDp a b=some (Og a b):=by
 unfold aDp;rw[XG b AA,XG a AA];simp only[Aa];have ha:=MC a;have J:=MC b;have j:=Lm b
 have s:Og a b=((ER a).take (ER a).length).filter (fun x=> !Dj (ER b) x):=by
  rw[Gi];unfold Og;congr 1;funext x;congr 1;by_cases f:x∈b
  ·rw[KZ.2 f,KZ.2 (NC.2 f)]
  rw[OY.2 f,OY.2 (fun h=>f (NC.1 h))]
 rw[s];generalize ER a=S at *;generalize ER b=S2 at *;refine fE.eq ?_;unfold acE;refine KC S.length bG (fun i v=>v=(S.take i).filter (fun x=> !Dj S2 x)) BP ?_ ?_
 ·rintro i v k hi rfl m;have n:=wrap_succ i AA;have u:((S.take i).filter (fun x=> !Dj S2 x)).length≤i:=Ei (Js _ _) E5;have hst:=amZ (b:=S2) hi;unfold aNI aH6;rw[show decide ((i:Int)<(S.length:Int))=true by simpa using hi,CB hi];simp only[Ba,Aa];refine(aqj S2 S[i] j AA).bind ?_;rintro r z;rw[z];cases q:Dj S2 S[i]with
  |true=>
   simp only[EM,BM,n];exact m _ (by rw[hst];simp[q])
  |false=>
   simp only[IX,Ba,n];rw[Di FZ];exact m _ (by rw[hst];simp[q])
 rintro v k rfl;unfold aNI;rw[show decide ((S.length:Int)<(S.length:Int))=false by simp];exact .ret rfl
def UY (l:List Int) (x:Int) (h:l.length≤1099511627776):QV l x=some (Dj l x):=by
 refine fE.eq ?_;unfold QV aTv;refine dH l.length bG (fun i=>∀j,(f:j<i)→(n:j<l.length)→l[j]≠x) (fun j f=>AA) ?_ ?_
 ·intro i k hi m q;unfold aMW;rw[show decide ((i:Int)<(l.length:Int))=true by simpa using hi,CB hi,wrap_succ i AA];simp only[Ba,Aa];refine fE.bif (fun e=>?_) fun e=>?_
  ·refine .ret ?_;have :l[i]=x:=Q7
   rw[KZ.2 (this▸Eb hi)]
  refine q fun j f n=>?_;by_cases s:j=i
  ·subst s;simpa using e
  exact m j AA n
 intro k m;unfold aMW;rw[show decide ((l.length:Int)<(l.length:Int))=false by simp];refine .ret ?_;rw[OY.2];intro u;obtain⟨j,f,e⟩:=JJ u;exact m j f f e
def aP1 (p:Int→Bool):∀(l:List Int) (i:Nat),i≤l.length→(∀j,(h:j<i)→(f:j<l.length)→p l[j]=true)→(∀h:i<l.length,p l[i]=false)→l.takeWhile p=l.take i∧l.dropWhile p=l.drop i
 | [],i,h,_,_=>by simp at h;subst h;simp
 |a::l,0,_,_,m=>by
  have :=m BP;simp at this;simp[this]
 |a::l,i+1,h,h1,m=>by
  have n:=h1 0 AA BP;simp at n;have :=aP1 p l i Jc (fun j q f=>by have :=h1 (j+1) AA LJ;simpa using this) (fun f=>by have :=m LJ;simpa using this);simp[n,this.1,this.2]
def ZC (l:List Int) (x:Int) (h:l.length≤1099511627776):Ux l x=some (put l x):=by
 unfold Ux;rw[UY l x h];simp only[Aa];unfold put;cases hh:Dj l x with
 |true=>simp
 |false=>
  simp only[BM,RD,Jq];refine fE.eq ?_;unfold aPL
  have f:∀i,i≤l.length→(∀j,(n:j<i)→(m:j<l.length)→l[j]<x)→(∀h:i<l.length,¬l[i]<x)→
   fE ((HY l 0 (i:Int)).bind fun z=>(CY 8 [] z).bind fun I=>(CY 8 I [x]).bind fun J=>(HY l (i:Int) ((l.length))).bind fun s=>(CY 8 J s).bind fun u=>some u) (· =l.takeWhile (decide<| · <x)++x::l.dropWhile (decide<| · <x)):=by
   intro i hi L M;obtain⟨O,S⟩:=aP1 (decide<| · <x) l i hi (fun j n m=>by simpa using L j n m) (fun m=>by simpa using M m)
   have U:HY l 0 (i:Int)=some (l.take i):=by
    have :=lu (l:=l) (lo:=0) (hi:=i) AA hi;simpa using this
   have Y:HY l (i:Int) (l.length:Int)=some (l.drop i):=by
    rw[lu (l:=l) (lo:=i) (hi:=l.length) hi AA];congr 1;exact Qp BP
   rw[U];simp only[Aa];rw[Di E5];simp only[Aa,Hu];rw[Di E5];simp only[Aa];rw[Y];simp only[Aa];rw[Di E5];refine .ret ?_;rw[O,S];simp
  refine dH l.length bG (fun i=>∀j,(n:j<i)→(m:j<l.length)→l[j]<x) (fun j n=>AA) ?_ ?_
  ·intro i k hi q Z;unfold aJF;rw[show decide ((i:Int)<(l.length:Int))=true by simpa using hi,CB hi,wrap_succ i AA];simp only[Ba,Aa];refine fE.bif (fun e=>?_) fun e=>?_
   ·refine Z fun j n m=>?_;by_cases ej:j=i
    ·subst ej;simpa using e
    exact q j AA m
   exact f i AA q (fun _=>Q7)
  intro k q;unfold aJF;rw[show decide ((l.length:Int)<(l.length:Int))=false by simp];exact f l.length AA q (fun h=>AA)
def jF (l:List Int) (x:Int):(put l x).length≤l.length+1:=by
 unfold put;split
 ·omega
 rw[ES,GI];have :=BR List.length (vP (p:=(decide<| · <x)) (l:=l));rw[ES]at this;omega
def Yv :∀(l a:List Int),(l.foldl put a).length≤a.length+l.length
 | [],a=>BP
 |x::l,a=>by
  have f:=Yv l (put a x);have h:=jF a x;simp only[Fb,GI];omega
def aQm {l a:List Int} {i:Nat} (h:i<l.length):(l.take (i+1)).foldl put a=put ((l.take i).foldl put a) l[i]:=by
 rw[P5 h,Uc];rfl
def aMJ (l:List Int) (h:l.length≤274877906944):eK l=some (ER l):=by
 refine fE.eq ?_;unfold eK aPv;refine KC l.length bG (fun i v=>v=(l.take i).foldl put []) BP ?_ ?_
 ·rintro i v k hi rfl f;have j:=Yv (l.take i) [];simp only[ML,GH]at j;unfold aLF;rw[show decide ((i:Int)<(l.length:Int))=true by simpa using hi,CB hi,wrap_succ i AA];simp only[Ba,Aa];rw[ZC _ _ AA];exact f _ (aQm hi).symm
 rintro v k rfl;unfold aLF;rw[show decide ((l.length:Int)<(l.length:Int))=false by simp];exact .ret (by rw[Gi];rfl)
def aDU (a b:List Int) (h:a.length≤274877906944) (m:b.length≤274877906944):Xv a b=some (I5 a b):=by
 unfold Xv;rw[aMJ a h];have n:=MC a;refine fE.eq ?_;simp only[Aa];unfold aUR;refine KC b.length bG (fun i v=>v=(b.take i).foldl put (ER a)) BP ?_ ?_
 ·rintro i v k hi rfl f;have j:=Yv (b.take i) (ER a);simp only[GH]at j;unfold aJJ;rw[show decide ((i:Int)<(b.length:Int))=true by simpa using hi,CB hi,wrap_succ i AA];simp only[Ba,Aa];rw[ZC _ _ AA];exact f _ (aQm hi).symm
 rintro v k rfl;unfold aJJ;rw[show decide ((b.length:Int)<(b.length:Int))=false by simp];exact .ret (by rw[Gi];rfl)
def jO (a b:List Int):Bool:=decide (a=b)
def anZ (a b:List Int) (h:a.length≤1099511627776):Uw a b=some (jO a b):=by
 unfold Uw;refine fE.eq (fE.bif (fun e=>?_) fun e=>?_)
 ·refine .ret ?_;have :a≠b:=fun e'=>by subst e';simp at e
  simp[jO,this]
 have z:a.length=b.length:=by have :(a.length:Int)=b.length:=Q7
                              omega
 unfold aNN;refine dH a.length bG (fun i=>∀j,(u:j<i)→(f:j<a.length)→(m:j<b.length)→a[j]=b[j]) (fun j u=>AA) ?_ ?_
 ·intro i k hi n I;have q:i<b.length:=AA
  unfold yC;rw[show decide ((i:Int)<(a.length:Int))=true by simpa using hi,CB hi,CB q,wrap_succ i AA];simp only[Ba,Aa];refine fE.bif (fun e=>.ret ?_) fun e=>I fun j u f m=>?_
  ·have s:a[i]≠b[i]:=Q7
   have :a≠b:=fun e'=>by subst e';exact s rfl
   simp[jO,this]
  by_cases J:j=i
  ·subst J;simpa using e
  exact n j AA f m
 intro k n;unfold yC;rw[show decide ((a.length:Int)<(a.length:Int))=false by simp];refine .ret ?_;have :a=b:=eY z fun j f m=>n j f f m;simp[jO,this]
end Go.Proofs.YtolgdkhlelfpoaaGreat
end
section
namespace Go.Proofs.YtolgdkhlelfpoaaGreat
open Go.RowKit
variable {α : Type}
def Jf {R:Type} (c:Bool) (x y:R):(bif c then some x else some y)=some (bif c then x else y):=by cases c<;>rfl
def aF8 {A R:Type} (c:Bool) (x y:Option A) (f:A→Option R):(bif c then x else y).bind f=bif c then x.bind f else y.bind f:=by cases c<;>rfl
def aC (a b:Bool):(bif a then true else b)=(a||b):=by cases a<;>rfl
def TR (a b:Bool):(bif a then b else false)=(a&&b):=by cases a<;>rfl
def VA {s:ByteArray} {i:Nat} (h:i<(Bq s).length):Gq s (i:Int)=some (Bq s)[i]:=by
 unfold Gq;rw[D9 (aKL i)];have h':i<s.size:=WS
 have e:s[i]? =some s[i]:=by simp[h']
 simp only[Y2,e,Ie,Bq,U5];rfl
def ajP {s:ByteArray} (h:0<(Bq s).length):Gq s 0=some (Bq s)[0]:=VA (i:=0) h
def Gl {R α:Type} {body:(Int→Option R)→Int→Option R} (l:List α) (q:l.length<Ap) (p:α→Bool) (bad:R) (rest:Option R)
 (s:∀k (i:Nat) (h:i<l.length),body k (i:Int)=bif p l[i]then some bad else k (Aw ((i:Int)+1))) (u:∀k,body k (l.length:Int)=rest):
 bn body Ap 0=bif l.any p then some bad else rest:=by
 have J:Ap=9223372036854775808:=rfl
 have key:∀n (i:Nat),i+n=l.length→∀m,n<m→bn body m (i:Int)=bif (l.drop i).any p then some bad else rest:=by
  intro n
  induction n with
  |zero=>
   intro i hi m z;obtain⟨m,rfl⟩:∃j,m=j+1:=⟨m-1,AA⟩
   have :i=l.length:=AA
   subst this;show body (bn body m) _=_;rw[u,Oe];rfl
  |succ n I=>
   intro i hi m z;obtain⟨m,rfl⟩:∃j,m=j+1:=⟨m-1,AA⟩
   have f:i<l.length:=AA
   show body (bn body m) _=_;rw[s _ i f,wrap_succ i AA,I (i+1) AA m AA,LY f,mM];cases p l[i]<;>rfl
 have :=key l.length 0 AA Ap q;simpa using this
def bytes_inj {s t:ByteArray} (h:Bq s=Bq t):s=t:=by
 have hd:s.data.toList=t.data.toList:=by
  unfold Bq at h;refine List.map_inj_right (f:=fun c:UInt8=>(c.toNat:Int)) (fun a b j=>?_) |>.1 h;exact UInt8.toNat_inj.1 AA
 obtain⟨⟨a⟩⟩:=s;obtain⟨⟨b⟩⟩:=t;simp only at hd;rw[hd]
def toList_inj {s t:ByteArray} (h:s.toList=t.toList):s=t:=by
 rw[ByteArray.toList_eq,ByteArray.toList_eq]at h;obtain⟨⟨a⟩⟩:=s;obtain⟨⟨b⟩⟩:=t;simp only at h;rw[h]
def Ij {s t:ByteArray}:(s.toList==t.toList)=decide (s=t):=by
 by_cases h:s=t
 ·subst h;simp
 have :s.toList≠t.toList:=fun e=>h (toList_inj e);simp[h,this]
def KD {R α:Type} {body:(Int→Option R)→Int→Option R} (l:List α) (s:l.length<Ap) (q:α→Bool) (g:Nat→Option R) (rest:Option R)
 (u:∀k (i:Nat) (h:i<l.length),body k (i:Int)=bif q l[i]then g i else k (Aw ((i:Int)+1))) (z:∀k,body k (l.length:Int)=rest):
 bn body Ap 0=if l.findIdx q<l.length then g (l.findIdx q)else rest:=by
 have L:Ap=9223372036854775808:=rfl
 have key:∀n (i:Nat),i+n=l.length→∀m,n<m→bn body m (i:Int)=if(l.drop i).findIdx q+i<l.length then g ((l.drop i).findIdx q+i)else rest:=by
  intro n
  induction n with
  |zero=>
   intro i hi m I;obtain⟨m,rfl⟩:∃j,m=j+1:=⟨m-1,AA⟩
   have :i=l.length:=AA
   subst this;show body (bn body m) _=_;rw[z,Oe,DN AA]
  |succ n J=>
   intro i hi m I;obtain⟨m,rfl⟩:∃j,m=j+1:=⟨m-1,AA⟩
   have f:i<l.length:=AA
   show body (bn body m) _=_;rw[u _ i f,wrap_succ i AA,J (i+1) AA m AA,LY f,St];cases q l[i]with
   |true=>simp[f]
   |false=>simp only[BM];rw[show(l.drop (i+1)).findIdx q+(i+1)=(l.drop (i+1)).findIdx q+1+i by omega]
 have :=key l.length 0 AA Ap s;simpa using this
def fP {s:ByteArray} {lo hi:Nat} (f:lo≤hi) (h:hi≤s.size):NV s (lo:Int) (hi:Int)=some (s.extract lo hi):=by
 unfold NV;rw[D9 ⟨AA,AA,AA⟩];simp
def abI (s:ByteArray) (a b:Nat):Bq (s.extract a b)=((Bq s).take b).drop a:=by
 simp[Bq,ByteArray.data_extract,eS,cD,List.extract_eq_drop_take']
def vk (l:List α) (q:α→Bool):(bif l.any (fun c=> !q c)then false else true)=l.all q:=by
 have :l.any (fun c=> !q c)= !l.all q:=by simp[List.not_all_eq_any_not]
 rw[this];cases l.all q<;>rfl
def aIG :∀(l:List UInt8) (c:UInt8),Lib.indexByte l c=if l.findIdx (· ==c)<l.length then((l.findIdx (· ==c):Nat):Int)else -1
 | [],c=>rfl
 |b::l,c=>by
  unfold Lib.indexByte;rw[St];cases h:b==c with
  |true=>simp
  |false=>
   rw[aIG l c];simp only[RD,Jq,BM,GI];by_cases f:l.findIdx (· ==c)<l.length
   ·simp only[f,Jj,show l.findIdx (· ==c)+1<l.length+1 by omega];have :(((l.findIdx (· ==c):Nat):Int)== -1)=false:=BP
    simp[this]
   simp[f,show ¬l.findIdx (· ==c)+1<l.length+1 by omega]
end Go.Proofs.YtolgdkhlelfpoaaGreat
end
section
namespace Go.Proofs.YtolgdkhlelfpoaaGreat
open Go.RowKit
structure Fa (e:AX):Prop where
 prev:e.bK.length≤40
 auth:e.bP.length≤40
 allow:e.Content.Allow.length≤100
 deny:e.Content.gY.length≤100
 users:e.Content.Levels.Users.length≤100
 kinds:e.Content.Levels.Kinds.length≤100
 room:e.Room.size≤2000
 sender:e.bH.size≤2000
 key:e.Key.size≤2000
 text:e.Content.Text.size≤2000
 via:e.Content.Via.size≤2000
 server:e.qR.Server.size≤2000
 allows:∀x∈e.Content.Allow,x.size≤2000
 denies:∀x∈e.Content.gY,x.size≤2000
 names:∀x∈e.Content.Levels.Users,x.User.size≤2000
def KO {a b:Int} (h:decide (a>b)=false):a≤b:=by have :=Jk h;omega
def aNL {α:Type} {l:List α} {P:α→Prop} (h:∀j,(hl:j<l.length)→P l[j]):∀x∈l,P x:=fun x f=>by
 obtain⟨j,m,rfl⟩:=JJ f;exact h j m
def dZ {α:Type} {body:(Int→Option Bool)→Int→Option Bool} (l:List α) (s:l.length<Ap) (f:α→Bool) (rest:Option Bool) {P:Prop}
 (u:∀(k:Int→Option Bool) (i:Nat) (h:i<l.length),body k (i:Int)=bif f l[i]then some true else k (Aw ((i:Int)+1))) (z:∀k,body k (l.length:Int)=rest)
 (I:(∀x∈l,f x=false)→fE rest (fun b=>b=false→P)):fE (bn body Ap 0) (fun b=>b=false→P):=by
 refine dH l.length s (fun i=>∀j,(m:j<i)→(s:j<l.length)→f l[j]=false) (fun j m=>AA) ?_ ?_
 ·intro i k hi n J;have M:Ap=9223372036854775808:=rfl;rw[u k i hi,wrap_succ i AA];refine fE.bif (fun _=>.ret (fun h=>He)) fun e=>J fun j m q=>?_;by_cases L:j=i
  ·subst L;exact e
  exact n j AA q
 intro k n;rw[z];exact I (aNL fun j m=>n j m m)
def CZ {α R:Type} {l:List α} {i:Nat} (h:i<l.length) (f:α→Option R) (z:Option R):(bif decide ((i:Int)<(l.length:Int))then(Aj l (i:Int)).bind f else z)=f l[i]:=by
 rw[show decide ((i:Int)<(l.length:Int))=true by simpa using h,CB h];rfl
def DZ {α R:Type} {l:List α} (y z:Option R):(bif decide ((l.length:Int)<(l.length:Int))then y else z)=z:=by
 rw[show decide ((l.length:Int)<(l.length:Int))=false by simp];rfl
def aoB (e:AX):fE (aFJ e) (fun b=>b=false→Fa e):=by
 have hf:Ap=9223372036854775808:=rfl;have j:∀{P:Prop},fE (some true) (fun b=>b=false→P):=.ret fun h=>He
 unfold aFJ;simp only[Jf,Aa,aC];refine fE.bif (fun _=>j) fun a=>?_;refine fE.bif (fun _=>j) fun b=>?_;simp only[vS]at a b;obtain⟨⟨⟨⟨⟨m,n⟩,q⟩,s⟩,u⟩,z⟩:=a;obtain⟨⟨⟨⟨⟨I,J⟩,L⟩,M⟩,O⟩,S⟩:=b;have m:=KO m;have n:=KO n;have q:=KO q;have s:=KO s;have u:=KO u;have z:=KO z;have I:=KO I;have J:=KO J;have L:=KO L;have M:=KO M;have O:=KO O;have S:=KO S;unfold acX;refine dZ e.Content.Allow AA (fun x=>decide ((x.size:Int)>2000)) (aHg e 0) (fun k i h=>?_) (fun k=>?_) fun U=>?_
 ·unfold aJj;rw[CZ h]
 ·unfold aJj;rw[DZ]
 unfold aHg;refine dZ e.Content.gY AA (fun x=>decide ((x.size:Int)>2000)) (aLR e 0) (fun k i h=>?_) (fun k=>?_) fun Y=>?_
 ·unfold aKs;rw[CZ h]
 ·unfold aKs;rw[DZ]
 unfold aLR;refine dZ e.Content.Levels.Users AA (fun x=>decide ((x.User.size:Int)>2000)) (some false) (fun k i h=>?_) (fun k=>?_) fun Z=>?_
 ·unfold aNX;rw[CZ h]
 ·unfold aNX;rw[DZ]
 refine .ret fun _=>⟨AA,AA,AA,AA,AA,AA,AA,AA,AA,AA,AA,AA,fun x f=>?_,fun x f=>?_,fun x f=>?_⟩
 ·have :=KO (U x f);omega
 ·have :=KO (Y x f);omega
 have :=KO (Z x f);omega
def fuel_lt {n:Nat} (h:n≤1099511627776):n<Ap:=dn
def dec_lt {i n:Nat} (h:i<n):decide ((i:Int)<(n:Int))=true:=Jc
def DT (n:Nat):decide ((n:Int)<(n:Int))=false:=BP
def Gs {R A α:Type} {body:(A→Int→Option R)→A→Int→Option R} (l:List α) (s:l.length≤1099511627776) (step:A→α→A) (I:Nat→A→Prop) (f:A→Option R) {a0:A} (u:I 0 a0)
 (z:∀k a (i:Nat) (h:i<l.length),I i a→I (i+1) (step a l[i])∧body k a (i:Int)=k (step a l[i]) (Aw ((i:Int)+1)))
 (J:∀k a,I l.length a→body k a (l.length:Int)=f a):aS body Ap a0 0=f (l.foldl step a0):=by
 have key:∀n (i:Nat) (a:A),i+n=l.length→I i a→∀m,n<m→aS body m a (i:Int)=f ((l.drop i).foldl step a):=by
  intro n
  induction n with
  |zero=>
   intro i a hi ha m L;obtain⟨m,rfl⟩:∃q,m=q+1:=⟨m-1,AA⟩
   have :i=l.length:=AA
   subst this;show body (aS body m) _ _=_;rw[J _ _ ha,Oe];rfl
  |succ n M=>
   intro i a hi ha m L;obtain⟨m,rfl⟩:∃q,m=q+1:=⟨m-1,AA⟩
   have j:i<l.length:=AA
   obtain⟨O,S⟩:=z (aS body m) a i j ha;show body (aS body m) _ _=_;rw[S,wrap_succ i AA,M (i+1) _ AA O m AA,LY j,Fb]
 have :=key l.length 0 a0 AA u Ap (fuel_lt s);simpa using this
def qQ {R A α:Type} {body:(Int→A→Option R)→Int→A→Option R} (l:List α) (s:l.length≤1099511627776) (step:A→α→A) (I:Nat→A→Prop) (f:A→Option R) {a0:A} (u:I 0 a0)
 (z:∀k a (i:Nat) (h:i<l.length),I i a→I (i+1) (step a l[i])∧body k (i:Int) a=k (Aw ((i:Int)+1)) (step a l[i]))
 (J:∀k a,I l.length a→body k (l.length:Int) a=f a):aS body Ap 0 a0=f (l.foldl step a0):=by
 have key:∀n (i:Nat) (a:A),i+n=l.length→I i a→∀m,n<m→aS body m (i:Int) a=f ((l.drop i).foldl step a):=by
  intro n
  induction n with
  |zero=>
   intro i a hi ha m L;obtain⟨m,rfl⟩:∃q,m=q+1:=⟨m-1,AA⟩
   have :i=l.length:=AA
   subst this;show body (aS body m) _ _=_;rw[J _ _ ha,Oe];rfl
  |succ n M=>
   intro i a hi ha m L;obtain⟨m,rfl⟩:∃q,m=q+1:=⟨m-1,AA⟩
   have j:i<l.length:=AA
   obtain⟨O,S⟩:=z (aS body m) a i j ha;show body (aS body m) _ _=_;rw[S,wrap_succ i AA,M (i+1) _ AA O m AA,LY j,Fb]
 have :=key l.length 0 a0 AA u Ap (fuel_lt s);simpa using this
def Ko {α:Type} (p:α→Bool):∀l:List α,l.find? p=l[l.findIdx p]?
 | []=>rfl
 |x::l=>by
  rw[Z7,St];cases h:p x with
  |true=>rfl
  |false=>simp[Ko p l]
def ET (l:List AX) (id:Int):Option AX:=l.find? fun e=>e.Id==id
def I4 (l:List AX) (id:Int):AX×Bool:=match ET l id with
 |some e=>(e,true)
 |none=>(F7,false)
def adu {l:List AX} {id:Int} {e:AX} (h:ET l id=some e):e.Id=id:=by
 have :=aKH h;simpa using this
def OG {l:List AX} {id:Int} {e:AX} (h:ET l id=some e):e∈l:=Zv h
def OZ (l:List AX) (id:Int):(I4 l id).2=(ET l id).isSome:=by
 unfold I4;cases ET l id<;>rfl
def aMy (l:List AX) (j:l.length≤1099511627776) (f:AX→Option Bool) (p:AX→Bool) (m:∀e,f e=some (p e)):
 fB l f=some (if l.findIdx p<l.length then((l.findIdx p:Nat):Int)else -1):=by
 unfold fB aTM;rw[KD l (fuel_lt j) p (fun i=>some (i:Int)) (some (-1))]
 ·split<;>rfl
 ·intro k i h;unfold aIl;rw[CZ h,m];rfl
 intro k;unfold aIl;rw[DZ]
def found_eq (l:List AX) (p:AX→Bool) {n:Int} (f:n=if l.findIdx p<l.length then((l.findIdx p:Nat):Int)else -1):
 (bif decide (n<0)then some (F7,false)else(Aj l n).bind fun j=>some (j,true))=some (match l.find? p with |some e=>(e,true)|none=>(F7,false)):=by
 subst f;rw[Ko];by_cases h:l.findIdx p<l.length
 ·rw[D9 h,Dx h,show decide (((l.findIdx p:Nat):Int)<0)=false by simp,CB h];rfl
 rw[DN h,II AA];rfl
def O9 (l:List AX) (id:Int) (f:l.length≤1099511627776):MN l id=some (I4 l id):=by
 unfold MN aOz aEn;rw[aMy l f _ (fun e=>e.Id==id) fun _=>rfl];exact found_eq l _ rfl
def aTC (l:List AX) (id:Int) (f:l.length≤1099511627776):uD l id=some (if l.findIdx (fun e=>e.Id==id)<l.length then((l.findIdx (fun e=>e.Id==id):Nat):Int)else -1):=by
 unfold uD aS6;rw[KD l (fuel_lt f) (fun e=>e.Id==id) (fun i=>some (i:Int)) (some (-1))]
 ·split<;>rfl
 ·intro k i h;unfold aIC;rw[CZ h]
 intro k;unfold aIC;rw[DZ]
def Ln (l:List AX) (id:Int) (f:l.length≤1099511627776):Jl l id=some (I4 l id):=by
 unfold Jl;rw[aTC l id f];exact found_eq l _ rfl
def ofIds (l:List AX) (ids:List Int):List AX:=ids.filterMap (ET l)
def foldl_append {α β:Type} (f:α→List β):∀(l:List α) (a:List β),l.foldl (fun r x=>r++f x) a=a++l.flatMap f
 | [],a=>BP
 |x::l,a=>by rw[Fb,foldl_append f l,Oi,J7]
def aSu (l:List AX):∀ids,ofIds l ids=ids.flatMap fun id=>(ET l id).toList
 | []=>rfl
 |id::ids=>by
  unfold ofIds;rw[Qs,Oi,←aSu l ids];cases ET l id<;>rfl
def toList_le {α:Type} (o:Option α):o.toList.length≤1:=by cases o<;>simp
def Na {l:List AX} {id:Int} {e:AX} (h:ET l id=some e):I4 l id=(e,true):=by unfold I4;rw[h]
def Ri {l:List AX} {id:Int} (h:ET l id=none):I4 l id=(F7,false):=by unfold I4;rw[h]
def aB (l:List AX) (ids:List Int):(ofIds l ids).length≤ids.length:=List.length_filterMap_le ..
def aUg (l:List AX) (ids:List Int):ids.foldl (fun r id=>r++(ET l id).toList) []=ofIds l ids:=by
 rw[foldl_append (fun id=>(ET l id).toList),aSu];rfl
def anU (l:List AX) (ids:List Int) (n:l.length≤1000) (hi:ids.length≤1000000):Src l ids=some (ofIds l ids):=by
 unfold Src
 have j:JR 376 F7 0 (ids.length:Int)=some []:=by
  unfold JR;rw[D9 aGS];rfl
 rw[j];simp only[Aa];unfold aTZ;rw[Gs ids AA (fun r id=>r++(ET l id).toList) (fun i r=>r.length≤i) (fun r=>some r) BP]
 ·rw[aUg]
 ·intro k a i h m;have q:=toList_le (ET l ids[i]);refine⟨KT,?_⟩;unfold aK5 aAY;rw[CZ h,O9 l _ AA];cases f:ET l ids[i]with
  |none=>simp[Ri f]
  |some e=>
   rw[Na f];simp only[Aa,Ba,Qb];rw[Di FZ];rfl
 intro k a m;unfold aK5;rw[DZ]
def aHk (l:List AX) (ids:List Int) (m:l.length≤1000) (hi:ids.length≤1000000):dS l ids=some (ofIds l ids):=by
 unfold dS ad7;rw[Gs ids AA (fun r id=>r++(ET l id).toList) (fun i r=>r.length≤i) (fun r=>some r) BP]
 ·rw[aUg]
 ·intro k a i h j;have n:=toList_le (ET l ids[i]);refine⟨KT,?_⟩;unfold aHG aDN;rw[CZ h,Ln l _ AA];cases f:ET l ids[i]with
  |none=>simp[Ri f]
  |some e=>
   rw[Na f];simp only[Aa,Ba,Qb];rw[Di FZ];rfl
 intro k a j;unfold aHG;rw[DZ]
def acA {α:Type} (l:List α) (i:Nat) (x:α) (h:i<l.length):l.set i x=l.take i++x::l.drop (i+1):=aKJ▸by simp[h]
def aUJ {α:Type} (A:List α) (g:α) (D:List α) {n:Nat} (h:A.length=n):(A++g::D).take n=A∧(A++g::D).drop (n+1)=D:=by
 subst h;simp
def aI4 (l:List Int) (x:Int) (hi:Inc l) (J:l.length≤1000000):mZ l x=some (put l x):=by
 refine fE.eq ?_;unfold mZ ade
 have z:∀i,i≤l.length→(∀j,(O:j<i)→(J:j<l.length)→l[j]<x)→(∀h:i<l.length,x<l[i])→put l x=l.take i++x::l.drop i:=by
  intro i Z U L;obtain⟨e1,M⟩:=aP1 (decide<| · <x) l i Z (fun j O J=>by simpa using U j O J) (fun J=>by have :=L J;simp;omega)
  have hno:Dj l x=false:=OY.2 fun hm=>by
   obtain⟨q,hq,e4⟩:=JJ hm;rcases zh q i with h5|h5
   ·have :=U q h5 hq;omega
   have h6:=L AA;rcases zh i q with h7|h7
   ·have :=Ky.1 hi i q AA hq h7;omega
   have :q=i:=AA
   subst this;omega
  unfold put;rw[hno,e1,M];rfl
 have n:∀i,i≤l.length→∀d,d≤l.length-i→∀m,d<m→fE (aS (VB (i:Int) x) m ((i+d:Nat):Int) (l.take (i+d)++(l++[x]).getD (i+d) 0::l.drop (i+d))) (· =l.take i++x::l.drop i):=by
  intro i s d
  induction d with
  |zero=>
   intro _ m hm;obtain⟨m,rfl⟩:∃m',m=m'+1:=⟨m-1,AA⟩
   show fE (VB (i:Int) x (aS (VB (i:Int) x) m) _ _) _;generalize aS (VB (i:Int) x) m=k;unfold VB;rw[show decide (((i+0:Nat):Int)>(i:Int))=false by simp];simp only[BM,Oo];have hlen:i<(l.take i++(l++[x]).getD i 0::l.drop i).length:=E5
   rw[CB hlen];refine .ret ?_;rw[Y2,acA _ _ _ hlen];simp[aIa,List.drop_append,aO8 s]
  |succ d ih=>
   intro hd m hm;obtain⟨m,rfl⟩:∃m',m=m'+1:=⟨m-1,AA⟩
   have S:=ih AA m AA;show fE (VB (i:Int) x (aS (VB (i:Int) x) m) _ _) _;generalize aS (VB (i:Int) x) m=k at S ⊢;unfold VB;rw[show decide (((i+(d+1):Nat):Int)>(i:Int))=true by simp;omega];simp only[Ba];have w:Aw (((i+(d+1):Nat):Int)-1)=((i+d:Nat):Int):=Yc
   have u:i+d<l.length:=AA
   have hL:(l.take (i+(d+1))++(l++[x]).getD (i+(d+1)) 0::l.drop (i+(d+1))).length=l.length+1:=E5
   have U:i+d<(l.take (i+(d+1))++(l++[x]).getD (i+(d+1)) 0::l.drop (i+(d+1))).length:=AA
   have L:i+(d+1)<(l.take (i+(d+1))++(l++[x]).getD (i+(d+1)) 0::l.drop (i+(d+1))).length:=AA
   rw[w,CB U];simp only[Aa];rw[CB L];simp only[Aa]
   have hg:(l.take (i+(d+1))++(l++[x]).getD (i+(d+1)) 0::l.drop (i+(d+1)))[i+d]=l[i+d]:=by
    rw[aOJ E5];simp
   rw[hg,Y2,acA _ _ _ L]
   have e:(l.take (i+(d+1))++(l++[x]).getD (i+(d+1)) 0::l.drop (i+(d+1))).take (i+(d+1))++l[i+d]::(l.take (i+(d+1))++(l++[x]).getD (i+(d+1)) 0::l.drop (i+(d+1))).drop (i+(d+1)+1)=l.take (i+d)++(l++[x]).getD (i+d) 0::l.drop (i+d):=by
    have ht:(l.take (i+(d+1))).length=i+(d+1):=E5
    rw[(aUJ _ _ _ ht).1,(aUJ _ _ _ ht).2];have h3:(l++[x]).getD (i+d) 0=l[i+d]:=by simp[List.getD,GZ u,u]
    rw[h3,show i+(d+1)=i+d+1 by omega,P5 u,LY u,J7];rfl
   rw[e];exact S
 have f:l++[x]=l.take l.length++(l++[x]).getD l.length 0::l.drop l.length:=BP
 refine dH l.length (fuel_lt AA) (fun i=>∀j,(O:j<i)→(J:j<l.length)→l[j]<x) (fun j O=>AA) ?_ ?_
 ·intro i k s Y hk;unfold aP8;rw[show decide ((i:Int)<(l.length:Int))=true by simpa using s,CB s];simp only[Ba,Aa];refine fE.bif (fun e=>?_) fun e=>?_
  ·rw[wrap_succ i AA];refine hk fun j O hl'=>?_;by_cases ej:j=i
   ·subst ej;simpa using e
   exact Y j AA hl'
  have hge:¬l[i]<x:=Q7
  refine fE.bif (fun M=>?_) fun M=>?_
  ·have hx:l[i]=x:=aEj
   refine .ret ?_;unfold put;rw[KZ.2 (hx▸Eb s)];rfl
  have hx:l[i]≠x:=aEj
  rw[Di FZ];simp only[Aa];rw[z i AA Y (fun _=>AA)];have w:Aw (((l++[x]).length:Int)-1)=((i+(l.length-i):Nat):Int):=aOn
  rw[w];have I:=n i AA (l.length-i) (EG _) Ap (fuel_lt AA);rw[show i+(l.length-i)=l.length by omega]at I ⊢;rw[←f]at I;exact I
 intro k Y;unfold aP8;rw[show decide ((l.length:Int)<(l.length:Int))=false by simp];simp only[BM,Aa];rw[Di FZ];simp only[Aa];rw[z l.length (EG _) Y (fun h=>AA)];have w:Aw (((l++[x]).length:Int)-1)=((l.length+0:Nat):Int):=aOn
 rw[w];have I:=n l.length (EG _) 0 AA Ap (fuel_lt AA);rw[Oo]at I ⊢;rw[←f]at I;exact I
def dX (l:List AX) (id:Int):Bool:=(ET l id).isSome
def Yh (l:List AX) (ids:List Int):List Int:=ids.foldl (fun r id=>bif dX l id then r else put r id) []
def FD (l:List AX) (ids:List Int):List Int:=(ER ids).filter (dX l)
def Nh {l:List AX} {ids:List Int} {x:Int}:x∈FD l ids↔x∈ids∧dX l x=true:=by unfold FD;rw[Hf,NC]
def aH (l:List AX) (ids:List Int):Inc (FD l ids):=(Lm ids).sublist SH
def anH (l:List AX) (ids:List Int):(FD l ids).length≤ids.length:=Ei (Js _ _) (MC ids)
def aJV (l:List AX):∀(ids r:List Int),Inc r→Inc (ids.foldl (fun r id=>bif dX l id then r else put r id) r)∧∀x,x∈ids.foldl (fun r id=>bif dX l id then r else put r id) r↔x∈r∨x∈ids∧dX l x=false
 | [],r,h=>⟨h,fun x=>BP⟩
 |id::ids,r,h=>by
  rw[Fb];cases n:dX l id with
  |true=>
   obtain⟨j,m⟩:=aJV l ids r h;refine⟨j,fun x=>(m x).trans ⟨fun h=>?_,fun h=>?_⟩⟩
   ·rcases h with h|h
    ·exact .inl h
    exact .inr ⟨IY _ h.1,h.2⟩
   rcases h with h|⟨h,f⟩
   ·exact .inl h
   rcases F9.1 h with rfl|h
   ·rw[n]at f;cases f
   exact .inr ⟨h,f⟩
  |false=>
   obtain⟨j,m⟩:=aJV l ids (put r id) (Qm h);refine⟨j,fun x=>(m x).trans ?_⟩;rw[VW,F9];constructor
   ·rintro((h|rfl)|h)
    ·exact .inl h
    ·exact .inr ⟨.inl rfl,n⟩
    exact .inr ⟨.inr h.1,h.2⟩
   rintro(h|⟨rfl|h,f⟩)
   ·exact .inl (.inl h)
   ·exact .inl (.inr rfl)
   exact .inr ⟨h,f⟩
def aHW {l:List AX} {ids:List Int} {x:Int}:x∈Yh l ids↔x∈ids∧dX l x=false:=by
 unfold Yh;rw[(aJV l ids [] .nil).2 x];simp
def aPo (l:List AX) (ids:List Int):(Yh l ids).length≤ids.length:=by
 have key:∀(ids r:List Int),(ids.foldl (fun r id=>bif dX l id then r else put r id) r).length≤r.length+ids.length:=by
  intro ids
  induction ids with
  |nil=>intro r;simp
  |cons id ids f=>
   intro r;rw[Fb];have h:=f (bif dX l id then r else put r id)
   have j:(bif dX l id then r else put r id).length≤r.length+1:=by
    cases dX l id with
    |true=>exact Nat.le_succ _
    |false=>exact jF r id
   simp only[GI];omega
 have :=key ids [];simpa[Yh]using this
def aL3 (l:List AX) (ids:List Int) (q:l.length≤1000) (hi:ids.length≤100000):lI l ids=some (Yh l ids):=by
 unfold lI aTN;rw[Gs ids AA (fun r id=>bif dX l id then r else put r id) (fun i r=>Inc r∧r.length≤i) (fun r=>some r) ⟨.nil,EG _⟩]
 ·rfl
 ·intro k a i h f;have n:=aTC l ids[i] AA
  have m:dX l ids[i]=decide (l.findIdx (fun e=>e.Id==ids[i])<l.length):=by
   unfold dX ET;rw[Ko];by_cases h:l.findIdx (fun e=>e.Id==ids[i])<l.length
   ·rw[Dx h,Ht h];rfl
   rw[II AA,IJ h];rfl
  refine⟨?_,?_⟩
  ·cases dX l ids[i]with
   |true=>exact⟨f.1,by have :=f.2;show a.length≤i+1;omega⟩
   |false=>exact⟨Qm f.1,by have :=jF a ids[i];have :=f.2;show(put a ids[i]).length≤i+1;omega⟩
  unfold aLq zO;rw[CZ h,n];simp only[Aa];by_cases j:l.findIdx (fun e=>e.Id==ids[i])<l.length
  ·rw[D9 j,m,Ht j,show decide (((l.findIdx (fun e=>e.Id==ids[i]):Nat):Int)<0)=false by simp];rfl
  rw[DN j,m,IJ j,CB h];simp only[show decide ((-1:Int)<0)=true by decide,Ba,BM,Aa];rw[aI4 a _ f.1 (by have :=f.2;omega)];rfl
 intro k a f;unfold aLq;rw[DZ]
def aDD (a b:List Int) (h:a.length≤274877906944) (n:b.length≤274877906944):ah a b=some (Og a b):=by
 unfold ah;rw[aMJ a h];simp only[Aa];have ha:=MC a;unfold ae1;rw[Gs (ER a) AA (fun r x=>bif Dj b x then r else r++[x]) (fun i r=>r.length≤i) (fun r=>some r) (EG _)]
 ·congr 1;unfold Og;generalize ER a=S
  have key:∀(S r:List Int),S.foldl (fun r x=>bif Dj b x then r else r++[x]) r=r++S.filter (fun x=> !Dj b x):=by
   intro S
   induction S with
   |nil=>intro r;simp
   |cons x S f=>
    intro r;rw[Fb,f,QK];cases Dj b x<;>simp
  simpa using key S []
 ·intro k r i h j;have m:=UY b (ER a)[i] AA;refine⟨?_,?_⟩
  ·cases Dj b (ER a)[i]with
   |true=>show r.length≤i+1;omega
   |false=>show(r++[(ER a)[i]]).length≤i+1;simp;omega
  unfold aLN aGM;rw[CZ h,m];simp only[Aa];cases Dj b (ER a)[i]with
  |true=>rfl
  |false=>
   simp only[IX,Ba,BM];rw[CB h];simp only[Aa];rw[Di FZ];rfl
 intro k r j;unfold aLN;rw[DZ]
def aTp (l:List AX) (ids:List Int):Og ids (Yh l ids)=FD l ids:=
 G9 (aLA _ _) (aH _ _) fun x=>by
  rw[aSe,aHW,Nh];cases dX l x<;>simp
def ahk (l:List AX) (ids:List Int) (f:l.length≤1000) (hi:ids.length≤100000):aGg l ids=some (FD l ids):=by
 unfold aGg;rw[aL3 l ids f hi];simp only[Aa];have :=aPo l ids;rw[aDD _ _ AA AA,aTp];rfl
def abu (l:List AX) (ids:List Int) (f:l.length≤1000) (hi:ids.length≤100000):xQ l ids=some (FD l ids):=by
 unfold xQ;rw[aL3 l ids f hi];simp only[Aa];have :=aPo l ids;rw[aDD _ _ AA AA,aTp];rfl
def Gu (l:List AX) (id:Int):List Int:=(I4 l id).1.bP
def TJ (l:List AX) (r:List Int) (x:Int):List Int:=bif dX l x then put r x else r
def JQ (l:List AX) (ids:List Int):List Int:=ids.foldl (fun r id=>(Gu l id).foldl (TJ l) r) []
def zn (l:List AX):∀(xs r:List Int),Inc r→Inc (xs.foldl (TJ l) r)∧(∀x,x∈xs.foldl (TJ l) r↔x∈r∨x∈xs∧dX l x=true)∧(xs.foldl (TJ l) r).length≤r.length+xs.length
 | [],r,h=>⟨h,fun x=>BP,BP⟩
 |y::xs,r,h=>by
  rw[Fb];unfold TJ;cases q:dX l y with
  |true=>
   obtain⟨m,n,f⟩:=zn l xs (put r y) (Qm h);refine⟨m,fun x=>(n x).trans ?_,?_⟩
   ·rw[VW,F9];constructor
    ·rintro((h|rfl)|h)
     ·exact .inl h
     ·exact .inr ⟨.inl rfl,q⟩
     exact .inr ⟨.inr h.1,h.2⟩
    rintro(h|⟨rfl|h,j⟩)
    ·exact .inl (.inl h)
    ·exact .inl (.inr rfl)
    exact .inr ⟨h,j⟩
   have :=jF r y;simp only[GI,Ba]at f ⊢;exact Ei f AA
  |false=>
   obtain⟨m,n,f⟩:=zn l xs r h;refine⟨m,fun x=>(n x).trans ⟨fun h=>?_,fun h=>?_⟩,?_⟩
   ·rcases h with h|h
    ·exact .inl h
    exact .inr ⟨IY _ h.1,h.2⟩
   ·rcases h with h|⟨h,j⟩
    ·exact .inl h
    rcases F9.1 h with rfl|h
    ·rw[q]at j;cases j
    exact .inr ⟨h,j⟩
   simp only[GI,BM]at f ⊢;exact Ei f AA
def aNd (l:List AX):∀(ids r:List Int),Inc r→Inc (ids.foldl (fun r id=>(Gu l id).foldl (TJ l) r) r)∧∀x,x∈ids.foldl (fun r id=>(Gu l id).foldl (TJ l) r) r↔x∈r∨dX l x=true∧∃id∈ids,x∈Gu l id
 | [],r,h=>⟨h,fun x=>BP⟩
 |id::ids,r,h=>by
  rw[Fb];obtain⟨j,m,_⟩:=zn l (Gu l id) r h;obtain⟨n,q⟩:=aNd l ids _ j;refine⟨n,fun x=>(q x).trans ?_⟩;rw[m x];constructor
  ·rintro((h|h)|⟨h3,i,f,h5⟩)
   ·exact .inl h
   ·exact .inr ⟨h.2,id,Hy ..,h.1⟩
   exact .inr ⟨h3,i,IY _ f,h5⟩
  rintro(h|⟨h3,i,f,h5⟩)
  ·exact .inl (.inl h)
  rcases F9.1 f with rfl|f
  ·exact .inl (.inr ⟨h5,h3⟩)
  exact .inr ⟨h3,i,f,h5⟩
def yY (l:List AX) (ids:List Int):Inc (JQ l ids):=(aNd l ids [] .nil).1
def RG {l:List AX} {ids:List Int} {x:Int}:x∈JQ l ids↔dX l x=true∧∃id∈ids,x∈Gu l id:=by
 unfold JQ;rw[(aNd l ids [] .nil).2 x];simp
def chainOf (l:List AX) (ids:List Int):List Int:=l.foldl (fun s _=>I5 s (JQ l s)) (JQ l (FD l ids))
inductive NW (l:List AX) (ids:List Int):Int→Prop
 |one {i x:Int} (h:i∈ids) (hx:x∈Gu l i) (hk:dX l x=true):NW l ids x
 |more {y x:Int} (h:NW l ids y) (hx:x∈Gu l y) (hk:dX l x=true):NW l ids x
def amL {l:List AX} {i x:Int} (h:x∈Gu l i):dX l i=true:=by
 unfold Gu at h;unfold dX;cases f:ET l i with
 |none=>rw[Ri f]at h;cases h
 |some e=>rfl
def pV {s t:List Int} (j:Inc s) (m:Inc t) (h:∀x∈s,x∈t):s.length≤t.length∧(t.length≤s.length→s=t):=by
 have e:s=t.filter (fun x=>Dj s x):=G9 j (m.sublist SH) fun x=>by
  rw[Hf,KZ];exact⟨fun f=>⟨h x f,f⟩,fun f=>f.2⟩
 have n:=Js (fun x=>Dj s x) t;refine⟨by rw[e];exact n,fun q=>?_⟩;have u:(t.filter (fun x=>Dj s x)).length=t.length:=by have :=BR List.length e;omega
 rw[e];exact qE.2 (List.length_filter_eq_length_iff.1 u)
def Rn (l:List AX):List Int:=ER (l.map (·.Id))
def xB {l:List AX} {x:Int} (h:dX l x=true):x∈Rn l:=by
 unfold dX at h;obtain⟨e,f⟩:=RH.1 h;exact NC.2 (GV.2 ⟨e,OG f,adu f⟩)
def aDE (l:List AX):∀(j:List AX) (s:List Int),Inc s→(∀x∈s,dX l x=true)→
 Inc (j.foldl (fun s _=>I5 s (JQ l s)) s)∧(∀x∈j.foldl (fun s _=>I5 s (JQ l s)) s,dX l x=true)∧(∀x∈s,x∈j.foldl (fun s _=>I5 s (JQ l s)) s)∧
 ((Rn l).length≤s.length+j.length→∀x∈JQ l (j.foldl (fun s _=>I5 s (JQ l s)) s),x∈j.foldl (fun s _=>I5 s (JQ l s)) s)
 | [],s,u,z=>⟨u,z,fun _ h=>h,fun hlen x m=>by
     have I:=(pV u (Lm _) (fun x m=>xB (z x m))).2 (by show(Rn l).length≤s.length;simpa using hlen);have n:=xB (RG.1 m).1;unfold Rn at n
     rw[←I]at n;exact n⟩
 |e::j,s,u,z=>by
  rw[Fb]
  have J:∀x∈I5 s (JQ l s),dX l x=true:=fun x m=>by
   rcases dK.1 m with h|h
   ·exact z x h
   exact(RG.1 h).1
  obtain⟨I,n,L,M⟩:=aDE l j (I5 s (JQ l s)) (yZ _ _) J;refine⟨I,n,fun x m=>L x (dK.2 (.inl m)),fun hlen=>?_⟩;have q:=pV u (yZ s (JQ l s)) fun x m=>dK.2 (.inl m);by_cases f:s=I5 s (JQ l s)
  ·
   have hst:∀(j:List AX),j.foldl (fun s _=>I5 s (JQ l s)) s=s:=by
    intro j
    induction j with
    |nil=>rfl
    |cons e j O=>rw[Fb,←f,O]
   rw[←f,hst];intro x m;rw[f];exact dK.2 (.inr m)
  ·refine M ?_
   have :s.length<(I5 s (JQ l s)).length:=by
    rcases zh s.length (I5 s (JQ l s)).length with h|h
    ·exact h
    exact absurd (q.2 h) f
   simp only[GI]at hlen;omega
def acG (l:List AX) (ids:List Int):Inc (chainOf l ids):=(aDE l l _ (yY _ _) fun _ f=>(RG.1 f).1).1
def ari {l:List AX} {ids:List Int} {x:Int} (h:x∈chainOf l ids):dX l x=true:=(aDE l l _ (yY _ _) fun _ f=>(RG.1 f).1).2.1 x h
def adQ (l:List AX) (ids:List Int):∀(j:List AX) (s:List Int),(∀x∈s,NW l ids x)→∀x∈j.foldl (fun s _=>I5 s (JQ l s)) s,NW l ids x
 | [],s,h=>h
 |e::j,s,h=>by
  rw[Fb];refine adQ l ids j _ fun x f=>?_;rcases dK.1 f with f|f
  ·exact h x f
  obtain⟨m,y,n,q⟩:=RG.1 f;exact .more (h y n) q m
def aLv {l:List AX} {ids:List Int} {x:Int}:x∈chainOf l ids↔NW l ids x:=by
 constructor
 ·refine adQ l ids l _ (fun x f=>?_) x;obtain⟨n,y,q,j⟩:=RG.1 f;exact .one (Nh.1 q).1 j n
 obtain⟨n,q,j,s⟩:=aDE l l _ (yY l (FD l ids)) fun _ f=>(RG.1 f).1
 have hlen:(Rn l).length≤(JQ l (FD l ids)).length+l.length:=by
  have :=MC (l.map (·.Id));unfold Rn;simp only[D8]at this;omega
 have u:=s hlen;intro h
 induction h with
 |one h f m=>exact j _ (RG.2 ⟨m,_,Nh.2 ⟨h,amL f⟩,f⟩)
 |more h f m z=>exact u _ (RG.2 ⟨m,_,z,f⟩)
def ay (l:List AX) (ids:List Int):(chainOf l ids).length≤l.length:=by
 have f:=(pV (t:=Rn l) (acG l ids) (Lm _) fun x h=>xB (ari h)).1;have j:=MC (l.map fun e:AX=>e.Id);unfold Rn at f;simp only[D8]at j;omega
def Ql (l:List AX):Prop:=∀e∈l,e.bP.length≤40
def aHF {l:List AX} (h:Ql l) (id:Int):(Gu l id).length≤40:=by
 unfold Gu;cases f:ET l id with
 |none=>rw[Ri f];exact Eh _
 |some e=>rw[Na f];exact h e (OG f)
def aoI (l:List AX) (ids:List Int):(JQ l ids).length≤l.length:=by
 have f:=(pV (t:=Rn l) (yY l ids) (Lm _) fun x h=>xB (RG.1 h).1).1;have j:=MC (l.map fun e:AX=>e.Id);unfold Rn at f;simp only[D8]at j;omega
def lK {l:List AX} {r:List Int} (hi:Inc r) (h:∀x∈r,dX l x=true):r.length≤l.length:=by
 have f:=(pV (t:=Rn l) hi (Lm _) fun x j=>xB (h x j)).1;have m:=MC (l.map fun e:AX=>e.Id);unfold Rn at f;simp only[D8]at m;omega
def aUX (l:List AX) (ids:List Int) (L:l.length≤1000) (ha:Ql l) (hi:ids.length≤100000):oZ l ids true=some (JQ l ids):=by
 unfold oZ abS;rw[Gs ids AA (fun r id=>(Gu l id).foldl (TJ l) r) (fun i r=>Inc r∧∀x∈r,dX l x=true) (fun r=>some r) ⟨.nil,fun x m=>by cases m⟩]
 ·rfl
 ·intro k r i h n;obtain⟨u,z,_⟩:=zn l (Gu l ids[i]) r n.1;refine⟨⟨u,fun x m=>?_⟩,?_⟩
  ·rcases(z x).1 m with h|h
   ·exact n.2 x h
   exact h.2
  unfold aNW aAW;rw[CZ h,Ln l _ AA];simp only[Aa,Ba];show aNf (Gu l ids[i]) l k (i:Int) r 0=_;have I:=aHF ha ids[i];unfold aNf;rw[Gs (Gu l ids[i]) AA (TJ l) (fun _ r=>Inc r∧∀x∈r,dX l x=true) (fun r=>k r (Aw ((i:Int)+1))) n]
  ·intro k2 J j q f;refine⟨?_,?_⟩
   ·unfold TJ;cases s:dX l (Gu l ids[i])[j]with
    |true=>exact⟨Qm f.1,fun x m=>(VW.1 m).elim (f.2 x) fun e=>e▸s⟩
    |false=>exact f
   unfold aIJ aEs;rw[CZ q,Ln l _ AA];simp only[Aa,OZ];show(bif dX l (Gu l ids[i])[j]then _ else _)=_;unfold TJ;cases s:dX l (Gu l ids[i])[j]with
   |true=>
    simp only[Ba];rw[CB q];simp only[Aa];have :=lK f.1 f.2;rw[ZC _ _ AA];rfl
   |false=>rfl
  intro k2 J _;unfold aIJ;rw[DZ]
 intro k r n;unfold aNW;rw[DZ]
def aiA (l:List AX) (ids:List Int) (j:l.length≤1000) (ha:Ql l) (m:Inc ids) (n:∀x∈ids,dX l x=true):aGi l ids true=some (l.foldl (fun s _=>I5 s (JQ l s)) ids):=by
 unfold aGi aPm;rw[Gs l AA (fun s _=>I5 s (JQ l s)) (fun _ r=>Inc r∧∀x∈r,dX l x=true) (fun r=>some r) ⟨m,n⟩]
 ·intro k r i h f;refine⟨⟨yZ _ _,fun x q=>(dK.1 q).elim (f.2 x) fun h=>(RG.1 h).1⟩,?_⟩;have u:=lK f.1 f.2;have z:=aoI l r;unfold aJx;rw[dec_lt h];simp only[Ba];rw[aUX l r j ha AA];simp only[Aa];rw[aDU _ _ AA AA];rfl
 intro k r f;unfold aJx;rw[DT];rfl
def aJo (l:List AX) (ids:List Int) (f:l.length≤1000) (ha:Ql l) (hi:ids.length≤100000):dN l ids=some (chainOf l ids):=by
 unfold dN;have j:=anH l ids;rw[ahk l ids f hi];simp only[Aa];rw[aUX l _ f ha AA];simp only[Aa];rw[aiA l _ f ha (yY _ _) fun x h=>(RG.1 h).1];rfl
section
variable {R A B C D E F G : Type} {Q : R → Prop}
def Tn {body:(A→B→C→Option R)→A→B→C→Option R} (I:Nat→A→B→C→Prop) (u:∀m a b c k,I m a b c→(∀f a' j q,f<m→I f a' j q→fE (k a' j q) Q)→fE (body k a b c) Q):
 ∀n m a b c,m<n→I m a b c→fE (jk body n a b c) Q
 |0,m,_,_,_,h,_=>AA
 |n+1,m,a,b,c,h,hi=>u m a b c _ hi fun f a' j q h' s=>Tn I u n f a' j q AA s
def aOC {body:(A→B→C→D→E→Option R)→A→B→C→D→E→Option R} (I:Nat→A→B→C→D→E→Prop) (z:∀m a b c d e k,I m a b c d e→(∀f a' j q s e',f<m→I f a' j q s e'→fE (k a' j q s e') Q)→fE (body k a b c d e) Q):
 ∀n m a b c d e,m<n→I m a b c d e→fE (Fg body n a b c d e) Q
 |0,m,_,_,_,_,_,h,_=>AA
 |n+1,m,a,b,c,d,e,h,hi=>z m a b c d e _ hi fun f a' j q s e' h' u=>aOC I z n f a' j q s e' AA u
def aM0 {body:(A→B→C→D→E→F→Option R)→A→B→C→D→E→F→Option R} (I:Nat→A→B→C→D→E→F→Prop) (L:∀m a b c d e f k,I m a b c d e f→(∀j a' q s u e' z,j<m→I j a' q s u e' z→fE (k a' q s u e' z) Q)→fE (body k a b c d e f) Q):
 ∀n m a b c d e f,m<n→I m a b c d e f→fE (Fh body n a b c d e f) Q
 |0,m,_,_,_,_,_,_,h,_=>AA
 |n+1,m,a,b,c,d,e,f,h,hi=>L m a b c d e f _ hi fun j a' q s u e' z h' J=>aM0 I L n j a' q s u e' z AA J
def aQO {body:(A→B→C→D→E→F→G→Option R)→A→B→C→D→E→F→G→Option R} (I:Nat→A→B→C→D→E→F→G→Prop) (M:∀m a b c d e f g k,I m a b c d e f g→(∀j a' q s u e' z J,j<m→I j a' q s u e' z J→fE (k a' q s u e' z J) Q)→fE (body k a b c d e f g) Q):
 ∀n m a b c d e f g,m<n→I m a b c d e f g→fE (abq body n a b c d e f g) Q
 |0,m,_,_,_,_,_,_,_,h,_=>AA
 |n+1,m,a,b,c,d,e,f,g,h,hi=>M m a b c d e f g _ hi fun j a' q s u e' z J h' L=>aQO I M n j a' q s u e' z J AA L
end
def P7 {V:Type}:∀(m:List (Int×V)) (k k':Int) (v:V),Cb (Df m k v) k'=bif k'==k then some v else Cb m k'
 | [],k,k',v=>by
   unfold Df Cb;rfl
 |p::m,k,k',v=>by
  unfold Df;cases h:k==p.1 with
  |true=>
   have f:k=p.1:=Jc
   subst f;simp only[Ba,Cb];cases k'==p.1<;>rfl
  |false=>
   have f:k≠p.1:=Jc
   simp only[BM,Cb,P7 m k k' v];cases j:k'==p.1 with
   |true=>
    have n:k'=p.1:=Oh
    subst n;have :(p.1==k)=false:=by simpa using fun e:p.1=k=>f e.symm
    rw[this];rfl
   |false=>rfl
def XY (l:List AX) (m:List (Int×Int)):Prop:=∀id,(Cb m id=none∧ET l id=none)∨∃(n:Nat) (e:AX),Cb m id=some (n:Int)∧ET l id=some e∧l[n]? =some e
def XY.isSome {l:List AX} {m:List (Int×Int)} (h:XY l m) (id:Int):(Cb m id).isSome=dX l id:=by
 unfold dX;rcases h id with⟨f,j⟩|⟨n,e,f,j,_⟩<;>rw[f,j]<;>rfl
def XY.get {l:List AX} {m:List (Int×Int)} (h:XY l m) {id:Int} {e:AX} (j:ET l id=some e):Aj l ((Cb m id).getD 0)=some e:=by
 rcases h id with⟨_,f⟩|⟨n,e',q,f,s⟩
 ·rw[j]at f;cases f
 rw[j]at f;cases f;rw[q];show Aj l (n:Int)=_;rw[jq,s]
def yJ (l:List AX) (I:l.length≤1000):fE (XB l) (XY l):=by
 unfold XB aRO
 refine Xi (fun m a b=>∃i:Nat,a=(i:Int)-1∧m=i∧i≤l.length∧∀id,(Cb b id=none∧(l.drop i).find? (fun e=>e.Id==id)=none)∨∃(n:Nat) (e:AX),Cb b id=some (n:Int)∧(l.drop i).find? (fun e=>e.Id==id)=some e∧l[n]? =some e) ?_ Ap l.length _ _ (fuel_lt AA)
  ⟨l.length,Yc,rfl,EG _,fun id=>.inl ⟨rfl,BP⟩⟩
 rintro m a b k ⟨i,rfl,J,hi,h⟩ s;unfold aaT;refine fE.bif (fun e=>?_) fun e=>?_
 ·have q:0<i:=by have :=TK e;omega
  have f:i-1<l.length:=AA
  have u:(i:Int)-1=((i-1:Nat):Int):=AA
  rw[u,CB f];simp only[Aa];refine s (i-1) _ _ AA ⟨i-1,Yc,rfl,AA,fun id=>?_⟩;rw[P7,LY f,show i-1+1=i by omega,Z7];cases j:l[i-1].Id==id with
  |true=>
   have :(id==l[i-1].Id)=true:=by have :l[i-1].Id=id:=Oh
                                  simp[this]
   rw[this];exact .inr ⟨i-1,l[i-1],rfl,rfl,Wh⟩
  |false=>
   have :(id==l[i-1].Id)=false:=by have :l[i-1].Id≠id:=Oh
                                   simpa using fun e:id=l[i-1].Id=>this e.symm
   rw[this];exact h id
 have z:i=0:=by have :=Jk e;omega
 subst z;refine .ret fun id=>?_;have :=h id;rw[xX]at this;exact this
inductive U2 (l:List AX) (from_:List Int):Int→Prop
 |one {x:Int} (h:x∈from_) (hk:dX l x=true):U2 l from_ x
 |more {y x:Int} (h:U2 l from_ y) (hx:x∈Gu l y) (hk:dX l x=true):U2 l from_ x
def U2.dX {l:List AX} {f:List Int} {x:Int} (h:U2 l f x):dX l x=true:=by cases h<;>assumption
def ah5 {r:List Int} {x:Int} (h:x∉r):(put r x).length=r.length+1:=by
 unfold put;rw[DN (by rw[KZ];exact h),ES,GI];have :=BR List.length (vP (p:=(decide<| · <x)) (l:=r));rw[ES]at this;omega
def aUE (r:List Int) (x:Int):ER (r++[x])=put (ER r) x:=by unfold ER;rw[Uc];rfl
structure arZ (l:List AX) (from_ next axO:List Int) (i:Nat) (out later:List Int) (found level:List (Int×Bool)):Prop where
 found:∀x,(Cb found x).getD false=true↔x∈out
 level:∀x,(Cb level x).getD false=true→x∈out
 nodup:(ER out).length=out.length
 rch:∀x∈out,U2 l from_ x
 seen:∀x∈next.take i,dX l x=true→x∈out
 sub:∀x∈axO,x∈out
 ref:∀y∈out,y∈axO∨∀x∈Gu l y,x∈later
 back:∀x∈later,∃y∈out,x∈Gu l y
 size:later.length+40*axO.length≤40*out.length
 same:out.length=axO.length→later=[]
def aLs {l:List AX} {f:List Int} (h:(ER f).length=f.length) (j:∀x∈f,dX l x=true):f.length≤l.length:=by
 rw[←h];exact lK (Lm f) fun x m=>j x (NC.1 m)
def aq0 (l:List AX) {x:Int} {e:AX} (h:ET l x=some e):Ye e=some (Gu l x):=by
 unfold Ye Gu;rw[Na h]
def al8 (l:List AX) (j:List Int) (hl:l.length≤1000) (ha:Ql l) (hf:j.length≤10000000):
 fE (pO l j fun a0=>Ye a0) (fun r=>Inc r∧∀x,x∈r↔U2 l j x):=by
 unfold pO;refine(yJ l hl).bind fun at_ O=>?_;unfold aT0
 refine aOC (fun m q next at' found level=>at'=at_∧m=2*(l.length-q.length)+(if next=[]then 0 else 1)∧next.length≤10000000∧(∀x,(Cb found x).getD false=true↔x∈q)∧(ER q).length=q.length∧
  (∀x∈q,U2 l j x)∧(∀x∈next,dX l x=true→U2 l j x)∧(∀x∈j,dX l x=true→x∈q∨x∈next)∧(∀y∈q,∀x∈Gu l y,dX l x=true→x∈q∨x∈next)) ?_ Ap (2*(l.length-([]:List Int).length)+(if j=[]then 0 else 1)) _ _ _ _ _ ?_ ?_
 ·rintro m q next at2 found level k ⟨S,rfl,hn,h1,h2,h3,h4,h5,h6⟩ I;subst S;unfold aQx;have hol:=aLs h2 fun x f=>(h3 x f).dX;refine fE.bif (fun e=>?_) fun e=>?_
  ·have hne:next≠[]:=by
    rintro rfl;simp at e
   unfold aQS;refine aM0 (body:=aON next l (fun a0=>Ye a0) k) (fun(m:Nat) (o la:List Int) (c:Int) (d:List (Int×Int)) (fo le:List (Int×Bool))=>∃i:Nat,c=i∧i+m=next.length∧d=at2∧arZ l j next q i o la fo le) ?_ Ap next.length _ _ _ _ _ _ dn ?_
   ·rintro m o la c d fo le k2 ⟨i,rfl,hm,rfl,n⟩ L;unfold aON;refine fE.bif (fun e=>?_) fun e=>?_
    ·have hi:i<next.length:=Q7
     have w:=wrap_succ i AA;have U:=aLs n.nodup fun x f=>(n.rch x f).dX;rw[CB hi];simp only[Aa];rw[O.isSome];unfold zY;have u:next.take (i+1)=next.take i++[next[i]]:=by rw[P5 hi]
     cases M:dX l next[i]with
     |false=>
      simp only[IX,Ba,Aa,w];refine L (m-1) _ _ _ _ _ _ AA ⟨i+1,rfl,AA,rfl,{ n with seen:=fun x f I=>?_ }⟩;rw[u,Ia]at f;rcases f with f|f
      ·exact n.seen x f I
      rw[MW.1 f,M]at I;cases I
     |true=>
      simp only[EM,BM,Aa];by_cases J:next[i]∈o
      ·rw[(n.found next[i]).2 J];simp only[Ba,Aa,w];refine L (m-1) _ _ _ _ _ _ AA ⟨i+1,rfl,AA,rfl,{ n with seen:=fun x f I=>?_ }⟩;rw[u,Ia]at f;rcases f with f|f
       ·exact n.seen x f I
       rw[MW.1 f];exact J
      have f1:(Cb fo next[i]).getD false=false:=by
       cases h:(Cb fo next[i]).getD false with
       |false=>rfl
       |true=>exact absurd ((n.found _).1 h) J
      have f2:(Cb le next[i]).getD false=false:=by
       cases h:(Cb le next[i]).getD false with
       |false=>rfl
       |true=>exact absurd (n.level _ h) J
      rw[f1,f2];simp only[BM,Aa];obtain⟨ev,Y⟩:=RH.1 (show(ET l next[i]).isSome=true from M);rw[Di FZ];simp only[Aa];rw[O.get Y];simp only[Aa];rw[aq0 l Y];simp only[Aa];have hau:=aHF ha next[i];have hsz:=n.size;rw[Di AA];simp only[Aa,w];refine L (m-1) _ _ _ _ _ _ AA ⟨i+1,rfl,AA,rfl,?_⟩;have hnx:U2 l j next[i]:=h4 _ (Eb hi) M;refine⟨fun x=>?_,fun x f=>?_,?_,fun x f=>?_,fun x f I=>?_,fun x f=>jZ _ (n.sub x f),fun y z=>?_,fun x f=>?_,?_,fun h=>?_⟩
      ·rw[P7,Ia,MW];cases f:x==next[i]with
       |true=>simp only[Ba,OH,true_iff];exact .inr LJ
       |false=>simp only[BM];rw[n.found x];exact⟨.inl,fun h=>h.elim id fun h=>by simp[h]at f⟩
      ·rw[P7]at f;rw[Ia,MW];cases Z:x==next[i]with
       |true=>exact .inr oM
       |false=>rw[Z]at f;exact .inl (n.level x f)
      ·rw[aUE,ah5 (fun h=>J (NC.1 h)),n.nodup];simp
      ·rcases Ia.1 f with f|f
       ·exact n.rch x f
       rw[MW.1 f];exact hnx
      ·rw[u,Ia]at f;rcases f with f|f
       ·exact jZ _ (n.seen x f I)
       exact aEA _ f
      ·rcases Ia.1 z with z|z
       ·exact(n.ref y z).imp id fun h x f=>jZ _ (h x f)
       rw[MW.1 z];exact .inr fun x f=>aEA _ f
      ·rcases Ia.1 f with f|f
       ·obtain⟨y,z,h⟩:=n.back x f;exact⟨y,jZ _ z,h⟩
       exact⟨next[i],aEA _ (MW.2 rfl),f⟩
      ·simp only[ES,Ou];omega
      have :=n.size;simp only[ES,Ou]at h;omega
    have hi:i=next.length:=by have :¬i<next.length:=Q7
                              omega
    subst hi;have U:=aLs n.nodup fun x f=>(n.rch x f).dX;have hsz:=n.size;refine I (2*(l.length-o.length)+(if la=[]then 0 else 1)) _ _ _ _ _ ?_ ⟨rfl,rfl,AA,n.found,n.nodup,n.rch,fun x f s=>?_,fun x f s=>?_,fun y z x f s=>?_⟩
    ·rw[DN hne];have hle:q.length≤o.length:=AA
     rcases zh q.length o.length with h|h
     ·split<;>omega
     have :=n.same AA;rw[D9 this];omega
    ·obtain⟨y,z,h⟩:=n.back x f;exact .more (n.rch y z) h s
    ·rcases h5 x f s with h|h
     ·exact .inl (n.sub x h)
     exact .inl (n.seen x (by rw[Gi];exact h) s)
    rcases n.ref y z with h|h
    ·rcases h6 y h x f s with h|h
     ·exact .inl (n.sub x h)
     exact .inl (n.seen x (by rw[Gi];exact h) s)
    exact .inr (h x f)
   exact⟨0,rfl,AA,rfl,⟨h1,fun x f=>by simp[Cb]at f,h2,h3,fun x f=>UJ,fun _ h=>h,fun y z=>.inl z,fun x f=>(G7 f).elim,BP,fun _=>rfl⟩⟩
  have hz:next=[]:=by
   cases next with
   |nil=>rfl
   |cons a b=>simp at e
  subst hz;rw[XG q AA];refine .ret ⟨Lm _,fun x=>?_⟩;rw[NC];refine⟨h3 x,fun h=>?_⟩
  induction h with
  |one h s=>exact(h5 _ h s).elim id fun h=>(G7 h).elim
  |more h f s ih=>exact(h6 _ ih _ f s).elim id fun h=>(G7 h).elim
 ·have :Ap=9223372036854775808:=rfl;split<;>(simp only[ML];omega)
 exact⟨rfl,rfl,hf,fun x=>by simp[Cb],rfl,fun x f=>(G7 f).elim,fun x f I=>.one f I,fun x f _=>.inr f,fun y z=>(G7 z).elim⟩
def aNs (l:List AX) (ids:List Int) (u:l.length≤1000) (ha:Ql l) (hi:ids.length≤100000):X9 l ids=some (chainOf l ids):=by
 refine fE.eq ?_;unfold X9;refine(yJ l u).bind fun at_ j=>?_;unfold aTI;rw[Gs ids AA (fun r id=>r++Gu l id) (fun i r=>r.length≤40*i) (fun r=>(pO l r fun a0=>Ye a0).bind fun s=>some s) BP]
 ·rw[foldl_append (Gu l),Hu]
  have hlen:(ids.flatMap (Gu l)).length≤40*ids.length:=by
   have key:∀ids:List Int,(ids.flatMap (Gu l)).length≤40*ids.length:=by
    intro ids
    induction ids with
    |nil=>simp
    |cons x ids q=>have :=aHF ha x;rw[Oi,ES,GI];omega
   exact key ids
  refine(al8 l _ u ha AA).bind fun r z=>.ret ?_;refine G9 z.1 (acG l ids) fun x=>(z.2 x).trans (Iff.trans ?_ aLv.symm);constructor
  ·intro h
   induction h with
   |one h f=>
    obtain⟨i,hi,h⟩:=Vo.1 h;exact .one hi h f
   |more h m f q=>exact .more q m f
  intro h
  induction h with
  |one h m f=>exact .one (Vo.2 ⟨_,h,m⟩) f
  |more h m f q=>exact .more q m f
 ·intro k r i h J;have I:=aHF ha ids[i];refine⟨by simp only[ES];omega,?_⟩;unfold aJ0 aEM;rw[CZ h,j.isSome];cases f:dX l ids[i]with
  |false=>
   have :Gu l ids[i]=[]:=by
    unfold Gu;rw[Ri (by unfold dX at f;simpa using f)];rfl
   rw[this,RZ];rfl
  |true=>
   obtain⟨ev,n⟩:=RH.1 (show(ET l ids[i]).isSome=true from f);simp only[Ba];rw[j.get n];simp only[Aa];have :Gu l ids[i]=ev.bP:=by unfold Gu;rw[Na n]
   rw[←this,Di AA];rfl
 intro k r _;unfold aJ0;rw[DZ]
def aPC :∀x:List UInt8,Op.bytesLess x x=false
 | []=>rfl
 |a::x=>by
  unfold Op.bytesLess;rw[aPC x];simp
def aS2 :∀{x y z:List UInt8},Op.bytesLess x y=true→Op.bytesLess y z=true→Op.bytesLess x z=true
 |_,_,[],_,h=>aC7
 | [],_,_::_,_,_=>rfl
 |_::_,[],_::_,h,_=>aC7
 |a::x,b::y,c::z,h,k=>by
  simp only[Op.bytesLess,iC,DL,H6,Rk]at h k ⊢;rcases h with h|⟨rfl,h⟩<;>rcases k with k|⟨rfl,k⟩
  ·exact .inl (UInt8.lt_trans h k)
  ·exact .inl h
  ·exact .inl k
  exact .inr ⟨rfl,aS2 h k⟩
def aSk :∀{x y:List UInt8},Op.bytesLess x y=false→Op.bytesLess y x=false→x=y
 | [],[],_,_=>rfl
 | [],_::_,h,_=>aC7
 |_::_,[],_,h=>aC7
 |a::x,b::y,h,k=>by
  simp only[Op.bytesLess,vS,Bool.and_eq_false_iff,lJ,wQ]at h k;have e:a=b:=UInt8.le_antisymm (UInt8.not_lt.1 k.1) (UInt8.not_lt.1 h.1);subst e;have f:=h.2.resolve_left (fun h=>h rfl);have k2:=k.2.resolve_left (fun h=>h rfl);rw[aSk f k2]
def Ew (a b:BH):Bool:=decide (a.Kind<b.Kind)||(a.Kind==b.Kind&&Op.bytesLess a.Key.toList b.Key.toList)
def Io (a b:BH):Bool:=a.Kind==b.Kind&&decide (a.Key=b.Key)
def af4 (a:BH):Ew a a=false:=by unfold Ew;rw[aPC];simp
def aQe {a b c:BH} (h:Ew a b=true) (k:Ew b c=true):Ew a c=true:=by
 unfold Ew at *;simp only[iC,DL,H6,Rk]at *;rcases h with h|⟨j,f⟩<;>rcases k with k|⟨m,k2⟩
 ·exact .inl AA
 ·exact .inl AA
 ·exact .inl AA
 exact .inr ⟨AA,aS2 f k2⟩
def Vy {a b:BH}:Io a b=true↔a.Kind=b.Kind∧a.Key=b.Key:=by unfold Io;simp
def aRz {a b:BH} (h:Ew a b=false) (k:Ew b a=false):Io a b=true:=by
 unfold Ew at *;simp only[vS,Bool.and_eq_false_iff,lJ,wQ]at *;have e:a.Kind=b.Kind:=AA
 rw[Vy];exact⟨e,toList_inj (aSk (h.2.resolve_left fun n=>n e) (k.2.resolve_left fun n=>n e.symm))⟩
def uy {a b:BH} (h:Io a b=true):Ew a b=false:=by
 obtain⟨f,j⟩:=Vy.1 h;unfold Ew;rw[f,j,aPC];simp
def oq {a b c:BH} (h:Io a b=true):Ew a c=Ew b c∧Ew c a=Ew c b:=by
 obtain⟨f,j⟩:=Vy.1 h;unfold Ew;rw[f,j];exact⟨rfl,rfl⟩
def apW (a b:BH):pR a b=some (Ew a b):=by
 unfold pR Ew;cases f:decide (a.Kind<b.Kind)<;>cases h:a.Kind==b.Kind<;>rfl
def ajh (k:Int) (key:ByteArray) (m:Int) (o:ByteArray) (i j:Int):aBC k key m o=some (Ew ⟨k,key,i⟩ ⟨m,o,j⟩):=by
 unfold aBC Ew;cases f:decide (k<m)<;>cases h:k==m<;>simp_all
def En (s:List BH) (e:BH):Nat:=s.findIdx fun x=> !Ew x e
def KF (s:List BH) (e:BH):Bool:=match s[En s e]? with
 |some x=>Io x e
 |none=>false
def gQ (s:List BH) (e:BH):En s e≤s.length:=aDq
def adO {s:List BH} {e:BH} (h:En s e<s.length):Ew s[En s e] e=false:=by
 have :=aMA (w:=h);unfold En;simpa using this
def aRe (s:List BH) (k:Int) (key:ByteArray) (q:s.length≤1000000):qX s k key=some (((En s ⟨k,key,0⟩:Nat):Int),KF s ⟨k,key,0⟩):=by
 unfold qX aHN aT7;generalize u:(⟨k,key,0⟩:BH)=e
 have j:bn (aA7 s (fun a0=>uP a0 e) (fun a0=>ql a0 e)) Ap 0=some (((En s e:Nat):Int),KF s e):=by
  rw[KD s (fuel_lt AA) (fun x=> !Ew x e) (fun i=>some (((i:Nat):Int),match s[i]? with |some x=> !Ew e x|none=>false)) (some (((s.length:Nat):Int),false))]
  ·split
   ·rename_i h;congr 2;unfold KF En;rw[Dx h];have m:Ew s[s.findIdx fun x=> !Ew x e] e=false:=adO h;show(!Ew e s[s.findIdx fun x=> !Ew x e])=Io s[s.findIdx fun x=> !Ew x e] e;cases f:Ew e s[s.findIdx fun x=> !Ew x e]with
    |false=>rw[aRz m f];rfl
    |true=>
     cases n:Io s[s.findIdx fun x=> !Ew x e] e with
     |false=>rfl
     |true=>rw[(oq n).2,af4]at f;cases f
   rename_i h;have h':En s e=s.length:=by have :=gQ s e;unfold En at *;omega
   have f:KF s e=false:=by unfold KF;rw[h',II (EG _)]
   rw[h',f]
  ·intro k2 i h;unfold aA7;rw[CZ h,CZ h];simp only[uP,ql,apW,Aa];rw[Dx h];cases Ew s[i] e<;>rfl
  intro k2;unfold aA7;rw[DZ,DZ];rfl
 rw[j];rfl
def JI (s:List BH):Prop:=s.Pairwise fun a b=>Ew a b=true
def Fl (s:List BH) (k:Int) (key:ByteArray):Int×Bool:=match s.find? fun x=>Io x ⟨k,key,0⟩with
 |some x=>(x.Id,true)
 |none=>(0,false)
def aEy (s:List BH) (k:Int) (key:ByteArray) (j:s.length≤1000000):bU s k key=some (Fl s k key):=by
 unfold bU aa1;rw[KD s (fuel_lt AA) (fun x=>Io x ⟨k,key,0⟩) (fun i=>(Aj s (i:Int)).bind fun f=>some (f.Id,true)) (some (0,false))]
 ·unfold Fl;rw[Ko];split
  ·rename_i h;rw[CB h,Dx h];rfl
  rename_i h;rw[II AA]
 ·intro k2 i h;unfold aMP;rw[CZ h,CB h];simp only[Aa];unfold Io;rw[Ij];cases s[i].Kind==k<;>rfl
 intro k2;unfold aMP;rw[DZ]
def alo {s:List BH} (h:JI s) (e:BH):s.find? (fun x=>Io x e)=match s[En s e]? with |some x=>if Io x e then some x else none|none=>none:=by
 induction s with
 |nil=>rfl
 |cons a s n=>
  have h':=PY.1 h;unfold En;rw[Z7,St];cases j:Ew a e with
  |true=>
   have f:Io a e=false:=by
    cases f:Io a e with
    |false=>rfl
    |true=>rw[uy f]at j;cases j
   rw[f];simp only[EM,BM,aHq];exact n h'.2
  |false=>
   simp only[IX,Ba,List.getElem?_cons_zero];cases f:Io a e with
   |true=>rfl
   |false=>
    simp only[RD,Jq];refine aAh.2 fun x q u=>?_;have m:=h'.1 x q;rw[(oq u).2,j]at m;cases m
def aBZ (s:List BH) (k:Int) (key:ByteArray) (j:s.length≤1000000) (h:JI s):Yx s k key=some (Fl s k key):=by
 unfold Yx;rw[aRe s k key j];simp only[Aa];unfold Fl KF;rw[alo h];by_cases f:En s ⟨k,key,0⟩<s.length
 ·rw[Dx f];simp only;cases m:Io s[En s ⟨k,key,0⟩] ⟨k,key,0⟩with
  |true=>simp only[Ba,Jj];rw[CB f];rfl
  |false=>rfl
 rw[II AA];rfl
def FY (s:List BH) (k:Int) (key:ByteArray) (id:Int):List BH:=
 s.take (En s ⟨k,key,0⟩)++⟨k,key,id⟩::s.drop (En s ⟨k,key,0⟩+bif KF s ⟨k,key,0⟩then 1 else 0)
def aqa {s:List BH} {e:BH} (h:KF s e=true):En s e<s.length:=by
 unfold KF at h;by_cases f:En s e<s.length
 ·exact f
 rw[II AA]at h;cases h
def qW {α:Type} {l:List α} {i:Nat} (hi:i≤l.length):HY l 0 (i:Int)=some (l.take i):=by
 have :=lu (l:=l) (lo:=0) (hi:=i) AA hi;simpa using this
def X4 {α:Type} {l:List α} {i:Nat} (hi:i≤l.length):HY l (i:Int) (l.length:Int)=some (l.drop i):=by
 rw[lu (l:=l) (lo:=i) (hi:=l.length) hi AA];congr 1;exact Qp BP
def XW (s:List BH) (k:Int) (key:ByteArray) (id:Int) (h:s.length≤1000000):Rt s k key id=some (FY s k key id):=by
 unfold Rt;rw[aRe s k key h];simp only[Aa];have f:=gQ s ⟨k,key,0⟩;unfold aBN FY;rw[qW f];simp only[Aa];rw[Di E5];simp only[Aa,Hu];rw[Di E5];simp only[Aa];cases j:KF s ⟨k,key,0⟩with
 |true=>
  have m:=aqa j;simp only[Ba];rw[wrap_succ _ AA,X4 m];simp only[Aa];rw[Di E5];simp
 |false=>
  simp only[BM];rw[X4 f];simp only[Aa];rw[Di E5];simp
def aIc (s:List BH) (k:Int) (key:ByteArray) (id:Int) (u:s.length≤1000000):Z4 s k key id=some (FY s k key id):=by
 unfold Z4 aPO
 have f:∀(k2:Int→Option (List BH)),Y0 k2 ((En s ⟨k,key,0⟩:Nat):Int) s k key id false=some (FY s k key id):=by
  intro k2;have n:=gQ s ⟨k,key,0⟩;unfold Y0 aEU FY;simp only[BM];rw[qW n];simp only[Aa];rw[Di E5];simp only[Aa,Hu];rw[Di E5];simp only[Aa];by_cases j:En s ⟨k,key,0⟩<s.length
  ·rw[dec_lt j,CB j];simp only[Ba,Aa]
   have q:KF s ⟨k,key,0⟩=(s[En s ⟨k,key,0⟩].Kind==k&&decide (s[En s ⟨k,key,0⟩].Key=key)):=by
    unfold KF;rw[Dx j];rfl
   rw[q,Ij,←TR];cases z:s[En s ⟨k,key,0⟩].Kind==k with
   |false=>
    simp only[BM,Aa];rw[X4 n];simp only[Aa];rw[Di E5];simp
   |true=>
    simp only[Ba,Aa];cases decide (s[En s ⟨k,key,0⟩].Key=key)with
    |true=>
     simp only[Ba];rw[wrap_succ _ AA,X4 j];simp only[Aa];rw[Di E5];simp
    |false=>
     simp only[BM];rw[X4 n];simp only[Aa];rw[Di E5];simp
  have m:En s ⟨k,key,0⟩=s.length:=AA
  have q:KF s ⟨k,key,0⟩=false:=by unfold KF;rw[m,II (EG _)]
  rw[q,m,DT];simp only[BM,Aa];rw[X4 (EG _)];simp only[Aa];rw[Di E5];simp
 rw[KD s (fuel_lt AA) (fun x=> !Ew x ⟨k,key,0⟩) (fun i=>Y0 (fun _=>none) (i:Int) s k key id false) (Y0 (fun _=>none) (s.length:Int) s k key id false)]
 ·split
  ·exact f _
  rename_i h;have m:En s ⟨k,key,0⟩=s.length:=aQ9
  have :=f fun _=>none;rw[m]at this;exact this
 ·intro k2 i h;unfold aOg;rw[dec_lt h,CB h];simp only[Ba,Aa];rw[ajh _ _ _ _ s[i].Id 0];simp only[Aa];show Y0 k2 _ s k key id (Ew s[i] ⟨k,key,0⟩)=_;cases Ew s[i] ⟨k,key,0⟩<;>rfl
 intro k2;unfold aOg;rw[DT];rfl
def P6 (s:List BH) (k:Int) (key:ByteArray) (id:Int):(FY s k key id).length≤s.length+1:=by
 unfold FY;have :=gQ s ⟨k,key,0⟩;simp only[ES,GI,GH,Q9];omega
def atg {s:List BH} {e x:BH} (h:x∈s.take (En s e)):Ew x e=true:=by
 obtain⟨i,hi,rfl⟩:=JJ h;have f:i<En s e:=by simp at hi;omega
 have :=List.not_of_lt_findIdx f;rw[aDJ];simpa using this
def aTk {s:List BH} (u:JI s) {e x:BH} (h:x∈s.drop (En s e+bif KF s e then 1 else 0)):Ew e x=true:=by
 generalize j:(En s e+bif KF s e then 1 else 0)=n at h;obtain⟨i,hi,rfl⟩:=JJ h;rw[List.getElem_drop];rw[Q9]at hi;by_cases m:En s e<s.length
 ·have J:=adO m;cases f:KF s e with
  |true=>
   rw[f]at j;simp only[Ba]at j;have q:Io s[En s e] e=true:=aRn
   rw[←(oq q).1];exact Ky.1 u _ _ m AA AA
  |false=>
   rw[f]at j;simp only[BM,Oo]at j;subst j;have q:Io s[En s e] e=false:=aRn
   have z:Ew e s[En s e]=true:=by
    cases h:Ew e s[En s e]with
    |true=>rfl
    |false=>rw[aRz J h]at q;cases q
   rcases XO i with I|I
   ·subst I;simpa using z
   exact aQe z (Ky.1 u _ _ m AA AA)
 omega
def WL {s:List BH} (h:JI s) (k:Int) (key:ByteArray) (id:Int):JI (FY s k key id):=by
 have m:Io ⟨k,key,id⟩ ⟨k,key,0⟩=true:=Vy.2 ⟨rfl,rfl⟩;unfold FY JI;refine aC5.2 ⟨h.sublist (List.take_sublist ..),PY.2 ⟨fun x f=>?_,h.sublist (List.drop_sublist ..)⟩,fun x f y j=>?_⟩
 ·rw[(oq m).1];exact aTk h f
 have n:Ew x ⟨k,key,0⟩=true:=atg f;rcases F9.1 j with rfl|j
 ·rw[(oq m).2];exact n
 exact aQe n (aTk h j)
structure OC (l:List (List BH)):Prop where
 len:l.length≤100
 each:∀s∈l,s.length≤100∧JI s
def Ir (l:List (List BH)) (x:BH):Bool:=l.all fun s=>(Fl s x.Kind x.Key).2&&(Fl s x.Kind x.Key).1==x.Id
def apQ (l:List (List BH)) (x:BH) (h:OC l):aBE l x=some (Ir l x):=by
 unfold aBE aUk;rw[Gl l (fuel_lt (by have :=h.len;omega)) (fun s=> !((Fl s x.Kind x.Key).2&&(Fl s x.Kind x.Key).1==x.Id)) false (some true)]
 ·unfold Ir;rw[Jf,vk]
 ·intro k i hi;obtain⟨j,f⟩:=h.each l[i] (Eb hi);unfold aIS;rw[CZ hi,aBZ _ _ _ AA f];simp only[Aa];cases(Fl l[i] x.Kind x.Key).2<;>simp[bne]
 intro k;unfold aIS;rw[DZ]
def aea (l:List (List BH)) (x:BH) (h:OC l):aA6 l x=some (Ir l x):=by
 unfold aA6 ad4;rw[Gl l (fuel_lt (by have :=h.len;omega)) (fun s=> !((Fl s x.Kind x.Key).2&&(Fl s x.Kind x.Key).1==x.Id)) false (some true)]
 ·unfold Ir;rw[Jf,vk]
 ·intro k i hi;obtain⟨f,j⟩:=h.each l[i] (Eb hi);unfold aO3;rw[CZ hi,aEy _ _ _ AA];simp only[Aa];cases(Fl l[i] x.Kind x.Key).2<;>simp[bne]
 intro k;unfold aO3;rw[DZ]
def Hw (l:List (List BH)):List BH:=match l with
 | []=>[]
 |s::_=>s.filter (Ir l)
def Ry (l:List (List BH)):List Int:=(l.flatMap fun s=>s.filter fun x=> !Ir l x).map (·.Id)
def Qg (l:List (List BH)) (i:Nat):List BH:=if i=0 then[]else Hw l
def Nj (l:List (List BH)) (i:Nat):List Int:=((l.take i).flatMap fun s=>s.filter fun x=> !Ir l x).map (·.Id)
def aUe {l:List (List BH)} {i:Nat} (h:i<l.length):Qg l (i+1)=Qg l i++(if i=0 then l[i].filter (Ir l)else[]):=by
 unfold Qg Hw;cases l with
 |nil=>simp at h
 |cons s l=>cases i<;>simp
def aKc {l:List (List BH)} {i:Nat} (h:i<l.length):Nj l (i+1)=Nj l i++(l[i].filter fun x=> !Ir l x).map (·.Id):=by
 unfold Nj;rw[P5 h,List.flatMap_append,Jv];simp
def aHZ (l:List (List BH)):Nj l l.length=Ry l:=by unfold Nj Ry;rw[Gi]
def ab6 (l:List (List BH)):Qg l l.length=Hw l:=by
 unfold Qg;cases l with
 |nil=>rfl
 |cons s l=>simp
def aIo {l:List (List BH)} (h:OC l) (i:Nat):(Nj l i).length≤100*i:=by
 induction i with
 |zero=>simp[Nj]
 |succ i f=>
  by_cases hi:i<l.length
  ·rw[aKc hi,ES,D8];have :=(h.each _ (Eb hi)).1;have :=Js (fun x=> !Ir l x) l[i];omega
  have :Nj l (i+1)=Nj l i:=by unfold Nj;rw[Qp AA,Qp AA]
  rw[this];omega
def aGW {l:List (List BH)} (h:OC l):(Ry l).length≤10000:=by
 have :=aIo h l.length;rw[aHZ]at this;have :=h.len;omega
def bY {l:List (List BH)} (h:OC l):(Hw l).length≤100:=by
 unfold Hw;cases l with
 |nil=>exact Eh _
 |cons s l=>exact Ei (Js _ _) (h.each s (Hy ..)).1
def aQJ {l:List (List BH)} (h:OC l):JI (Hw l):=by
 unfold Hw;cases l with
 |nil=>exact .nil
 |cons s l=>exact(h.each s (Hy ..)).2.sublist SH
def acK (l:List (List BH)) (h:OC l):nH l=some (Hw l,ER (Ry l)):=by
 have hlen:=h.len;refine fE.eq ?_;unfold nH aPN;refine aM0 (body:=aMM l) (fun(m:Nat) (a:List BH) (b:List Int) (c:Int) (d:List (List BH)) (_:List BH) (_:List Int)=>∃i:Nat,c=i∧i+m=l.length∧d=l∧a=Qg l i∧b=Nj l i) ?_ Ap l.length [] [] 0 l [] [] (fuel_lt AA) ⟨0,rfl,AA,rfl,rfl,by simp[Nj]⟩;rintro m a b c d e f k ⟨i,rfl,U,rfl,rfl,rfl⟩ M;unfold aMM;refine fE.bif (fun hi=>?_) fun hi=>?_
 ·have hi:i<d.length:=Fp
  have Y:=(h.each d[i] (Eb hi)).1;have O:=aIo h i;rw[CB hi];simp only[Aa,sJ];unfold aRC
  refine aQO (body:=aNV d[i] k (i:Int)) (fun(z:Nat) (a:List BH) (b:List Int) (c:Int) (q:List (List BH)) (_:List BH) (_:List Int) (g:Int)=>
   ∃j:Nat,c=j∧j+z=d[i].length∧q=d∧g=i∧a=Qg d i++(if i=0 then(d[i].take j).filter (Ir d)else[])∧b=Nj d i++((d[i].take j).filter fun x=> !Ir d x).map (·.Id)) ?_ Ap d[i].length _ _ _ _ _ _ _ (fuel_lt AA) ⟨0,rfl,AA,rfl,rfl,BP,BP⟩
  rintro z a b c q Z f2 g k2 ⟨j,rfl,S,rfl,rfl,rfl,rfl⟩ u;unfold aNV;refine fE.bif (fun s=>?_) fun s=>?_
  ·have s:j<q[i].length:=Pg
   have n:q[i].take (j+1)=q[i].take j++[q[i][j]]:=by rw[P5 s]
   rw[CB s];simp only[Aa];rw[apQ q _ h];simp only[Aa];have w:=wrap_succ j AA;have I:=Js (fun x=> !Ir q x) (q[i].take j);have J:=Js (Ir q) (q[i].take j)
   have hst:(Qg q i).length≤100:=by unfold Qg;split; ·exact Eh _
                                    ·exact bY h
   rw[GH]at I J;cases ha:Ir q q[i][j]with
   |false=>
    simp only[IX,Ba];rw[Di (by simp only[ES,D8,Ou];omega)];simp only[Aa,w];refine u (z-1) _ _ _ _ _ _ _ AA ⟨j+1,rfl,AA,rfl,rfl,?_,?_⟩
    ·rw[n,PZ];simp[ha]
    rw[n,PZ];simp[ha]
   |true=>
    simp only[EM,BM];by_cases L:i=0
    ·subst L;simp only[show(((0:Nat):Int)==0)=true from rfl,Ba,Jj];rw[Di UZ];simp only[Aa,w];refine u (z-1) _ _ _ _ _ _ _ AA ⟨j+1,rfl,AA,rfl,rfl,?_,?_⟩
     ·rw[n,PZ];simp[ha]
     rw[n,PZ];simp[ha]
    have :((i:Int)==0)=false:=aAH
    rw[this];simp only[BM,w];refine u (z-1) _ _ _ _ _ _ _ AA ⟨j+1,rfl,AA,rfl,rfl,?_,?_⟩
    ·simp[L]
    rw[n,PZ];simp[ha]
  have s:j=q[i].length:=by have :¬j<q[i].length:=Pg
                           omega
  subst s;rw[wrap_succ i AA,Gi];exact M (m-1) _ _ _ _ _ _ AA ⟨i+1,rfl,AA,rfl,(aUe hi).symm,(aKc hi).symm⟩
 have hi:i=d.length:=by have :¬i<d.length:=Fp
                        omega
 subst hi;have :=aGW h;rw[aHZ,ab6,XG _ AA];exact .ret rfl
def aad (l:List (List BH)) (h:OC l):rJ l=some (Hw l,ER (Ry l)):=by
 have hlen:=h.len;refine fE.eq ?_;unfold rJ abV;refine Tn (body:=aOF l) (fun(m:Nat) (a:List BH) (b:List Int) (c:Int)=>∃i:Nat,c=i∧i+m=l.length∧a=Qg l i∧b=ER (Nj l i)) ?_ Ap l.length [] [] 0 (fuel_lt AA) ⟨0,rfl,AA,rfl,by simp[Nj,ER]⟩;rintro m a b c k ⟨i,rfl,S,rfl,rfl⟩ L;unfold aOF;refine fE.bif (fun hi=>?_) fun hi=>?_
 ·have hi:i<l.length:=Fp
  have U:=(h.each l[i] (Eb hi)).1;have M:=aIo h i;unfold aaf
  refine Tn (body:=aJA l (i:Int) k) (fun(s:Nat) (a:List BH) (b:List Int) (c:Int)=>
   ∃j:Nat,c=j∧j+s=l[i].length∧a=Qg l i++(if i=0 then(l[i].take j).filter (Ir l)else[])∧b=ER (Nj l i++((l[i].take j).filter fun x=> !Ir l x).map (·.Id))) ?_ Ap l[i].length _ _ _ (fuel_lt AA) ⟨0,rfl,AA,BP,BP⟩
  rintro s a b c k2 ⟨j,rfl,O,rfl,rfl⟩ q;unfold aJA;rw[CB hi];simp only[Aa];refine fE.bif (fun n=>?_) fun n=>?_
  ·have n:j<l[i].length:=Nk
   have f:l[i].take (j+1)=l[i].take j++[l[i][j]]:=by rw[P5 n]
   rw[CB n];simp only[Aa];rw[aea l _ h];simp only[Aa];have w:=wrap_succ j AA;have u:=Js (fun x=> !Ir l x) (l[i].take j);have z:=Js (Ir l) (l[i].take j)
   have hst:(Qg l i).length≤100:=by unfold Qg;split; ·exact Eh _
                                    ·exact bY h
   have I:=MC (Nj l i++((l[i].take j).filter fun x=> !Ir l x).map fun e:BH=>e.Id);rw[ES,D8]at I;rw[GH]at u z;cases ha:Ir l l[i][j]with
   |false=>
    simp only[IX,Ba];rw[ZC _ _ AA];unfold jl;simp only[Aa,w];refine q (s-1) _ _ _ AA ⟨j+1,rfl,AA,?_,?_⟩
    ·rw[f,PZ];simp[ha]
    rw[f,PZ,Jv,←J7];simp only[ha,QK,IX,Jj,List.filter_nil,Ld,List.map_nil];rw[aUE]
   |true=>
    simp only[EM,BM];unfold jl;by_cases J:i=0
    ·subst J;simp only[show(((0:Nat):Int)==0)=true from rfl,Ba,Jj,Aa];rw[Di UZ];simp only[Aa,w];refine q (s-1) _ _ _ AA ⟨j+1,rfl,AA,?_,?_⟩
     ·rw[f,PZ];simp[ha]
     rw[f,PZ];simp[ha]
    have :((i:Int)==0)=false:=by simpa using J
    rw[this];simp only[BM,w];refine q (s-1) _ _ _ AA ⟨j+1,rfl,AA,?_,?_⟩
    ·simp[J]
    rw[f,PZ];simp[ha]
  have n:j=l[i].length:=by have :¬j<l[i].length:=Nk
                           omega
  subst n;rw[wrap_succ i AA,Gi];exact L (m-1) _ _ _ AA ⟨i+1,rfl,AA,(aUe hi).symm,by rw[←aKc hi]⟩
 have hi:i=l.length:=by have :¬i<l.length:=Fp
                        omega
 subst hi;rw[aHZ,ab6];exact .ret rfl
def Ul (s:List BH):List Int:=s.map (·.Id)
def Fq (l:List AX) (s:List BH):List Int:=I5 (Ul s) (chainOf l (Ul s))
def allOf (l:List AX) (f:List (List BH)):List Int:=f.foldl (fun a s=>I5 a (Fq l s)) []
def Jo (l:List AX) (f:List (List BH)) (x:Int):Nat:=f.countP fun s=>Dj (Fq l s) x
def Sj (l:List AX) (f:List (List BH)):List Int:=(allOf l f).filter fun x=>decide (Jo l f x<f.length)
def LX (l:List AX) (f:List (List BH)):List Int:=I5 (ER (Ry f)) (Sj l f)
def aaz (l:List AX) (s:List BH):Inc (Fq l s):=yZ _ _
def aNB (s:List BH):(Ul s).length=s.length:=D8 _
def nY (l:List AX) (s:List BH):(Fq l s).length≤s.length+l.length:=by
 have f:=aJ6 (Ul s) (chainOf l (Ul s));have h:=ay l (Ul s);rw[aNB]at f;unfold Fq;omega
def aJw (l:List AX):∀(f:List (List BH)) (a:List Int),Inc a→Inc (f.foldl (fun a s=>I5 a (Fq l s)) a)∧∀x,x∈f.foldl (fun a s=>I5 a (Fq l s)) a↔x∈a∨∃s∈f,x∈Fq l s
 | [],a,h=>⟨h,fun x=>BP⟩
 |s::f,a,h=>by
  rw[Fb];obtain⟨m,n⟩:=aJw l f (I5 a (Fq l s)) (yZ _ _);refine⟨m,fun x=>(n x).trans ?_⟩;rw[dK];constructor
  ·rintro((h|h)|⟨t,j,h4⟩)
   ·exact .inl h
   ·exact .inr ⟨s,Hy ..,h⟩
   exact .inr ⟨t,IY _ j,h4⟩
  rintro(h|⟨t,j,h4⟩)
  ·exact .inl (.inl h)
  rcases F9.1 j with rfl|j
  ·exact .inl (.inr h4)
  exact .inr ⟨t,j,h4⟩
def atN (l:List AX) (f:List (List BH)):Inc (allOf l f):=(aJw l f [] .nil).1
def akf {l:List AX} {f:List (List BH)} {x:Int}:x∈allOf l f↔∃s∈f,x∈Fq l s:=by
 unfold allOf;rw[(aJw l f [] .nil).2 x];simp
def ajJ (l:List AX) (f:List (List BH)):Inc (Sj l f):=(atN l f).sublist SH
def aaD {f:List (List BH)} {x:BH}:Ir f x=true↔∀s∈f,(Fl s x.Kind x.Key).2=true∧(Fl s x.Kind x.Key).1=x.Id:=by
 unfold Ir;rw[EZ];simp
def aGK (l:List AX):∀(f:List (List BH)) (a:List Int),(∀s∈f,s.length≤100)→(f.foldl (fun a s=>I5 a (Fq l s)) a).length≤a.length+f.length*(100+l.length)
 | [],a,_=>BP
 |s::f,a,h=>by
  rw[Fb];have m:=aGK l f (I5 a (Fq l s)) fun t j=>h t (IY _ j);have n:=aJ6 a (Fq l s);have q:=nY l s;have u:=h s (Hy ..);rw[GI,Ud];omega
def aRP {l:List AX} {f:List (List BH)} (j:OC f) (u:l.length≤1000):(Sj l f).length≤110000:=by
 have m:=aGK l f [] fun s h=>(j.2 s h).1;have n:=j.1;have q:=Js (fun x=>decide (Jo l f x<f.length)) (allOf l f);have z:f.length*(100+l.length)≤100*1100:=aH5 n AA;unfold Sj;unfold allOf at q ⊢;simp only[ML]at m;omega
def afq {s:List BH} (h:JI s) {x:BH} (q:x∈s):Fl s x.Kind x.Key=(x.Id,true):=by
 unfold Fl;cases n:s.find? (fun y=>Io y ⟨x.Kind,x.Key,0⟩)with
 |none=>
  have :=aAh.1 n x q;unfold Io at this;simp at this
 |some y=>
  have u:=aKH n;have J:=Zv n;have z:Io y x=true:=by unfold Io at u ⊢;exact u
  have :y=x:=by
   obtain⟨i,hi,rfl⟩:=JJ q;obtain⟨j,I,rfl⟩:=JJ J;rcases aEQ i j with f|f|f
   ·have m:=Ky.1 h i j hi I f;have L:Io s[i] s[j]=true:=by obtain⟨a,b⟩:=Vy.1 z;exact Vy.2 ⟨a.symm,b.symm⟩
    rw[uy L]at m;cases m
   ·subst f;rfl
   have m:=Ky.1 h j i I hi f;rw[uy z]at m;cases m
  rw[this]
def aPK {s:List BH} {k:Int} {key:ByteArray} {n:Int} (h:Fl s k key=(n,true)):(⟨k,key,n⟩:BH)∈s:=by
 unfold Fl at h;cases f:s.find? (fun y=>Io y ⟨k,key,0⟩)with
 |none=>rw[f]at h;cases h
 |some y=>
  rw[f]at h;have m:Io y ⟨k,key,0⟩=true:=by have :=aKH f;exact this
  have j:=Vy.1 m;have q:=Zv f;obtain⟨a,b,c⟩:=y;cases h;simp only at j;rw[←j.1,←j.2];exact q
def akm {f:List (List BH)} {x:BH} (h:Ir f x=true) {s:List BH} (j:s∈f):x∈s:=by
 obtain⟨m,q⟩:=aaD.1 h s j;exact aPK (s:=s) (k:=x.Kind) (key:=x.Key) (n:=x.Id) (by rw[←m,←q])
def aj1 {f:List (List BH)} (h:OC f) {x:BH} (m:∀s∈f,x∈s):Ir f x=true:=
 aaD.2 fun s j=>by rw[afq (h.2 s j).2 (m s j)];exact⟨rfl,rfl⟩
def am7 {f:List (List BH)} (h:OC f) (m:f≠[]) {x:BH}:x∈Hw f↔∀s∈f,x∈s:=by
 cases f with
 |nil=>exact absurd rfl m
 |cons s f=>
  show x∈s.filter (Ir (s::f))↔_;rw[Hf];exact⟨fun j t n=>akm j.2 n,fun j=>⟨j s (Hy ..),aj1 h j⟩⟩
def acB (l:List Int) (h:l.length≤1099511627776):((PL l).bind fun x=>(Vp x).bind fun y=>some y)=some (ER l):=by
 unfold PL Vp;have f:(Rq l).length≤1099511627776:=by rw[(WB l).length_eq];exact h
 simp[h,aMe,aKI]
def aSx (s:List BH):s.foldl (fun r x=>r++[x.Id]) []=Ul s:=by
 rw[foldl_append (fun x:BH=>[x.Id])];unfold Ul;rw[Hu]
 induction s with
 |nil=>rfl
 |cons x s f=>rw[Oi,f];rfl
def aoa (l:List AX) (s:List BH) (m:l.length≤1000) (ha:Ql l) (I:s.length≤100):aDw l s=some (Fq l s):=by
 unfold aDw
 have n:JR 8 (0:Int) 0 (s.length:Int)=some []:=by
  unfold JR;rw[D9 aGS];rfl
 rw[n];simp only[Aa];unfold aQL;rw[Gs s AA (fun r x=>r++[x.Id]) (fun i r=>r.length≤i) (fun r=>(X9 l r).bind fun q=>(CY 8 r q).bind fun u=>(PL u).bind fun f=>(Vp f).bind fun j=>some j) BP]
 ·have J:=ay l (Ul s);have L:=aNB s;rw[aSx,aNs l _ m ha AA];simp only[Aa];rw[Di AA];simp only[Aa];rw[acB _ KT];unfold Fq;rw[og]
 ·intro k a i h z;refine⟨SPr,?_⟩;unfold aIx;rw[CZ h,Di FZ];rfl
 intro k a z;unfold aIx;rw[DZ]
def aow (l:List AX) (s:List BH) (f:l.length≤1000) (ha:Ql l) (q:s.length≤100):zB l s=some (Fq l s):=by
 unfold zB aRv;rw[Gs s AA (fun r x=>r++[x.Id]) (fun i r=>r.length≤i) (fun r=>(dN l r).bind fun j=>(Xv r j).bind fun m=>some m) BP]
 ·have u:=ay l (Ul s);have z:=aNB s;rw[aSx,aJo l _ f ha AA];simp only[Aa];rw[aDU _ _ AA AA];rfl
 ·intro k a i h n;refine⟨SPr,?_⟩;unfold aKk;rw[dec_lt h,CB h];simp only[Ba,Aa];rw[Di FZ];rfl
 intro k a n;unfold aKk;rw[DT];rfl
def stepM (m:List (Int×Int)) (x:Int):List (Int×Int):=Df m x (Aw (((Cb m x).getD 0)+1))
structure Lu (m:List (Int×Int)) (f:Int→Nat):Prop where
 nodup:(m.map (·.1)).Nodup
 find:∀x,Cb m x=if f x=0 then none else some (f x:Int)
def afY {m:List (Int×Int)} {k v y:Int}:y∈(Df m k v).map (·.1)↔y=k∨y∈m.map (·.1):=by
 induction m with
 |nil=>simp[Df]
 |cons p m f=>
  unfold Df;cases h:k==p.1 with
  |true=>
   have j:k=p.1:=Jc
   simp only[Ba,Ld,F9];rw[j];simp
  |false=>
   simp only[BM,Ld,F9,f];exact⟨fun h=>h.elim (fun e=>.inr (.inl e)) fun h=>h.elim .inl fun h=>.inr (.inr h),fun h=>h.elim (fun e=>.inr (.inl e)) fun h=>h.elim .inl fun h=>.inr (.inr h)⟩
def amF {m:List (Int×Int)} {k v:Int} (h:(m.map (·.1)).Nodup):((Df m k v).map (·.1)).Nodup:=by
 induction m with
 |nil=>simp[Df]
 |cons p m q=>
  have h':=NM.1 h;unfold Df;cases n:k==p.1 with
  |true=>
   have f:k=p.1:=Nk
   simp only[Ba,Ld];rw[f];exact h
  |false=>
   have f:k≠p.1:=Nk
   simp only[BM,Ld];refine NM.2 ⟨fun j=>?_,q h'.2⟩;rcases afY.1 j with e|j
   ·exact f e.symm
   exact h'.1 j
def afT (m:List (Int×Int)) (k v:Int):(Df m k v).length≤m.length+1:=by
 induction m with
 |nil=>simp[Df]
 |cons p m f=>
  unfold Df;cases k==p.1 with
  |true=>simp
  |false=>simp only[BM,GI];omega
def Lu.step {m:List (Int×Int)} {f:Int→Nat} (h:Lu m f) (x:Int) (q:f x≤1000000):Lu (stepM m x) (fun y=>f y+if y=x then 1 else 0):=by
 refine⟨amF h.nodup,fun y=>?_⟩;unfold stepM;rw[P7,h.find x]
 have e:Aw (((if f x=0 then none else some (f x:Int)).getD 0)+1)=((f x+1:Nat):Int):=by
  by_cases j:f x=0
  ·rw[D9 j,j];rfl
  rw[DN j];show Aw ((f x:Int)+1)=_;exact wrap_succ _ AA
 by_cases n:y=x
 ·subst n;simp only[OM,Ba,Jj];rw[e,DN AA]
 have :(y==x)=false:=Nk
 rw[this];simp only[BM,DN n,Oo];exact h.find y
def Lu.fold:∀(c:List Int) {m:List (Int×Int)} {f:Int→Nat},c.Nodup→Lu m f→(∀x,f x≤1000)→Lu (c.foldl stepM m) (fun y=>f y+if y∈c then 1 else 0)
 | [],m,f,_,h,_=>by
   refine⟨h.nodup,fun x=>?_⟩;simp only[List.foldl_nil,G7,Jq,Oo];exact h.find x
 |x::c,m,f,n,h,J=>by
  have j:=NM.1 n
  have key:∀(c:List Int) (m:List (Int×Int)) (g:Int→Nat),c.Nodup→Lu m g→(∀x∈c,g x≤1000)→Lu (c.foldl stepM m) (fun y=>g y+if y∈c then 1 else 0):=by
   intro c
   induction c with
   |nil=>intro m g _ h _;refine⟨h.nodup,fun x=>?_⟩;simp only[List.foldl_nil,G7,Jq,Oo];exact h.find x
   |cons z c L=>
    intro m g n h s;have j:=NM.1 n
    have u:=L (stepM m z) (fun y=>g y+if y=z then 1 else 0) j.2 (h.step z (by have :=s z (Hy ..);omega)) fun y I=>by
     have q:y≠z:=fun e=>j.1 (e▸I);simp only[DN q,Oo];exact s y (IY _ I)
    refine⟨u.nodup,fun y=>?_⟩;rw[Fb,u.find y]
    have :(g y+if y=z then 1 else 0)+(if y∈c then 1 else 0)=g y+if y∈z::c then 1 else 0:=by
     by_cases e:y=z
     ·subst e;simp[j.1]
     simp[e]
    simp only[this]
  exact key (x::c) m f n h fun y _=>J y
def aHP :∀(c:List Int) (m:List (Int×Int)),(c.foldl stepM m).length≤m.length+c.length
 | [],m=>BP
 |x::c,m=>by
  have f:=aHP c (stepM m x);have h:=afT m x (Aw (((Cb m x).getD 0)+1));rw[Fb,GI];unfold stepM at f ⊢;omega
def Xd {l:List Int} (h:Inc l):l.Nodup:=h.imp fun h=>AA
def Lu.mem {m:List (Int×Int)} {f:Int→Nat} (h:Lu m f) {x n:Int}:(x,n)∈m↔f x≠0∧n=f x:=by
 have key:∀m:List (Int×Int),(m.map (·.1)).Nodup→((x,n)∈m↔Cb m x=some n):=by
  intro m
  induction m with
  |nil=>intro _;simp[Cb]
  |cons p m z=>
   intro I;have j:=NM.1 I;unfold Cb;rw[F9];cases u:x==p.1 with
   |true=>
    have q:x=p.1:=RF
    simp only[Ba,MI];constructor
    ·rintro(e|hm)
     ·rw[←e]
     exact absurd (GV.2 ⟨_,hm,q⟩) j.1
    intro e;left;rw[q,←e]
   |false=>
    have q:x≠p.1:=RF
    simp only[BM];rw[←z j.2];exact⟨fun h=>h.elim (fun e=>absurd (by rw[←e]) q) id,.inr⟩
 rw[key m h.nodup,h.find x];by_cases s:f x=0
 ·simp[s]
 rw[DN s];simp only[MI,ne_eq,s,not_false_eq_true,true_and];exact eq_comm
def abh {l:List Int} (h:l.Nodup):Rq l=ER l:=by
 refine G9 ?_ (Lm l) fun x=>by rw[NC];exact(WB l).mem_iff
 have f:=aFE l;have j:(Rq l).Nodup:=(WB l).nodup_iff.2 h;exact(f.and j).imp fun h=>AA
def aOD (n:Int):∀(m:List (Int×Int)) (r:List Int) (f:List (List BH)),(f.length:Int)=n→r.length+m.length≤1000000→List.foldlM (WA f) r m=some (r++(m.filter fun p=>decide (p.2<n)).map (·.1))
 | [],r,f,_,_=>BP
 |p::m,r,f,h,q=>by
  simp only[GI]at q;have e:WA f r p=(bif decide (p.2<n)then(CY 8 r [p.1]).bind fun j=>some j else some r):=by unfold WA;rw[h]
  rw[UK,e];cases hd:decide (p.2<n)with
  |true=>
   simp only[Ba];rw[Di FZ];simp only[Aa];show List.foldlM (WA f) (r++[p.1]) m=_;rw[aOD n m (r++[p.1]) f h UZ,QK,D9 hd];simp
  |false=>
   simp only[BM];show List.foldlM (WA f) r m=_;rw[aOD n m r f h AA,QK,DN (by simp[hd])]
def aSl (l:List AX) (f:List (List BH)) (x:Int):Jo l f x≤f.length:=List.countP_le_length
def Lu.of_eq {m:List (Int×Int)} {f g:Int→Nat} (h:Lu m f) (e:∀x,f x=g x):Lu m g:=⟨h.nodup,fun x=>by rw[h.find,e]⟩
def amT (l:List AX) (f:List (List BH)) (hl:l.length≤1000) (ha:Ql l) (J:OC f):vY l f=some (Sj l f):=by
 unfold vY aSV;have hsl:=J.len;rw[qQ (a0:=[]) f AA (fun m s=>(Fq l s).foldl stepM m) (fun i m=>Lu m (Jo l (f.take i))∧m.length≤1100*i) (fun v2=>(JR 8 (0:Int) 0 (v2.length:Int)).bind fun M=>(List.foldlM (WA f) M v2).bind ji) ⟨⟨Zt,fun x=>rfl⟩,Eh _⟩]
 ·obtain⟨L,hlen⟩:Lu (f.foldl (fun m s=>(Fq l s).foldl stepM m) []) (Jo l f)∧(f.foldl (fun m s=>(Fq l s).foldl stepM m) []).length≤1100*f.length:=by
   have key:∀(b a:List (List BH)) (m:List (Int×Int)),(∀s∈b,s.length≤100)→a.length+b.length≤100→Lu m (Jo l a)→m.length≤1100*a.length→Lu (b.foldl (fun m s=>(Fq l s).foldl stepM m) m) (Jo l (a++b))∧(b.foldl (fun m s=>(Fq l s).foldl stepM m) m).length≤1100*(a.length+b.length):=by
    intro b
    induction b with
    |nil=>intro a m _ _ z I;simpa using⟨z,I⟩
    |cons s b ih=>
     intro a m hb O z I;rw[Fb,List.append_cons];have hc:=nY l s;have q:=hb s (Hy ..);have S:=aHP (Fq l s) m;simp only[GI]at O ⊢;have :=ih (a++[s]) ((Fq l s).foldl stepM m) (fun t ht=>hb t (IY _ ht)) UZ ?_ UZ
     ·simpa[O5,SX 1]using this
     refine(Lu.fold (Fq l s) (Xd (aaz l s)) z fun x=>by have :=aSl l a x;omega).of_eq fun x=>?_;unfold Jo;rw[List.countP_append,List.countP_singleton];by_cases u:x∈Fq l s
     ·rw[D9 u,D9 (KZ.2 u)]
     rw[DN u,DN (by rw[OY.2 u];simp)]
   have :=key f [] [] (fun s h=>(J.each s h).1) (by simpa using J.len) ⟨Zt,fun x=>rfl⟩ (Eh _);simpa using this
  generalize f.foldl (fun m s=>(Fq l s).foldl stepM m) []=m at L hlen
  have hm:JR 8 (0:Int) 0 (m.length:Int)=some []:=by
   unfold JR;rw[D9 aGS];rfl
  rw[hm];simp only[Aa];rw[aOD (f.length:Int) m [] f rfl U6];simp only[Aa,Hu];have U:((m.filter fun p=>decide (p.2<(f.length:Int))).map (·.1)).Nodup:=L.nodup.sublist (SH.map _);have hle:((m.filter fun p=>decide (p.2<(f.length:Int))).map (·.1)).length≤m.length:=by rw[D8];exact Js _ _
  unfold ji PL;rw[D9 AA];simp only[Aa];congr 1;rw[abh U];refine G9 (Lm _) (ajJ _ _) fun x=>?_;rw[NC,GV];unfold Sj;rw[Hf,akf];constructor
  ·rintro⟨⟨y,n⟩,Y,rfl⟩;rw[Hf]at Y;obtain⟨z,I⟩:=L.mem.1 Y.1;have S:n<(f.length:Int):=by simpa using Y.2
   subst I;refine⟨?_,E5⟩;have :0<Jo l f y:=AA
   obtain⟨s,Z,hs2⟩:=List.countP_pos_iff.1 this;exact⟨s,Z,KZ.1 hs2⟩
  rintro⟨⟨s,z,I⟩,S⟩;have h4:0<Jo l f x:=List.countP_pos_iff.2 ⟨s,z,KZ.2 I⟩;refine⟨(x,(Jo l f x:Int)),Hf.2 ⟨L.mem.2 ⟨AA,rfl⟩,?_⟩,rfl⟩;have h5:Jo l f x<f.length:=ZF
  simp;omega
 ·intro k m i h hI;have hc:=nY l f[i];have q:=(J.each f[i] (Eb h)).1;refine⟨⟨?_,?_⟩,?_⟩
  ·refine(Lu.fold (Fq l f[i]) (Xd (aaz l f[i])) hI.1 fun x=>by have :=aSl l (f.take i) x;rw[GH]at this;omega).of_eq fun x=>?_;rw[P5 h];unfold Jo;rw[List.countP_append,List.countP_singleton];by_cases u:x∈Fq l f[i]
   ·rw[D9 u,D9 (KZ.2 u)]
   rw[DN u,DN (by rw[OY.2 u];simp)]
  ·have :=aHP (Fq l f[i]) m;have :=hI.2;omega
  unfold aEu;rw[CZ h,aoa l _ hl ha q];simp only[Aa];unfold aSC;rw[qQ (Fq l f[i]) AA stepM (fun _ _=>True) (fun v8=>k (Aw ((i:Int)+1)) v8) trivial]
  ·intro k2 a j hj _;refine⟨trivial,?_⟩;unfold aCF;rw[CZ hj];rfl
  intro k2 a _;unfold aCF;rw[DZ]
 intro k m hI;unfold aEu;rw[DZ]
def alX {R A B α:Type} {body:(A→B→Int→Option R)→A→B→Int→Option R} (l:List α) (q:l.length≤1099511627776) (f:A→B→α→A) (g:A→B→α→B) (I:Nat→A→B→Prop) (j:A→B→Option R) {Q:R→Prop} {a0:A} {n:B} (s:I 0 a0 n)
 (u:∀k a b (i:Nat) (h:i<l.length),I i a b→I (i+1) (f a b l[i]) (g a b l[i])∧body k a b (i:Int)=k (f a b l[i]) (g a b l[i]) (Aw ((i:Int)+1)))
 (z:∀k a b,I l.length a b→body k a b (l.length:Int)=j a b) (J:∀a b,I l.length a b→fE (j a b) Q):fE (jk body Ap a0 n 0) Q:=by
 refine Tn (body:=body) (Q:=Q) (fun m a b c=>∃i:Nat,c=i∧i+m=l.length∧I i a b) ?_ Ap l.length a0 n 0 (fuel_lt q) ⟨0,rfl,AA,s⟩;rintro m a b c k ⟨i,rfl,S,hi⟩ L;by_cases e:i<l.length
 ·obtain⟨M,O⟩:=u k a b i e hi;rw[O,wrap_succ i AA];exact L (m-1) _ _ _ AA ⟨i+1,rfl,AA,M⟩
 have :i=l.length:=AA
 subst this;rw[z _ _ _ hi];exact J a b hi
def aOx (x:Int):∀(cs:List (List Int)) (n:Nat),n+cs.length≤1000000→cs.foldl (fun(n:Int) c=>bif Dj c x then Aw (n+1)else n) (n:Int)=((n+cs.countP (fun c=>Dj c x):Nat):Int)
 | [],n,_=>BP
 |c::cs,n,h=>by
  rw[GI]at h;rw[Fb,List.countP_cons];cases f:Dj c x with
  |true=>
   simp only[Ba,Jj];rw[wrap_succ n AA,aOx x cs (n+1) AA];congr 1;omega
  |false=>
   simp only[BM,RD,Jq,Oo];exact aOx x cs n AA
def aiC (l:List AX) (f:List (List BH)) (M:l.length≤1000) (ha:Ql l) (I:OC f):aCV l f=some (Sj l f):=by
 refine fE.eq ?_;unfold aCV ab8;have O:=I.len
 have u:∀i,(allOf l (f.take i)).length≤1100*i:=by
  intro i;have U:=aGK l (f.take i) [] fun s h=>(I.each s (xK h)).1;rw[GH,ML]at U;have h2:min i f.length*(100+l.length)≤i*1100:=aH5 (aJL _ _) AA;unfold allOf;omega
 refine alX f AA (fun a _ s=>a++[Fq l s]) (fun _ b s=>I5 b (Fq l s)) (fun i a b=>a=(f.take i).map (Fq l)∧b=allOf l (f.take i)) (fun a b=>aIs b a [] 0) ⟨rfl,rfl⟩ ?_ ?_ ?_
 ·rintro k a b i h ⟨rfl,rfl⟩;have Y:=nY l f[i];have m:=(I.each f[i] (Eb h)).1;have q:f.take (i+1)=f.take i++[f[i]]:=P5 h;refine⟨⟨by rw[q,Jv];rfl,by rw[q];unfold allOf;rw[Uc];rfl⟩,?_⟩;unfold aHz;rw[dec_lt h,CB h];simp only[Ba,Aa];rw[aow l _ M ha m];simp only[Aa];rw[Di (by simp only[D8,GH,Ou];omega)];simp only[Aa];have :=u i;rw[aDU _ _ AA AA];rfl
 ·rintro k a b ⟨rfl,rfl⟩;unfold aHz;rw[DT];rfl
 rintro a b ⟨rfl,rfl⟩;rw[Gi];refine fE.of ?_;have Z:=u f.length;rw[Gi]at Z;unfold aIs;rw[Gs (allOf l f) AA (fun r x=>bif decide (Jo l f x<f.length)then r++[x]else r) (fun i r=>r.length≤i) (fun r=>some r) (EG _)]
 ·congr 1;unfold Sj
  have key:∀(S r:List Int),S.foldl (fun r x=>bif decide (Jo l f x<f.length)then r++[x]else r) r=r++S.filter (fun x=>decide (Jo l f x<f.length)):=by
   intro S
   induction S with
   |nil=>intro r;simp
   |cons x S ih=>
    intro r;rw[Fb,ih,QK];cases decide (Jo l f x<f.length)<;>simp
  simpa using key (allOf l f) []
 ·intro k r i h hI;refine⟨?_,?_⟩
  ·cases decide (Jo l f (allOf l f)[i]<f.length)with
   |false=>show r.length≤i+1;omega
   |true=>show(r++[(allOf l f)[i]]).length≤i+1;simp;omega
  unfold aLY;rw[dec_lt h];simp only[Ba];unfold aay
  rw[Gs (f.map (Fq l)) YT (fun(n:Int) c=>bif Dj c (allOf l f)[i]then Aw (n+1)else n) (fun _ _=>True)
   (fun n=>bif decide (n<((f.map (Fq l)).length:Int))then k (r++[(allOf l f)[i]]) (Aw ((i:Int)+1))else k r (Aw ((i:Int)+1))) trivial]
  ·have z:=aOx (allOf l f)[i] (f.map (Fq l)) 0 YT;rw[show((0:Nat):Int)=0 from rfl]at z;rw[z,List.countP_map,D8,KG]
   have e:decide (((f.countP ((fun c=>Dj c (allOf l f)[i])∘Fq l):Nat):Int)<(f.length:Int))=decide (Jo l f (allOf l f)[i]<f.length):=by
    unfold Jo;rw[iq];exact Int.ofNat_lt
   rw[e];cases decide (Jo l f (allOf l f)[i]<f.length)<;>rfl
  ·intro k2 n j J _;refine⟨trivial,?_⟩;have L:j<f.length:=by rw[D8]at J;exact J
   have Y:=nY l f[j];have m:=(I.each f[j] (Eb L)).1;unfold aIT;rw[dec_lt J,CB J,CB h];simp only[Ba,Aa];rw[UY _ _ (by rw[U5];omega)];simp only[Aa];cases Dj (f.map (Fq l))[j] (allOf l f)[i]<;>rfl
  intro k2 n _;unfold aIT;rw[DT];simp only[BM];rw[CB h];simp only[Aa];rw[Di FZ];cases decide (n<((f.map (Fq l)).length:Int))<;>rfl
 intro k r _;unfold aLY;rw[DT];rfl
def aeC (l:List AX) (f:List (List BH)) (j:l.length≤1000) (ha:Ql l) (h:OC f):aH2 l f=some (LX l f):=by
 have m:=aGW h;have n:=MC (Ry f);have q:=aRP h j;unfold aH2;rw[acK f h,amT l f j ha h];simp only[Aa];rw[Di AA];simp only[Aa];rw[acB _ KT];unfold LX;rw[og]
def alk (l:List AX) (f:List (List BH)) (j:l.length≤1000) (ha:Ql l) (h:OC f):aAp l f=some (LX l f):=by
 have m:=aGW h;have n:=MC (Ry f);have q:=aRP h j;unfold aAp;rw[aad f h,aiC l f j ha h];simp only[Aa];rw[aDU _ _ AA AA];rfl
def E8 (l:List AX):Prop:=∀e∈l,Fa e
def E8.akq {l:List AX} (h:E8 l):Ql l:=fun e f=>(h e f).auth
def aOa {R A α:Type} {body:(A→Int→Option R)→A→Int→Option R} (l:List α) (q:l.length<Ap) (p:α→Bool) (g:Nat→Option R) (rest:Option R) (a0:A)
 (s:∀k (i:Nat) (h:i<l.length),body k a0 (i:Int)=bif p l[i]then g i else k a0 (Aw ((i:Int)+1))) (u:∀k,body k a0 (l.length:Int)=rest):
 aS body Ap a0 0=if l.findIdx p<l.length then g (l.findIdx p)else rest:=by
 have J:Ap=9223372036854775808:=rfl
 have key:∀n (i:Nat),i+n=l.length→∀m,n<m→aS body m a0 (i:Int)=if(l.drop i).findIdx p+i<l.length then g ((l.drop i).findIdx p+i)else rest:=by
  intro n
  induction n with
  |zero=>
   intro i hi m z;obtain⟨m,rfl⟩:∃j,m=j+1:=⟨m-1,AA⟩
   have :i=l.length:=AA
   subst this;show body (aS body m) _ _=_;rw[u,Oe,DN BP]
  |succ n I=>
   intro i hi m z;obtain⟨m,rfl⟩:∃j,m=j+1:=⟨m-1,AA⟩
   have f:i<l.length:=AA
   show body (aS body m) _ _=_;rw[s _ i f,wrap_succ i AA,I (i+1) AA m AA,LY f,St];cases p l[i]with
   |true=>simp only[Ba,KG];rw[D9 f]
   |false=>
    simp only[BM];rw[show(l.drop (i+1)).findIdx p+(i+1)=(l.drop (i+1)).findIdx p+1+i by omega]
 have :=key l.length 0 AA Ap q;simpa using this
def U0 {s:List BH} {k:Int} {key:ByteArray} {id:Int} {x:BH} (h:x∈FY s k key id):x=⟨k,key,id⟩∨x∈s:=by
 unfold FY at h;rcases Ia.1 h with h|h
 ·exact .inr (xK h)
 rcases F9.1 h with h|h
 ·exact .inl h
 exact .inr (List.mem_of_mem_drop h)
def pz (s:List BH):Prop:=∀x∈s,x.Id=0
def bf {s:List BH} {k:Int} {key:ByteArray} (h:pz s):pz (FY s k key 0):=fun x f=>by
 rcases U0 f with rfl|f
 ·rfl
 exact h x f
def xY (l:List BH) (k:Int) (key:ByteArray) (f:Int):Option BU:=
 (bif decide (f<(l.length:Int))then(Aj l f).bind fun h=>some (h.Kind==k)else some false).bind fun j=>(bif j then(Aj l f).bind fun m=>some (m.Key.toList==key.toList)else some false).bind fun n=>(bif n then some l else(HY l 0 f).bind fun q=>(CY 32 [] q).bind fun s=>(CY 32 s [(⟨k,key,0⟩:BH)]).bind fun u=>(HY l f ((l).length)).bind fun z=>(CY 32 u z).bind fun I=>some I)
def nS (s:List BH) (k:Int) (key:ByteArray) (hs:s.length≤1000000) (m:pz s):Vz s k key=some (FY s k key 0):=by
 unfold Vz aci
 have f:xY s k key ((En s ⟨k,key,0⟩:Nat):Int)=some (FY s k key 0):=by
  have O:=gQ s ⟨k,key,0⟩;unfold xY FY
  have j:((HY s 0 ((En s ⟨k,key,0⟩:Nat):Int)).bind fun q=>(CY 32 [] q).bind fun u=>(CY 32 u [(⟨k,key,0⟩:BH)]).bind fun z=>(HY s ((En s ⟨k,key,0⟩:Nat):Int) ((s).length)).bind fun I=>(CY 32 z I).bind fun J=>some J)=some (s.take (En s ⟨k,key,0⟩)++⟨k,key,0⟩::s.drop (En s ⟨k,key,0⟩)):=by
   rw[qW O];simp only[Aa];rw[Di E5];simp only[Aa,Hu];rw[Di E5];simp only[Aa];rw[X4 O];simp only[Aa];rw[Di E5];simp
  rw[j];by_cases n:En s ⟨k,key,0⟩<s.length
  ·rw[dec_lt n,CB n];simp only[Ba,Aa]
   have L:KF s ⟨k,key,0⟩=(s[En s ⟨k,key,0⟩].Kind==k&&decide (s[En s ⟨k,key,0⟩].Key=key)):=by
    unfold KF;rw[Dx n];rfl
   rw[L,Ij];cases S:s[En s ⟨k,key,0⟩].Kind==k with
   |false=>rfl
   |true=>
    simp only[Ba,Aa,FX];cases hd:decide (s[En s ⟨k,key,0⟩].Key=key)with
    |true=>
     simp only[Ba];have U:s[En s ⟨k,key,0⟩].Kind=k:=ZF
     have Y:s[En s ⟨k,key,0⟩].Key=key:=by simpa using hd
     have Z:=m _ (Eb n)
     have h4:(⟨k,key,0⟩:BH)=s[En s ⟨k,key,0⟩]:=by
      have :∀(y:BH),y.Kind=k→y.Key=key→y.Id=0→(⟨k,key,0⟩:BH)=y:=fun y a b c=>by cases y;simp only at a b c;rw[a,b,c]
      exact this _ U Y Z
     congr 1
     conv=>rhs;arg 2;arg 1;rw[h4]
     rw[←LY n,dG]
    |false=>rfl
  have m:En s ⟨k,key,0⟩=s.length:=AA
  have L:KF s ⟨k,key,0⟩=false:=by unfold KF;rw[m,II (EG _)]
  rw[L,m,DT];rfl
 rw[KD s (fuel_lt AA) (fun x=> !Ew x ⟨k,key,0⟩) (fun i=>xY s k key (i:Int)) (xY s k key (s.length:Int))]
 ·split
  ·exact f
  rename_i h;have m:En s ⟨k,key,0⟩=s.length:=aQ9
  rw[m]at f;exact f
 ·intro k2 i h;unfold aHc
  have e:(bif decide ((i:Int)<(s.length:Int))then(Aj s (i:Int)).bind fun x5=>(bif decide (x5.Kind<k)then some true else(Aj s (i:Int)).bind fun x8=>(bif (x8.Kind==k)then(Aj s (i:Int)).bind fun M=>some (Op.bytesLess (M.Key.toList) (key.toList))else some false).bind fun x9=>some x9).bind fun x6=>some x6 else some false)=some (Ew s[i] ⟨k,key,0⟩):=by
   rw[dec_lt h,CB h];simp only[Ba,Aa];unfold Ew;cases decide (s[i].Kind<k)<;>cases s[i].Kind==k<;>rfl
  rw[e];simp only[Aa];cases Ew s[i] ⟨k,key,0⟩<;>rfl
 intro k2;unfold aHc;rw[DT];simp only[BM,Aa];unfold xY;rw[DT];rfl
def Lh (e:AX):List BH:=FY (FY (FY [] 1 Bc 0) 3 Bc 0) 2 e.bH 0
def keysOf (e:AX):List BH:=
 bif e.Kind==1 then[]else bif e.Kind==2 then(bif e.Content.N==3||e.Content.N==1||e.Content.N==2 then FY (FY (Lh e) 2 e.Key 0) 4 Bc 0 else FY (Lh e) 2 e.Key 0)else Lh e
def aOO (e:AX):(Lh e).length≤3:=by
 have f:=P6 [] 1 Bc 0;have h:=P6 (FY [] 1 Bc 0) 3 Bc 0;have j:=P6 (FY (FY [] 1 Bc 0) 3 Bc 0) 2 e.bH 0;unfold Lh;simp only[ML]at f;omega
def aQh (e:AX):pz (Lh e):=bf (bf (bf fun x f=>absurd f G7))
def Vd (e:AX):(keysOf e).length≤5:=by
 have f:=aOO e;have h:=P6 (Lh e) 2 e.Key 0;have j:=P6 (FY (Lh e) 2 e.Key 0) 4 Bc 0;unfold keysOf;cases e.Kind==1<;>cases e.Kind==2<;>cases(e.Content.N==3||e.Content.N==1||e.Content.N==2)<;>simp only[Ba,BM,ML]<;>omega
def acF (e:AX):wW e=some (keysOf e):=by
 have h:=aOO e;have j:=P6 (Lh e) 2 e.Key 0;have f:=P6 [] 1 Bc 0;have m:=P6 (FY [] 1 Bc 0) 3 Bc 0;simp only[ML]at f;unfold wW keysOf;rw[XW [] 1 Bc 0 BP];simp only[Aa];rw[XW _ 3 Bc 0 AA];simp only[Aa];rw[XW _ 2 e.bH 0 AA];simp only[Aa];show(bif e.Kind==1 then some []else bif e.Kind==2 then(Rt (Lh e) 2 e.Key 0).bind _ else iK (Lh e))=_;rw[XW (Lh e) 2 e.Key 0 AA];simp only[Aa];rw[XW _ 4 Bc 0 AA];unfold iK;cases e.Kind==1<;>cases e.Kind==2<;>cases e.Content.N==3<;>cases e.Content.N==1<;>cases e.Content.N==2<;>rfl
def aNj (e:AX):gJ e=some (keysOf e):=by
 have m:=aOO e;have n:=P6 (Lh e) 2 e.Key 0;have h:=P6 [] 1 Bc 0;have q:=P6 (FY [] 1 Bc 0) 3 Bc 0;have z0:pz []:=fun x j=>absurd j G7;simp only[ML]at h;unfold gJ keysOf;rw[nS [] 1 Bc BP z0];simp only[Aa];rw[nS _ 3 Bc AA (bf z0)];simp only[Aa];rw[nS _ 2 e.bH AA (bf (bf z0))];simp only[Aa];show(bif e.Kind==1 then some []else bif e.Kind != 2 then some (Lh e)else(Vz (Lh e) 2 e.Key).bind _)=_;rw[nS (Lh e) 2 e.Key AA (aQh e)];simp only[Aa];rw[nS _ 4 Bc AA (bf (aQh e))];unfold aHA;have f:(e.Kind != 2)= !(e.Kind==2):=rfl;rw[f];cases e.Kind==1<;>cases e.Kind==2<;>cases e.Content.N==3<;>cases e.Content.N==1<;>cases e.Content.N==2<;>rfl
def Ef (k:BH) (x:AX):Bool:=x.Kind==k.Kind&&decide (x.Key=k.Key)
def WU (l:List AX) (e:AX):List AX:=(keysOf e).flatMap fun k=>((ofIds l e.bP).find? (Ef k)).toList
def flat_length {α β:Type} {f:α→List β} {n:Nat} (h:∀x,(f x).length≤n):∀l:List α,(l.flatMap f).length≤n*l.length
 | []=>BP
 |x::l=>by
  have j:=h x;have m:=flat_length h l;rw[Oi,ES,GI,Nat.mul_succ];omega
def yh (l:List AX) (e:AX):(WU l e).length≤5:=by
 have h:=flat_length (f:=fun k=>((ofIds l e.bP).find? (Ef k)).toList) (n:=1) (fun k=>toList_le _) (keysOf e);have j:=Vd e;unfold WU;omega
def aLt {l:List AX} {ids:List Int} {x:AX} (h:x∈ofIds l ids):x∈l:=by
 obtain⟨i,_,h⟩:=Ti.1 h;exact OG h
def aqu {l:List AX} {e x:AX} (h:x∈WU l e):x∈l:=by
 obtain⟨k,_,h⟩:=Vo.1 h;have :(ofIds l e.bP).find? (Ef k)=some x:=Jc
 exact aLt (Zv this)
def JD (x:BH):TG:=⟨x.Kind,x.Key⟩
def aPe (e:AX):pG e=some ((keysOf e).map JD):=by
 unfold pG;rw[acF];simp only[Aa];have j:=Vd e;unfold adh;rw[Gs (keysOf e) AA (fun r x=>r++[JD x]) (fun i r=>r.length≤i) (fun r=>some r) (EG _)]
 ·rw[foldl_append (fun x=>[JD x]),Hu];congr 1
  induction keysOf e with
  |nil=>rfl
  |cons x s f=>rw[Oi,f];rfl
 ·intro k r i h m;refine⟨SPr,?_⟩;unfold aPB;rw[CZ h,Di FZ];rfl
 intro k r _;unfold aPB;rw[DZ]
def abx (l:List AX) (p:AX→Bool):∀ids:List Int,(ofIds l ids).find? p=(ids.find? fun i=>match ET l i with |some x=>p x|none=>false).bind (ET l)
 | []=>rfl
 |i::ids=>by
  have f:=abx l p ids;unfold ofIds at f ⊢;rw[Qs,Z7];cases h:ET l i with
  |none=>exact f
  |some x=>
   simp only;rw[Z7];cases p x with
   |true=>exact h.symm
   |false=>exact f
def aQT (l:List AX) (e:AX) (q:l.length≤1000) (s:e.bP.length≤40):sZ l e=some (WU l e):=by
 unfold sZ;rw[aPe];simp only[Aa];have u:=Vd e;unfold aR9;rw[Gs (a0:=[]) ((keysOf e).map JD) YT (fun r k=>r++((ofIds l e.bP).find? fun x=>x.Kind==k.aby&&decide (x.Key=k.abz)).toList) (fun i r=>r.length≤i) (fun r=>some r) (EG _)]
 ·congr 1;rw[foldl_append (fun k:TG=>((ofIds l e.bP).find? fun x=>x.Kind==k.aby&&decide (x.Key=k.abz)).toList),Hu,List.flatMap_map];rfl
 ·intro k r i h z;have I:=toList_le ((ofIds l e.bP).find? fun x=>x.Kind==((keysOf e).map JD)[i].aby&&decide (x.Key=((keysOf e).map JD)[i].abz));refine⟨KT,?_⟩;have hi:i<5:=by rw[D8]at h;omega
  unfold aKu;rw[CZ h];generalize((keysOf e).map JD)[i]=K;unfold aaP
  rw[aOa e.bP (fuel_lt AA) (fun id=>match ET l id with |some x=>x.Kind==K.aby&&decide (x.Key=K.abz)|none=>false)
   (fun j=>nI k (i:Int) (r++(match e.bP[j]? with |some id=>(ET l id).toList|none=>[]))) (nI k (i:Int) r)]
  ·rw[abx,Ko];by_cases f:e.bP.findIdx (fun id=>match ET l id with |some x=>x.Kind==K.aby&&decide (x.Key=K.abz)|none=>false)<e.bP.length
   ·rw[D9 f,Dx f];rfl
   rw[DN f,II AA];simp only[Option.bind_none,Option.toList_none,RZ];rfl
  ·intro k2 j m;unfold aOm;rw[CZ m,O9 l _ AA,Dx m];simp only[Aa];cases n:ET l e.bP[j]with
   |none=>rw[Ri n];rfl
   |some x=>
    rw[Na n];simp only[Ba,Qb];unfold WW;rw[Ij];rw[Di FZ];cases x.Kind==K.aby<;>cases decide (x.Key=K.abz)<;>rfl
  intro k2;unfold aOm;rw[DZ]
 intro k r _;unfold aKu;rw[DZ]
def aUT (l:List AX) (e:AX) (J:l.length≤1000) (Y:e.bP.length≤40):yR l e=some (WU l e):=by
 unfold yR;rw[aNj,aHk l _ J AA];simp only[Aa];have Z:=Vd e;have L:=aB l e.bP;unfold aRw;rw[Gs (a0:=[]) (keysOf e) AA (fun r k=>r++((ofIds l e.bP).find? (Ef k)).toList) (fun i r=>r.length≤i) (fun r=>some r) (EG _)]
 ·rw[foldl_append (fun k:BH=>((ofIds l e.bP).find? (Ef k)).toList),Hu];rfl
 ·intro k r i h hI;have M:=toList_le ((ofIds l e.bP).find? (Ef (keysOf e)[i]));refine⟨KT,?_⟩;have hi:i<5:=AA
  unfold aKe;rw[dec_lt h];simp only[Ba];generalize ofIds l e.bP=O at L M;unfold acW
  have q:∀m (a:List AX) (j:Int),0<m→jk (Qk O (keysOf e) (i:Int) k) m a true j=k a (Aw ((i:Int)+1)):=by
   intro m a j I;obtain⟨m,rfl⟩:∃u,m=u+1:=⟨m-1,AA⟩
   show Qk O (keysOf e) (i:Int) k (jk (Qk O (keysOf e) (i:Int) k) m) a true j=_;unfold Qk;cases decide (j<(O.length:Int))<;>rfl
  have key:∀n (j:Nat),j+n=O.length→∀m,n+1<m→jk (Qk O (keysOf e) (i:Int) k) m r false (j:Int)=k (r++((O.drop j).find? (Ef (keysOf e)[i])).toList) (Aw ((i:Int)+1)):=by
   intro n
   induction n with
   |zero=>
    intro j S m I;obtain⟨m,rfl⟩:∃u,m=u+1:=⟨m-1,AA⟩
    have :j=O.length:=AA
    subst this;show Qk O (keysOf e) (i:Int) k (jk (Qk O (keysOf e) (i:Int) k) m) r false _=_;unfold Qk;rw[DT,Oe];simp
   |succ n U=>
    intro j S m I;obtain⟨m,rfl⟩:∃u,m=u+1:=⟨m-1,AA⟩
    have s:j<O.length:=AA
    have z:=U (j+1) AA m AA;show Qk O (keysOf e) (i:Int) k (jk (Qk O (keysOf e) (i:Int) k) m) r false _=_;have f:=q m;generalize jk (Qk O (keysOf e) (i:Int) k) m=K at z f;unfold Qk aDC aFf;rw[dec_lt s,CB s,CB h];simp only[Ba,IX,Aa];rw[Ij,wrap_succ j AA,LY s,Z7,z];rw[Di FZ];simp only[Aa];rw[f _ _ AA];unfold Ef;cases O[j].Kind==(keysOf e)[i].Kind<;>cases decide (O[j].Key=(keysOf e)[i].Key)<;>rfl
  have :=key O.length 0 AA Ap dn;exact this
 intro k r _;unfold aKe;rw[DT];rfl
def Vr (c:ByteArray):CG:=bif !(c.toList==Bc.toList)then{ Vs with Users:=[⟨c,100⟩] }else Vs
def YH (l:List AX):ByteArray:=match l.find? fun x=>x.Kind==1 with |some x=>x.bH|none=>Bc
def Fe (l:List AX):CG:=match l.find? fun x=>x.Kind==3 with |some x=>x.Content.Levels|none=>Vr (YH l)
def afi (c:ByteArray):aCL c=some (Vr c):=by
 unfold aCL Vr aAI;cases c.toList==Bc.toList<;>rfl
def asM (c:ByteArray):aEa c=some (Vr c):=by
 unfold aEa Vr aBx;cases c.toList==Bc.toList<;>rfl
def aVg (l:List AX) (k:Int) (f:l.length≤1000):uY l k=some (if l.findIdx (fun e=>e.Kind==k)<l.length then((l.findIdx (fun e=>e.Kind==k):Nat):Int)else -1):=by
 unfold uY;rw[aMy l AA (fun a0=>aCg a0 k) (fun e=>e.Kind==k) fun _=>rfl];rfl
def aOZ (l:List AX) (j:l.length≤1000) (q:E8 l):jR l=some (Fe l,YH l):=by
 have m:∀c,lq l c=some (match l.find? fun x=>x.Kind==3 with |some x=>x.Content.Levels|none=>Vr c,c):=by
  intro c;unfold lq;rw[aVg l 3 j,Ko];simp only[Aa];by_cases h:l.findIdx (fun e=>e.Kind==3)<l.length
  ·rw[D9 h,show decide (((l.findIdx (fun e=>e.Kind==3):Nat):Int)≥0)=true by simp,CB h,Dx h];simp only[Ba,Aa];have n:=q _ (Eb h);have s:=n.users;have u:=n.kinds;unfold aBQ aDO;rw[Di U6,Di U6];rfl
  rw[DN h,II AA,afi];rfl
 unfold jR;rw[aVg l 1 j];simp only[Aa];by_cases h:l.findIdx (fun e=>e.Kind==1)<l.length
 ·have f:YH l=l[l.findIdx (fun e=>e.Kind==1)].bH:=by unfold YH;rw[Ko,Dx h]
  rw[D9 h,show decide (((l.findIdx (fun e=>e.Kind==1):Nat):Int)≥0)=true by simp,CB h];simp only[Ba,Aa];rw[m,←f];rfl
 have f:YH l=Bc:=by unfold YH;rw[Ko,II AA]
 rw[DN h];show lq l Bc=_;rw[m,←f];rfl
def aOQ (l:List AX) (Z:l.length≤1000):jA l=some (Fe l,YH l):=by
 have u:∀c,aDu l c 0 Iq=some (match l.find? fun x=>x.Kind==3 with |some x=>x.Content.Levels|none=>Vr c,c):=by
  intro c;unfold aDu
  have M:∀{R:Type} {body:(Int→CG→Option R)→Int→CG→Option R} (p:AX→Bool) (g:Nat→Option R) (rest:Option R) (a0:CG)
   (S:∀k (i:Nat) (h:i<l.length),body k (i:Int) a0=bif p l[i]then g i else k (Aw ((i:Int)+1)) a0) (U:∀k,body k (l.length:Int) a0=rest),
   aS body Ap 0 a0=if l.findIdx p<l.length then g (l.findIdx p)else rest:=by
   intro R body p g rest a0 S U;have hf:Ap=9223372036854775808:=rfl
   have key:∀n (i:Nat),i+n=l.length→∀m,n<m→aS body m (i:Int) a0=if(l.drop i).findIdx p+i<l.length then g ((l.drop i).findIdx p+i)else rest:=by
    intro n
    induction n with
    |zero=>
     intro i hi m J;obtain⟨m,rfl⟩:∃s,m=s+1:=⟨m-1,AA⟩
     have :i=l.length:=AA
     subst this;show body (aS body m) _ _=_;rw[U,Oe,DN BP]
    |succ n O=>
     intro i hi m J;obtain⟨m,rfl⟩:∃s,m=s+1:=⟨m-1,AA⟩
     have f:i<l.length:=AA
     show body (aS body m) _ _=_;rw[S _ i f,wrap_succ i AA,O (i+1) AA m AA,LY f,St];cases p l[i]with
     |true=>simp only[Ba,KG];rw[D9 f]
     |false=>
      simp only[BM];rw[show(l.drop (i+1)).findIdx p+(i+1)=(l.drop (i+1)).findIdx p+1+i by omega]
   have :=key l.length 0 AA Ap AA;simpa using this
  rw[M (fun x=>x.Kind==3) (fun i=>some ((match l[i]? with |some x=>x.Content.Levels|none=>Iq),c)) (some (Vr c,c))]
  ·rw[Ko];by_cases h:l.findIdx (fun e=>e.Kind==3)<l.length
   ·rw[D9 h,Dx h]
   rw[DN h,II AA]
  ·intro k i h;unfold aID;rw[CZ h,CB h,Dx h];rfl
  intro k;unfold aID;rw[DZ,asM];rfl
 unfold jA adC;obtain⟨F,L⟩:∃F:ByteArray→Option (CG×ByteArray),∀c,aDu l c 0 Iq=F c:=⟨_,fun _=>rfl⟩
 simp only[L]at u
 have z:∀m (c:ByteArray) (j:Int),0<m→jk (Q8 l) m c true j=F c:=by
  intro m c j J;obtain⟨m,rfl⟩:∃s,m=s+1:=⟨m-1,AA⟩
  show Q8 l (jk (Q8 l) m) c true j=_;unfold Q8;simp only[L];cases decide (j<(l.length:Int))<;>rfl
 have key:∀n (j:Nat),j+n=l.length→∀m,n+1<m→jk (Q8 l) m Bc false (j:Int)=F (match(l.drop j).find? fun x=>x.Kind==1 with |some x=>x.bH|none=>Bc):=by
  intro n
  induction n with
  |zero=>
   intro j Y m J;obtain⟨m,rfl⟩:∃s,m=s+1:=⟨m-1,AA⟩
   have :j=l.length:=AA
   subst this;show Q8 l (jk (Q8 l) m) Bc false _=_;unfold Q8;simp only[L];rw[DT,Oe];rfl
  |succ n O=>
   intro j Y m J;obtain⟨m,rfl⟩:∃s,m=s+1:=⟨m-1,AA⟩
   have f:j<l.length:=AA
   have I:=O (j+1) AA m AA;show Q8 l (jk (Q8 l) m) Bc false _=_;have q:=z m;generalize jk (Q8 l) m=K at I q;unfold Q8 aCm;simp only[L];rw[dec_lt f,CB f];simp only[Ba,IX,Aa];rw[wrap_succ j AA,LY f,Z7,I,q _ _ AA];cases l[j].Kind==1<;>rfl
 have :=key l.length 0 AA Ap dn;rw[show((0:Nat):Int)=0 from rfl]at this;rw[this,u];rfl
def EJ (v:CG) (u:ByteArray):Int:=match v.Users.find? fun x=>decide (x.User=u)with |some x=>x.N|none=>v.User
def ZG (v:CG) (u:ByteArray) (h:v.Users.length≤1000):Sm v u=some (EJ v u):=by
 unfold Sm aQC EJ;rw[KD v.Users (fuel_lt AA) (fun x=>decide (x.User=u)) (fun i=>some (match v.Users[i]? with |some x=>x.N|none=>0)) (some v.User)]
 ·rw[Ko];by_cases h:v.Users.findIdx (fun x=>decide (x.User=u))<v.Users.length
  ·rw[D9 h,Dx h]
  rw[DN h,II AA]
 ·intro k i h;unfold aIg;rw[CZ h,Ij,Dx h]
 intro k;unfold aIg;rw[DZ]
def XH (v:CG) (u:ByteArray) (h:v.Users.length≤1000):SL v u=some (EJ v u):=by
 unfold SL aPw EJ;rw[KD v.Users (fuel_lt AA) (fun x=>decide (x.User=u)) (fun i=>some (match v.Users[i]? with |some x=>x.N|none=>0)) (some v.User)]
 ·rw[Ko];by_cases h:v.Users.findIdx (fun x=>decide (x.User=u))<v.Users.length
  ·rw[D9 h,Dx h]
  rw[DN h,II AA]
 ·intro k i h;unfold aLW;rw[CZ h,Ij,Dx h,CB h];rfl
 intro k;unfold aLW;rw[DZ]
def iO {l:List AX} (h:E8 l):(Fe l).Users.length≤100∧(Fe l).Kinds.length≤100:=by
 unfold Fe;cases f:l.find? fun x=>x.Kind==3 with
 |some x=>
  have :=h x (Zv f);exact⟨this.users,this.kinds⟩
 |none=>
  simp only;unfold Vr;cases(YH l).toList==Bc.toList with
  |true=>
   show Vs.Users.length≤100∧Vs.Kinds.length≤100;exact⟨BQ,BQ⟩
  |false=>
   show 1≤100∧Vs.Kinds.length≤100;exact⟨BQ,BQ⟩
def nP (l:List AX) (e:AX):Int:=EJ (Fe (WU l e)) e.bH
def E8.from {l:List AX} (h:E8 l) (e:AX):E8 (WU l e):=fun x f=>h x (aqu f)
def agK (l:List AX) (e:AX) (h:l.length≤1000) (f:E8 l) (j:e.bP.length≤40):aE6 l e=some (nP l e):=by
 have m:=yh l e;have n:=(iO (f.from e)).1;unfold aE6;rw[aQT l e h j];simp only[Aa];rw[aOZ _ AA (f.from e)];simp only[Aa];rw[ZG _ _ AA];rfl
def aQ6 (l:List AX) (e:AX) (f:l.length≤1000) (h:E8 l) (j:e.bP.length≤40):oI l e=some (nP l e):=by
 have m:=yh l e;have n:=(iO (h.from e)).1;unfold oI;rw[aUT l e f j];simp only[Aa];rw[aOQ _ AA];simp only[Aa];rw[XH _ _ AA];rfl
def SE (e:AX):Bool:=bif e.Kind==2 then(e.Content.N==0||e.Content.N==4)&& !(decide (e.Key=e.bH))else e.Kind==3||e.Kind==4
def arE (e:AX):aA5 e=some (SE e):=by
 unfold aA5 aBv SE;rw[Ij];by_cases h:e.Kind=2
 ·simp[h];cases e.Content.N==0<;>cases e.Content.N==4<;>rfl
 have f:(e.Kind==2)=false:=Jc
 rw[f];cases e.Kind==3<;>cases e.Kind==4<;>rfl
def ar0 (e:AX):aEo e=some (SE e):=by
 unfold aEo SE;rw[Ij];cases e.Kind==2<;>cases e.Content.N==0<;>cases e.Content.N==4<;>cases e.Kind==3<;>cases e.Kind==4<;>rfl
def aQW (l:List Int) (x:Int) (h:l.length≤1099511627776):uO l x=some (if l.findIdx (· ==x)<l.length then((l.findIdx (· ==x):Nat):Int)else -1):=by
 unfold uO aal;rw[KD l (fuel_lt h) (· ==x) (fun i=>some (i:Int)) (some (-1))]
 ·split<;>rfl
 ·intro k i hi;unfold aI7;rw[CZ hi];have :(x==l[i])=(l[i]==x):=by rw[Ph];simp only[Rk];exact eq_comm
  rw[this]
 intro k;unfold aI7;rw[DZ]
def acJ (l:List Int) (x:Int):decide (l.findIdx (· ==x)<l.length)=Dj l x:=by
 rw[Ph,KZ,H6,qA];exact⟨fun⟨y,f,j⟩=>by rw[←(by simpa using j:y=x)];exact f,fun h=>⟨x,h,BP⟩⟩
def qg (l:List Int) (x:Int) (h:l.length≤1099511627776):lM l x=some (Dj l x):=by
 unfold lM;rw[aQW l x h,←acJ];by_cases f:l.findIdx (· ==x)<l.length
 ·rw[D9 f,Ht f];simp
 rw[DN f,IJ f];rfl
def abA (l:List Int) (x:Int) (h:l.length≤1099511627776):mV l x=some (Dj l x):=by
 unfold mV;rw[qg l x h];rfl
def ev (l:List AX) (id:Int):AX:=(I4 l id).1
def Yo (l:List AX) (id:Int):Bool:=dX l id&&SE (ev l id)
def OU (l:List AX) (f:List Int):List Int:=f.filter (Yo l)
def YJ (l:List AX) (f:List Int):List Int:=ER (OU l f++f.filter (Dj (chainOf l (OU l f))))
def aKW {l:List AX} {f:List Int} {x:Int}:x∈YJ l f↔x∈f∧(Yo l x=true∨NW l (OU l f) x):=by
 unfold YJ;rw[NC,Ia,Hf,KZ,aLv];unfold OU;rw[Hf];exact⟨fun h=>h.elim (fun h=>⟨h.1,.inl h.2⟩) fun h=>⟨h.1,.inr h.2⟩,fun⟨h,k⟩=>k.elim (fun k=>.inl ⟨h,k⟩) fun k=>.inr ⟨h,k⟩⟩
def aUq (l:List AX) (f:List Int):Inc (YJ l f):=Lm _
def aKi (p:Int→Bool):∀(S r:List Int),S.foldl (fun r x=>bif p x then r++[x]else r) r=r++S.filter p
 | [],r=>BP
 |x::S,r=>by
  rw[Fb,aKi p S,QK];cases p x<;>simp
def apS (l:List AX) (f:List Int) (q:l.length≤1000) (s:E8 l) (z:f.length≤120000) (j:(OU l f).length≤100000):aCe l f=some (YJ l f):=by
 unfold aCe aQt;rw[Gs (a0:=[]) f AA (fun r x=>bif Yo l x then r++[x]else r) (fun i r=>r.length≤i) (fun r=>(X9 l r).bind fun m=>aL0 f m r 0) (EG _)]
 ·have u:f.foldl (fun r x=>bif Yo l x then r++[x]else r) []=OU l f:=by rw[aKi];rfl
  have I:=ay l (OU l f);rw[u,aNs l _ q s.akq j];simp only[Aa];unfold aL0;rw[Gs f AA (fun r x=>bif Dj (chainOf l (OU l f)) x then r++[x]else r) (fun i r=>r.length≤(OU l f).length+i) (fun r=>some (ER r)) (EG _)]
  ·rw[aKi];rfl
  ·intro k r i h n;refine⟨?_,?_⟩
   ·cases Dj (chainOf l (OU l f)) f[i]with
    |false=>show r.length≤(OU l f).length+(i+1);omega
    |true=>show(r++[f[i]]).length≤(OU l f).length+(i+1);simp;omega
   unfold aMu aAw;rw[CZ h,abA _ _ AA];simp only[Aa];rw[Di FZ];cases Dj (chainOf l (OU l f)) f[i]<;>rfl
  intro k r n;unfold aMu;rw[DZ,XG _ AA];rfl
 ·intro k r i h n;refine⟨?_,?_⟩
  ·cases Yo l f[i]with
   |false=>show r.length≤i+1;omega
   |true=>show(r++[f[i]]).length≤i+1;simp;omega
  unfold aHI aDe;rw[CZ h,O9 l _ AA];simp only[Aa];rw[Di FZ];unfold Yo dX ev;rw[arE,OZ];cases(ET l f[i]).isSome<;>cases SE (I4 l f[i]).1<;>rfl
 intro k r _;unfold aHI;rw[DZ]
def NW.aEC {l:List AX} {ids:List Int} {i x:Int} (hi:i∈ids) (h:NW l [i] x):NW l ids x:=by
 induction h with
 |one h f j=>rw[MW.1 h]at f;exact .one hi f j
 |more h f j m=>exact .more m f j
def NW.split {l:List AX} {ids:List Int} {x:Int}:NW l ids x↔∃i∈ids,NW l [i] x:=by
 constructor
 ·intro h
  induction h with
  |one h f j=>exact⟨_,h,.one (MW.2 rfl) f j⟩
  |more h f j q=>obtain⟨i,m,n⟩:=q;exact⟨i,m,.more n f j⟩
 rintro⟨i,m,n⟩;exact .aEC m n
def NW.dX {l:List AX} {ids:List Int} {x:Int} (h:NW l ids x):dX l x=true:=by cases h<;>assumption
def Zc (h r:List Int) (y:Int):List Int:=bif Dj h y then put r y else r
def aGJ (h:List Int):∀(c r:List Int),Inc r→Inc (c.foldl (Zc h) r)∧∀x,x∈c.foldl (Zc h) r↔x∈r∨x∈c∧x∈h
 | [],r,j=>⟨j,fun x=>BP⟩
 |y::c,r,j=>by
  rw[Fb];unfold Zc;cases s:Dj h y with
  |true=>
   obtain⟨m,n⟩:=aGJ h c (put r y) (Qm j);refine⟨m,fun x=>(n x).trans ?_⟩;rw[VW,F9];constructor
   ·rintro((f|rfl)|f)
    ·exact .inl f
    ·exact .inr ⟨.inl rfl,KZ.1 s⟩
    exact .inr ⟨.inr f.1,f.2⟩
   rintro(f|⟨rfl|f,q⟩)
   ·exact .inl (.inl f)
   ·exact .inl (.inr rfl)
   exact .inr ⟨f,q⟩
  |false=>
   obtain⟨m,n⟩:=aGJ h c r j;refine⟨m,fun x=>(n x).trans ⟨fun f=>f.imp id fun f=>⟨IY _ f.1,f.2⟩,fun f=>f.imp id fun f=>⟨?_,f.2⟩⟩⟩;rcases F9.1 f.1 with rfl|q
   ·exact absurd f.2 (OY.1 s)
   exact q
def Zg (l:List AX) (h r:List Int) (x:Int):List Int:=bif SE (ev l x)then(chainOf l [x]).foldl (Zc h) (put r x)else r
def aOb (l:List AX) (h:List Int):∀(c r:List Int),Inc r→Inc (c.foldl (Zg l h) r)∧∀x,x∈c.foldl (Zg l h) r↔x∈r∨∃i∈c,SE (ev l i)=true∧(x=i∨NW l [i] x∧x∈h)
 | [],r,n=>⟨n,fun x=>BP⟩
 |y::c,r,n=>by
  rw[Fb];unfold Zg;cases q:SE (ev l y)with
  |true=>
   obtain⟨z,I⟩:=aGJ h (chainOf l [y]) (put r y) (Qm n);obtain⟨s,u⟩:=aOb l h c _ z;refine⟨s,fun x=>(u x).trans ?_⟩;rw[I x,VW,aLv];constructor
   ·rintro(((f|rfl)|f)|⟨i,f,m⟩)
    ·exact .inl f
    ·exact .inr ⟨x,Hy ..,q,.inl rfl⟩
    ·exact .inr ⟨y,Hy ..,q,.inr f⟩
    exact .inr ⟨i,IY _ f,m⟩
   rintro(f|⟨i,f,m,j⟩)
   ·exact .inl (.inl (.inl f))
   rcases F9.1 f with rfl|f
   ·rcases j with rfl|j
    ·exact .inl (.inl (.inr rfl))
    exact .inl (.inr j)
   exact .inr ⟨i,f,m,j⟩
  |false=>
   obtain⟨s,u⟩:=aOb l h c r n;refine⟨s,fun x=>(u x).trans ⟨fun f=>f.imp id fun⟨i,m,j⟩=>⟨i,IY _ m,j⟩,fun f=>f.imp id fun⟨i,m,j,J⟩=>⟨i,?_,j,J⟩⟩⟩;rcases F9.1 m with rfl|m
   ·rw[q]at j;cases j
   exact m
def atb (l:List AX) (f:List Int):(FD l f).foldl (Zg l (FD l f)) []=YJ l f:=by
 obtain⟨q,s⟩:=aOb l (FD l f) (FD l f) [] .nil;refine G9 q (aUq _ _) fun x=>(s x).trans ?_;rw[aKW,Nh,NW.split];unfold OU Yo;constructor
 ·rintro(n|⟨i,n,h,m⟩)
  ·exact absurd n G7
  have j:=Nh.1 n;rcases m with rfl|m
  ·exact⟨j.1,.inl (by rw[j.2,h];rfl)⟩
  exact⟨m.2.1,.inr ⟨i,Hf.2 ⟨j.1,by rw[j.2,h];rfl⟩,m.1⟩⟩
 rintro⟨n,h|⟨i,h,m⟩⟩
 ·rw[DL]at h;exact .inr ⟨x,Nh.2 ⟨n,h.1⟩,h.2,.inl rfl⟩
 rw[Hf,DL]at h;exact .inr ⟨i,Nh.2 ⟨h.1,h.2.1⟩,h.2.2,.inr ⟨m,n,m.dX⟩⟩
def alR (l:List AX) (f:List Int) (z:l.length≤1000) (J:E8 l) (L:f.length≤100000):zC l f=some (YJ l f):=by
 unfold zC;rw[abu l f z L];simp only[Aa];have M:(FD l f).length≤l.length:=lK (aH l f) fun x m=>(Nh.1 m).2;unfold aUw;rw[Gs (a0:=[]) (FD l f) AA (Zg l (FD l f)) (fun _ r=>Inc r∧∀x∈r,dX l x=true) (fun r=>some r) ⟨.nil,fun x m=>absurd m G7⟩]
 ·rw[atb]
 ·intro k r i h q;have s:dX l (FD l f)[i]=true:=(Nh.1 (Eb h)).2;have O:=lK q.1 q.2;have g:=aGJ (FD l f) (chainOf l [(FD l f)[i]]) (put r (FD l f)[i]) (Qm q.1);refine⟨?_,?_⟩
  ·unfold Zg;cases SE (ev l (FD l f)[i])with
   |false=>exact q
   |true=>
    refine⟨g.1,fun x m=>?_⟩;rcases(g.2 x).1 m with n|n
    ·rcases VW.1 n with n|rfl
     ·exact q.2 x n
     exact s
    exact(Nh.1 n.2).2
  unfold aO1 qG;rw[CZ h,Ln l _ AA];simp only[Aa];rw[ar0,CB h];simp only[Aa];rw[ZC _ _ AA];simp only[Aa];rw[aJo l _ z J.akq BP];simp only[Aa];unfold Zg;show(bif SE (ev l (FD l f)[i])then _ else _)=_;cases SE (ev l (FD l f)[i])with
  |false=>rfl
  |true=>
   simp only[Ba];have Z:=ay l [(FD l f)[i]];unfold aPH
   rw[Gs (chainOf l [(FD l f)[i]]) AA (Zc (FD l f)) (fun _ r=>Inc r∧∀x∈r,dX l x=true) (fun r=>k r (Aw ((i:Int)+1))) ⟨Qm q.1,fun x m=>by
    rcases VW.1 m with n|rfl
    ·exact q.2 x n
    exact s⟩]
   ·intro k2 S j I u;have U:=lK u.1 u.2;refine⟨?_,?_⟩
    ·unfold Zc;cases Y:Dj (FD l f) (chainOf l [(FD l f)[i]])[j]with
     |false=>exact u
     |true=>
      refine⟨Qm u.1,fun x m=>?_⟩;rcases VW.1 m with n|rfl
      ·exact u.2 x n
      exact(Nh.1 (KZ.1 Y)).2
    unfold aNk aAj;rw[CZ I,UY _ _ AA,CB I];simp only[Aa];rw[ZC _ _ AA];unfold Zc;cases Dj (FD l f) (chainOf l [(FD l f)[i]])[j]<;>rfl
   intro k2 S _;unfold aNk qG;rw[DZ]
 intro k r _;unfold aO1;rw[DZ]
def aAQ (l:List AX) (f:List Int):(YJ l f).length≤l.length:=
 lK (aUq l f) fun x j=>by
  rcases(aKW.1 j).2 with h|h
  ·unfold Yo at h;rw[DL]at h;exact h.1
  exact h.dX
def FM (l:List AX) (id:Int):QS:=⟨id,nP l (ev l id),(ev l id).Time,chainOf l [id]⟩
def dw (l:List AX) (left:List Int) (x:Int):Bool:= !left.any fun y=>Dj (chainOf l [x]) y
def aZ (a b:QS):Bool:=bif a.I8 != b.I8 then decide (a.I8>b.I8)else decide (a.Bf<b.Bf)
def J5 (l:List AX) (left:List Int) (b:Option Int) (x:Int):Option Int:=bif dw l left x&&(match b with |none=>true|some y=>aZ (FM l x) (FM l y))then some x else b
def U7 (l:List AX) (left:List Int):Option Int:=left.foldl (J5 l left) none
def Nq (l:List AX):Nat→List Int→List Int
 |0,_=>[]
 |n+1,left=>match U7 l left with
  |none=>[]
  |some b=>b::Nq l n (left.filter (· != b))
def aPl (l:List AX):∀ids:List Int,ids.flatMap (fun id=>bif dX l id then[FM l id]else[])=(ids.filter (dX l)).map (FM l)
 | []=>rfl
 |i::ids=>by
  rw[Oi,aPl l ids,QK];cases dX l i<;>simp
def aen (l:List AX) (ids:List Int) (n:l.length≤1000) (j:E8 l) (hi:ids.length≤100000):aGy l ids=some ((FD l ids).map (FM l)):=by
 unfold aGy;rw[XG ids AA];simp only[Aa];have q:=MC ids;unfold adi;rw[Gs (a0:=[]) (ER ids) AA (fun r id=>r++bif dX l id then[FM l id]else[]) (fun i r=>r.length≤i) (fun r=>some r) (EG _)]
 ·rw[foldl_append (fun id=>bif dX l id then[FM l id]else[]),Hu,aPl];rfl
 ·intro k r i h u;refine⟨?_,?_⟩
  ·cases dX l (ER ids)[i]<;>simp <;>omega
  unfold aIH aAv;rw[CZ h,O9 l _ AA];simp only[Aa];unfold dX;cases f:ET l (ER ids)[i]with
  |none=>rw[Ri f];simp
  |some e=>
   have s:=j e (OG f);have m:ev l (ER ids)[i]=e:=by unfold ev;rw[Na f]
   rw[Na f];simp only[Ba,Option.isSome_some];rw[agK l e n j s.auth,aNs l _ n j.akq BP];simp only[Aa];rw[Di FZ];unfold FM;rw[m];rfl
 intro k r _;unfold aIH;rw[DZ]
def aVe (l:List AX) (left:List Int):∀(c:List Int) (b:Option Int) {x:Int},c.foldl (J5 l left) b=some x→b=some x∨x∈c
 | [],b,x,h=>.inl h
 |y::c,b,x,h=>by
  rw[Fb]at h;rcases aVe l left c _ h with f|f
  ·have key:∀c:Bool,(bif c then some y else b)=some x→b=some x∨x=y:=fun c j=>by
    cases c with
    |true=>simp only[Ba,MI]at j;exact .inr j.symm
    |false=>exact .inl j
   rcases key _ f with m|m
   ·exact .inl m
   exact .inr (m▸Hy ..)
  exact .inr (IY _ f)
def asE {l:List AX} {left:List Int} {x:Int} (h:U7 l left=some x):x∈left:=by
 rcases aVe l left left none h with h|h
 ·cases h
 exact h
def abb {left:List Int} (n:left.Nodup) {j:Nat} (q:j<left.length):left.take j++left.drop (j+1)=left.filter (· != left[j]):=by
 have e:left=left.take j++left[j]::left.drop (j+1):=by rw[←LY q,dG]
 have f:(left.take j++left[j]::left.drop (j+1)).Nodup:=by rw[←e];exact n
 have m:=aD7.1 f;have s:=NM.1 m.2.1
 have u:(left.take j).filter (· != left[j])=left.take j:=qE.2 fun x h=>by
  have :=m.2.2 x h left[j] (Hy ..);simpa using this
 have z:(left.drop (j+1)).filter (· != left[j])=left.drop (j+1):=qE.2 fun x h=>by
  have :x≠left[j]:=fun e=>s.1 (e▸h);simpa using this
 have :(left.take j++left[j]::left.drop (j+1)).filter (· != left[j])=left.take j++left.drop (j+1):=by
  rw[PZ,QK,u,z];simp
 rw[←e]at this;exact this.symm
def aTY {left:List Int} (f:left.Nodup) {b:Int} (h:b∈left):(left.filter (· != b)).length+1=left.length:=by
 obtain⟨j,m,rfl⟩:=JJ h;rw[←abb f m,ES,GH,Q9];omega
def anl {left:List Int} (h:Inc left) (b:Int):Og left [b]=left.filter (· != b):=by
 unfold Og;rw[ah9 h];congr 1;funext x;by_cases e:x=b
 ·subst e;simp[Dj]
 simp[Dj,e]
def aie (l:List AX) (hl:l.length≤1000):∀(m:Nat) (left f:List Int) (N:Nat),left.length=m→Inc left→(∀x∈left,dX l x=true)→f.length+left.length≤1000000→m<N→aS Yl N (left.map (FM l)) f=some (f++Nq l m left):=by
 intro m
 induction m with
 |zero=>
  intro left f N hm hi hk hacc hN;obtain⟨N,rfl⟩:∃N',N=N'+1:=⟨N-1,AA⟩
  have :left=[]:=H9 hm;subst this;show Yl _ _ _=_;unfold Yl Nq;simp
 |succ m ih=>
  intro left f N hm hi hk hacc hN;obtain⟨N,rfl⟩:∃N',N=N'+1:=⟨N-1,AA⟩
  have hll:=lK hi hk;refine fE.eq ?_;show fE (Yl (aS Yl N) _ _) _;have ih':=fun S acc' h1 h2 h3 h4=>ih S acc' N h1 h2 h3 h4 AA;generalize aS Yl N=K at ih';unfold Yl;rw[show decide (((left.map (FM l)).length:Int)>0)=true by rw[D8];simp;omega];simp only[Ba];unfold aaG;refine Tn (body:=aKG (left.map (FM l)) K) (fun Z a b c=>∃i:Nat,b=i∧i+Z=left.length∧c=f∧((a= -1∧(left.take i).foldl (J5 l left) none=none)∨∃(j:Nat) (s:j<left.length),a=(j:Int)∧(left.take i).foldl (J5 l left) none=some left[j])) ?_ Ap left.length (-1) 0 f (fuel_lt AA) ⟨0,rfl,AA,rfl,.inl ⟨rfl,rfl⟩⟩;rintro Z a b c k ⟨i,rfl,hm2,rfl,hI⟩ u;unfold aKG;by_cases z:i<left.length
  ·have J:i<(left.map (FM l)).length:=by rw[D8];exact z
   rw[dec_lt J,CB J,U5];simp only[Ba,Aa]
   have hst:(left.take (i+1)).foldl (J5 l left) none=J5 l left ((left.take i).foldl (J5 l left) none) left[i]:=by
    rw[P5 z,Uc];rfl
   unfold aUl;have hc:=ay l [left[i]]
   have hin:∀(k2:Int→Int→List Int→Option (List Int)),aS (XC (left.map (FM l)) (FM l left[i]) k2 (i:Int) a) Ap 0 c=bif dw l left left[i]then(bif decide (a<0)then Xf k2 (i:Int) a true c else(Aj (left.map (FM l)) a).bind fun U=>(Z5 (FM l left[i]) U).bind fun Y=>Xf k2 (i:Int) a Y c)else ZB k2 (i:Int) a c:=by
    intro k2
    have key:∀n (j:Nat),j+n=left.length→∀m,n<m→aS (XC (left.map (FM l)) (FM l left[i]) k2 (i:Int) a) m (j:Int) c=bif !(left.drop j).any (fun y=>Dj (chainOf l [left[i]]) y)then(bif decide (a<0)then Xf k2 (i:Int) a true c else(Aj (left.map (FM l)) a).bind fun U=>(Z5 (FM l left[i]) U).bind fun Y=>Xf k2 (i:Int) a Y c)else ZB k2 (i:Int) a c:=by
     intro n
     induction n with
     |zero=>
      intro j s m hm;obtain⟨m,rfl⟩:∃m',m=m'+1:=⟨m-1,AA⟩
      have :j=left.length:=AA
      subst this;show XC _ _ _ _ _ _ _ _=_;unfold XC;rw[show decide ((left.length:Int)<((left.map (FM l)).length:Int))=false by rw[D8];exact DT _,Oe];rfl
     |succ n ihn=>
      intro j s m hm;obtain⟨m,rfl⟩:∃m',m=m'+1:=⟨m-1,AA⟩
      have hjl:j<left.length:=AA
      have aGx:j<(left.map (FM l)).length:=by rw[D8];exact hjl
      have M:=ihn (j+1) AA m AA;show XC _ _ _ _ _ (aS _ m) _ _=_;generalize aS (XC (left.map (FM l)) (FM l left[i]) k2 (i:Int) a) m=L at M;unfold XC;rw[CZ aGx,U5];show((mV (chainOf l [left[i]]) left[j]).bind _)=_;rw[abA _ _ AA,wrap_succ j AA,LY hjl,mM];simp only[Aa];cases Dj (chainOf l [left[i]]) left[j]with
      |true=>rfl
      |false=>
       simp only[BM,MG];exact M
    exact key left.length 0 AA Ap (fuel_lt AA)
   rw[hin];have hw:=wrap_succ i AA;unfold Xf ZB;rw[hw];cases I:dw l left left[i]with
   |false=>
    simp only[BM];refine u (Z-1) _ _ _ AA ⟨i+1,rfl,AA,rfl,?_⟩;have e:J5 l left ((left.take i).foldl (J5 l left) none) left[i]=(left.take i).foldl (J5 l left) none:=by unfold J5;rw[I];rfl
    rw[hst,e];exact hI
   |true=>
    simp only[Ba];rcases hI with⟨rfl,O⟩|⟨j,s,rfl,O⟩
    ·rw[show decide ((-1:Int)<0)=true by decide];simp only[Ba];refine u (Z-1) _ _ _ AA ⟨i+1,rfl,AA,rfl,.inr ⟨i,z,rfl,?_⟩⟩;rw[hst,O];unfold J5;rw[I];rfl
    have h:j<(left.map (FM l)).length:=by rw[D8];exact s
    rw[show decide ((j:Int)<0)=false by simp,CB h,U5];simp only[BM,Aa]
    have e1:Z5 (FM l left[i]) (FM l left[j])=some (aZ (FM l left[i]) (FM l left[j])):=by
     unfold Z5 aZ;cases(FM l left[i]).I8 != (FM l left[j]).I8<;>rfl
    rw[e1];simp only[Aa];cases ha:aZ (FM l left[i]) (FM l left[j])with
    |true=>
     simp only[Ba];refine u (Z-1) _ _ _ AA ⟨i+1,rfl,AA,rfl,.inr ⟨i,z,rfl,?_⟩⟩;rw[hst,O];unfold J5;rw[I];simp only[ha];rfl
    |false=>
     simp only[BM];refine u (Z-1) _ _ _ AA ⟨i+1,rfl,AA,rfl,.inr ⟨j,s,rfl,?_⟩⟩;rw[hst,O];unfold J5;rw[I];simp only[ha];rfl
  have hie:i=left.length:=AA
  subst hie;rw[show decide ((left.length:Int)<((left.map (FM l)).length:Int))=false by rw[D8];exact DT _];simp only[BM];rw[Gi]at hI;have q:Nq l (m+1) left=match U7 l left with |none=>[]|some b=>b::Nq l m (left.filter (· != b)):=rfl
  rcases hI with⟨rfl,O⟩|⟨j,s,rfl,O⟩
  ·rw[show decide ((-1:Int)<0)=true by decide];refine .ret ?_;have h1:U7 l left=none:=O;rw[q,h1];simp
  have h:j<(left.map (FM l)).length:=by rw[D8];exact s
  rw[show decide ((j:Int)<0)=false by simp,CB h,U5];simp only[BM,Aa];have h1:U7 l left=some left[j]:=O;rw[Di FZ];simp only[Aa];rw[qW (Nat.le_of_lt h),wrap_succ j AA,X4 h];simp only[Aa];rw[Di (by rw[GH,Q9,D8];omega)];simp only[Aa]
  have e2:(left.map (FM l)).take j++(left.map (FM l)).drop (j+1)=(left.filter (· != left[j])).map (FM l):=by
   rw[←abb (Xd hi) s,Jv,cD,eS]
  rw[e2];have hwl:=aTY (Xd hi) (Eb s);rw[ih' (left.filter (· != left[j])) (c++[(FM l left[j]).nO]) AA (hi.sublist SH) (fun x hx=>hk x ((Hf.1 hx).1)) UZ];refine .ret ?_;rw[q,h1,J7];rfl
def ase (l:List AX) (ids:List Int) (h:l.length≤1000) (j:E8 l) (hi:ids.length≤100000):aBu l ids=some (Nq l (FD l ids).length (FD l ids)):=by
 have m:(FD l ids).length≤l.length:=lK (aH l ids) fun x f=>(Nh.1 f).2;unfold aBu;rw[aen l ids h j hi];simp only[Aa];unfold aUG;rw[aie l h _ (FD l ids) [] Ap rfl (aH l ids) (fun x f=>(Nh.1 f).2) U6 (fuel_lt AA)];rfl
def amS (l:List AX) (left:List Int) (x:Int) (f:l.length≤1000) (j:E8 l) (m:left.length≤100000):aBz l left x=some (dw l left x):=by
 unfold aBz;rw[aJo l _ f j.akq BP];simp only[Aa];have n:=ay l [x];unfold aQy;rw[Gl (chainOf l [x]) (fuel_lt AA) (fun y=>Dj left y) false (some true)]
 ·unfold dw
  have e:(chainOf l [x]).any (fun y=>Dj left y)=left.any fun y=>Dj (chainOf l [x]) y:=by
   rw[Ph,Hd,Hd];simp only[KZ];exact⟨fun⟨y,a,b⟩=>⟨y,b,a⟩,fun⟨y,a,b⟩=>⟨y,b,a⟩⟩
  rw[e];cases left.any fun y=>Dj (chainOf l [x]) y<;>rfl
 ·intro k i h;unfold aNM;rw[CZ h,UY _ _ AA];simp only[Aa]
 intro k;unfold aNM;rw[DZ]
def aOo {R A B C D:Type} {Q:R→Prop} {body:(A→B→C→D→Option R)→A→B→C→D→Option R} (I:Nat→A→B→C→D→Prop) (z:∀m a b c d k,I m a b c d→(∀f a' j q s,f<m→I f a' j q s→fE (k a' j q s) Q)→fE (body k a b c d) Q):
 ∀n m a b c d,m<n→I m a b c d→fE (Uz body n a b c d) Q
 |0,m,_,_,_,_,h,_=>AA
 |n+1,m,a,b,c,d,h,hi=>z m a b c d _ hi fun f a' j q s h' u=>aOo I z n f a' j q s AA u
def TY {l:List AX} {x:Int} (h:dX l x=true):ET l x=some (ev l x)∧(ev l x).Id=x:=by
 unfold dX at h;obtain⟨e,f⟩:=RH.1 h;have :ev l x=e:=by unfold ev;rw[Na f]
 rw[this];exact⟨f,adu f⟩
def aoE (l:List AX) (x y:Int) (h:l.length≤1000) (f:E8 l) (m:dX l x=true) (n:dX l y=true) (q:y<x):aEl l (ev l x) (ev l y)=some (aZ (FM l x) (FM l y)):=by
 obtain⟨s,u⟩:=TY m;obtain⟨z,I⟩:=TY n;unfold aEl;rw[aQ6 l _ h f (f _ (OG s)).auth,aQ6 l _ h f (f _ (OG z)).auth];simp only[Aa];unfold aZ FM;simp only;cases nP l (ev l x) != nP l (ev l y)with
 |true=>rfl
 |false=>
  simp only[BM];rw[u,I];by_cases j:(ev l x).Time=(ev l y).Time
  ·rw[j];simp;omega
  have :((ev l x).Time != (ev l y).Time)=true:=Oh
  rw[this];rfl
def apk (l:List AX) (hl:l.length≤1000) (hs:E8 l):∀(m:Nat) (left f:List Int) (N:Nat),left.length=m→Inc left→(∀x∈left,dX l x=true)→f.length+left.length≤1000000→m<N→aS (YI l) N left f=some (f++Nq l m left):=by
 intro m
 induction m with
 |zero=>
  intro left f N hm hi L O hN;obtain⟨N,rfl⟩:∃N',N=N'+1:=⟨N-1,AA⟩
  have :left=[]:=H9 hm;subst this;show YI _ _ _ _=_;unfold YI Nq;simp
 |succ m ih=>
  intro left f N hm hi L O hN;obtain⟨N,rfl⟩:∃N',N=N'+1:=⟨N-1,AA⟩
  have hll:=lK hi L;refine fE.eq ?_;show fE (YI l (aS (YI l) N) _ _) _;have S:=fun I U Y h2 h3 h4=>ih I U N Y h2 h3 h4 AA;generalize aS (YI l) N=K at S;unfold YI;rw[show decide ((left.length:Int)>0)=true by simp;omega];simp only[Ba];unfold aS3;refine aOo (body:=aNF left l K) (fun M a b c d=>∃i:Nat,b=i∧i+M=left.length∧c=f∧((a=false∧(left.take i).foldl (J5 l left) none=none)∨∃(j:Nat) (s:j<left.length),j<i∧a=true∧d=ev l left[j]∧(left.take i).foldl (J5 l left) none=some left[j])) ?_ Ap left.length false 0 f F7 (fuel_lt AA) ⟨0,rfl,AA,rfl,.inl ⟨rfl,rfl⟩⟩;rintro M a b c d k ⟨i,rfl,hm2,rfl,hI⟩ u;unfold aNF;by_cases h:i<left.length
  ·rw[dec_lt h,CB h];simp only[Ba,Aa];rw[Ln l _ AA];simp only[Aa];rw[amS l left _ hl hs AA];simp only[Aa]
   have hst:(left.take (i+1)).foldl (J5 l left) none=J5 l left ((left.take i).foldl (J5 l left) none) left[i]:=by
    rw[P5 h,Uc];rfl
   unfold aEr;rw[wrap_succ i AA];cases z:dw l left left[i]with
   |false=>
    simp only[BM,Aa];refine u (M-1) _ _ _ _ AA ⟨i+1,rfl,AA,rfl,?_⟩;have e:J5 l left ((left.take i).foldl (J5 l left) none) left[i]=(left.take i).foldl (J5 l left) none:=by unfold J5;rw[z];rfl
    rw[hst,e];rcases hI with n|⟨j,s,J,n⟩
    ·exact .inl n
    exact .inr ⟨j,s,AA,n⟩
   |true=>
    simp only[Ba];rcases hI with⟨rfl,n⟩|⟨j,s,J,rfl,rfl,n⟩
    ·simp only[IX,Ba,Aa];refine u (M-1) _ _ _ _ AA ⟨i+1,rfl,AA,rfl,.inr ⟨i,h,AA,rfl,rfl,?_⟩⟩;rw[hst,n];unfold J5;rw[z];rfl
    simp only[EM,BM];have Z:left[j]<left[i]:=Ky.1 hi j i s h J;have e1:=aoE l left[i] left[j] hl hs (L _ (Eb h)) (L _ (Eb s)) Z;rw[show(I4 l left[i]).1=ev l left[i]from rfl,e1];simp only[Aa];cases ha:aZ (FM l left[i]) (FM l left[j])with
    |true=>
     simp only[Ba];refine u (M-1) _ _ _ _ AA ⟨i+1,rfl,AA,rfl,.inr ⟨i,h,AA,rfl,rfl,?_⟩⟩;rw[hst,n];unfold J5;rw[z];simp only[ha];rfl
    |false=>
     simp only[BM];refine u (M-1) _ _ _ _ AA ⟨i+1,rfl,AA,rfl,.inr ⟨j,s,AA,rfl,rfl,?_⟩⟩;rw[hst,n];unfold J5;rw[z];simp only[ha];rfl
  have hie:i=left.length:=AA
  subst hie;rw[DT];simp only[BM];rw[Gi]at hI;have q:Nq l (m+1) left=match U7 l left with |none=>[]|some b=>b::Nq l m (left.filter (· != b)):=rfl
  rcases hI with⟨rfl,n⟩|⟨j,s,J,rfl,rfl,n⟩
  ·refine .ret ?_;have Y:U7 l left=none:=n;rw[q,Y];simp
  simp only[EM,BM];have Y:U7 l left=some left[j]:=n;have hid:=(TY (L _ (Eb s))).2;rw[hid,Di FZ];simp only[Aa];rw[aDD _ _ AA BP,anl hi];simp only[Aa];have hwl:=aTY (Xd hi) (Eb s);rw[S (left.filter (· != left[j])) (c++[left[j]]) AA (hi.sublist SH) (fun x hx=>L x ((Hf.1 hx).1)) UZ];refine .ret ?_;rw[q,Y,J7];rfl
def ahc (l:List AX) (ids:List Int) (h:l.length≤1000) (j:E8 l) (hi:ids.length≤100000):aAe l ids=some (Nq l (FD l ids).length (FD l ids)):=by
 have m:(FD l ids).length≤l.length:=lK (aH l ids) fun x f=>(Nh.1 f).2;unfold aAe;rw[abu l ids h hi];simp only[Aa];unfold abR;rw[apk l h j _ (FD l ids) [] Ap rfl (aH l ids) (fun x f=>(Nh.1 f).2) U6 (fuel_lt AA)];rfl
def aTS (l:List AX):∀(n:Nat) (left:List Int) {x:Int},x∈Nq l n left→x∈left
 |0,_,_,h=>absurd h G7
 |n+1,left,x,h=>by
  unfold Nq at h;cases f:U7 l left with
  |none=>rw[f]at h;exact absurd h G7
  |some b=>
   rw[f]at h;rcases F9.1 h with rfl|h
   ·exact asE f
   exact(Hf.1 (aTS l n _ h)).1
def aaB (l:List AX):∀(n:Nat) (left:List Int),(Nq l n left).length≤n
 |0,_=>EG _
 |n+1,left=>by
  unfold Nq;cases U7 l left with
  |none=>exact Eh _
  |some b=>have :=aaB l n (left.filter (· != b));simp only[GI];omega
def RI (l:List AX) (e:AX):Option Int:=e.bP.find? fun id=>dX l id&&(ev l id).Kind==3
def bJ (l:List AX) (e:AX):Int×Bool:=match RI l e with |some x=>(x,true)|none=>(0,false)
def aTG (l:List AX) (e:AX) (f:l.length≤1000) (j:e.bP.length≤40):vM l e=some (bJ l e):=by
 unfold vM aPk;rw[KD e.bP (fuel_lt AA) (fun id=>dX l id&&(ev l id).Kind==3) (fun i=>some (match e.bP[i]? with |some x=>(x,true)|none=>(0,false))) (some (0,false))]
 ·unfold bJ RI;rw[Ko];by_cases h:e.bP.findIdx (fun id=>dX l id&&(ev l id).Kind==3)<e.bP.length
  ·rw[D9 h]
  rw[DN h,II AA]
 ·intro k i h;unfold aOT;rw[CZ h,O9 l _ AA,Dx h];simp only[Aa];unfold dX ev;rw[OZ];cases(ET l e.bP[i]).isSome<;>rfl
 intro k;unfold aOT;rw[DZ]
def ak9 (l:List AX) (e:AX) (f:l.length≤1000) (j:e.bP.length≤40):aGP l e=some (bJ l e):=by
 unfold aGP aTm;rw[KD e.bP (fuel_lt AA) (fun id=>dX l id&&(ev l id).Kind==3) (fun i=>some (match e.bP[i]? with |some x=>(x,true)|none=>(0,false))) (some (0,false))]
 ·unfold bJ RI;rw[Ko];by_cases h:e.bP.findIdx (fun id=>dX l id&&(ev l id).Kind==3)<e.bP.length
  ·rw[D9 h]
  rw[DN h,II AA]
 ·intro k i h;unfold aMT;rw[CZ h,Ln l _ AA,Dx h,CB h];simp only[Aa];unfold dX ev;rw[OZ];cases(ET l e.bP[i]).isSome<;>rfl
 intro k;unfold aMT;rw[DZ]
def OB (l:List AX):Nat→List Int→Int→List Int
 |0,seen,_=>seen
 |n+1,seen,id=>bif Dj seen id|| !dX l id then seen else match RI l (ev l id)with
  |none=>seen++[id]
  |some x=>OB l n (seen++[id]) x
def lC (l:List AX) (id:Int):List Int:=OB l l.length [] id
structure U8 (l:List AX) (seen:List Int):Prop where
 nodup:seen.Nodup
 known:∀x∈seen,dX l x=true
def U8.length {l:List AX} {seen:List Int} (h:U8 l seen):seen.length≤l.length:=by
 rw[←(WB seen).length_eq,abh h.nodup];exact lK (Lm _) fun x f=>h.known x (NC.1 f)
def U8.snoc {l:List AX} {seen:List Int} (h:U8 l seen) {id:Int} (j:id∉seen) (m:dX l id=true):U8 l (seen++[id]):=by
 refine⟨aD7.2 ⟨h.nodup,BP,fun a ha b n=>?_⟩,fun x f=>?_⟩
 ·rw[MW.1 n];exact fun e=>j (e▸ha)
 rcases Ia.1 f with f|f
 ·exact h.known x f
 rw[MW.1 f];exact m
def aRb (l:List AX):∀(n:Nat) (seen:List Int) (id:Int),U8 l seen→U8 l (OB l n seen id)
 |0,_,_,h=>h
 |n+1,seen,id,h=>by
  unfold OB;cases f:Dj seen id|| !dX l id with
  |true=>exact h
  |false=>
   rw[vS,OY]at f;have j:=h.snoc f.1 (by simpa using f.2);simp only[BM];cases RI l (ev l id)with
   |none=>exact j
   |some x=>exact aRb l n _ x j
def aQw (l:List AX):∀(n:Nat) (seen:List Int) (id:Int),∃t,OB l n seen id=seen++t
 |0,seen,_=>⟨[],by simp[OB]⟩
 |n+1,seen,id=>by
  unfold OB;cases Dj seen id|| !dX l id with
  |true=>exact⟨[],BP⟩
  |false=>
   simp only[BM];cases RI l (ev l id)with
   |none=>exact⟨[id],rfl⟩
   |some x=>
    obtain⟨t,f⟩:=aQw l n (seen++[id]) x;exact⟨id::t,by simp only[f,J7];rfl⟩
def aUj (l:List AX) (id:Int):(lC l id).length≤l.length:=(aRb l _ [] id ⟨Zt,fun x f=>absurd f G7⟩).length
def asc (l:List AX) (M:l.length≤1000) (O:E8 l) (S U:List Int):∀(m:Nat) (seen:List Int) (id:Int) (N:Nat),seen.length+m=l.length→U8 l seen→m<N→Fh Yg N seen seen S U id l=some (OB l m seen id):=by
 intro m
 induction m with
 |zero=>
  intro seen id N Y j Z;obtain⟨N,rfl⟩:∃N',N=N'+1:=⟨N-1,AA⟩
  have q:=j.length;show Yg _ _ _ _ _ _ _=_;unfold Yg;rw[qg _ _ AA,O9 l _ AA];simp only[Aa];rw[OZ];cases s:Dj seen id with
  |true=>rfl
  |false=>
   cases h:(ET l id).isSome with
   |false=>rfl
   |true=>
    have u:=(j.snoc (OY.1 s) h).length;simp only[ES,Ou]at u;omega
 |succ m ih=>
  intro seen id N Y j Z;obtain⟨N,rfl⟩:∃N',N=N'+1:=⟨N-1,AA⟩
  have q:=j.length;show Yg (Fh Yg N) _ _ _ _ _ _=_;have n:=fun f z h1 u=>ih f z N h1 u AA;generalize Fh Yg N=K at n;unfold Yg OB;rw[qg _ _ AA,O9 l _ AA];simp only[Aa];rw[OZ];cases s:Dj seen id with
  |true=>rfl
  |false=>
   cases h:(ET l id).isSome with
   |false=>rw[show dX l id=false from h];rfl
   |true=>
    obtain⟨e,L⟩:=RH.1 h;rw[show dX l id=true from h];simp only[IX,EM,L9,Ba,BM];rw[Di FZ];simp only[Aa];unfold aDd;simp only[BM];rw[Di FZ];simp only[Aa];have I:(I4 l id).1=ev l id:=rfl
    have J:(ev l id).bP.length≤40:=by
     have :ev l id=e:=by unfold ev;rw[Na L]
     rw[this];exact(O e (OG L)).auth
    rw[I,aTG l _ M J];simp only[Aa];unfold bJ;cases RI l (ev l id)with
    |none=>rfl
    |some x=>exact n (seen++[id]) x UZ (j.snoc (OY.1 s) h)
def akG (l:List AX) (id:Int) (f:l.length≤1000) (h:E8 l):aGO l id=some (lC l id):=by
 unfold aGO yL adG;exact asc l f h [] [] l.length [] id Ap BP ⟨Zt,fun x j=>absurd j G7⟩ (fuel_lt AA)
def arv (l:List AX) (z:l.length≤1000) (I:E8 l):∀(m:Nat) (seen:List Int) (id:Int) (i N:Nat),i+m=l.length→seen.length≤i→m<N→jk (Xe l) N seen id (i:Int)=some (OB l m seen id):=by
 intro m
 induction m with
 |zero=>
  intro seen id i N J L M;obtain⟨N,rfl⟩:∃N',N=N'+1:=⟨N-1,AA⟩
  have :i=l.length:=AA
  subst this;show Xe _ _ _ _ _=_;unfold Xe;rw[DT];rfl
 |succ m O=>
  intro seen id i N J L M;obtain⟨N,rfl⟩:∃N',N=N'+1:=⟨N-1,AA⟩
  show Xe _ (jk (Xe l) N) _ _ _=_;have h:=fun f j S U Y=>O f j S N U Y AA;generalize jk (Xe l) N=K at h;unfold Xe OB;rw[dec_lt AA,Ln l _ AA,UY _ _ AA];simp only[Ba,Aa];rw[OZ];cases n:(ET l id).isSome with
  |false=>rw[show dX l id=false from n];cases Dj seen id<;>rfl
  |true=>
   rw[show dX l id=true from n];cases Z:Dj seen id with
   |true=>rfl
   |false=>
    obtain⟨e,u⟩:=RH.1 n;simp only[EM,L9,BM,Aa];rw[Di FZ];simp only[Aa];have q:(I4 l id).1=ev l id:=rfl
    have s:(ev l id).bP.length≤40:=by
     have :ev l id=e:=by unfold ev;rw[Na u]
     rw[this];exact(I e (OG u)).auth
    rw[q,ak9 l _ z s,wrap_succ i AA];simp only[Aa];unfold bJ;cases RI l (ev l id)with
    |none=>rfl
    |some x=>exact h (seen++[id]) x (i+1) AA UZ
def aQX (l:List AX) (id:Int) (f:l.length≤1000) (h:E8 l):wu l id=some (lC l id):=by
 unfold wu aUD;exact arv l f h l.length [] id 0 Ap BP (EG _) (fuel_lt AA)
def aK (f h:List Int):Int:=match h.find? (Dj f)with |some x=>((f.findIdx (· ==x):Nat):Int)|none=>(f.length:Int)
def MP (l:List AX) (f:List Int) (id:Int):Int:=aK f (lC l id)
def alu (l:List AX) (f:List Int) (hl:l.length≤1000) (hs:E8 l) (hm:f.length≤100000):∀(m:Nat) (seen:List Int) (z id:Int) (N:Nat),seen.length+m=l.length→U8 l seen→seen.find? (Dj f)=none→m<N→Fg Y5 N seen f z id l=some (aK f (OB l m seen id)):=by
 have j:∀seen:List Int,seen.find? (Dj f)=none→aK f seen=(f.length:Int):=fun seen h=>by unfold aK;rw[h]
 intro m
 induction m with
 |zero=>
  intro seen z id N hm M I hN;obtain⟨N,rfl⟩:∃N',N=N'+1:=⟨N-1,AA⟩
  have Y:=M.length;show Y5 _ _ _ _ _ _=_;unfold Y5;rw[qg _ _ AA,O9 l _ AA];simp only[Aa];rw[OZ];have U:aK f (OB l 0 seen id)=(f.length:Int):=j seen I;rw[U];cases J:Dj seen id with
  |true=>rfl
  |false=>
   cases L:(ET l id).isSome with
   |false=>rfl
   |true=>
    have Z:=(M.snoc (OY.1 J) L).length;simp only[ES,Ou]at Z;omega
 |succ m ih=>
  intro seen z id N hm M I hN;obtain⟨N,rfl⟩:∃N',N=N'+1:=⟨N-1,AA⟩
  have Y:=M.length;show Y5 (Fg Y5 N) _ _ _ _ _=_;have O:=fun s z' id' h1 Z h3=>ih s z' id' N h1 Z h3 AA;generalize Fg Y5 N=K at O;unfold Y5 ng;rw[qg _ _ AA,O9 l _ AA,aQW _ _ AA];simp only[Aa];rw[OZ];have u:OB l (m+1) seen id=bif Dj seen id|| !dX l id then seen else match RI l (ev l id)with |none=>seen++[id]|some x=>OB l m (seen++[id]) x:=rfl
  cases J:Dj seen id with
  |true=>rw[u,J];simp only[Bool.true_or,Ba,EM,BM];rw[j seen I]
  |false=>
   cases L:(ET l id).isSome with
   |false=>rw[u,J,show dX l id=false from L];simp only[MG,IX,Ba];rw[j seen I]
   |true=>
    obtain⟨e,U⟩:=RH.1 L;rw[u,J,show dX l id=true from L];simp only[IX,EM,L9,Ba,BM];have n:=acJ f id;by_cases q:f.findIdx (· ==id)<f.length
    ·rw[D9 q,show decide (((f.findIdx (· ==id):Nat):Int)≥0)=true by simp];simp only[Ba];rw[Ht q]at n
     have hex:∃t,(match RI l (ev l id)with |none=>seen++[id]|some x=>OB l m (seen++[id]) x)=seen++[id]++t:=by
      cases RI l (ev l id)with
      |none=>exact⟨[],BP⟩
      |some x=>exact aQw l m (seen++[id]) x
     obtain⟨t,ht⟩:=hex;rw[ht];unfold aK;rw[aEH,aEH,I];simp[←n]
    rw[DN q,show decide ((-1:Int)≥0)=false by decide];simp only[BM];rw[IJ q]at n;rw[Di FZ];simp only[Aa];have hev:(I4 l id).1=ev l id:=rfl
    have hea:(ev l id).bP.length≤40:=by
     have :ev l id=e:=by unfold ev;rw[Na U]
     rw[this];exact(hs e (OG U)).auth
    have S:(seen++[id]).find? (Dj f)=none:=by rw[aEH,I];simp[←n]
    rw[hev,aTG l _ hl hea];simp only[Aa];unfold bJ;cases RI l (ev l id)with
    |none=>simp only[IX,Ba];rw[j _ S]
    |some x=>exact O (seen++[id]) z x UZ (M.snoc (OY.1 J) L) S
def aio (l:List AX) (f:List Int) (id:Int) (h:l.length≤1000) (j:E8 l) (m:f.length≤100000):aCH l f id=some (MP l f id):=by
 unfold aCH yL aQ8;exact alu l f h j m l.length [] 0 id Ap BP ⟨Zt,fun x n=>absurd n G7⟩ rfl (fuel_lt AA)
def ata (l:List Int) (x:Int) (h:l.length≤100000):aD2 l x=some ((l.findIdx (· ==x):Nat):Int):=by
 unfold aD2 aaw;rw[KD l (fuel_lt AA) (· ==x) (fun i=>some (i:Int)) (some (l.length:Int))]
 ·split
  ·rfl
  rename_i h;have :l.findIdx (· ==x)≤l.length:=aDq;congr 2;omega
 ·intro k i hi;unfold aJd;rw[CZ hi]
 intro k;unfold aJd;rw[DZ]
def aQr (l:List AX) (f:List Int) (id:Int) (j:l.length≤1000) (m:E8 l) (n:f.length≤100000):pI l f id=some (MP l f id):=by
 unfold pI;rw[aQX l id j m];simp only[Aa];have q:=aUj l id;unfold aaZ MP aK;generalize lC l id=W at q;rw[KD W (fuel_lt AA) (Dj f) (fun i=>some (match W[i]? with |some x=>((f.findIdx (· ==x):Nat):Int)|none=>0)) (some (f.length:Int))]
 ·rw[Ko];by_cases h:W.findIdx (Dj f)<W.length
  ·rw[D9 h,Dx h]
  rw[DN h,II AA]
 ·intro k i h;unfold aKh;rw[CZ h,UY _ _ AA,CB h,Dx h];simp only[Aa];rw[ata _ _ n];rfl
 intro k;unfold aKh;rw[DZ]
def Ee (l:List AX) (f:List Int) (id:Int):KL:=⟨id,MP l f id,(ev l id).Time⟩
def uG (x:KL):Int×Int×Int:=(x.nO,x.zf,x.Bf)
def Gm (x y:KL):Bool:=KX (uG x) (uG y)
def U3 (l:List AX) (f ids:List Int):List Int:=(QE Gm ((ids.filter (dX l)).map (Ee l f))).map (·.nO)
def aTK (l:List AX) (f:List Int):∀ids:List Int,ids.flatMap (fun id=>bif dX l id then[Ee l f id]else[])=(ids.filter (dX l)).map (Ee l f)
 | []=>rfl
 |i::ids=>by
  rw[Oi,aTK l f ids,QK];cases dX l i<;>simp
def ao7 (s:List KL) (z:s.length≤1000000) (n:(s.map (·.nO)).Nodup):lV s=some s:=by
 unfold lV;by_cases I:s.length<2
 ·rw[show decide ((s.length:Int)<2)=true by simp;omega];rfl
 rw[show decide ((s.length:Int)<2)=false by simp;omega];simp only[BM];unfold aPX;refine fE.eq ?_;refine Xi (body:=aAn) (fun m a b=>∃i:Nat,a=i∧i+m=s.length∧0<i∧b=s) ?_ Ap (s.length-1) 1 s (fuel_lt AA) ⟨1,rfl,AA,AA,rfl⟩;rintro m a b k ⟨i,rfl,J,hi,rfl⟩ q;unfold aAn;by_cases f:i<b.length
 ·rw[dec_lt f,CB f];simp only[Ba,Aa];have w:Aw ((i:Int)-1)=((i-1:Nat):Int):=Yc
  have h:i-1<b.length:=AA
  rw[w,CB h];simp only[Aa]
  have j:b[i].nO≠b[i-1].nO:=by
   have :=Ky.1 n (i-1) i YT YT AA;simp only[U5]at this;exact fun e=>this e.symm
  have u:uU b[i] b[i-1]=false:=by
   unfold uU;rw[show(b[i].nO==b[i-1].nO)=false by simpa using j];rfl
  rw[u,wrap_succ i AA];exact q (m-1) _ _ AA ⟨i+1,rfl,AA,AA,rfl⟩
 have :i=b.length:=AA
 subst this;rw[DT];exact .ret rfl
def aOL (l:List AX) (f:List Int) (ids:List Int):(ids.map (Ee l f)).map (·.nO)=ids:=by
 rw[uz];exact List.map_id' ids
def ajz (l:List AX) (f ids:List Int) (z:l.length≤1000) (I:E8 l) (J:f.length≤100000) (hi:ids.length≤100000) (L:ids.Nodup):aH0 l f ids=some (U3 l f ids):=by
 unfold aH0 acO;rw[Gs (a0:=[]) ids AA (fun r id=>r++bif dX l id then[Ee l f id]else[]) (fun i r=>r.length≤i) (fun M=>(aGd M).bind fun n=>(lV n).bind fun q=>aKd q [] 0) (EG _)]
 ·rw[foldl_append (fun id=>bif dX l id then[Ee l f id]else[]),Hu,aTK];have O:=Js (dX l) ids;have s:((ids.filter (dX l)).map (Ee l f)).length≤100000:=YT
  unfold aGd aBt;rw[D9 AA];simp only[Aa];have e:(QE (fun x y:KL=>KX (x.nO,x.zf,x.Bf) (y.nO,y.zf,y.Bf)) ((ids.filter (dX l)).map (Ee l f)))=QE Gm ((ids.filter (dX l)).map (Ee l f)):=rfl;rw[e];unfold U3;have u:=dR Gm ((ids.filter (dX l)).map (Ee l f))
  have j:((QE Gm ((ids.filter (dX l)).map (Ee l f))).map (·.nO)).Nodup:=by
   rw[(u.map (·.nO)).nodup_iff,aOL];exact L.sublist SH
  have m:(QE Gm ((ids.filter (dX l)).map (Ee l f))).length≤100000:=by rw[u.length_eq];exact s
  generalize QE Gm ((ids.filter (dX l)).map (Ee l f))=S at j m;rw[ao7 S AA j];simp only[Aa];unfold aKd;rw[Gs (a0:=[]) S AA (fun r x=>r++[x.nO]) (fun i r=>r.length≤i) (fun r=>some r) (EG _)]
  ·rw[foldl_append (fun x:KL=>[x.nO]),Hu];congr 1;clear j m
   induction S with
   |nil=>rfl
   |cons x S U=>rw[Oi,U];rfl
  ·intro k r i h Y;refine⟨SPr,?_⟩;unfold aLD;rw[CZ h,Di FZ];rfl
  intro k r _;unfold aLD;rw[DZ]
 ·intro k r i h Y;refine⟨?_,?_⟩
  ·cases dX l ids[i]<;>simp <;>omega
  unfold aMx aC0;rw[CZ h,O9 l _ AA];simp only[Aa];rw[OZ,aio l f _ z I J];simp only[Aa];rw[Di FZ];unfold dX;cases(ET l ids[i]).isSome with
  |true=>rfl
  |false=>simp
 intro k r _;unfold aMx;rw[DZ]
def afM (l:List AX) (f:List Int) (a b:Int) (q:l.length≤1000) (s:E8 l) (u:f.length≤100000):aCr l f a b=some (!Gm (Ee l f b) (Ee l f a)):=by
 unfold aCr;rw[aQr l f a q s u,aQr l f b q s u,Ln l a AA,Ln l b AA];simp only[Aa]
 have j:(!Gm (Ee l f b) (Ee l f a))=decide (MP l f b<MP l f a∨MP l f a=MP l f b∧((ev l a).Time<(ev l b).Time∨(ev l a).Time=(ev l b).Time∧a<b)):=by
  rw[Ph,RY,H6];exact aPb (uG (Ee l f b)) (uG (Ee l f a))
 rw[j];show(bif MP l f a != MP l f b then some (decide (MP l f a>MP l f b))else bif (ev l a).Time != (ev l b).Time then some (decide ((ev l a).Time<(ev l b).Time))else some (decide (a<b)))=_;by_cases m:MP l f a=MP l f b
 ·rw[show(MP l f a != MP l f b)=false by simp[m]];simp only[BM];by_cases n:(ev l a).Time=(ev l b).Time
  ·rw[show((ev l a).Time != (ev l b).Time)=false by simp[n]];simp only[BM];congr 1;rw[iq];constructor
   ·intro h;exact .inr ⟨m,.inr ⟨n,h⟩⟩
   rintro(h|⟨_,h|⟨_,h⟩⟩)
   ·omega
   ·omega
   exact h
  rw[show((ev l a).Time != (ev l b).Time)=true by simp[n]];simp only[Ba];congr 1;rw[iq];constructor
  ·intro h;exact .inr ⟨m,.inl h⟩
  rintro(h|⟨_,h|⟨h,_⟩⟩)
  ·omega
  ·exact h
  exact absurd h n
 rw[show(MP l f a != MP l f b)=true by simp[m]];simp only[Ba];congr 1;rw[iq];constructor
 ·intro h;exact .inl h
 rintro(h|⟨h,_⟩)
 ·exact h
 exact absurd h m
def aJH (x y z:KL) (h:Gm x y=true) (k:Gm y z=true):Gm x z=true:=aOP _ _ _ h k
def ae0 (x y:KL) (h:Gm x y=false):Gm y x=true:=aU5 _ _ h
def aha (x y:KL) (h:Gm x y=true) (k:Gm y x=true):x=y:=by
 have :=aUd _ _ h k;unfold uG at this;cases x;cases y;simp only[Rs]at this;obtain⟨a,b,c⟩:=this;subst a b c;rfl
def YR (l:List AX) (f:List Int) (h:List Int) (x:Int):List Int:=h.take (h.findIdx fun a=>Gm (Ee l f x) (Ee l f a))++x::h.drop (h.findIdx fun a=>Gm (Ee l f x) (Ee l f a))
def aQk (l:List AX) (f h:List Int) (x:Int):(YR l f h x).Perm (x::h):=by
 unfold YR;refine aDZ.trans ?_;rw[dG]
def al5 (l:List AX) (f j:List Int) (x:Int) (h:j.Pairwise fun a b=>Gm (Ee l f a) (Ee l f b)=true):(YR l f j x).Pairwise fun a b=>Gm (Ee l f a) (Ee l f b)=true:=by
 unfold YR
 have s:∀a∈j.take (j.findIdx fun a=>Gm (Ee l f x) (Ee l f a)),Gm (Ee l f a) (Ee l f x)=true:=by
  intro a ha;obtain⟨i,hi,rfl⟩:=JJ ha;have n:i<j.findIdx fun a=>Gm (Ee l f x) (Ee l f a):=by simp at hi;omega
  have :=List.not_of_lt_findIdx n;rw[aDJ];exact ae0 _ _ aIB
 have ha:∀d∈j.drop (j.findIdx fun a=>Gm (Ee l f x) (Ee l f a)),Gm (Ee l f x) (Ee l f d)=true:=by
  intro d hd;obtain⟨i,hi,rfl⟩:=JJ hd;rw[Q9]at hi;have m:(j.findIdx fun a=>Gm (Ee l f x) (Ee l f a))<j.length:=AA
  have u:=aMA (w:=m);rw[List.getElem_drop];rcases XO i with rfl|I
  ·simpa using u
  exact aJH _ _ _ u (Ky.1 h _ _ m AA AA)
 refine aC5.2 ⟨h.sublist (List.take_sublist _ _),PY.2 ⟨ha,h.sublist (List.drop_sublist _ _)⟩,fun a z b q=>?_⟩;rcases F9.1 q with rfl|q
 ·exact s a z
 exact aJH _ _ _ (s a z) (ha b q)
def XR (l:List AX) (f:List Int) (h:List Int) (x:Int):List Int:=bif dX l x then YR l f h x else h
def ap3 (l:List AX) (f ids:List Int):ids.foldl (XR l f) []=U3 l f ids:=by
 have key:∀(ids j:List Int),j.Pairwise (fun a b=>Gm (Ee l f a) (Ee l f b)=true)→(ids.foldl (XR l f) j).Pairwise (fun a b=>Gm (Ee l f a) (Ee l f b)=true)∧(ids.foldl (XR l f) j).Perm (ids.filter (dX l)++j):=by
  intro ids
  induction ids with
  |nil=>intro j h;exact⟨h,.refl _⟩
  |cons x ids q=>
   intro j h;rw[Fb,QK];unfold XR;cases dX l x with
   |false=>exact q j h
   |true=>
    obtain⟨n,m⟩:=q (YR l f j x) (al5 l f j x h);refine⟨n,m.trans ?_⟩;simp only[Jj,aN];exact((aQk l f j x).append_left _).trans aDZ
 obtain⟨n,m⟩:=key ids [] .nil;rw[RZ]at m;unfold U3
 have s:(ids.foldl (XR l f) []).map (Ee l f)=QE Gm ((ids.filter (dX l)).map (Ee l f)):=
  adK aJH ae0 aha (m.map _) (aKQ.2 n)
 rw[←s,aOL]
def aqs (l:List AX) (f ids:List Int) (L:l.length≤1000) (M:E8 l) (z:f.length≤100000) (hi:ids.length≤100000) (O:ids.Nodup):aDx l f ids=some (U3 l f ids):=by
 unfold aDx aVi;rw[Gs (a0:=[]) ids AA (XR l f) (fun i r=>r.length≤i∧∀x∈r,x∈ids.take i) (fun r=>some r) ⟨EG _,fun x s=>absurd s G7⟩]
 ·rw[ap3]
 ·intro k r i h ⟨S,u⟩;have m:ids.take (i+1)=ids.take i++[ids[i]]:=P5 h
  have I:Dj r ids[i]=false:=OY.2 fun z=>by
   obtain⟨j,n,e⟩:=JJ (u _ z);rw[aDJ]at e;rw[GH]at n;exact Ky.1 O j i AA h AA e
  refine⟨?_,?_⟩
  ·unfold XR;cases dX l ids[i]with
   |false=>exact⟨by show r.length≤i+1;omega,fun x s=>by rw[m];exact jZ _ (u x s)⟩
   |true=>
    have J:=aQk l f r ids[i];refine⟨?_,fun x s=>?_⟩
    ·show(YR l f r ids[i]).length≤i+1;rw[J.length_eq,GI];omega
    rw[m];rcases F9.1 (J.mem_iff.1 s)with rfl|s
    ·exact aEA _ (MW.2 rfl)
    exact jZ _ (u x s)
  unfold aJs rD;rw[CZ h,Ln l _ AA,CB h];simp only[Aa];rw[UY _ _ AA,I,OZ];unfold XR dX;cases(ET l ids[i]).isSome with
  |false=>rfl
  |true=>
   simp only[EM,BM,Aa,Ba];unfold aS7
   have q:∀(k2:Int→Option (List Int)) (j:Nat),j≤r.length→wR k2 (j:Int) r ids (i:Int) k false=k (r.take j++ids[i]::r.drop j) (Aw ((i:Int)+1)):=by
    intro k2 j n;unfold wR rD;simp only[BM];rw[X4 n];simp only[Aa];rw[Di E5];simp only[Aa,Hu];rw[qW n,CB h];simp only[Aa];rw[Di E5];simp only[Aa];rw[Di E5];simp
   rw[KD r (fuel_lt AA) (fun a=>Gm (Ee l f ids[i]) (Ee l f a)) (fun j=>k (r.take j++ids[i]::r.drop j) (Aw ((i:Int)+1))) (k (r.take r.length++ids[i]::r.drop r.length) (Aw ((i:Int)+1)))]
   ·unfold YR;split
    ·rfl
    rename_i U
    have :(r.findIdx fun a=>Gm (Ee l f ids[i]) (Ee l f a))=r.length:=by
     have :=aDq (p:=fun a=>Gm (Ee l f ids[i]) (Ee l f a)) (xs:=r);omega
    rw[this]
   ·intro k2 j n;unfold aIE;rw[dec_lt n,CB n,CB h];simp only[Ba,Aa];rw[afM l f _ _ L M z];simp only[Aa];cases Gm (Ee l f ids[i]) (Ee l f r[j])with
    |true=>simp only[EM,Ba];rw[q k2 j (Nat.le_of_lt n)]
    |false=>rfl
   intro k2;unfold aIE;rw[DT];simp only[BM];rw[q k2 r.length (EG _)]
 intro k r _;unfold aJs;rw[DZ]
def ahU {l:List AX} {f ids:List Int} {x:Int}:x∈U3 l f ids↔x∈ids∧dX l x=true:=by
 unfold U3;rw[((dR Gm ((ids.filter (dX l)).map (Ee l f))).map (·.nO)).mem_iff,aOL,Hf]
def asr (l:List AX) (f ids:List Int):(U3 l f ids).length≤ids.length:=by
 unfold U3;rw[D8,(dR _ _).length_eq,D8];exact Js _ _
def KH (c:Int):Bool:=(decide (c≥97)&&decide (c≤122))||(decide (c≥48)&&decide (c≤57))
def aQf (c:Int):jo c=some (KH c):=by
 unfold jo KH;cases decide (c≥97)<;>cases decide (c≤122)<;>cases decide (c≥48)<;>cases decide (c≤57)<;>rfl
def aK4 (c:Int):dO c=some (KH c):=by
 unfold dO KH;cases decide (c≥97)<;>cases decide (c≤122)<;>cases decide (c≥48)<;>cases decide (c≤57)<;>rfl
def QC (l:List Int) (p:Int→Bool):Bool:=decide ((l.length:Int)≥1)&&decide ((l.length:Int)≤32)&&l.all fun c=>KH c||p c
def isLocal (c:Int):Bool:=c==95||c==46||c==45||c==61
def V8 (c:Int):Bool:=c==46||c==45
def VX (l:List Int):Bool:=QC l isLocal
def Y1 (l:List Int):Bool:=QC l V8&&KH (l.getD 0 0)&&KH (l.getD (l.length-1) 0)
def wC {n:Nat} (h:n≤9223372036854775807):n<Ap:=dn
def aUF {s:ByteArray} (j:s.size≤9223372036854775807) (f:Int→Option Bool) (p:Int→Bool) (m:∀c,f c=some (p c)):cV s f=some (QC (Bq s) p):=by
 have n:aNG s f 0=some ((Bq s).all fun c=>KH c||p c):=by
  unfold aNG;rw[Gl (Bq s) (by rw[H7];exact wC j) (fun c=> !(KH c||p c)) false (some true) ?_ ?_,Jf,vk]
  ·intro k i h;have h':i<s.size:=WS
   simp only[aME,dec_lt h',Ba,VA h,aQf,m,Aa];cases KH (Bq s)[i]<;>cases p (Bq s)[i]<;>rfl
  intro k;simp only[aME,H7,DT,BM]
 unfold cV QC;rw[n,H7];have q:decide ((s.size:Int)≥1)= !decide ((s.size:Int)<1):=aHp
 have u:decide ((s.size:Int)≤32)= !decide ((s.size:Int)>32):=aNz
 rw[q,u];cases decide ((s.size:Int)<1)<;>cases decide ((s.size:Int)>32)<;>rfl
def aeh {s:ByteArray} (f:s.size≤9223372036854775807):cV s (fun a0=>o9 a0)=some (QC (Bq s) isLocal):=aUF f _ isLocal (fun c=>by unfold o9 isLocal;cases c==95<;>cases c==46<;>cases c==45<;>cases c==61<;>rfl)
def afG {s:ByteArray} (f:s.size≤9223372036854775807):cV s (fun a0=>wZ a0)=some (QC (Bq s) V8):=aUF f _ V8 (fun c=>by unfold wZ V8;cases c==46<;>cases c==45<;>rfl)
def aqw {s:ByteArray} (f:s.size≤9223372036854775807):aD0 s=some (VX (Bq s)):=by
 unfold aD0 VX;rw[aeh f];rfl
def aFu {s:ByteArray} (h:0<s.size):Gq s 0=some ((Bq s).getD 0 0):=by
 have h':0<(Bq s).length:=aCU
 rw[ajP h'];simp[List.getD,h']
def aSy {s:ByteArray} (h:0<s.size) (j:s.size≤9223372036854775807):Gq s (Aw ((s.size:Int)-1))=some ((Bq s).getD ((Bq s).length-1) 0):=by
 have h':s.size-1<(Bq s).length:=by rw[H7];omega
 rw[OI AA AA,show(s.size:Int)-1=((s.size-1:Nat):Int) by omega,VA h'];have f:(Bq s).length-1=s.size-1:=by rw[H7]
 rw[f];simp[List.getD,h']
def aUs {l:List Int} {p:Int→Bool} (h:QC l p=true):0<l.length∧l.length≤32:=by
 unfold QC at h;simp only[DL,H6]at h;omega
def apV {s:ByteArray} (f:s.size≤9223372036854775807):aFd s=some (Y1 (Bq s)):=by
 unfold aFd Y1;rw[afG f];simp only[Aa];cases j:QC (Bq s) V8 with
 |false=>rfl
 |true=>
  have h:0<s.size:=by have :=(aUs j).1;rwa [H7]at this
  simp only[Ba,aFu h,aSy h f,aQf,Aa];cases KH ((Bq s).getD 0 0)<;>simp
def aiU {s:ByteArray} (f:s.size≤9223372036854775807):aFe s=some (bif Y1 (Bq s)then 0 else 3):=by
 have m:aHx s 0=some (bif (Bq s).all fun c=>KH c||V8 c then 0 else 3):=by
  unfold aHx;rw[Gl (Bq s) iZ (fun c=> !(KH c||V8 c)) 3 (some 0) ?_ ?_,Jf,←vk]
  ·cases((Bq s).any fun c=> !(KH c||V8 c))<;>rfl
  ·intro k i h;have h':i<s.size:=WS
   simp only[aKv,dec_lt h',Ba,VA h,aK4,Aa,V8,bne];cases KH (Bq s)[i]<;>cases(Bq s)[i]==46<;>cases(Bq s)[i]==45<;>rfl
  intro k;simp only[aKv,H7,DT,BM]
 have n:decide ((s.size:Int)≥1)= !decide ((s.size:Int)<1):=aHp
 have q:decide ((s.size:Int)≤32)= !decide ((s.size:Int)>32):=aNz
 unfold aFe Y1 QC;rw[m];rw[show((Bq s).length:Int)=(s.size:Int) by rw[H7],n,q];by_cases u:(s.size:Int)<1
 ·simp[u]
 have j:0<s.size:=AA
 simp only[aFu j,aSy j f,aK4,Aa];cases decide ((s.size:Int)<1)<;>cases decide ((s.size:Int)>32)<;>cases KH ((Bq s).getD 0 0)<;>cases KH ((Bq s).getD ((Bq s).length-1) 0)<;>cases((Bq s).all fun c=>KH c||V8 c)<;>rfl
def aoo {s:ByteArray} (f:s.size≤9223372036854775807):zX s=some (VX (Bq s)):=by
 unfold zX ac9;rw[Gl (Bq s) iZ (fun c=> !(KH c||isLocal c)) false (some (decide ((s.size:Int)≥1)&&decide ((s.size:Int)≤32))) ?_ ?_]
 ·unfold VX QC;rw[←vk,H7];cases((Bq s).any fun c=> !(KH c||isLocal c))<;>cases decide ((s.size:Int)≥1)<;>cases decide ((s.size:Int)≤32)<;>rfl
 ·intro k i h;have h':i<s.size:=WS
  simp only[aOr,dec_lt h',Ba,VA h,aK4,Aa,isLocal,bne];cases KH (Bq s)[i]<;>cases(Bq s)[i]==95<;>cases(Bq s)[i]==46<;>cases(Bq s)[i]==45<;>cases(Bq s)[i]==61<;>rfl
 intro k;simp only[aOr,H7,DT,BM];cases decide ((s.size:Int)≥1)<;>cases decide ((s.size:Int)≤32)<;>rfl
def aaY (s:ByteArray):(Bq s).length=s.data.toList.length:=by simp[Bq]
def FW (s:ByteArray):Nat:=(Bq s).findIdx (· ==58)
def aHQ (s:ByteArray):FW s≤s.size:=by unfold FW;rw[←H7];exact aDq
def aQA {s:ByteArray} (f:s.size≤9223372036854775807):wz s=some (FW s:Int):=by
 unfold wz aRr;rw[KD (Bq s) iZ (· ==58) (fun i=>some (i:Int)) (some (s.size:Int)) ?_ ?_]
 ·have :=aHQ s;by_cases h:(Bq s).findIdx (· ==58)<(Bq s).length
  ·rw[D9 h];rfl
  rw[DN h];congr 2;unfold FW at this ⊢;rw[H7]at h;omega
 ·intro k i h;have h':i<s.size:=WS
  simp only[aKX,dec_lt h',Ba,VA h,Aa,bne];cases(Bq s)[i]==58<;>rfl
 intro k;simp only[aKX,H7,DT,BM,Aa]
def Uk (s:ByteArray):ByteArray:=s.extract 1 (FW s)
def Ru (s:ByteArray):ByteArray:=s.extract (FW s+1) s.size
def TI (s:ByteArray):Bool:=decide (FW s<s.size)&&VX (Bq (Uk s))&&Y1 (Bq (Ru s))
def GY (s:ByteArray) (m:Int):Bool:=decide (0<s.size)&&(Bq s).getD 0 0==m&&TI s
def extract_size (s:ByteArray) (a b:Nat):(s.extract a b).size≤s.size:=by rw[aMk];omega
def aRs {s:ByteArray} (h:0<s.size) (f:(Bq s).getD 0 0≠58):1≤FW s:=by
 unfold FW;have j:0<(Bq s).length:=aCU
 match m:Bq s with
 | []=>rw[m]at j;simp at j
 |c::l=>
  rw[m]at f;simp only[List.getD_cons_zero]at f;rw[St,show(c==58)=false from by simpa using f];simp
def aBA {s:ByteArray} (j:s.size≤9223372036854775807) {m:Int} (q:m≠58):aP s m=some (GY s m):=by
 unfold aP GY;by_cases f:0<s.size
 ·rw[show decide ((s.size:Int)<1)=false from by simp;omega,show decide (0<s.size)=true by simpa using f];simp only[BM,aFu f,Aa,bne];cases u:(Bq s).getD 0 0==m with
  |false=>rfl
  |true=>
   have n:(Bq s).getD 0 0=m:=RF
   have z:=aRs f (by rw[n];exact q);have I:=aHQ s;simp only[EM,BM,aQA j,Aa,FX];unfold TI;by_cases h:FW s<s.size
   ·have J:NV s 1 (FW s:Int)=some (Uk s):=fP (lo:=1) z I
    have L:NV s (Aw ((FW s:Int)+1)) (s.size:Int)=some (Ru s):=by
     rw[OI AA AA,show(FW s:Int)+1=((FW s+1:Nat):Int) by omega];exact fP AA (EG _)
    rw[show decide ((FW s:Int)<(s.size:Int))=true from by simpa using h,show decide (FW s<s.size)=true by simpa using h];have M:(Uk s).size≤9223372036854775807:=Ei (extract_size _ _ _) j;have O:(Ru s).size≤9223372036854775807:=Ei (extract_size _ _ _) j;simp only[Ba,J,L,aoo M,aiU O,Aa];cases VX (Bq (Uk s))<;>cases Y1 (Bq (Ru s))<;>rfl
   rw[show decide ((FW s:Int)<(s.size:Int))=false from by simpa using h,show decide (FW s<s.size)=false by simpa using h];rfl
 rw[show decide ((s.size:Int)<1)=true from by simp;omega,show decide (0<s.size)=false by simpa using f];rfl
def splitB (s:ByteArray) (b:Bool):ByteArray×ByteArray×Bool:=bif b then(Uk s,Ru s,true)else(Bc,Bc,false)
def aeM (b c:UInt8):(b==c)=(((b.toNat:Nat):Int)==((c.toNat:Nat):Int)):=by
 by_cases h:b=c
 ·subst h;simp
 have :¬b.toNat=c.toNat:=fun e=>h (UInt8.toNat_inj.1 e);have f:(b==c)=false:=Jc
 rw[f];symm;simp;omega
def abJ (s:ByteArray) (c:UInt8):s.data.toList.findIdx (· ==c)=(Bq s).findIdx (· ==((c.toNat:Nat):Int)):=by
 unfold Bq;rw[List.findIdx_map];congr 1;funext b;exact aeM b c
def amG (s:ByteArray):∀x∈Bq s,0≤x∧x<256:=by
 intro x f;unfold Bq at f;rw[GV]at f;obtain⟨c,_,rfl⟩:=f;have :=c.toNat_lt;omega
def getD_mem {s:ByteArray} (h:0<s.size):(Bq s).getD 0 0∈Bq s:=by
 have f:0<(Bq s).length:=aCU
 have e:(Bq s).getD 0 0=(Bq s)[0]:=by simp[List.getD,f]
 rw[e];exact Eb f
def alf (marks:ByteArray) {c:Int} (n:0≤c) (q:c<256):decide (Lib.indexByte marks.data.toList c.toNat.toUInt8<0)= !(Bq marks).contains c:=by
 have e:(((c.toNat.toUInt8).toNat:Nat):Int)=c:=by
  rw[Nat.toUInt8,UInt8.toNat_ofNat'];omega
 rw[aIG,abJ,e,←aaY marks];by_cases f:c∈Bq marks
 ·have j:(Bq marks).findIdx (· ==c)<(Bq marks).length:=List.findIdx_lt_length_of_exists ⟨c,f,BP⟩;rw[D9 j,show(Bq marks).contains c=true by simpa using f];simp
 have m:¬(Bq marks).findIdx (· ==c)<(Bq marks).length:=fun h=>by
  have :=aMA (w:=h);simp only[Rk]at this;exact f (this▸Eb h)
 rw[DN m,show(Bq marks).contains c=false by simpa using f];rfl
def aam (s:ByteArray) (a b:Nat):(s.extract 1 s.size).extract a b=s.extract (1+a) (min (1+b) s.size):=by
 refine bytes_inj ?_;simp only[abI];have :(Bq s).take s.size=Bq s:=Qp (by rw[H7];omega);rw[this,List.take_drop,aOV];congr 1;have :min (1+b) s.size=min (1+b) (Bq s).length:=by rw[H7]
 rw[this,List.take_eq_take_min]
def aoN {s:ByteArray} (h:0<s.size) (f:(Bq s).getD 0 0≠58):(Bq (s.extract 1 s.size)).findIdx (· ==58)+1=FW s:=by
 unfold FW;rw[abI];have :(Bq s).take s.size=Bq s:=Qp (by rw[H7];omega);rw[this];have j:0<(Bq s).length:=aCU
 match m:Bq s with
 | []=>rw[m]at j;simp at j
 |c::l=>
  rw[m]at f;simp only[List.getD_cons_zero]at f;rw[St,show(c==58)=false from by simpa using f];rfl
def aiT {s:ByteArray} (z:s.size≤9223372036854775807) (h:0<s.size) (m:(Bq s).getD 0 0≠58):∃a b,strings_Cut (s.extract 1 s.size) jw=some (a,b,decide (FW s<s.size))∧(FW s<s.size→a=Uk s∧b=Ru s):=by
 have I:=aRs h m;have J:=aHQ s;have L:=aoN h m;have j:(s.extract 1 s.size).size=s.size-1:=by rw[aMk];omega
 have n:aER (s.extract 1 s.size) jw=some (if FW s<s.size then((FW s-1:Nat):Int)else -1):=by
  show some (Lib.indexByte (s.extract 1 s.size).data.toList 58)=_;rw[aIG,abJ,←aaY (s.extract 1 s.size)];show some (if(Bq (s.extract 1 s.size)).findIdx (· ==58)<_ then(((Bq (s.extract 1 s.size)).findIdx (· ==58):Nat):Int)else -1)=_;rw[H7,j];have e:(Bq (s.extract 1 s.size)).findIdx (· ==58)=FW s-1:=AA
  rw[e];congr 1;by_cases f:FW s<s.size
  ·rw[D9 f,D9 AA]
  rw[DN f,DN AA]
 unfold strings_Cut aLK;rw[n,Aa];by_cases f:FW s<s.size
 ·rw[D9 f,show decide (((FW s-1:Nat):Int)≥0)=true from by simp,show decide (FW s<s.size)=true by simpa using f];have q:NV (s.extract 1 s.size) 0 ((FW s-1:Nat):Int)=some ((s.extract 1 s.size).extract 0 (FW s-1)):=fP (lo:=0) AA AA
  have u:NV (s.extract 1 s.size) (Aw (((FW s-1:Nat):Int)+(jw.size:Int))) ((s.extract 1 s.size).size:Int)=some ((s.extract 1 s.size).extract (FW s) (s.size-1)):=by
   rw[show(jw.size:Int)=1 from rfl,OI AA AA,show((FW s-1:Nat):Int)+1=((FW s:Nat):Int) by omega,j];exact fP AA AA
  simp only[Ba,q,u,Aa];refine⟨_,_,rfl,fun _=>⟨?_,?_⟩⟩
  ·rw[aam];unfold Uk;congr 1;omega
  rw[aam];unfold Ru;rw[SX 1 (FW s)];congr 1;omega
 rw[DN f,show decide ((-1:Int)≥0)=false from rfl,show decide (FW s<s.size)=false by simpa using f];exact⟨_,_,rfl,fun h=>absurd h f⟩
def aO5 {s:ByteArray} (j:s.size≤9223372036854775807) {marks:ByteArray} (n:∀m∈Bq marks,m≠58):fA s marks=some (splitB s ((Bq marks).any fun m=>GY s m)):=by
 unfold fA;by_cases h:0<s.size
 ·have q:(s.toList==Bc.toList)=false:=by
   rw[Ij];simp only[lJ];intro e;rw[e]at h;exact absurd h BQ
  have u:=amG s _ (getD_mem h)
  have f:((Bq marks).any fun m=>GY s m)=((Bq marks).contains ((Bq s).getD 0 0)&&TI s):=by
   unfold GY;rw[show decide (0<s.size)=true by simpa using h]
   induction Bq marks with
   |nil=>rfl
   |cons m l z=>rw[mM,z,List.contains_cons];cases(Bq s).getD 0 0==m<;>cases TI s<;>simp
  rw[q,f];simp only[BM,aFu h,Aa,strings_IndexByte,alf marks u.1 u.2];cases I:(Bq marks).contains ((Bq s).getD 0 0)with
  |false=>rfl
  |true=>
   have J:(Bq s).getD 0 0≠58:=n _ aCw;obtain⟨a,b,L,M⟩:=aiT j h J;have O:NV s 1 (s.size:Int)=some (s.extract 1 s.size):=fP (lo:=1) AA (EG _);simp only[EM,BM,O,L,Aa,FX];unfold TI;cases S:decide (FW s<s.size)with
   |false=>rfl
   |true=>
    obtain⟨rfl,rfl⟩:=M (TK S);have U:(Uk s).size≤9223372036854775807:=Ei (extract_size _ _ _) j;have Y:(Ru s).size≤9223372036854775807:=Ei (extract_size _ _ _) j;simp only[EM,BM,aqw U,apV Y,Aa];cases VX (Bq (Uk s))<;>cases Y1 (Bq (Ru s))<;>rfl
 have Z:s.size=0:=AA
 have he:s=Bc:=bytes_inj (by
  have h1:Bq s=[]:=H9 (by rw[H7];exact Z)
  rw[h1];rfl)
 have f:((Bq marks).any fun m=>GY s m)=false:=by
  rw[List.any_eq_false];intro m _;unfold GY;rw[show decide (0<s.size)=false by simpa using h];simp
 rw[f,he,show(Bc.toList==Bc.toList)=true from by simp];rfl
def Jg (s:ByteArray):Bool:=GY s 64||(GY s 33||false)
def arC {s:ByteArray} (f:s.size≤9223372036854775807):fA s uI=some (splitB s (Jg s)):=
 aO5 f (marks:=uI) (by rw[show Bq uI=[64,33]from rfl];intro m h;simp only[F9,G7,nC]at h;omega)
def aau {s:ByteArray} (h:TI s=true):FW s<s.size:=by unfold TI at h;simp only[DL,H6]at h;exact h.1.1
def jH {s:ByteArray} (j:s.size≤9223372036854775807):kT s=some (splitB s (Jg s)).2.1∧iU s=some (splitB s (Jg s)).2.1:=by
 have n:FW s<s.size→NV s (Aw ((FW s:Int)+1)) (s.size:Int)=some (Ru s):=fun q=>by
  rw[OI AA AA,show(FW s:Int)+1=((FW s+1:Nat):Int) by omega];exact fP AA (EG _)
 unfold kT iU;rw[arC j,aBA j BQ,aBA j BQ,aQA j];refine⟨rfl,?_⟩;unfold Jg;cases f:GY s 64 with
 |true=>
  have m:=aau (s:=s) (by unfold GY at f;simp only[DL]at f;exact f.2);simp only[Aa,EM,BM,n m,Bool.true_or];rfl
 |false=>
  cases h:GY s 33 with
  |true=>
   have m:=aau (s:=s) (by unfold GY at h;simp only[DL]at h;exact h.2);simp only[Aa,EM,IX,BM,Ba,n m,MG,Bool.true_or];rfl
  |false=>rfl
def aO2 {R A α:Type} {body:(Int→A→Option R)→Int→A→Option R} (l:List α) (q:l.length<Ap) (p:α→Bool) (g:Nat→Option R) (rest:Option R) (a0:A)
 (s:∀k (i:Nat) (h:i<l.length),body k (i:Int) a0=bif p l[i]then g i else k (Aw ((i:Int)+1)) a0) (u:∀k,body k (l.length:Int) a0=rest):
 aS body Ap 0 a0=if l.findIdx p<l.length then g (l.findIdx p)else rest:=by
 have J:Ap=9223372036854775808:=rfl
 have key:∀n (i:Nat),i+n=l.length→∀m,n<m→aS body m (i:Int) a0=if(l.drop i).findIdx p+i<l.length then g ((l.drop i).findIdx p+i)else rest:=by
  intro n
  induction n with
  |zero=>
   intro i hi m z;obtain⟨m,rfl⟩:∃j,m=j+1:=⟨m-1,AA⟩
   have :i=l.length:=AA
   subst this;show body (aS body m) _ _=_;rw[u,Oe,DN BP]
  |succ n I=>
   intro i hi m z;obtain⟨m,rfl⟩:∃j,m=j+1:=⟨m-1,AA⟩
   have f:i<l.length:=AA
   show body (aS body m) _ _=_;rw[s _ i f,wrap_succ i AA,I (i+1) AA m AA,LY f,St];cases p l[i]with
   |true=>simp only[Ba,KG];rw[D9 f]
   |false=>
    simp only[BM];rw[show(l.drop (i+1)).findIdx p+(i+1)=(l.drop (i+1)).findIdx p+1+i by omega]
 have :=key l.length 0 AA Ap q;simpa using this
def KA (l:List AX):AX×Bool:=match l.find? fun x=>x.Kind==1 with |some x=>(x,true)|none=>(F7,false)
def aKN (l:List AX) (p:AX→Bool):(if l.findIdx p<l.length then(some (match l[l.findIdx p]? with |some x=>(x,true)|none=>(F7,false)))else some (F7,false))=some (match l.find? p with |some x=>(x,true)|none=>(F7,false)):=by
 rw[Ko];by_cases h:l.findIdx p<l.length
 ·rw[D9 h]
 rw[DN h,II AA]
def aTz (l:List AX) (f:l.length≤1000):vK l=some (KA l):=by
 unfold vK ado;rw[aO2 l (fuel_lt AA) (fun x=>x.Kind==1) (fun i=>some (match l[i]? with |some x=>(x,true)|none=>(F7,false))) (some (F7,false))]
 ·exact aKN l _
 ·intro k i h;unfold aLk;rw[CZ h,Dx h]
 intro k;unfold aLk;rw[DZ]
def aQR (l:List AX) (f:l.length≤1000):yA l=some (KA l):=by
 unfold yA aaW;rw[aO2 l (fuel_lt AA) (fun x=>x.Kind==1) (fun i=>some (match l[i]? with |some x=>(x,true)|none=>(F7,false))) (some (F7,false))]
 ·exact aKN l _
 ·intro k i h;unfold aOM;rw[CZ h,CB h,Dx h];rfl
 intro k;unfold aOM;rw[DZ]
def Pj (u:ByteArray) (x:AX):Bool:=x.Kind==2&&decide (x.Key=u)
def L8 (l:List AX) (u:ByteArray):Int:=match l.find? (Pj u)with |some x=>x.Content.N|none=>0
def aFO (u:ByteArray) (x:AX):(bif (x.Kind==2)then some (x.Key.toList==u.toList)else some false)=some (Pj u x):=by
 unfold Pj;rw[Ij];cases x.Kind==2<;>rfl
def aMS (l:List AX) (u:ByteArray) (f:l.length≤1000):kY l u=some (L8 l u):=by
 unfold kY acM L8;rw[KD l (fuel_lt AA) (Pj u) (fun i=>some (match l[i]? with |some x=>x.Content.N|none=>0)) (some 0)]
 ·rw[Ko];by_cases h:l.findIdx (Pj u)<l.length
  ·rw[D9 h]
  rw[DN h,II AA]
 ·intro k i h;unfold aJP;rw[CZ h,CB h,Dx h];simp only[Aa];rw[aFO];rfl
 intro k;unfold aJP;rw[DZ]
def aLS (l:List AX) (u:ByteArray) (f:l.length≤1000):kE l u=some (L8 l u):=by
 unfold kE aRy L8;rw[KD l (fuel_lt AA) (Pj u) (fun i=>some (match l[i]? with |some x=>x.Content.N|none=>0)) (some 0)]
 ·rw[Ko];by_cases h:l.findIdx (Pj u)<l.length
  ·rw[D9 h]
  rw[DN h,II AA]
 ·intro k i h;unfold aLM;rw[CZ h,CB h,Dx h];simp only[Aa];rw[aFO];rfl
 intro k;unfold aLM;rw[DZ]
def mF (e:AX) (l:List AX):Bool:=
 (KA l).2&&(e.bK.length==1&&(e.bK.getD 0 0==(KA l).1.Id&&(decide (e.bH=(KA l).1.bH)&&(decide (e.Key=(KA l).1.bH)&&(e.Content.N==3&& !l.any (Pj e.Key))))))
def alg (e:AX) (l:List AX) (q:l.length≤1000):aDY e l=some (mF e l):=by
 have s:aJ4 l e 0=some (!l.any (Pj e.Key)):=by
  unfold aJ4;rw[Gl l (fuel_lt AA) (Pj e.Key) false (some true)]
  ·cases l.any (Pj e.Key)<;>rfl
  ·intro k i h;unfold aHr;rw[CZ h,aFO];rfl
  intro k;unfold aHr;rw[DZ]
 unfold aDY mF Xx;rw[aTz l q];simp only[Aa];rw[s,Ij,Ij];cases(KA l).2 with
 |false=>rfl
 |true=>
  by_cases f:e.bK.length=1
  ·have n:0<e.bK.length:=AA
   have j:((e.bK.length:Int) != 1)=false:=JF
   have m:(e.bK.length==1)=true:=LJ
   have u:Aj e.bK 0=some (e.bK.getD 0 0):=by
    have :Aj e.bK ((0:Nat):Int)=some e.bK[0]:=CB n;rw[show((0:Nat):Int)=0 from rfl]at this;rw[this];simp[List.getD,n]
   rw[j,m,u];simp only[Aa,bne];cases e.bK.getD 0 0==(KA l).1.Id<;>cases decide (e.bH=(KA l).1.bH)<;>cases decide (e.Key=(KA l).1.bH)<;>cases e.Content.N==3<;>rfl
  have j:((e.bK.length:Int) != 1)=true:=E5
  have m:(e.bK.length==1)=false:=LJ
  rw[j,m];rfl
def as3 (e:AX) (l:List AX) (q:l.length≤1000):aAV e l=some (mF e l):=by
 have s:aFF l e.Key=some (l.any (Pj e.Key)):=by
  unfold aFF adT;rw[Gl l (fuel_lt AA) (Pj e.Key) true (some false)]
  ·cases l.any (Pj e.Key)<;>rfl
  ·intro k i h;unfold aIw;rw[CZ h,CB h];simp only[Aa];rw[aFO];rfl
  intro k;unfold aIw;rw[DZ]
 unfold aAV mF WE;rw[aQR l q];simp only[Aa];rw[s,Ij,Ij];cases(KA l).2 with
 |false=>rfl
 |true=>
  by_cases f:e.bK.length=1
  ·have n:0<e.bK.length:=AA
   have j:((e.bK.length:Int)==1)=true:=JF
   have m:(e.bK.length==1)=true:=LJ
   have u:Aj e.bK 0=some (e.bK.getD 0 0):=by
    have :Aj e.bK ((0:Nat):Int)=some e.bK[0]:=CB n;rw[show((0:Nat):Int)=0 from rfl]at this;rw[this];simp[List.getD,n]
   rw[j,m,u];simp only[Aa];cases e.bK.getD 0 0==(KA l).1.Id<;>cases decide (e.bH=(KA l).1.bH)<;>cases decide (e.Key=(KA l).1.bH)<;>cases e.Content.N==3<;>rfl
  have j:((e.bK.length:Int)==1)=false:=E5
  have m:(e.bK.length==1)=false:=LJ
  rw[j,m];rfl
def moveB (f t:Int) (s:Bool):Bool:=
 bif decide (f<0)||decide (f>4)then false else bif t==3 then s&&f != 4 else bif t==0 then f==1||f==2||f==3||(f==4&& !s)else bif t==2 then s&&(f==0||f==2)else bif t==1 then !s&&(f==0||f==2||f==1)else bif t==4 then !s else false
def aPg (f t:Int) (s:Bool):WY f t s=some (moveB f t s):=by
 unfold WY moveB;simp only[Jf,Aa,aC,TR]
def atK (f t:Int) (s:Bool):Zz f t s=some (moveB f t s):=by
 rw[←aPg];by_cases h:f<0
 ·unfold Zz WY;rw[Ht h];rfl
 by_cases j:f>4
 ·unfold Zz WY;rw[Ht j];cases decide (f<0)<;>rfl
 by_cases m:t<0
 ·unfold Zz WY;rw[Ht m,IJ h,IJ j,show(t==3)=false by simp;omega,show(t==0)=false by simp;omega,show(t==2)=false by simp;omega,show(t==1)=false by simp;omega,show(t==4)=false by simp;omega];rfl
 by_cases n:t>4
 ·unfold Zz WY;rw[Ht n,IJ m,IJ h,IJ j,show(t==3)=false by simp;omega,show(t==0)=false by simp;omega,show(t==2)=false by simp;omega,show(t==1)=false by simp;omega,show(t==4)=false by simp;omega];rfl
 have q:f=0∨f=1∨f=2∨f=3∨f=4:=AA
 have u:t=0∨t=1∨t=2∨t=3∨t=4:=AA
 rcases q with rfl|rfl|rfl|rfl|rfl<;>rcases u with rfl|rfl|rfl|rfl|rfl<;>cases s<;>decide
def iF (l:List AX):Int×List ByteArray:=match l.find? fun x=>x.Kind==4 with |some x=>(x.Content.N,x.Content.Allow)|none=>(0,[])
def aqU (l:List AX) (j:l.length≤1000) (f:E8 l):aGe l=some (iF l):=by
 unfold aGe aRo iF;rw[KD l (fuel_lt AA) (fun x=>x.Kind==4) (fun i=>some (match l[i]? with |some x=>(x.Content.N,x.Content.Allow)|none=>(0,[]))) (some (0,[]))]
 ·rw[Ko];by_cases h:l.findIdx (fun x=>x.Kind==4)<l.length
  ·rw[D9 h]
  rw[DN h,II AA]
 ·intro k i h;have ha:=(f _ (Eb h)).allow;unfold aJY;rw[CZ h,Dx h,Di U6];rfl
 intro k;unfold aJY;rw[DZ]
def aoy (l:List AX) (j:l.length≤1000) (f:E8 l):Rep l=some (iF l):=by
 unfold Rep adw iF;rw[KD l (fuel_lt AA) (fun x=>x.Kind==4) (fun i=>some (match l[i]? with |some x=>(x.Content.N,x.Content.Allow)|none=>(0,[]))) (some (0,[]))]
 ·rw[Ko];by_cases h:l.findIdx (fun x=>x.Kind==4)<l.length
  ·rw[D9 h]
  rw[DN h,II AA]
 ·intro k i h;have ha:=(f _ (Eb h)).allow;unfold aNQ;rw[CZ h,CB h,Dx h];simp only[Aa];rw[Di U6];rfl
 intro k;unfold aNQ;rw[DZ]
def xg (f now:Int):Int:=bif now==3||f==1 then 0 else bif now==1&&(f==0||f==2||f==3)then 0 else 21
def wU (f now:Int):Int:=bif f==2&&(now==0||now==2)then 0 else 21
def akK (r n:Int):aGN r n=some (xg r n):=by
 unfold aGN qx aEk xg;cases n==3<;>cases r==1<;>cases r==2<;>cases r==3<;>cases r==0<;>cases n==1<;>rfl
def aoL (r n:Int):aG9 r n=some (xg r n):=by
 unfold aG9 xg;cases n==3<;>cases r==1<;>cases r==2<;>cases r==3<;>cases r==0<;>cases n==1<;>rfl
def apj (r n:Int):yj r n=some (wU r n):=by
 unfold yj aFK wU bne;cases r==2<;>cases n==0<;>cases n==2<;>rfl
def ao8 (r n:Int):aF2 r n=some (wU r n):=by
 unfold aF2 wU;cases r==2<;>cases n==0<;>cases n==2<;>rfl
def wK (m now:Int) (l:List AX):Int:=bif m==3 then xg (iF l).1 now else bif m==2 then wU (iF l).1 now else 0
def apA (m now:Int) (l:List AX) (f:l.length≤1000) (h:E8 l):Fin m now l=some (wK m now l):=by
 unfold Fin wK;rw[aqU l f h];simp only[Aa];rw[akK,apj];cases m==3<;>cases m==2<;>rfl
def aqg (e:AX) (now:Int) (l:List AX) (f:l.length≤1000) (h:E8 l):aCd e l now=some (wK e.Content.N now l):=by
 unfold aCd wK;rw[aoy l f h];simp only[Aa];rw[aoL,ao8];cases e.Content.N==3<;>cases e.Content.N==2<;>rfl
def IK (k:Int):Bool:=decide (k≥1)&&decide (k≤10)
def aaF (k:Int):aT k=some (IK k):=by
 unfold aT IK;cases decide (k≥1)<;>rfl
def aAz (k:Int):SK k=some (IK k):=by
 unfold SK IK;cases decide (k≥1)<;>rfl
def X6 (v:CG) (k:Int):Int:=match v.Kinds.find? fun x=>x.Kind==k with |some x=>x.N|none=>bif IK k then v.State else v.Message
def aJR (v:CG) (k:Int) (h:v.Kinds.length≤1000):jE v k=some (X6 v k):=by
 unfold jE aQz X6;rw[KD v.Kinds (fuel_lt AA) (fun x=>x.Kind==k) (fun i=>some (match v.Kinds[i]? with |some x=>x.N|none=>0)) (some (bif IK k then v.State else v.Message))]
 ·rw[Ko];by_cases h:v.Kinds.findIdx (fun x=>x.Kind==k)<v.Kinds.length
  ·rw[D9 h,Dx h]
  rw[DN h,II AA]
 ·intro k2 i h;unfold aMo;rw[CZ h,Dx h]
 intro k2;unfold aMo;rw[DZ,aaF];cases IK k<;>rfl
def qH (v:CG) (k:Int) (h:v.Kinds.length≤1000):jW v k=some (X6 v k):=by
 unfold jW aQZ X6;rw[KD v.Kinds (fuel_lt AA) (fun x=>x.Kind==k) (fun i=>some (match v.Kinds[i]? with |some x=>x.N|none=>0)) (some (bif IK k then v.State else v.Message))]
 ·rw[Ko];by_cases h:v.Kinds.findIdx (fun x=>x.Kind==k)<v.Kinds.length
  ·rw[D9 h,Dx h]
  rw[DN h,II AA]
 ·intro k2 i h;unfold aId;rw[CZ h,CB h,Dx h];rfl
 intro k2;unfold aId;rw[DZ,aAz];cases IK k<;>rfl
def Ui (f h j:Int):Bool:=h==j||(decide (h≤f)&&decide (j≤f))
def numsOf (v:CG):List Int:=[v.User,v.Message,v.State,v.gK,v.jV,v.mW,v.gZ]
def yI (f:Int) (p:Int×Int):Bool:= !Ui f p.1 p.2
def U9 (f:Int) (h j:CG) (x:Iz):Bool:= !Ui f (X6 h x.Kind) (X6 j x.Kind)
def IZ (h:Int) (f j:CG) (m:ByteArray) (x:Gw):Bool:= !(Ui h (EJ f x.User) (EJ j x.User)&&(EJ f x.User==EJ j x.User||decide (x.User=m)||decide (EJ f x.User<h)))
def oD (f j:CG) (h:ByteArray):Int:=
 bif ((numsOf f).zip (numsOf j)).any (yI (EJ f h))then 20 else bif (f.Kinds++j.Kinds).any (U9 (EJ f h) f j)then 20 else bif (f.Users++j.Users).any (IZ (EJ f h) f j h)then 20 else 0
def aMR (f j m:Int):VU j m f=some (!Ui f j m):=by
 unfold VU Ui;have n:(j != m)= !(j==m):=rfl;have q:decide (j>f)= !decide (j≤f):=by by_cases h:j≤f<;>simp[h]<;>omega
 have s:decide (m>f)= !decide (m≤f):=by by_cases h:m≤f<;>simp[h]<;>omega
 rw[n,q,s];cases j==m<;>cases decide (j≤f)<;>cases decide (m≤f)<;>rfl
def aFi (h f j:Int):kU f j h=some (Ui h f j):=by
 unfold kU Ui;cases f==j<;>cases decide (f≤h)<;>rfl
structure XA (v:CG):Prop where
 users:v.Users.length≤100
 kinds:v.Kinds.length≤100
def wY (a b:CG):((numsOf a).zip (numsOf b)).length=7:=rfl
def afW (f m:CG) (n:ByteArray) (O:XA f) (S:XA m):pU f m n=some (oD f m n):=by
 have o1:=O.users;have o2:=O.kinds;have n1:=S.users;have n2:=S.kinds;unfold pU;rw[ZG f n AA];unfold aC6;simp only[Aa];unfold oD;generalize U:EJ f n=q
 have Y:aAb f m q n false 0=some (bif (f.Users++m.Users).any (IZ q f m n)then 20 else 0):=by
  unfold aAb;rw[aOa ([f.Users,m.Users]:List (List Gw)) (fuel_lt BP) (fun us=>us.any (IZ q f m n)) (fun _=>some 20) (some 0) false]
  ·have e:(f.Users++m.Users).any (IZ q f m n)=([f.Users,m.Users]:List (List Gw)).any (fun us=>us.any (IZ q f m n)):=BP
   rw[e]
   have Z:∀L:List (List Gw),(if L.findIdx (fun us=>us.any (IZ q f m n))<L.length then some (20:Int)else some 0)=some (bif L.any (fun us=>us.any (IZ q f m n))then 20 else 0):=fun L=>by
    by_cases h:L.findIdx (fun us=>us.any (IZ q f m n))<L.length
    ·rw[D9 h];have :L.any (fun us=>us.any (IZ q f m n))=true:=Hd.2 ((qA).1 h);rw[this];rfl
    rw[DN h]
    have :L.any (fun us=>us.any (IZ q f m n))=false:=by
     rw[Bool.eq_false_iff];exact fun k=>h (qA.2 (Hd.1 k))
    rw[this];rfl
   exact Z _
  ·intro k i h
   have I:([f.Users,m.Users]:List (List Gw))[i].length≤100:=by
    have :([f.Users,m.Users]:List (List Gw))[i]∈[f.Users,m.Users]:=Eb h;simp only[F9,G7,nC]at this;rcases this with e|e<;>rw[e]<;>assumption
   unfold aFa;rw[show decide ((i:Int)<2)=true by simp only[GI,ML]at h;simp;omega,CB h];simp only[Ba,Aa];generalize([f.Users,m.Users]:List (List Gw))[i]=us at I;unfold aR7;rw[aOa us (fuel_lt AA) (IZ q f m n) (fun _=>some 20) (k false (Aw ((i:Int)+1))) false]
   ·by_cases u:us.findIdx (IZ q f m n)<us.length
    ·rw[D9 u];have :us.any (IZ q f m n)=true:=Hd.2 ((qA).1 u);rw[this];rfl
    rw[DN u]
    have :us.any (IZ q f m n)=false:=by
     rw[Bool.eq_false_iff];exact fun k=>u (qA.2 (Hd.1 k))
    rw[this];rfl
   ·intro k2 j J;unfold zV jS;rw[CZ J,ZG f _ AA,ZG m _ AA];simp only[Aa];rw[aMR,Ij];unfold IZ;have u:decide (EJ f us[j].User≥q)= !decide (EJ f us[j].User<q):=by by_cases h:EJ f us[j].User<q<;>simp[h]<;>omega
    have h3:(EJ f us[j].User != EJ m us[j].User)= !(EJ f us[j].User==EJ m us[j].User):=rfl;simp only[Aa];rw[u,h3];cases Ui q (EJ f us[j].User) (EJ m us[j].User)<;>cases EJ f us[j].User==EJ m us[j].User<;>cases decide (us[j].User=n)<;>cases decide (EJ f us[j].User<q)<;>rfl
   intro k2;unfold zV;rw[DZ]
  intro k;unfold aFa jS;rw[show decide (((([f.Users,m.Users]:List (List Gw)).length:Nat):Int)<2)=false from rfl];rfl
 have hK:aAJ f m q n 0=some (bif (f.Kinds++m.Kinds).any (U9 q f m)then 20 else bif (f.Users++m.Users).any (IZ q f m n)then 20 else 0):=by
  unfold aAJ;rw[Gl ([f.Kinds,m.Kinds]:List (List Iz)) (fuel_lt BP) (fun s=>s.any (U9 q f m)) 20 (aAb f m q n false 0)]
  ·rw[Y];have e:(f.Kinds++m.Kinds).any (U9 q f m)=([f.Kinds,m.Kinds]:List (List Iz)).any (fun s=>s.any (U9 q f m)):=BP
   rw[e];cases([f.Kinds,m.Kinds]:List (List Iz)).any (fun s=>s.any (U9 q f m))<;>rfl
  ·intro k i h
   have M:([f.Kinds,m.Kinds]:List (List Iz))[i].length≤100:=by
    have :([f.Kinds,m.Kinds]:List (List Iz))[i]∈[f.Kinds,m.Kinds]:=Eb h;simp only[F9,G7,nC]at this;rcases this with e|e<;>rw[e]<;>assumption
   unfold aAT;rw[show decide ((i:Int)<2)=true by simp only[GI,ML]at h;simp;omega,CB h];simp only[Ba,Aa];generalize([f.Kinds,m.Kinds]:List (List Iz))[i]=s at M;unfold adJ;rw[Gl s (fuel_lt AA) (U9 q f m) 20 (k (Aw ((i:Int)+1)))]
   ·intro k2 j J;unfold aGz;rw[CZ J,aJR f _ AA,aJR m _ AA];simp only[Aa];rw[aMR];rfl
   intro k2;unfold aGz;rw[DZ]
  intro k;unfold aAT;rw[show decide (((([f.Kinds,m.Kinds]:List (List Iz)).length:Nat):Int)<2)=false from rfl];rfl
 unfold adZ;rw[Gl ((numsOf f).zip (numsOf m)) ab5 (yI q) 20 (aAJ f m q n 0)]
 ·rw[hK];cases((numsOf f).zip (numsOf m)).any (yI q)<;>rfl
 ·intro k i h;have z:i<7:=by rw[wY]at h;exact h
  have e1:Aj [f.User,f.Message,f.State,f.gK,f.jV,f.mW,f.gZ] (i:Int)=some ((numsOf f)[i]'(z)):=CB (l:=numsOf f) z;have e2:Aj [m.User,m.Message,m.State,m.gK,m.jV,m.mW,m.gZ] (i:Int)=some ((numsOf m)[i]'(z)):=CB (l:=numsOf m) z;unfold aFb;rw[show decide ((i:Int)<7)=true by simp;omega,e1,e2];simp only[Ba,Aa];rw[aMR,aMH];rfl
 intro k;unfold aFb;rw[wY,show decide (((7:Nat):Int)<7)=false from rfl];rfl
def air (f j:CG) (u h:ByteArray) (m:XA f) (n:XA j):fQ f j u h=some (Ui (EJ f h) (EJ f u) (EJ j u)&&(EJ f u==EJ j u||decide (u=h)||decide (EJ f u<EJ f h))):=by
 have q:=m.users;have s:=n.users;unfold fQ;rw[XH f h AA,XH f u AA,XH j u AA];simp only[Aa];rw[aFi,Ij];simp only[Aa];cases Ui (EJ f h) (EJ f u) (EJ j u)<;>cases EJ f u==EJ j u<;>cases decide (u=h)<;>cases decide (EJ f u<EJ f h)<;>rfl
def amP (f j:CG) (m:ByteArray) (z:XA f) (I:XA j):aBK f j m=some (oD f j m):=by
 have o1:=z.users;have o2:=z.kinds;have n1:=I.users;have n2:=I.kinds;unfold aBK;rw[XH f m AA];unfold aBj;simp only[Aa];unfold oD
 have s:∀x:Gw,(fQ f j x.User m)=some (!IZ (EJ f m) f j m x):=fun x=>by
  rw[air f j _ _ z I];unfold IZ;rw[vW]
 generalize L:EJ f m=q at s
 have J:aM9 j f m 0=some (bif j.Users.any (IZ q f j m)then 20 else 0):=by
  unfold aM9;rw[Gl j.Users (fuel_lt AA) (IZ q f j m) 20 (some 0)]
  ·cases j.Users.any (IZ q f j m)<;>rfl
  ·intro k i h;unfold aKx;rw[CZ h,s];simp only[Aa,vW]
  intro k;unfold aKx;rw[DZ]
 have O:aND f j m 0=some (bif (f.Users++j.Users).any (IZ q f j m)then 20 else 0):=by
  unfold aND;rw[Gl f.Users (fuel_lt AA) (IZ q f j m) 20 (some (bif j.Users.any (IZ q f j m)then 20 else 0))]
  ·rw[aIu];cases f.Users.any (IZ q f j m)<;>rfl
  ·intro k i h;unfold aKy;rw[CZ h,s];simp only[Aa,vW]
  intro k;unfold aKy;rw[DZ,J]
 have S:aDA f j q m 0=some (bif (f.Kinds++j.Kinds).any (U9 q f j)then 20 else bif (f.Users++j.Users).any (IZ q f j m)then 20 else 0):=by
  unfold aDA;have M:Aw ((f.Kinds.length:Int)+(j.Kinds.length:Int))=(((f.Kinds++j.Kinds).length:Nat):Int):=by rw[ES,Zy];omega
  rw[Gl (f.Kinds++j.Kinds) (fuel_lt KT) (U9 q f j) 20 (some (bif (f.Users++j.Users).any (IZ q f j m)then 20 else 0))]
  ·cases(f.Kinds++j.Kinds).any (U9 q f j)<;>rfl
  ·intro k i h;unfold aNH zG;rw[M,dec_lt h];simp only[Ba];by_cases hi:i<f.Kinds.length
   ·rw[dec_lt hi,CB hi];simp only[Ba,Aa];rw[qH f _ AA,qH j _ AA];simp only[Aa];rw[aFi,aOJ hi];rfl
   have U:i-f.Kinds.length<j.Kinds.length:=by rw[ES]at h;omega
   have w:Aw ((i:Int)-(f.Kinds.length:Int))=((i-f.Kinds.length:Nat):Int):=by rw[ES]at h;rw[Zy];omega
   rw[show decide ((i:Int)<(f.Kinds.length:Int))=false by simp;omega,w,CB U];simp only[BM,Aa];rw[qH f _ AA,qH j _ AA];simp only[Aa];rw[aFi,aSj AA];rfl
  intro k;unfold aNH;rw[M,DT,O];rfl
 unfold abK;rw[Gl ((numsOf f).zip (numsOf j)) ab5 (yI q) 20 (aDA f j q m 0)]
 ·rw[S];cases((numsOf f).zip (numsOf j)).any (yI q)<;>rfl
 ·intro k i h;have u:i<7:=by rw[wY]at h;exact h
  have Y:Aj [f.User,f.Message,f.State,f.gK,f.jV,f.mW,f.gZ] (i:Int)=some ((numsOf f)[i]'(u)):=CB (l:=numsOf f) u;have Z:Aj [j.User,j.Message,j.State,j.gK,j.jV,j.mW,j.gZ] (i:Int)=some ((numsOf j)[i]'(u)):=CB (l:=numsOf j) u;unfold aHb;rw[show decide ((i:Int)<(([f.User,f.Message,f.State,f.gK,f.jV,f.mW,f.gZ]:List Int).length:Int))=true from dec_lt (n:=7) u,Y,Z];simp only[Ba,Aa];rw[aFi,aMH];rfl
 intro k;unfold aHb;rw[wY];rfl
def tJ (e:AX) (l:List AX) (now:Int):Int:=
 bif !(L8 l e.bH==3)then 18 else
 bif e.Content.N==1&&decide (EJ (Fe l) e.bH<(Fe l).gK)then 20 else
 bif e.Content.N==0&&((now==4&&decide (EJ (Fe l) e.bH<(Fe l).mW))||decide (EJ (Fe l) e.bH<(Fe l).jV)||decide (EJ (Fe l) e.Key≥EJ (Fe l) e.bH))then 20 else
 bif e.Content.N==4&&(decide (EJ (Fe l) e.bH<(Fe l).mW)||decide (EJ (Fe l) e.Key≥EJ (Fe l) e.bH))then 20 else 0
def xw (e:AX) (l:List AX):Int:=
 bif mF e l then 0 else
 bif decide (e.Key=e.bH)&&L8 l e.Key==4 then 19 else
 bif !moveB (L8 l e.Key) e.Content.N (decide (e.Key=e.bH))then 18 else
 bif decide (e.Key=e.bH)then wK e.Content.N (L8 l e.Key) l else tJ e l (L8 l e.Key)
def sI (e:AX) (l:List AX):Int:=
 bif decide (EJ (Fe l) e.bH<X6 (Fe l) e.Kind)then 20 else bif e.Kind==3 then oD (Fe l) e.Content.Levels e.bH else 0
def aTf (s:ByteArray):ByteArray:=(splitB s (Jg s)).2.1
def RX (e:AX) (l:List AX):Int:=
 bif e.Kind==1 then(bif !(KA l).2&&(aTf e.bH).toList==(aTf e.Room).toList then 0 else 17)else
 bif !(KA l).2 then 17 else bif e.Kind==2 then xw e l else bif !(L8 l e.bH==3)then 18 else sI e l
def aSK {l:List AX} (h:E8 l):XA (Fe l):=⟨(iO h).1,(iO h).2⟩
def Fa.levels {e:AX} (h:Fa e):XA e.Content.Levels:=⟨h.users,h.kinds⟩
def ajt (e:AX) (l:List AX) (j:l.length≤1000) (h:E8 l) (m:Fa e):aBU e l=some (sI e l):=by
 have f:=aSK h;have n:=f.users;have q:=f.kinds;unfold aBU sI;rw[aOZ l j h];simp only[Aa];rw[ZG _ _ AA,aJR _ _ AA];simp only[Aa];rw[afW _ _ _ f m.levels];cases decide (EJ (Fe l) e.bH<X6 (Fe l) e.Kind)<;>cases e.Kind==3<;>rfl
def ag6 (e:AX) (l:List AX) (h:l.length≤1000) (j:E8 l) (m:Fa e):aAu e l=some (sI e l):=by
 have f:=aSK j;have n:=f.users;have q:=f.kinds;unfold aAu sI;rw[aOQ l h];simp only[Aa];rw[XH _ _ AA,qH _ _ AA];simp only[Aa];rw[amP _ _ _ f m.levels];cases decide (EJ (Fe l) e.bH<X6 (Fe l) e.Kind)<;>cases e.Kind==3<;>rfl
def jL (x:Int):Except Value Unit:=.error (.iface 150 (.agg #[.int .i64 x]))
def aUM (x:Int):bQ x=some (jL x):=rfl
def aNT (b:Bool) (x:Int):QZ b x=some (bif b then .ok ()else jL x):=by cases b<;>rfl
def aM5 (b:Bool) (x:Int) (f:Unit→Option (Except Value Unit)):LM (bif b then .ok ()else jL x) f=bif b then f ()else some (jL x):=by cases b<;>rfl
def aPf (x:Int) (f:Unit→Option (Except Value Unit)):LM (jL x) f=some (jL x):=rfl
def afv (a b:Int):decide (a≥b)= !decide (a<b):=by by_cases h:a<b<;>simp[h]<;>omega
def atD (e:AX) (l:List AX) (now:Int) (f:l.length≤1000) (j:E8 l):(kQ l e now).bind TV=some (tJ e l now):=by
 have u:=(iO j).1;unfold kQ tJ;rw[aMS l _ f,aOZ l f j];simp only[Aa];rw[ZG _ _ AA,ZG _ _ AA];simp only[aNT,Aa,aM5,afv]
 have z:decide (EJ (Fe l) e.Key<EJ (Fe l) e.bH)= !decide (EJ (Fe l) e.bH≤EJ (Fe l) e.Key):=by
  by_cases h:EJ (Fe l) e.Key<EJ (Fe l) e.bH<;>simp[h]<;>omega
 have s:(now != 4)= !(now==4):=rfl;rw[s];generalize decide (EJ (Fe l) e.Key<EJ (Fe l) e.bH)=t;generalize decide (EJ (Fe l) e.bH<(Fe l).gK)=i;generalize decide (EJ (Fe l) e.bH<(Fe l).mW)=b;generalize decide (EJ (Fe l) e.bH<(Fe l).jV)=k;generalize(now==4)=n;cases L8 l e.bH==3 with
 |false=>rfl
 |true=>
  by_cases m:e.Content.N=1
  ·rw[m];cases i<;>rfl
  rw[show(e.Content.N==1)=false by simpa using m];by_cases q:e.Content.N=0
  ·rw[q];cases n<;>cases b<;>cases k<;>cases t<;>rfl
  rw[show(e.Content.N==0)=false by simpa using q];cases e.Content.N==4<;>cases b<;>cases t<;>rfl
def afN (e:AX) (l:List AX) (now:Int) (f:l.length≤1000) (h:E8 l):aCS e l now=some (tJ e l now):=by
 have j:=(iO h).1;unfold aCS tJ;rw[aLS l _ f,aOQ l f];simp only[Aa];rw[XH _ _ AA,XH _ _ AA];simp only[Aa,Jf,aC,TR,bne]
def ajR (e:AX) (l:List AX) (f:l.length≤1000) (j:E8 l):aDK e l=some (xw e l):=by
 unfold aDK xw;rw[alg e l f];simp only[Aa];cases mF e l with
 |true=>rfl
 |false=>
  simp only[BM]
  have n:∀o:Option (Except Value Unit),(o.bind fun q=>(TV q).bind fun u=>some u)=o.bind TV:=fun o=>by
   cases o with
   |none=>rfl
   |some x=>cases h:TV x<;>simp[h]
  rw[n];have m:=atD e l (L8 l e.Key) f j;unfold aIb;rw[aMS l _ f,Ij];simp only[Aa];rw[atK,apA _ _ _ f j];simp only[Aa,aNT,aUM,aM5,aPf,Jf];have z:(L8 l e.Key != 4)= !(L8 l e.Key==4):=rfl;rw[z];generalize kQ l e (L8 l e.Key)=J at m;generalize decide (e.Key=e.bH)=s;cases s with
  |true=>
   cases L8 l e.Key==4 with
   |true=>rfl
   |false=>cases moveB (L8 l e.Key) e.Content.N true<;>rfl
  |false=>
   cases moveB (L8 l e.Key) e.Content.N false with
   |false=>rfl
   |true=>exact m
def ag7 (e:AX) (l:List AX) (f:l.length≤1000) (h:E8 l):aDz e l=some (xw e l):=by
 unfold aDz xw;rw[as3 e l f,aLS l _ f];simp only[Aa];rw[aPg,aqg e _ l f h,afN e l _ f h,Ij];simp only[Aa,Jf,TR]
def aIf (e:AX) (l:List AX) (f:l.length≤1000) (m:E8 l) (j:Fa e):lD e l=some (RX e l):=by
 have z:=j.sender;have I:=j.room;unfold lD RX
 have n:∀o:Option (Except Value Unit),(o.bind fun q=>(TV q).bind fun u=>some u)=o.bind TV:=fun o=>by
  cases o with
  |none=>rfl
  |some x=>cases h:TV x<;>simp[h]
 rw[n];unfold aLe aBV zF Fn2;rw[aTz l f,(jH (s:=e.bH) AA).1,(jH (s:=e.Room) AA).1,aMS l _ f,ajt e l f m j,ajR e l f m];simp only[Aa,aNT,aUM,aM5,aPf];show _=some (bif e.Kind==1 then(bif !(KA l).2&&(splitB e.bH (Jg e.bH)).2.1.toList==(splitB e.Room (Jg e.Room)).2.1.toList then 0 else 17)else _);cases e.Kind==1 with
 |true=>
  cases(KA l).2 with
  |true=>rfl
  |false=>cases(splitB e.bH (Jg e.bH)).2.1.toList==(splitB e.Room (Jg e.Room)).2.1.toList<;>rfl
 |false=>
  cases(KA l).2 with
  |false=>rfl
  |true=>
   cases e.Kind==2 with
   |true=>rfl
   |false=>cases L8 l e.bH==3<;>rfl
def aOu (e:AX) (l:List AX) (f:l.length≤1000) (j:E8 l) (h:Fa e):ig e l=some (RX e l):=by
 have m:=h.sender;have n:=h.room;unfold ig aGZ RX;rw[aQR l f,(jH (s:=e.bH) AA).2,(jH (s:=e.Room) AA).2,aLS l _ f,ag6 e l f j h,ag7 e l f j];simp only[Aa];show _=some (bif e.Kind==1 then(bif !(KA l).2&&(splitB e.bH (Jg e.bH)).2.1.toList==(splitB e.Room (Jg e.Room)).2.1.toList then 0 else 17)else _);cases e.Kind==1 with
 |true=>
  cases(KA l).2 with
  |true=>rfl
  |false=>cases(splitB e.bH (Jg e.bH)).2.1.toList==(splitB e.Room (Jg e.Room)).2.1.toList<;>rfl
 |false=>
  cases(KA l).2 with
  |false=>rfl
  |true=>
   cases e.Kind==2 with
   |true=>rfl
   |false=>unfold bne;cases L8 l e.bH==3<;>rfl
def fU (named:List AX) (k:BH):AX×Bool:=match named.find? (Ef k)with |some x=>(x,true)|none=>(F7,false)
def jM (l:List AX) (s:List BH) (e:AX) (k:BH):AX×Bool:=bif (Fl s k.Kind k.Key).2 then I4 l (Fl s k.Kind k.Key).1 else fU (ofIds l e.bP) k
def TN (l:List AX) (s:List BH) (e:AX) (k:BH):List AX:=bif (jM l s e k).2 then[(jM l s e k).1]else[]
def VK (l:List AX) (s:List BH) (e:AX):List AX:=(keysOf e).flatMap (TN l s e)
def aO9 (l:List AX) (s:List BH) (e:AX) (k:BH):(TN l s e k).length≤1:=by
 unfold TN;cases(jM l s e k).2<;>simp
def aaR (l:List AX) (s:List BH) (e:AX):(VK l s e).length≤5:=by
 have h:=flat_length (f:=TN l s e) (n:=1) (aO9 l s e) (keysOf e);have j:=Vd e;unfold VK;omega
def aqL {l:List AX} {s:List BH} {e x:AX} (h:x∈VK l s e):x∈l:=by
 obtain⟨k,_,h⟩:=Vo.1 h;unfold TN jM fU at h;cases m:(Fl s k.Kind k.Key).2 with
 |true=>
  rw[m]at h;simp only[Ba]at h;cases f:ET l (Fl s k.Kind k.Key).1 with
  |none=>rw[Ri f]at h;exact absurd h G7
  |some y=>rw[Na f]at h;rw[MW.1 h];exact OG f
 |false=>
  rw[m]at h;simp only[BM]at h;cases j:(ofIds l e.bP).find? (Ef k)with
  |none=>rw[j]at h;exact absurd h G7
  |some y=>rw[j]at h;rw[MW.1 h];exact aLt (Zv j)
def E8.base {l:List AX} (h:E8 l) (s:List BH) (e:AX):E8 (VK l s e):=fun x f=>h x (aqL f)
def ap7 (named:List AX) (k:BH) (f:named.length≤1000):aG4 named k=some (fU named k):=by
 unfold aG4;rw[aMy named AA (fun a0=>nG a0 k) (Ef k) fun e=>by unfold nG Ef;rw[Ij];cases e.Kind==k.Kind<;>rfl];exact found_eq named (Ef k) rfl
def aku (named:List AX) (k:BH) (f:named.length≤1000):aAt named k.Kind k.Key=some (fU named k):=by
 unfold aAt aSv;rw[aO2 named (fuel_lt AA) (Ef k) (fun i=>some (match named[i]? with |some x=>(x,true)|none=>(F7,false))) (some (F7,false))]
 ·exact aKN named _
 ·intro k2 i h;unfold aKK;rw[CZ h,CB h,Dx h];simp only[Aa];rw[Ij];unfold Ef;cases named[i].Kind==k.Kind<;>cases decide (named[i].Key=k.Key)<;>rfl
 intro k2;unfold aKK;rw[DZ]
def amJ (l:List AX) (s:List BH) (e:AX) (j:l.length≤1000) (q:e.bP.length≤40) (m:JI s) (f:s.length≤1000000):aBw l s e=some (VK l s e):=by
 unfold aBw;have u:=aB l e.bP;have z:=Vd e;have n:JR 376 F7 0 5=some []:=by unfold JR;rw[D9 aGS];rfl
 rw[anU l _ j AA,n,acF];simp only[Aa];unfold aRi;rw[Gs (keysOf e) AA (fun r k=>r++TN l s e k) (fun i r=>r.length≤i) (fun r=>some r) (EG _)]
 ·rw[foldl_append (TN l s e),Hu];rfl
 ·intro k r i h I;have J:=aO9 l s e (keysOf e)[i];refine⟨KT,?_⟩;unfold aMF aBW aDl;rw[CZ h,ap7 _ _ AA,aBZ s _ _ f m];simp only[Aa];rw[O9 l _ AA,Di FZ];simp only[Aa];rw[Di FZ];unfold TN jM;cases(Fl s (keysOf e)[i].Kind (keysOf e)[i].Key).2 with
  |true=>
   simp only[Ba];cases(I4 l (Fl s (keysOf e)[i].Kind (keysOf e)[i].Key).1).2 with
   |true=>rfl
   |false=>simp
  |false=>
   simp only[BM];cases(fU (ofIds l e.bP) (keysOf e)[i]).2 with
   |true=>rfl
   |false=>simp
 intro k r _;unfold aMF;rw[DZ]
def arL (l:List AX) (s:List BH) (e:AX) (j:l.length≤1000) (m:e.bP.length≤40) (f:s.length≤1000000):aCN l s e=some (VK l s e):=by
 unfold aCN;have n:=aB l e.bP;have q:=Vd e;rw[aNj,aHk l _ j AA];simp only[Aa];unfold aTD;rw[Gs (a0:=[]) (keysOf e) AA (fun r k=>r++TN l s e k) (fun i r=>r.length≤i) (fun r=>some r) (EG _)]
 ·rw[foldl_append (TN l s e),Hu];rfl
 ·intro k r i h u;have z:=aO9 l s e (keysOf e)[i];refine⟨KT,?_⟩;unfold aKZ Mid aAZ;rw[dec_lt h,CB h];simp only[Ba,Aa];rw[aku _ _ AA,aEy s _ _ f];simp only[Aa];rw[Ln l _ AA,Di FZ];simp only[Aa];rw[Di FZ];unfold TN jM;cases(Fl s (keysOf e)[i].Kind (keysOf e)[i].Key).2 with
  |true=>
   simp only[Ba];cases(I4 l (Fl s (keysOf e)[i].Kind (keysOf e)[i].Key).1).2 with
   |true=>rfl
   |false=>simp
  |false=>
   simp only[BM];cases(fU (ofIds l e.bP) (keysOf e)[i]).2 with
   |true=>rfl
   |false=>simp
 intro k r _;unfold aKZ;rw[DT];rfl
def XP (l:List AX) (s:List BH) (id:Int):Bool:=dX l id&&(IK (ev l id).Kind&&RX (ev l id) (VK l s (ev l id))==0)
def Qz (l:List AX) (s:List BH) (id:Int):List BH:=bif XP l s id then FY s (ev l id).Kind (ev l id).Key (ev l id).Id else s
def SB (l:List AX) (s:List BH) (ids:List Int):List BH:=ids.foldl (Qz l) s
def aSE {l:List AX} {s:List BH} (h:JI s) (id:Int):JI (Qz l s id):=by
 unfold Qz;cases XP l s id with
 |true=>exact WL h _ _ _
 |false=>exact h
def aJv {l:List AX}:∀{ids:List Int} {s:List BH},JI s→JI (SB l s ids)
 | [],_,h=>h
 |id::ids,s,h=>aJv (ids:=ids) (aSE h id)
def aJr (l:List AX) (s:List BH) (id:Int):(Qz l s id).length≤s.length+1:=by
 unfold Qz;cases XP l s id with
 |true=>exact P6 _ _ _ _
 |false=>exact Nat.le_succ _
def zx (l:List AX):∀(ids:List Int) (s:List BH),(SB l s ids).length≤s.length+ids.length
 | [],s=>EG _
 |id::ids,s=>by
  have f:=zx l ids (Qz l s id);have h:=aJr l s id;show(SB l (Qz l s id) ids).length≤_;rw[GI];omega
def aUf {l:List AX} (f:E8 l) {id:Int} (h:dX l id=true):Fa (ev l id):=f _ (OG (TY h).1)
def aqO (l:List AX) (s:List BH) (id:Int) (I:l.length≤1000) (q:E8 l) (m:JI s) (h:s.length≤1000000):aAR l s id=some (Qz l s id):=by
 unfold aAR aOX wX Qz XP;have f:aDR s (.error (.iface 317 (.agg #[])):Except Value (List BH))=some s:=rfl;rw[O9 l _ AA];simp only[Aa];rw[OZ];cases u:(ET l id).isSome with
 |false=>rw[show dX l id=false from u];exact f
 |true=>
  have j:dX l id=true:=u;have z:=aUf q j;have n:(I4 l id).1=ev l id:=rfl;rw[j,n,aaF];simp only[Aa,EM,BM,FX];cases IK (ev l id).Kind with
  |false=>exact f
  |true=>
   have J:=aaR l s (ev l id);rw[amJ l s _ I z.auth m h];simp only[Aa,EM,BM,FX];rw[aIf _ _ AA (q.base s _) z];simp only[Aa];rw[XW s _ _ _ h];unfold bne;cases RX (ev l id) (VK l s (ev l id))==0 with
   |true=>rfl
   |false=>exact f
def aPn (l:List AX) (s:List BH) (ids:List Int) (m:l.length≤1000) (n:E8 l) (f:JI s) (q:s.length+ids.length≤1000000):ZN l s ids=some (SB l s ids):=by
 unfold ZN aG8;rw[Di U6];simp only[Aa,Hu];unfold aSn;rw[Gs ids AA (Qz l) (fun i r=>JI r∧r.length≤s.length+i) (fun r=>some r) ⟨f,EG _⟩]
 ·rfl
 ·intro k r i h j;have u:=aJr l r ids[i];refine⟨⟨aSE j.1 _,AA⟩,?_⟩;unfold aNl;rw[CZ h,aqO l r _ m n j.1 AA];rfl
 intro k r _;unfold aNl;rw[DZ]
def aaV (l:List AX) (s:List BH) (ids:List Int) (u:l.length≤1000) (m:E8 l) (z:s.length+ids.length≤1000000):ZK l s ids=some (SB l s ids):=by
 unfold ZK;rw[Di U6];simp only[Aa,Hu];unfold aTg;rw[Gs ids AA (Qz l) (fun i r=>r.length≤s.length+i) (fun r=>some r) (EG _)]
 ·rfl
 ·intro k r i h I;have J:=aJr l r ids[i];refine⟨AA,?_⟩;unfold aIm vZ aA9 Qz XP;rw[CZ h,Ln l _ AA];simp only[Aa];rw[OZ];cases n:(ET l ids[i]).isSome with
  |false=>rw[show dX l ids[i]=false from n];rfl
  |true=>
   have f:dX l ids[i]=true:=n;have q:=aUf m f;have j:(I4 l ids[i]).1=ev l ids[i]:=rfl;rw[f,j,aAz];simp only[Aa,Ba,FX];cases IK (ev l ids[i]).Kind with
   |false=>rfl
   |true=>
    have L:=aaR l r (ev l ids[i]);rw[arL l r _ u q.auth AA];simp only[Aa,Ba,FX];rw[aOu _ _ AA (m.base r _) q];simp only[Aa];rw[aIc r _ _ _ AA];cases RX (ev l ids[i]) (VK l r (ev l ids[i]))==0<;>rfl
 intro k r _;unfold aIm;rw[DZ]
def NP (l:List AX) (f:List (List BH)):List Int:=YJ l (LX l f)
def O1 (l:List AX) (f:List (List BH)):List Int:=Nq l (FD l (NP l f)).length (FD l (NP l f))
def JC (l:List AX) (f:List (List BH)):List BH:=SB l (Hw f) (O1 l f)
def YV (l:List AX) (f:List (List BH)):List Int:=bif (Fl (JC l f) 3 Bc).2 then lC l (Fl (JC l f) 3 Bc).1 else[]
def NQ (l:List AX) (f:List (List BH)):List Int:=U3 l (YV l f) (Og (LX l f) (NP l f))
def sG (s a:List BH):List BH:=a.foldl (fun s x=>FY s x.Kind x.Key x.Id) s
def lastOf (l:List AX) (f:List (List BH)):List BH:=sG (SB l (JC l f) (NQ l f)) (Hw f)
structure Ll (l:List AX) (sts:List (List BH)):Prop where
 len:l.length≤100
 small:E8 l
 states:OC sts
def jm {l:List AX} {f:List (List BH)} (h:Ll l f):(LX l f).length≤40000:=by
 have u:=h.len;have z:=aGW h.states;have I:=MC (Ry f);have j:=aGK l f [] fun s m=>(h.states.2 s m).1;have n:=h.states.1;have q:=Js (fun x=>decide (Jo l f x<f.length)) (allOf l f);have J:f.length*(100+l.length)≤100*200:=aH5 n AA;have L:=aJ6 (ER (Ry f)) (Sj l f)
 have M:(Sj l f).length≤20000:=by
  unfold Sj;unfold allOf at q ⊢;simp only[ML]at j;omega
 unfold LX;omega
def aiN {l:List AX} {f:List (List BH)} (h:Ll l f):(OU l (LX l f)).length≤40000:=Ei (Js _ _) (jm h)
def aKF {l:List AX} {f:List (List BH)} (h:Ll l f):(O1 l f).length≤100:=by
 have m:=aaB l (FD l (NP l f)).length (FD l (NP l f));have n:(FD l (NP l f)).length≤l.length:=lK (aH _ _) fun x j=>(Nh.1 j).2;have q:=h.len;unfold O1;omega
def aCp {l:List AX} {f:List (List BH)} (h:Ll l f):(JC l f).length≤200:=by
 have j:=zx l (O1 l f) (Hw f);have m:=aKF h;have n:=bY h.states;unfold JC;omega
def aIX {l:List AX} {f:List (List BH)} (h:Ll l f):JI (JC l f):=aJv (aQJ h.states)
def ad2 {l:List AX} {f:List (List BH)} (h:Ll l f):(YV l f).length≤100:=by
 have j:=aUj l (Fl (JC l f) 3 Bc).1;have m:=h.len;unfold YV;cases(Fl (JC l f) 3 Bc).2 with
 |true=>simp only[Ba];omega
 |false=>exact Eh _
def aSg {l:List AX} {f:List (List BH)} (h:Ll l f):(NQ l f).length≤40000:=by
 have j:=asr l (YV l f) (Og (LX l f) (NP l f));have m:=aMQ (LX l f) (NP l f);have n:=jm h;unfold NQ;omega
def at6 {l:List AX} {f:List (List BH)} (h:Ll l f):qm (LX l f) (NP l f) l (JC l f,O1 l f) (Hw f,ER (Ry f)) (YV l f)=some ⟨lastOf l f,O1 l f,NQ l f⟩:=by
 have n:=h.len;have q:=jm h;have u:=aAQ l (LX l f);have z:=ad2 h;have I:=aMQ (LX l f) (NP l f);have J:=aCp h;have L:=aSg h;have M:=bY h.states;unfold qm aIr aKE;rw[ag4 _ _ AA (by unfold NP;omega)];simp only[Aa];rw[ajz l _ _ AA h.small AA AA (Xd (aLA _ _))];simp only[Aa];show((ZN l (JC l f) (NQ l f)).bind _).bind _=_;rw[aPn l _ _ AA h.small (aIX h) AA];simp only[Aa];unfold aQ2;have O:=zx l (NQ l f) (JC l f);show aS _ Ap 0 (⟨SB l (JC l f) (NQ l f),O1 l f,NQ l f⟩:Ny)=_;rw[qQ (Hw f) AA (fun v x=>({ v with D6:=FY v.D6 x.Kind x.Key x.Id }:Ny)) (fun i v=>v.D6.length≤(SB l (JC l f) (NQ l f)).length+i) (fun v=>some v) (EG _)]
 ·congr 1;unfold lastOf sG
  have key:∀(a:List BH) (v:Ny),a.foldl (fun v x=>({ v with D6:=FY v.D6 x.Kind x.Key x.Id }:Ny)) v=⟨a.foldl (fun s x=>FY s x.Kind x.Key x.Id) v.D6,v.aex,v.asJ⟩:=by
   intro a
   induction a with
   |nil=>intro v;rfl
   |cons x a j=>intro v;rw[Fb,j];rfl
  rw[key]
 ·intro k v i hi S;have m:=P6 v.D6 (Hw f)[i].Kind (Hw f)[i].Key (Hw f)[i].Id;refine⟨by show(FY _ _ _ _).length≤_;omega,?_⟩;unfold aMa;rw[CZ hi,XW _ _ _ _ AA];rfl
 intro k v _;unfold aMa;rw[DZ]
def ajD {l:List AX} {f:List (List BH)} (h:Ll l f):aDr l f=some ⟨lastOf l f,O1 l f,NQ l f⟩:=by
 have n:=h.len;have q:=jm h;have s:=aAQ l (LX l f);have u:=aiN h;have z:=aCp h;have I:=aKF h;have J:=bY h.states;have j:=at6 h;unfold aDr;rw[acK f h.states,aeC l f AA h.small.akq h.states];simp only[Aa];rw[apS l _ AA h.small AA AA];simp only[Aa];unfold aNi aIO;rw[ase l _ AA h.small AA];simp only[Aa];have ha:ZN l (Hw f) (O1 l f)=some (JC l f):=aPn l _ _ AA h.small (aQJ h.states) AA;unfold O1 NP at ha;rw[ha];simp only[Aa];rw[aBZ _ _ _ AA (aIX h)];simp only[Aa];rw[akG l _ AA h.small];unfold YV at j;cases m:(Fl (JC l f) 3 Bc).2 with
 |true=>rw[m]at j;exact j
 |false=>rw[m]at j;exact j
def afd {l:List AX} {f:List (List BH)} (h:Ll l f):wM (LX l f) (NP l f) l (Hw f,ER (Ry f)) (O1 l f) (JC l f) (YV l f)=some ⟨Hw f,O1 l f,JC l f,NQ l f,lastOf l f⟩:=by
 have q:=h.len;have u:=jm h;have z:=aAQ l (LX l f);have I:=ad2 h;have J:=aMQ (LX l f) (NP l f);have L:=aCp h;have M:=aSg h;have O:=bY h.states;unfold wM;rw[aDD _ _ AA (by unfold NP;omega)];simp only[Aa];rw[aqs l _ _ AA h.small AA AA (Xd (aLA _ _))];simp only[Aa];show(ZK l (JC l f) (NQ l f)).bind _=_;rw[aaV l _ _ AA h.small AA];simp only[Aa];unfold aSo;have S:=zx l (NQ l f) (JC l f);show aS _ Ap 0 (⟨Hw f,O1 l f,JC l f,NQ l f,SB l (JC l f) (NQ l f)⟩:O7)=_;rw[qQ (Hw f) AA (fun v x=>({ v with Last:=FY v.Last x.Kind x.Key x.Id }:O7)) (fun i v=>v.Same=Hw f∧v.Last.length≤(SB l (JC l f) (NQ l f)).length+i) (fun v=>some v) ⟨rfl,EG _⟩]
 ·congr 1;unfold lastOf sG
  have key:∀(a:List BH) (v:O7),a.foldl (fun v x=>({ v with Last:=FY v.Last x.Kind x.Key x.Id }:O7)) v=⟨v.Same,v.Power,v.First,v.Others,a.foldl (fun s x=>FY s x.Kind x.Key x.Id) v.Last⟩:=by
   intro a
   induction a with
   |nil=>intro v;rfl
   |cons x a m=>intro v;rw[Fb,m];rfl
  rw[key]
 ·intro k v i hi j;have n:=P6 v.Last (Hw f)[i].Kind (Hw f)[i].Key (Hw f)[i].Id;refine⟨⟨j.1,by show(FY _ _ _ _).length≤_;omega⟩,?_⟩;unfold aJn;rw[j.1,dec_lt hi,CB hi];simp only[Ba,Aa];rw[aIc _ _ _ _ AA];rfl
 intro k v j;unfold aJn;rw[j.1,DT];rfl
def ant {l:List AX} {f:List (List BH)} (h:Ll l f):aDb l f=some ⟨Hw f,O1 l f,JC l f,NQ l f,lastOf l f⟩:=by
 have n:=h.len;have q:=jm h;have s:=aAQ l (LX l f);have u:=aCp h;have z:=aKF h;have I:=bY h.states;have j:=afd h;unfold aDb;rw[aad f h.states,alk l f AA h.small.akq h.states];simp only[Aa];rw[alR l _ AA h.small AA];simp only[Aa];rw[ahc l _ AA h.small AA];simp only[Aa];have ha:ZK l (Hw f) (O1 l f)=some (JC l f):=aaV l _ _ AA h.small AA;unfold O1 NP at ha;rw[ha];simp only[Aa];rw[aEy _ _ _ AA];simp only[Aa];rw[aQX l _ AA h.small];unfold YV at j;cases m:(Fl (JC l f) 3 Bc).2 with
 |true=>rw[m]at j;exact j
 |false=>rw[m]at j;exact j
def qY (l:List AX) (f:List (List BH)):List BH:=match f with
 | []=>[]
 | [s]=>s
 |_=>lastOf l f
def aUu {l:List AX} {f:List (List BH)} (h:Ll l f):eu l f=some (qY l f):=by
 match f,h with
 | [],_=>rfl
 | [s],h=>
   have u:=(h.states.2 s (Hy ..)).1;have j:Aj [s] 0=some s:=rfl;show((Aj [s] 0).bind fun m=>(CY 32 [] m).bind fun n=>some n)=some s;rw[j];simp only[Aa];rw[Di U6];rfl
 |s::t::f,h=>
  unfold eu;have j:(((s::t::f).length:Int)==0)=false:=aFL
  have q:(((s::t::f).length:Int)==1)=false:=aFL
  rw[j,q,ajD h];rfl
def ac7 {l:List AX} {f:List (List BH)} (h:Ll l f):su l f=some (qY l f):=by
 match f,h with
 | [],_=>rfl
 | [s],_=>rfl
 |s::t::f,h=>
  unfold su;have j:(((s::t::f).length:Int)==0)=false:=aFL
  have m:(((s::t::f).length:Int)==1)=false:=aFL
  rw[j,m,ant h];rfl
def Ll.of {l:List AX} {f:List (List BH)} (j:l.length≤14∧E8 l) (h:f.length≤100∧∀s∈f,s.length≤20∧JI s):Ll l f:=
 ⟨by have :=j.1;omega,j.2,⟨h.1,fun s m=>⟨by have :=(h.2 s m).1;omega,(h.2 s m).2⟩⟩⟩
def aPR {x:BH}:∀(a s:List BH),x∈sG s a→x∈a∨x∈s
 | [],_,h=>.inr h
 |y::a,s,h=>by
  rcases aPR a _ h with h|h
  ·exact .inl (IY _ h)
  rcases U0 h with h|h
  ·left;rw[h];cases y;exact Hy ..
  exact .inr h
def aTh (l:List AX) (ids:List Int) (x:BH):Prop:=∃id∈ids,dX l id=true∧IK (ev l id).Kind=true∧x=⟨(ev l id).Kind,(ev l id).Key,(ev l id).Id⟩
def aIk {l:List AX} {x:BH}:∀(ids:List Int) (s:List BH),x∈SB l s ids→x∈s∨aTh l ids x
 | [],_,h=>.inl h
 |id::ids,s,h=>by
  rcases aIk ids _ h with h|⟨j,n,h⟩
  ·have f:x∈bif XP l s id then FY s (ev l id).Kind (ev l id).Key (ev l id).Id else s:=h
   cases m:XP l s id with
   |false=>rw[m]at f;exact .inl f
   |true=>
    rw[m]at f;rcases U0 f with f|f
    ·unfold XP at m;simp only[DL]at m;exact .inr ⟨id,Hy ..,m.1,m.2.1,f⟩
    exact .inl f
  exact .inr ⟨j,IY _ n,h⟩
def agU {l:List AX} {f:List (List BH)} {x:Int} (h:x∈NP l f):x∈LX l f:=(aKW.1 h).1
def aeW {l:List AX} {f:List (List BH)} {x:BH} (h:x∈lastOf l f):x∈Hw f∨aTh l (LX l f) x:=by
 unfold lastOf at h;rcases aPR _ _ h with h|h
 ·exact .inl h
 rcases aIk _ _ h with h|⟨j,m,h⟩
 ·unfold JC at h;rcases aIk _ _ h with h|⟨j,m,h⟩
  ·exact .inl h
  exact .inr ⟨j,agU (Nh.1 (aTS _ _ _ m)).1,h⟩
 exact .inr ⟨j,(aSe.1 (ahU.1 m).1).1,h⟩
def aSN :∀(a s:List BH),JI s→JI (sG s a)
 | [],_,h=>h
 |x::a,s,h=>aSN a _ (WL h x.Kind x.Key x.Id)
def amE {l:List AX} {f:List (List BH)} (h:Ll l f):JI (lastOf l f):=aSN _ _ (aJv (aIX h))
structure JH (l:List AX) (s:List BH):Prop where
 sorted:JI s
 named:∀x∈s,dX l x.Id=true∧IK x.Kind=true∧(ev l x.Id).Kind=x.Kind∧(ev l x.Id).Key=x.Key
def JH.nil (l:List AX):JH l []:=⟨List.Pairwise.nil,fun _ h=>absurd h G7⟩
def JH.nodup {l:List AX} {s:List BH} (h:JH l s):(s.map (·.Id)).Nodup:=by
 rw[acQ,aKQ];refine List.Pairwise.imp_of_mem ?_ h.sorted;intro a b ha j f e;obtain⟨_,_,m,k2⟩:=h.named a ha;obtain⟨_,_,n,q⟩:=h.named b j;have u:a.Kind=b.Kind:=by rw[←m,←n,e]
 have z:a.Key=b.Key:=by rw[←k2,←q,e]
 rw[uy (Vy.2 ⟨u,z⟩)]at f;cases f
def JH.length {l:List AX} {s:List BH} (h:JH l s):s.length≤l.length:=by
 have :U8 l (s.map (·.Id)):=⟨h.nodup,fun x f=>by
  obtain⟨y,j,rfl⟩:=GV.1 f
  exact(h.named y j).1⟩
 have :=this.length
 rwa [D8]at this
def JH.okay {l:List AX} {f:List (List BH)} (j:l.length≤100) (n:E8 l) (q:f.length≤100) (h:∀s∈f,JH l s):Ll l f:=
 ⟨j,n,q,fun s m=>⟨Ei (h s m).length j,(h s m).sorted⟩⟩
def JH.resolve {l:List AX} {f:List (List BH)} (j:Ll l f) (h:∀s∈f,JH l s):JH l (qY l f):=by
 match f,j,h with
 | [],_,_=>exact .nil l
 | [s],_,h=>exact h s (Hy ..)
 |s::t::f,j,h=>
  refine⟨amE j,fun x u=>?_⟩;rcases aeW u with z|⟨id,_,q,hst,m⟩
  ·exact(h s (Hy ..)).named x ((am7 j.states (List.cons_ne_nil _ _)).1 z s (Hy ..))
  have n:=TY q;have I:x.Id=id:=by rw[m];exact n.2
  rw[I];exact⟨q,by rw[m];exact hst,by rw[m],by rw[m]⟩
def JH.set {l:List AX} {s:List BH} (h:JH l s) {e:AX} (m:dX l e.Id=true) (j:ev l e.Id=e) (hst:IK e.Kind=true):JH l (FY s e.Kind e.Key e.Id):=
 ⟨WL h.sorted _ _ _,fun x f=>by
  rcases U0 f with rfl|f
  ·exact⟨m,hst,by rw[j],by rw[j]⟩
  exact h.named x f⟩
end Go.Proofs.YtolgdkhlelfpoaaGreat
end
