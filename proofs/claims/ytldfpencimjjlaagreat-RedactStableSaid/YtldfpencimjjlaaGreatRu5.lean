/- Part 5 of what the laws' proofs lean on: states of the walk, typed functions of the program and their laws (short forms written by wip/shrink.py; no condition). -/
import Derived.Test.YtldfpencimjjlaaGreatRu4
set_option linter.defProp false
set_option linter.unnecessarySimpa false
set_option linter.unusedVariables false
set_option linter.unusedSimpArgs false
section
namespace Go.Proofs.YtldfpencimjjlaaGreat
open Go.RowKit
set_option maxRecDepth 20000
set_option maxHeartbeats 4000000
def aKS (j:(AX→Int→Option AX)) (m:Int) (q:AX):Option AX:=j q (Ag (m+1))
def aLv (z:(AX→Int→Option AX)) (I:Int) (m:Bool) (j:AX) (q:AB):Option AX:=(bif m then(Bz 376 j [q]).bind fun u=>aKS z I u else aKS z I j)
def aMk (m:Aq) (q:Aq) (Z:AX) (u:AX) (Y:(AX→Int→Option AX)):AX→Int→Option AX:=fun L j=>(bif decide (j<(m.length:Int))then(Ae m j).bind fun x9=>(Ae m j).bind fun M=>(xX q x9.Kind M.Key).bind fun z=>(Ae m j).bind fun O=>(Ae m j).bind fun U=>(aLj Z O.Kind U.Key).bind fun I=>(bif z.2 then(LP u z.1).bind fun J=>aLv Y j J.2 L J.1 else aLv Y j I.2 L I.1)else some L)
def aUC (q:Aq) (j:Aq) (u:AX) (m:AX):AX→Int→Option AX:=aQ (aMk q j u m) Af
def aHh (j:AX) (q:Aq) (m:AB):Option AX:=(wS m).bind fun u=>(yN j m.bD).bind fun z=>aUC u q z j [] 0
def aNA (j:AX) (q:(Int→AB→Option (AB×Bool))):Int→AB→Option (AB×Bool):=fun m u=>(bif decide (m<(j.length:Int))then(Ae j m).bind fun z=>(bif (z.Kind==1)then(Ae j m).bind fun I=>some (I,true)else q (Ag (m+1)) u)else some (F6,false))
def aeA (j:AX):Int→AB→Option (AB×Bool):=aQ (aNA j) Af
def aDJ (j:AX):Option (AB×Bool):=aeA j 0 F6
def aHF (j:AX) (m:ByteArray) (k2:(Int→Option Bool)):Int→Option Bool:=fun q=>(bif decide (q<(j.length:Int))then(Ae j q).bind fun u=>(bif (u.Kind==2)then(Ae j q).bind fun z=>some (z.Key.toList==m.toList)else some false).bind fun I=>(bif I then some true else k2 (Ag (q+1)))else some false)
def aTT (m:AX) (j:ByteArray):Int→Option Bool:=bg (aHF m j) Af
def aKF (m:AX) (j:ByteArray):Option Bool:=aTT m j 0
def XW (j:Bool):Option Bool:=some j
def aNa (j:AB) (m:AX):Option Bool:=(aDJ m).bind fun q=>(bif q.2 then(bif ((j.bC.length:Int)==1)then(Ae j.bC 0).bind fun z=>(bif (z==q.1.Id)then(bif (j.aP.toList==q.1.aP.toList)then(bif (j.Key.toList==q.1.aP.toList)then(bif (j.Content.N==3)then(aKF m j.Key).bind fun u=>XW (!u)else XW false)else XW false)else XW false)else XW false)else XW false)else XW false)
def aM3 (j:AX) (m:ByteArray) (k2:(Int→Option Int)):Int→Option Int:=fun q=>(bif decide (q<(j.length:Int))then(Ae j q).bind fun u=>(bif (u.Kind==2)then(Ae j q).bind fun z=>some (z.Key.toList==m.toList)else some false).bind fun I=>(bif I then(Ae j q).bind fun J=>some J.Content.N else k2 (Ag (q+1)))else some 0)
def aeB (m:AX) (j:ByteArray):Int→Option Int:=bg (aM3 m j) Af
def rP (m:AX) (j:ByteArray):Option Int:=aeB m j 0
def ZF (j:Int) (q:Int) (m:Bool):Option Bool:=(bif decide (j<0)then some true else some (decide (j>4))).bind fun Y=>(bif Y then some false else(bif (q==3)then(bif m then some (j != 4)else some false).bind fun Z=>some Z else(bif (q==0)then(bif (j==1)then some true else some (j==2)).bind fun x8=>(bif x8 then some true else some (j==3)).bind fun u=>(bif u then some true else(bif (j==4)then some (!m)else some false).bind fun z=>some z).bind fun I=>some I else(bif (q==2)then(bif m then(bif (j==0)then some true else some (j==2)).bind fun J=>some J else some false).bind fun L=>some L else(bif (q==1)then(bif (!m)then(bif (j==0)then some true else some (j==2)).bind fun M=>(bif M then some true else some (j==1)).bind fun O=>some O else some false).bind fun U=>some U else(bif (q==4)then some (!m)else some false))))))
def aKb (j:AX) (k2:(Int→Option (Int×FV))):Int→Option (Int×FV):=fun m=>(bif decide (m<(j.length:Int))then(Ae j m).bind fun q=>(bif (q.Kind==4)then(Ae j m).bind fun u=>(Ae j m).bind fun z=>(Bz 16 [] z.Content.Allow).bind fun I=>some (u.Content.N,I)else k2 (Ag (m+1)))else some (0,[]))
def abu (j:AX):Int→Option (Int×FV):=bg (aKb j) Af
def aKx (j:AX):Option (Int×FV):=abu j 0
def aNu (j:Int) (m:Int):Option Int:=(bif (m==3)then some true else some (j==1)).bind fun q=>(bif q then some 0 else(bif (m==1)then(bif (j==0)then some true else some (j==2)).bind fun u=>(bif u then some true else some (j==3)).bind fun z=>some z else some false).bind fun I=>(bif I then some 0 else some 21))
def aGd (m:Int) (j:Int):Option Int:=(bif (m==2)then(bif (j==0)then some true else some (j==2)).bind fun q=>some q else some false).bind fun u=>(bif u then some 0 else some 21)
def aM1 (m:AB) (q:AX) (j:Int):Option Int:=(aKx q).bind fun u=>(bif (m.Content.N==3)then(aNu u.1 j).bind fun z=>some z else(bif (m.Content.N==2)then(aGd u.1 j).bind fun I=>some I else some 0))
def aOa (j:AB) (q:AX) (m:Int):Option Int:=(rP q j.aP).bind fun Y=>(bif (Y != 3)then some 18 else(ql q).bind fun u=>(Uz u.1 j.aP).bind fun z=>(Uz u.1 j.Key).bind fun U=>(bif (j.Content.N==1)then some (decide (z<u.1.fQ))else some false).bind fun Z=>(bif Z then some 20 else(bif (j.Content.N==0)then(bif (m==4)then some (decide (z<u.1.mY))else some false).bind fun I=>(bif I then some true else some (decide (z<u.1.jK))).bind fun J=>(bif J then some true else some (decide (U≥z))).bind fun L=>some L else some false).bind fun x9=>(bif x9 then some 20 else(bif (j.Content.N==4)then(bif decide (z<u.1.mY)then some true else some (decide (U≥z))).bind fun M=>some M else some false).bind fun O=>(bif O then some 20 else some 0))))
def aHq (j:AB) (m:AX):Option Int:=(aNa j m).bind fun I=>(bif I then some 0 else(rP m j.Key).bind fun q=>(bif (j.Key.toList==j.aP.toList)then some (q==4)else some false).bind fun J=>(bif J then some 19 else(ZF q j.Content.N (j.Key.toList==j.aP.toList)).bind fun L=>(bif (!L)then some 18 else(bif (j.Key.toList==j.aP.toList)then(aM1 j m q).bind fun u=>some u else(aOa j m q).bind fun z=>some z))))
def aLT (j:Bd) (m:Int) (k2:(Int→Option Int)):Int→Option Int:=fun q=>(bif decide (q<(j.Kinds.length:Int))then(Ae j.Kinds q).bind fun u=>(bif (u.Kind==m)then(Ae j.Kinds q).bind fun z=>some z.N else k2 (Ag (q+1)))else(Ui m).bind fun I=>(bif I then some j.State else some j.Message))
def acz (j:Bd) (m:Int):Int→Option Int:=bg (aLT j m) Af
def uo (j:Bd) (m:Int):Option Int:=acz j m 0
def aMP (j:Bd):Option AL:=some [j.User,j.Message,j.State,j.fQ,j.jK,j.mY,j.fC]
def tZ (j:Int) (q:Int) (m:Int):Option Bool:=(bif (j==q)then some true else(bif decide (j≤m)then some (decide (q≤m))else some false).bind fun u=>some u).bind fun z=>some z
def rG (m:Bd) (u:Bd) (q:ByteArray) (j:ByteArray):Option Bool:=(Uz m j).bind fun I=>(Uz m q).bind fun z=>(Uz u q).bind fun J=>(tZ z J I).bind fun L=>(bif L then(bif (z==J)then some true else some (q.toList==j.toList)).bind fun M=>(bif M then some true else some (decide (z<I))).bind fun O=>some O else some false).bind fun U=>some U
def aIS (j:Bd) (m:Bd) (M:Int) (u:(Int→Option Int)) (z:Int) (q:Int):Option Int:=(uo j q).bind fun I=>(uo m q).bind fun J=>(tZ I J M).bind fun L=>(bif (!L)then some 20 else u (Ag (z+1)))
def aNP (j:Bd) (q:Bd) (m:ByteArray) (z:(Int→Option Int)):Int→Option Int:=fun u=>(bif decide (u<(j.Users.length:Int))then(Ae j.Users u).bind fun I=>(rG q j I.User m).bind fun J=>(bif (!J)then some 20 else z (Ag (u+1)))else some 0)
def aMu (m:Bd) (q:Bd) (j:ByteArray):Int→Option Int:=bg (aNP m q j) Af
def aHv (j:Bd) (q:Bd) (m:ByteArray) (z:(Int→Option Int)):Int→Option Int:=fun u=>(bif decide (u<(j.Users.length:Int))then(Ae j.Users u).bind fun I=>(rG j q I.User m).bind fun J=>(bif (!J)then some 20 else z (Ag (u+1)))else aMu q j m 0)
def aL7 (m:Bd) (q:Bd) (j:ByteArray):Int→Option Int:=bg (aHv m q j) Af
def aOn (j:Bd) (m:Bd) (L:Int) (u:ByteArray) (z:(Int→Option Int)):Int→Option Int:=fun q=>(bif decide (q<(Ag ((j.Kinds.length:Int)+(m.Kinds.length:Int))))then(bif decide (q<(j.Kinds.length:Int))then(Ae j.Kinds q).bind fun I=>aIS j m L z q I.Kind else(Ae m.Kinds (Ag (q-(j.Kinds.length:Int)))).bind fun J=>aIS j m L z q J.Kind)else aL7 j m u 0)
def aFE (m:Bd) (q:Bd) (u:Int) (j:ByteArray):Int→Option Int:=bg (aOn m q u j) Af
def aNb (z:AL) (J:AL) (I:Int) (m:Bd) (q:Bd) (j:ByteArray) (L:(Int→Option Int)):Int→Option Int:=fun u=>(bif decide (u<(z.length:Int))then(Ae z u).bind fun M=>(Ae J u).bind fun O=>(tZ M O I).bind fun U=>(bif (!U)then some 20 else L (Ag (u+1)))else aFE m q I j 0)
def aSS (u:AL) (z:AL) (I:Int) (m:Bd) (q:Bd) (j:ByteArray):Int→Option Int:=bg (aNb u z I m q j) Af
def aJm (j:Bd) (q:Bd) (m:ByteArray):Option Int:=(Uz j m).bind fun u=>(aMP j).bind fun z=>(aMP q).bind fun I=>aSS z I u j q m 0
def aJY (j:AB) (m:AX):Option Int:=(ql m).bind fun q=>(Uz q.1 j.aP).bind fun u=>(uo q.1 j.Kind).bind fun z=>(bif decide (u<z)then some 20 else(bif (j.Kind==3)then(aJm q.1 j.Content.Levels j.aP).bind fun I=>some I else some 0))
def aLl (j:Bool):Option Int:=(bif j then some 0 else some 17)
def xG (j:AB) (m:AX):Option Int:=(aDJ m).bind fun I=>(bif (j.Kind==1)then(bif (!I.2)then(um j.aP).bind fun J=>(um j.Room).bind fun L=>aLl (J.toList==L.toList)else aLl false)else(bif (!I.2)then some 17 else(bif (j.Kind==2)then(aHq j m).bind fun q=>some q else(rP m j.aP).bind fun u=>(bif (u != 3)then some 18 else(aJY j m).bind fun z=>some z))))
def aJZ (q:Int) (m:ByteArray) (u:Int) (j:ByteArray):Option Bool:=(bif decide (q<u)then some true else(bif (q==u)then some (Op.bytesLess (m.toList) (j.toList))else some false).bind fun z=>some z).bind fun I=>some I
def aIa (j:Aq) (q:Aq) (u:Int):Option Aq:=(Hg j u ((j).length)).bind fun z=>(Bz 32 q z).bind fun m=>some m
def aH (k2:(Int→Option Aq)) (u:Int) (j:Aq) (q:Int) (m:ByteArray) (z:Int) (U:Bool):Option Aq:=(bif U then k2 (Ag (u+1))else(Hg j 0 u).bind fun Y=>(Bz 32 [] Y).bind fun Z=>(Bz 32 Z [(⟨q,m,z⟩:Ah)]).bind fun O=>(bif decide (u<(j.length:Int))then(Ae j u).bind fun I=>some (I.Kind==q)else some false).bind fun J=>(bif J then(Ae j u).bind fun L=>some (L.Key.toList==m.toList)else some false).bind fun M=>(bif M then aIa j O (Ag (u+1))else aIa j O u))
def aMN (m:Aq) (q:Int) (j:ByteArray) (u:Int) (k2:(Int→Option Aq)):Int→Option Aq:=fun z=>(bif decide (z<(m.length:Int))then(Ae m z).bind fun I=>(Ae m z).bind fun J=>(aJZ I.Kind J.Key q j).bind fun L=>aH k2 z m q j u L else aH k2 z m q j u false)
def aS5 (q:Aq) (u:Int) (j:ByteArray) (m:Int):Int→Option Aq:=bg (aMN q u j m) Af
def jD (q:Aq) (u:Int) (j:ByteArray) (m:Int):Option Aq:=aS5 q u j m 0
def aK2 (j:(Aq→Int→Option Aq)) (m:Int) (q:Aq):Option Aq:=j q (Ag (m+1))
def aE7 (u:Aq) (j:(AB×Bool)) (z:(Aq→Int→Option Aq)) (I:Int) (m:Bool):Option Aq:=(bif m then(jD u j.1.Kind j.1.Key j.1.Id).bind fun q=>aK2 z I q else aK2 z I u)
def aGm (j:AL) (m:AX) (I:(Aq→Int→Option Aq)):Aq→Int→Option Aq:=fun u z=>(bif decide (z<(j.length:Int))then(Ae j z).bind fun O=>(LP m O).bind fun q=>(bif q.2 then(Ui q.1.Kind).bind fun J=>(bif J then(aHh m u q.1).bind fun L=>(xG q.1 L).bind fun M=>aE7 u q I z (M==0)else aE7 u q I z false)else aE7 u q I z false)else some u)
def aay (j:AL) (m:AX):Aq→Int→Option Aq:=aQ (aGm j m) Af
def jl (m:AX) (q:Aq) (j:AL):Option Aq:=(Bz 32 [] q).bind fun u=>aay j m u 0
def aMt (j:AB) (m:AX) (k2:(Int→Option (Int×Bool))):Int→Option (Int×Bool):=fun q=>(bif decide (q<(j.bD.length:Int))then(Ae j.bD q).bind fun z=>(LP m z).bind fun u=>(bif u.2 then some (u.1.Kind==3)else some false).bind fun I=>(bif I then(Ae j.bD q).bind fun J=>some (J,true)else k2 (Ag (q+1)))else some (0,false))
def acs (j:AB) (m:AX):Int→Option (Int×Bool):=bg (aMt j m) Af
def aHw (j:AX) (m:AB):Option (Int×Bool):=acs m j 0
def YT (j:AX) (L:(AL→Int→Int→Option AL)):AL→Int→Int→Option AL:=fun u z I=>(bif decide (I<(j.length:Int))then(LP j z).bind fun J=>(bif (!J.2)then some true else(UY u z).bind fun M=>some M).bind fun O=>(bif O then some u else(Bz 8 u [z]).bind fun m=>(aHw j J.1).bind fun q=>(bif (!q.2)then some m else L m q.1 (Ag (I+1))))else some u)
def aSl (j:AX):AL→Int→Int→Option AL:=ku (YT j) Af
def zu (m:AX) (j:Int):Option AL:=aSl m [] j 0
def aJM (j:AL) (m:Int) (k2:(Int→Option Int)):Int→Option Int:=fun q=>(bif decide (q<(j.length:Int))then(Ae j q).bind fun u=>(bif (u==m)then some q else k2 (Ag (q+1)))else some (j.length:Int))
def ade (j:AL) (m:Int):Int→Option Int:=bg (aJM j m) Af
def aN1 (j:AL) (m:Int):Option Int:=ade j m 0
def aOe (q:AL) (j:AL) (u:(Int→Option Int)):Int→Option Int:=fun m=>(bif decide (m<(q.length:Int))then(Ae q m).bind fun z=>(UY j z).bind fun I=>(bif I then(Ae q m).bind fun J=>(aN1 j J).bind fun L=>some L else u (Ag (m+1)))else some (j.length:Int))
def aTX (m:AL) (j:AL):Int→Option Int:=bg (aOe m j) Af
def aBW (q:AX) (j:AL) (m:Int):Option Int:=(zu q m).bind fun u=>aTX u j 0
def aNw (m:AX) (j:AL) (q:Int) (u:Int):Option Bool:=(aBW m j q).bind fun z=>(aBW m j u).bind fun I=>(bif (z != I)then some (decide (z>I))else(LP m q).bind fun J=>(LP m u).bind fun L=>(bif (J.1.Time != L.1.Time)then some (decide (J.1.Time<L.1.Time))else some (decide (q<u))))
def aEe (j:(AL→Int→Option AL)) (m:Int) (q:AL):Option AL:=j q (Ag (m+1))
def aAA (q:(Int→Option AL)) (m:Int) (u:AL) (j:AL) (Y:Int) (Z:(AL→Int→Option AL)) (z:Bool):Option AL:=(bif z then q (Ag (m+1))else(Hg u m ((u).length)).bind fun I=>(Bz 8 [] I).bind fun J=>(Hg u 0 m).bind fun L=>(Ae j Y).bind fun M=>(Bz 8 L [M]).bind fun O=>(Bz 8 O J).bind fun U=>aEe Z Y U)
def aJt (I:AL) (j:AL) (J:Int) (u:AX) (m:AL) (U:(AL→Int→Option AL)) (z:(Int→Option AL)):Int→Option AL:=fun q=>(bif decide (q<(I.length:Int))then(Ae I q).bind fun L=>(Ae j J).bind fun M=>(aNw u m L M).bind fun O=>aAA z q I j J U O else aAA z q I j J U false)
def abb (u:AL) (m:AL) (z:Int) (q:AX) (j:AL) (I:(AL→Int→Option AL)):Int→Option AL:=bg (aJt u m z q j I) Af
def aM4 (j:AL) (q:AX) (m:AL) (L:(AL→Int→Option AL)):AL→Int→Option AL:=fun z u=>(bif decide (u<(j.length:Int))then(Ae j u).bind fun M=>(LP q M).bind fun O=>(bif (!O.2)then some true else(Ae j u).bind fun I=>(UY z I).bind fun J=>some J).bind fun U=>(bif U then aEe L u z else abb z j u q m L 0)else some z)
def aQ7 (m:AL) (q:AX) (j:AL):AL→Int→Option AL:=aQ (aM4 m q j) Af
def aMe (q:AX) (j:AL) (m:AL):Option AL:=aQ7 m q j [] 0
def aOx  (q:(Int→Oy→Option Oy)):Int→Oy→Option Oy:=fun m j=>(bif decide (m<(j.Same.length:Int))then(Ae j.Same m).bind fun u=>(Ae j.Same m).bind fun z=>(Ae j.Same m).bind fun I=>(jD j.Last u.Kind z.Key I.Id).bind fun J=>q (Ag (m+1)) ({ j with Last:=J })else some j)
def acy  :Int→Oy→Option Oy:=aQ (aOx) Af
def aBF (I:AL) (J:AL) (j:AX) (m:(Aq×AL)) (q:AL) (u:Aq) (L:AL):Option Oy:=(gW I J).bind fun M=>(aMe j L M).bind fun z=>(jl j (({ { { { gQ with Same:=m.1 }with Power:=q }with First:=u }with Others:=z }).First) (({ { { { gQ with Same:=m.1 }with Power:=q }with First:=u }with Others:=z }).Others)).bind fun O=>acy 0 ({ Same:=m.1,Power:=q,First:=u,Others:=z,Last:=O }:Oy)
def aKw (j:AX) (m:FK):Option Oy:=(aCO m).bind fun q=>(aMY j m).bind fun I=>(aMV j I).bind fun J=>(aJO j J).bind fun u=>(jl j (({ { gQ with Same:=q.1 }with Power:=u }).Same) (({ { gQ with Same:=q.1 }with Power:=u }).Power)).bind fun L=>(xX (({ { { gQ with Same:=q.1 }with Power:=u }with First:=L }).First) 3 Bc).bind fun z=>(bif z.2 then(zu j z.1).bind fun M=>aBF I J j q u L M else aBF I J j q u L [])
def aLt (m:AX) (j:FK):Option Aq:=(bif ((j.length:Int)==0)then some []else(bif ((j.length:Int)==1)then(Ae j 0).bind fun q=>some q else(aKw m j).bind fun u=>some u.Last))
def sO (j:Aq) (q:Int) (m:ByteArray) (k2:(Int→Option Bool)):Int→Option Bool:=fun u=>(bif decide (u<(j.length:Int))then(Ae j u).bind fun z=>(bif (z.Kind==q)then(Ae j u).bind fun I=>some (I.Key.toList==m.toList)else some false).bind fun J=>(bif J then some true else k2 (Ag (u+1)))else some false)
def aNK (m:Aq) (q:Int) (j:ByteArray):Int→Option Bool:=bg (sO m q j) Af
def dO (m:Aq) (q:Int) (j:ByteArray):Option Bool:=aNK m q j 0
def aEM (L:AX) (j:Int) (m:Aq) (q:(Aq→Int→Option Int)) (u:Bool):Option Int:=(bif u then some 16 else(Ae L j).bind fun z=>(Ae L j).bind fun I=>(Bz 32 m [(⟨z.Kind,I.Key,0⟩:Ah)]).bind fun J=>q J (Ag (j+1)))
def aIp (q:AX) (I:Aq) (u:AB) (z:(Aq→Int→Option Int)):Aq→Int→Option Int:=fun m j=>(bif decide (j<(q.length:Int))then(Ae q j).bind fun J=>(Ae q j).bind fun L=>(dO I J.Kind L.Key).bind fun M=>(bif (!M)then aEM q j m z true else(Ae q j).bind fun O=>(Ae q j).bind fun U=>(dO m O.Kind U.Key).bind fun Y=>aEM q j m z Y)else(bif (u.Kind != 1)then(dO m 1 Bc).bind fun Z=>some (!Z)else some false).bind fun x31=>(bif x31 then some 16 else some 0))
def aHd (q:AX) (m:Aq) (j:AB):Aq→Int→Option Int:=aQ (aIp q m j) Af
def aIV (m:AX) (j:AB) (I:(Int→Option Int)):Int→Option Int:=fun q=>(bif decide (q<(m.length:Int))then(Ae m q).bind fun u=>(bif (!(u.Room.toList==j.Room.toList))then some 13 else I (Ag (q+1)))else(wS j).bind fun z=>aHd m z j [] 0)
def aKI (m:AX) (j:AB):Int→Option Int:=bg (aIV m j) Af
def aJH (j:AB) (m:AX) (k2:(Int→Option Int)):Int→Option Int:=fun q=>(bif decide (q<(j.bD.length:Int))then(Ae j.bD q).bind fun u=>(LP m u).bind fun z=>(bif (!z.2)then some 14 else k2 (Ag (q+1)))else(yN m j.bD).bind fun I=>aKI I j 0)
def acX (j:AB) (m:AX):Int→Option Int:=bg (aJH j m) Af
def aOg (j:AX) (m:AB):Option Int:=acX m j 0
def aIP (j:(AX→Int→Option AX)) (m:Int) (q:AX):Option AX:=j q (Ag (m+1))
def aIy (j:Aq) (m:AX) (I:(AX→Int→Option AX)):AX→Int→Option AX:=fun u q=>(bif decide (q<(j.length:Int))then(Ae j q).bind fun L=>(LP m L.Id).bind fun J=>(bif J.2 then(Bz 376 u [J.1]).bind fun z=>aIP I q z else aIP I q u)else some u)
def aSw (j:Aq) (m:AX):AX→Int→Option AX:=aQ (aIy j m) Af
def aOM (j:AX) (m:Aq):Option AX:=aSw m j [] 0
def ajx (j:GX) (m:Int) (u:(Int→JK→Option (JK×Bool))):Int→JK→Option (JK×Bool):=fun q z=>(bif decide (q<(j.length:Int))then(Ae j q).bind fun I=>(bif (I.Id==m)then(Ae j q).bind fun J=>some (J,true)else u (Ag (q+1)) z)else some (kW,false))
def ak1 (m:GX) (j:Int):Int→JK→Option (JK×Bool):=aQ (ajx m j) Af
def aMg (m:GX) (j:Int):Option (JK×Bool):=ak1 m j 0 kW
def aJv (j:(Int→Int→Option Int)) (m:Int) (q:Int):Option Int:=j q (Ag (m+1))
def aMR (m:AB) (q:GX) (u:AX) (j:Aq) (U:(Int→Int→Option Int)):Int→Int→Option Int:=fun z I=>(bif decide (I<(m.bD.length:Int))then(Ae m.bD I).bind fun Y=>(aMg q Y).bind fun J=>(bif (z==0)then some (J.1.Err != 0)else some false).bind fun L=>(bif L then aJv U I 16 else aJv U I z)else(bif (z != 0)then some z else(aOM u j).bind fun M=>(xG m M).bind fun O=>some O))
def aRb (m:AB) (q:GX) (u:AX) (j:Aq):Int→Int→Option Int:=aQ (aMR m q u j) Af
def aA6 (m:AB) (q:GX) (u:AX) (j:Aq) (z:Int):Option Int:=aRb m q u j z 0
def zG (q:AX) (u:GX) (m:AB) (j:Aq):Option Int:=(aOg q m).bind fun J=>(bif (J==0)then(aBw q m).bind fun z=>(xG m z).bind fun I=>aA6 m u q j I else aA6 m u q j J)
def aDX (u:(GX→Int→Option GX)) (z:Int) (j:GX) (m:JK):Option GX:=(Bz 64 j [m]).bind fun q=>u q (Ag (z+1))
def zM (u:AX) (z:(AB×Bool)) (M:(GX→Int→Option GX)) (O:Int) (q:GX) (j:JK):Option GX:=(zG u q z.1 j.Before).bind fun m=>(bif ((({ { j with Err:=m }with After:=({ j with Err:=m }).Before }).Err)==0)then(Ui z.1.Kind).bind fun I=>some I else some false).bind fun J=>(bif J then(jD (({ { j with Err:=m }with After:=({ j with Err:=m }).Before }).Before) z.1.Kind z.1.Key z.1.Id).bind fun L=>aDX M O q ({ { { j with Err:=m }with After:=({ j with Err:=m }).Before }with After:=L })else aDX M O q ({ { j with Err:=m }with After:=({ j with Err:=m }).Before }))
def aNE (q:(AB×Bool)) (j:AX) (U:(GX→Int→Option GX)) (Y:Int) (u:(FK→Int→GX→Option GX)):FK→Int→GX→Option GX:=fun z I m=>(bif decide (I<(q.1.bC.length:Int))then(Ae q.1.bC I).bind fun J=>(aMg m J).bind fun L=>(Bz 24 z [L.1.After]).bind fun M=>u M (Ag (I+1)) m else(bif decide ((z.length:Int)>0)then(aLt j z).bind fun O=>zM j q U Y m ({ (⟨q.1.Id,[],[],0⟩:JK)with Before:=O })else zM j q U Y m (⟨q.1.Id,[],[],0⟩:JK)))
def aTY (m:(AB×Bool)) (j:AX) (q:(GX→Int→Option GX)) (u:Int):FK→Int→GX→Option GX:=ku (aNE m j q u) Af
def aOs (q:AL) (j:AX) (z:(GX→Int→Option GX)):GX→Int→Option GX:=fun u m=>(bif decide (m<(q.length:Int))then(Ae q m).bind fun I=>(LP j I).bind fun J=>aTY J j z m [] 0 u else some u)
def adv (m:AL) (j:AX):GX→Int→Option GX:=aQ (aOs m j) Af
def aPl (j:AX):Option GX:=(aMl j).bind fun m=>adv m j [] 0
def aKQ (j:AX):Option GX:=(aeU j).bind fun m=>(bif (!m)then some []else(aPl j).bind fun q=>some q)
def aJl (j:AL) (m:AL) (u:(Int→Option Bool)):Int→Option Bool:=fun q=>(bif decide (q<(j.length:Int))then(Ae j q).bind fun z=>(Ae m q).bind fun I=>(bif (z != I)then some false else u (Ag (q+1)))else some true)
def aUq (j:AL) (m:AL):Int→Option Bool:=bg (aJl j m) Af
def wG (j:AL) (m:AL):Option Bool:=(bif ((j.length:Int) != (m.length:Int))then some false else aUq j m 0)
def aa7 (eX fF r) (h:wG eX fF=some r):BG 77 [Bl eX,Bl fF] [] (Ai r) []:=Am.aN Tryz.func77 rfl<|AZ<|Ac<|AO<|.a 1<|.p (BN Aa eX CQ rfl)<|.a 1<|.p (BN Aa fF CQ rfl)<|.aW<|BM h CP fun h=>Ac<|AZ<|AP.block<|En (fun u=>⟨BH 26 [(0,Bl eX),(1,Bl fF),(5,AV u)],[],0⟩) _ _ _ (Ad 26 35 []) h<|fun z I j u h=>Ac<|AO<|.a 2<|.p (BN Aa eX CQ rfl)<|.aW<|CB h (fun h=>Ac<|AP.block<|DJ h fun J m L q h=>Gt A8 A8 A8 (.a 2<|.p (BQ Aa m CQ DX rfl)<|.a 3<|.p (BQ Aa q CQ DX rfl)<|.a 2<|.nil _)<|BM h CP fun h=>Aw<|.a 3<|aPY) fun h=>Gf
def aA4 (j:AB) (m:AB):Option Bool:=(bif (j.Id==m.Id)then some (j.Room.toList==m.Room.toList)else some false).bind fun x1=>(bif x1 then some (j.aP.toList==m.aP.toList)else some false).bind fun x3=>(bif x3 then some (j.Kind==m.Kind)else some false).bind fun x5=>(bif x5 then some (j.State==m.State)else some false).bind fun x7=>(bif x7 then some (j.Key.toList==m.Key.toList)else some false).bind fun x9=>(bif x9 then some (j.Time==m.Time)else some false).bind fun q=>(bif q then some (j.Depth==m.Depth)else some false).bind fun u=>(bif u then(wG j.bC m.bC).bind fun z=>some z else some false).bind fun I=>(bif I then(wG j.bD m.bD).bind fun J=>some J else some false).bind fun L=>(bif L then(St j.Content m.Content).bind fun M=>some M else some false).bind fun O=>(bif O then some (j.Hash==m.Hash)else some false).bind fun U=>(bif U then some (j.qc.Server.toList==m.qc.Server.toList)else some false).bind fun Y=>(bif Y then some (j.qc.Sum==m.qc.Sum)else some false).bind fun Z=>some Z
def atH (eX fF r) (h:aA4 eX fF=some r):BG 44 [EP eX,EP fF] [] (Ai r) []:=Am.aN Tryz.func44 rfl<|AZ<|AO<|.a 5<|AU h fun x1 Y h=>.mg 10 6 (Ai x1) (.bi Y)<|.a 1<|AU h fun x3 Z h=>.mg 18 5 (Ai x3) (Di Z)<|.a 1<|AU h fun x5 hx5 h=>.mg 25 5 (Ai x5) (Di hx5)<|.a 1<|AU h fun x7 hx7 h=>.mg 32 5 (Ai x7) (Di hx7)<|.a 1<|AU h fun x9 DI h=>.mg 39 5 (Ai x9) (Di DI)<|.a 1<|AU h fun x11 j h=>.mg 46 5 (Ai x11) (Di j)<|.a 1<|AU h fun CG m h=>.mg 53 5 (Ai CG) (Di m)<|.a 1<|AU h fun x15 q h=>.mg 60 5 (Ai x15) (Di q (fun e i=>by subst e;have h:=i;exact AU h fun x17 u h=>.a 4<|.ca (aa7 eX.bC fF.bC x17 u)<|.aW<|Dx))<|.a 1<|AU h fun x18 z h=>.mg 67 5 (Ai x18) (Di z (fun e i=>by subst e;have h:=i;exact AU h fun SC I h=>.a 4<|.ca (aa7 eX.bD fF.bD SC I)<|.aW<|Dx))<|.a 1<|AU h fun x21 J h=>.mg 74 5 (Ai x21) (Di J (fun e i=>by subst e;have h:=i;exact AU h fun x23 L h=>.a 4<|.ca (arH eX.Content fF.Content x23 L)<|.aW<|Dx))<|.a 1<|AU h fun x24 M h=>.mg 81 5 (Ai x24) (Di M)<|.a 1<|AU h fun Vz O h=>.mg 88 7 (Ai Vz) (Di O)<|.a 1<|AU h fun x28 U h=>.mg 97 7 (Ai x28) (Di U)<|.aW<|Cj
def aKy (j:AX) (m:AX) (u:(Int→Option Bool)):Int→Option Bool:=fun q=>(bif decide (q<(j.length:Int))then(Ae j q).bind fun z=>(Ae m q).bind fun I=>(aA4 z I).bind fun J=>(bif (!J)then some false else u (Ag (q+1)))else some true)
def aUU (j:AX) (m:AX):Int→Option Bool:=bg (aKy j m) Af
def aCs (j:AX) (m:AX):Option Bool:=(bif ((j.length:Int) != (m.length:Int))then some false else aUU j m 0)
def ajH (eX fF r) (h:aCs eX fF=some r):BG 19 [BL eX,BL fF] [] (Ai r) []:=Am.aN Tryz.func19 rfl<|AZ<|Ac<|AO<|.a 1<|.p (BN BA eX Ce rfl)<|.a 1<|.p (BN BA fF Ce rfl)<|.aW<|BM h CP fun h=>Ac<|AZ<|AP.block<|En (fun z=>⟨BH 27 [(0,BL eX),(1,BL fF),(5,AV z)],[],0⟩) _ _ _ (Ad 27 35 []) h<|fun M O j z h=>Ac<|AO<|.a 2<|.p (BN BA eX Ce rfl)<|.aW<|CB h (fun h=>Ac<|AP.block<|UL h fun I m J q L u h=>Gt A8 A8 A8 (.a 2<|.p (BQ BA m Ce Dj rfl)<|.a 3<|.p (BQ BA q Ce Dj rfl)<|.a 1<|.ca (atH I J L u)<|.a 1<|.nil _)<|BM h CP fun h=>Aw<|.a 3<|.nil<|j _ _ (Ad 27 35 []) h) fun h=>Gf
def aPd (j:AX) (O:(AL→Int→(List (Int×Aq))→(List (Int×Aq))→(List (Int×Int))→Option AL)):AL→Int→(List (Int×Aq))→(List (Int×Aq))→(List (Int×Int))→Option AL:=fun I m J L M=>(bif decide (m<(j.length:Int))then(Ae j m).bind fun q=>(sB J L M q.Id).bind fun u=>(Bz 8 I [u]).bind fun z=>O z (Ag (m+1)) J L M else some I)
def aNI (j:AX):AL→Int→(List (Int×Aq))→(List (Int×Aq))→(List (Int×Int))→Option AL:=BR (aPd j) Af
def Xf (j:AX):Option AL:=(dB j).bind fun q=>bV q (some []) fun m=>aNI j [] 0 m.1 m.2.1 m.2.2
def aKz (ay r) (h:Xf ay=some r):BG 22 [BL ay] [] (.aZ 0) [.arr 55 1 (List.map Aa r)]:=Am.aN Tryz.func22 rfl<|AO<|.f (D6 55 1 rfl)<|.bJ<|AU h fun Z m h=>by cases Z with |none=>exact(have h:=aGP h;AO<|.a 1<|.ca (Xz ay none m)<|.aW<|Ac<|AO<|.a 1<|.p (x:=(Ai true)) (aB1 A8 rfl)<|.bJ<|Ql A8<|AO<|.f (D6 55 1 rfl)<|.bJ<|V5)|some y2=>exact(have h:=aG7 h;AO<|.a 1<|.f (x:=.ptr 1 0) (ER [] [BL ay] (Xz ay (some y2) m) rfl)<|.aW<|Ac<|AO<|.a 1<|.p (x:=(Ai false)) (aEV (k:=1) (off:=0) A8 rfl)<|.bJ<|NM A8<|AP.skip<|AO<|.f (D6 55 1 rfl)<|.bJ<|Ac<|AO<|.a 1<|.p (BN BA ay Ce rfl)<|.aW<|AP.block<|aA1 (fun U Y J L M=>⟨BH 27 [(0,BL ay),(3,.ptr 0 0),(4,.aZ 4),(11,AV (ay.length:Int)),(12,AV Y)],[.box [.mp 1,.mp 2,.mp 3],.eY (List.map (BX Bq (BF BP)) J),.eY (List.map (BX Bq (BF BP)) L),.eY (List.map (BX Bq Aa) M),.arr 55 1 (List.map Aa U)],0⟩) _ _ _ _ _ _ _ (Ad 27 6169 [(1,true),(2,true),(3,true),(4,true),(5,true)]) h<|fun J13 k8 O U Y J L M h=>AZ<|Ac<|CB h (fun h=>Ac<|AP.block<|AZ<|UL h fun q u j z x12 I h=>Aw<|.a 4<|.p (BQ BA u Ce Dj rfl)<|.a 2<|.f (x:=(AV j)) (ER [.ent 0,.ent 1,.ent 2,.ent 3] [.ptr 0 0,AV q.Id] (aTI J L M q.Id j z) rfl (hE:=Xr))<|.p (ED aTC aTy [Aa j] rfl)<|.f (El (k:=4) Aa I aTC A8 (fun _=>rfl) BJ rfl)<|.a 1<|.nil<|Aw<|.a 2<|.nil<|O _ _ _ _ _ _ (Ad 27 6169 [(0,true),(1,true),(2,true),(3,true),(5,true)]) h) fun h=>AP.exit<|AZ<|aPU)
def pG (m:(AX→Int→Option Bool)) (q:Int) (j:AX):Option Bool:=m j (Ag (q+1))
def qm (j:(Bool→Int→Option Bool)) (m:Int) (q:Bool):Option Bool:=j q (Ag (m+1))
def wW (m:AL) (I:AL) (q:Int) (J:(Int→Option Bool)) (u:(Bool→Int→Option Bool)):Bool→Int→Option Bool:=fun z j=>(bif decide (j<(m.length:Int))then(bif z then qm u j true else(Ae m j).bind fun L=>(Ae I q).bind fun M=>qm u j (L==M))else(bif (!z)then some false else J (Ag (q+1))))
def aPK (j:AL) (m:AL) (q:Int) (u:(Int→Option Bool)):Bool→Int→Option Bool:=aQ (wW j m q u) Af
def zf (j:AL) (q:AL) (u:(Int→Option Bool)):Int→Option Bool:=fun m=>(bif decide (m<(j.length:Int))then aPK q j m u false 0 else(YW).bind fun z=>some z)
def aJL (j:AL) (m:AL):Int→Option Bool:=bg (zf j m) Af
def aB8 (j:AX) (m:Int) (O:(AX→Int→Option Bool)):AX→Int→Option Bool:=fun u q=>(bif decide (q<(j.length:Int))then(Ae j q).bind fun z=>(bif decide (z.Depth≤m)then(Ae j q).bind fun I=>(Bz 376 u [I]).bind fun J=>pG O q J else pG O q u)else(Qj u).bind fun L=>(Qj j).bind fun M=>aJL L M 0)
def abS (m:AX) (j:Int):AX→Int→Option Bool:=aQ (aB8 m j) Af
def aDn (j:AX) (m:Int):Option Bool:=(aU j 14).bind fun q=>(bif q then some true else(Xf j).bind fun u=>some ((u.length:Int) != (j.length:Int))).bind fun z=>(bif z then(YW).bind fun I=>some I else abS j m [] 0)
def aqI (ay afV r) (h:aDn ay afV=some r):BG 6 [BL ay,AV afV] [] (Ai r) []:=by
 refine Am.aN Tryz.func6 rfl ?_;unfold aDn at h;refine AZ<|Ac ?_;obtain⟨x1,hx1,h⟩:=CY h;refine AO<|.a 1<|.ca (aNi ay 14 x1 hx1)<|.a 1<|?_;obtain⟨x2,hx2,h⟩:=CY h;refine .mg 15 6 (Ai x2) ?_ ?_
 ·replace h:=hx2;cases x1 with
  |true=>
   replace h:=dK rfl h;refine .aM 7 ?_;obtain rfl:=Cx h;kernel_rfl
  |false=>
   replace h:=Zx rfl h;obtain⟨x4,hx4,h⟩:=CY h;refine .a 1<|.ca (aKz ay x4 hx4).view<|.p (BN Aa x4 iU rfl)<|.a 1<|.p (BN BA ay Ce rfl)<|.aM 2 ?_;obtain rfl:=Cx h;kernel_rfl
 refine .bJ<|Dn h (fun h=>?_) fun h=>?_
 ·obtain⟨x6,hx6,h⟩:=CY h;refine AO<|.ca (lW  x6 hx6)<|.aM 1 ?_;rw[←Cx h];exact .ret (F5 [])
 refine AP.skip<|AO<|.f (D6 35 29 rfl)<|.bJ<|Ac<|AZ<|AP.block ?_;refine EW (fun L v8=>⟨BH 74 [(0,BL ay),(1,AV afV),(5,.aZ 0),(6,AV v8)],[(Hu L)],0⟩) _ _ _ _ (Ad 74 99 [(0,true)]) h ?_;clear h;intro J35 k9 hk9 L v8 h;unfold aB8 at h;refine Ac<|AO<|.a 2<|.p (BN BA ay Ce rfl)<|.aW<|Dn h (fun h=>?_) fun h=>?_
 ·refine AP.skip ?_;refine DN (fun s=>∃(z:(List AB)),CS s ⟨BH 74 [(0,BL ay),(1,AV afV),(5,.aZ 0),(6,AV v8)],[(Hu z)],0⟩∧pG k9 v8 z=some r) ?_ ?_
  ·clear h;rintro s ⟨z,hs,h⟩;refine Cm hs ?_;clear hs;unfold pG at h;refine Aw<|.a 3<|.nil ?_;exact hk9 _ _ _ (Ad 74 99 [(0,true)]) h
  intro M;refine AP.block ?_;obtain⟨CG,O,h⟩:=CY h;refine AO<|.a 2<|.p (BQ BA O Ce Dj rfl)<|.aW<|Dn h (fun h=>?_) fun h=>?_
  ·obtain⟨x15,U,x16,Y,h⟩:=Xc h;exact Aw<|.a 3<|.p (BQ BA U Ce Dj rfl)<|.a 1<|.p (ED Le Q7 [BA x15] rfl)<|.f (El (k:=0) BA Y Le A8 (fun _=>rfl) BJ rfl)<|.a 1<|.nil<|M _ ⟨x16,Ad 74 99 [(1,true)],h⟩
  exact AP.skip<|M _ ⟨L,Ad 74 99 [(0,true)],h⟩
 refine AP.exit ?_;obtain⟨j,Z,m,Zu,h⟩:=Xc h;refine AO<|.a 1<|.p (aIG (eH:=[.aZ 0]) (gK:=[.d (.sl (List.map BA L))]) (Qv L j Z) (fun x hx=>XJ) aqs ⟨⟨35,29,List.map BA L,A8,rfl⟩,trivial⟩ rfl rfl)<|.a 1<|.ca (Qv ay m Zu).view<|.aW<|Ac<|AZ<|AP.block ?_;refine En (fun q=>⟨BH 74 [(7,Bl j),(8,Bl m),(9,AV q)],[],0⟩) _ _ _ (Ad 74 896 []) h ?_;clear h;intro J34 k20 aFP q h;unfold zf at h;refine Ac<|AO<|.a 2<|.p (BN Aa j CQ rfl)<|.aW<|Dn h (fun h=>?_) fun h=>?_
 ·refine AP.skip<|Ac<|AP.block<|AZ<|Ac<|AZ<|AP.block ?_;refine EW (fun I u=>⟨BH 74 [(7,Bl j),(8,Bl m),(9,AV q),(10,Ai I),(11,AV u)],[],0⟩) _ _ _ _ (Ad 74 3968 []) h ?_;clear h;intro J32 k24 aFQ I u h;unfold wW at h;refine Ac<|AO<|.a 2<|.p (BN Aa m CQ rfl)<|.aW<|Dn h (fun h=>?_) fun h=>?_
  ·refine AP.skip ?_;refine DN (fun s=>∃(J:Bool),CS s ⟨BH 74 [(7,Bl j),(8,Bl m),(9,AV q),(10,Ai J),(11,AV u)],[],0⟩∧qm k24 u J=some r) ?_ ?_
   ·clear h;rintro s ⟨J,hs,h⟩;refine Cm hs ?_;clear hs;unfold qm at h;refine Aw<|.a 3<|.nil ?_;exact aFQ _ _ _ (Ad 74 3968 []) h
   intro K27;refine AP.block ?_;cases I with
   |true=>
    replace h:=dK rfl h;exact AP.draw A8 A8 A8 (.a 13<|.nil _)<|K27 _ ⟨true,Ad 74 3968 [],h⟩
   |false=>
    replace h:=Zx rfl h;obtain⟨x29,hx29,Nw,Zp,h⟩:=Xc h;exact AP.draw A8 A8 A8 (.a 4<|.p (BQ Aa hx29 CQ DX rfl)<|.a 3<|.p (BQ Aa Zp CQ DX rfl)<|.a 4<|.nil _)<|K27 _ ⟨(x29==Nw),Ad 74 3968 [],h⟩
  refine AP.exit<|AZ<|Dn h (fun h=>?_) fun h=>?_
  ·refine AO<|.aM 1 ?_;rw[←Cx h];exact .ret (F5 [])
  refine AP.skip<|Aw<|.a 3<|.nil ?_;exact aFP _ _ (Ad 74 896 []) h
 refine AP.exit ?_;obtain⟨x33,asY,h⟩:=CY h;refine AO<|.ca (lW  x33 asY)<|.aM 1 ?_;rw[←Cx h];exact .ret (F5 [])
def aKf  (j:AL) (m:(Int×Bool)):Option AL:=(Bz 8 j [m.1]).bind fun q=>some q
def aBQ  (j:AL):Option AL:=(Nj j).bind fun m=>some m
def ji (j:(List (Int×Bool))):Option AL:=(Il 8 0 0 (j.length:Int)).bind fun m=>(List.foldlM aKf m j).bind aBQ
def arh (Rw r) (h:ji Rw=some r):BG 58 [.mp 0] [.map (List.map (BX Bq DL) Rw)] (.aZ 1) [.dead,(E9 r)]:=by
 refine Am.aN Tryz.func58 rfl ?_;unfold ji at h;refine AO<|.f (D6 3 1 rfl)<|.bJ ?_;obtain⟨x1,I,h⟩:=CY h;refine AO<|.a 1<|.p (x:=(AV (Rw.length:Int))) (aUe (k:=0) (es0:=List.map (BX Bq DL) Rw) (CM ..) Ri A8 rfl)<|.f (XA Aa 0 I EI zero3 A8 A8 A8 BJ rfl)<|.aW<|Ac<|AO<|.a 1<|.f (x:=.ptr 3 0) (afQ (k:=0) (m:=List.map (BX Bq DL) Rw) Ri A8 rfl)<|.bJ<|AP.block<|AP.avO (fun j L=>⟨BH 21 [(3,.aZ 1),(9,.ptr 2 0)],[.dead,(E9 L),.iter (List.map (BX Bq DL) Rw) j],1⟩) Rw aKf aBQ r x1 (Ad 21 520 [(0,false),(2,true),(3,true)]) ?_ ?_
 ·intro vis M O;exact aSi (c:=fun _=>true) (acB _ vis M O) (fun x y U=>by unfold aBQ;rw[adP U]) h
 clear h;intro J j L u q;refine AO<|?_;refine Ch.next (ty:=false) (ek:=Bq) (ev:=DL) 2 Rw j A8 rfl A8 A8 ?_ ?_
 ·intro hc;have h:=u hc;unfold aBQ at h;refine .aW<|Ac<|NM A8<|AP.exit ?_;obtain⟨x6,Y,h⟩:=CY h;refine AO<|.a 1<|.f (x:=.fB []) (ER [.ent 1] [.aZ 1] (fE L x6 Y) rfl)<|.bJ<|AO<|.aM 2 ?_;rw[←Cx h];exact .ret (F5 [(0,false),(1,true)])
 intro i5 z hp hi;obtain⟨r,h,hJ⟩:=q i5 z hp hi;unfold aKf at h;refine .aW<|Ac<|Ql A8<|AP.skip<|AP.block<|AO<|.p (x:=.fB [AV z.1,Ai z.2]) (adZ (n:=2) (i:=i5) (ek:=Bq) (ev:=DL) (m:=Rw) (vis:=j) hp A8 rfl)<|.aM 2 ?_;obtain⟨x7,Z,h⟩:=CY h;refine Aw<|.a 2<|.p (ED EI zero3 [Aa z.1] rfl)<|.f (El (k:=1) Aa Z EI A8 (fun _=>rfl) BJ rfl)<|.a 1<|.nil ?_;obtain rfl:=Cx h;exact hJ _ (Ad 21 520 [(0,false),(3,true),(2,true)])
def aBv (j:AX) (I:(Int→(List (Int×Bool))→Option AL)):Int→(List (Int×Bool))→Option AL:=fun m z=>(bif decide (m<(j.length:Int))then(Ae j m).bind fun q=>I (Ag (m+1)) (Ns z q.Id)else(ji z).bind fun u=>some u)
def aDh (j:AX):Int→(List (Int×Bool))→Option AL:=aQ (aBv j) Af
def aD3 (j:AL) (m:AX) (z:(Int→(List (Int×Bool))→Option AL)):Int→(List (Int×Bool))→Option AL:=fun q u=>(bif decide (q<(j.length:Int))then(Ae j q).bind fun I=>z (Ag (q+1)) (E8 u I true)else aDh m 0 u)
def aat (j:AL) (m:AX):Int→(List (Int×Bool))→Option AL:=aQ (aD3 j m) Af
def aAt (m:AX) (j:AL):Option AL:=aat j m 0 []
def arZ (ay fZ r) (h:aAt ay fZ=some r):BG 29 [BL ay,Bl fZ] [] (.aZ 0) [(E9 r)]:=Am.aN Tryz.func29 rfl<|AO<|.f (D6 3 1 rfl)<|.bJ<|AO<|.a 1<|.p (BN Aa fZ CQ rfl)<|.f (x:=.mp 1) (aRV (kd:=.i64) (n:=(fZ.length:Int)) Ri rfl)<|.aW<|Ac<|AO<|.a 1<|.p (BN Aa fZ CQ rfl)<|.aW<|AP.block<|EW (fun U z=>⟨BH 34 [(0,BL ay),(5,.mp 0),(13,Bl fZ),(14,AV (fZ.length:Int)),(15,AV U)],[.map (List.map (BX Bq DL) z)],0⟩) _ _ _ _ (Ad 34 57377 [(1,true)]) h<|fun Z k3 I U z h=>AZ<|Ac<|CB h (fun h=>Ac<|AP.block<|AU h fun x5 J h=>AO<|.p (BQ Aa J CQ DX rfl)<|.aW<|Aw<|.a 2<|.f (jd (k:=0) (key:=x5) (val:=true) (m:=z) DL Ri Hd A8 rfl)<|.nil<|Aw<|.a 2<|.nil<|I _ _ _ (Ad 34 57377 [(0,true)]) h) fun h=>AP.exit<|Ac<|AO<|.a 1<|.p (BN BA ay Ce rfl)<|.aW<|AP.block<|EW (fun Y u=>⟨BH 34 [(5,.mp 0),(22,BL ay),(23,AV (ay.length:Int)),(24,AV Y)],[.map (List.map (BX Bq DL) u)],0⟩) _ _ _ _ (Ad 34 29360160 [(0,true)]) h<|fun J12 k8 L Y u h=>AZ<|Ac<|CB h (fun h=>Ac<|AP.block<|AU h fun M j h=>AO<|.p (BQ BA j Ce Dj rfl)<|.aW<|Aw<|.a 3<|.f (alS (k:=0) (key:=M.Id) (m:=u) DL Ri Hd A8 rfl)<|.nil<|Aw<|.a 2<|.nil<|L _ _ _ (Ad 34 29360160 [(0,true)]) h) fun h=>AP.exit<|AU h fun O q h=>AO<|.a 1<|.f (x:=.aZ 1) (ER [.ent 0] [.mp 0] (arh u O q) rfl)<|.aW<|V5
end Go.Proofs.YtldfpencimjjlaaGreat
end
section
namespace Go.Proofs.YtldfpencimjjlaaGreat
open Go.RowKit
set_option maxRecDepth 20000
set_option maxHeartbeats 4000000
def nP (j:(Int→Int→Option Bool)) (m:Int) (q:Int):Option Bool:=j q (Ag (m+1))
def lD (j:AX) (m:AL) (J:(Int→Int→Option Bool)) (L:Int) (M:Int) (q:Bool):Option Bool:=(bif q then some false else(aAt j m).bind fun u=>(bif ((u.length:Int) != 0)then some true else(kM j m).bind fun z=>some ((z.length:Int) != (m.length:Int))).bind fun I=>(bif I then some false else nP J L (Ag (M+1))))
def Yp (j:AX) (u:Int) (m:(AB×Bool)) (q:(Bd×ByteArray)) (L:AL) (M:(Int→Int→Option Bool)) (O:Int) (z:Bool):Option Bool:=(bif z then some false else(Ae j u).bind fun I=>(bif (!(m.1.aP.toList==I.aP.toList))then(OZ q.1 m.1.aP).bind fun J=>lD j L M u O (decide (J<q.1.fC))else lD j L M u O false))
def aNp (j:AX) (L:AL) (M:(Int→Int→Option Bool)):Int→Int→Option Bool:=fun I u=>(bif decide (u<(j.length:Int))then(Ae j u).bind fun O=>(fV j O.Id).bind fun z=>(bif (!z.2)then(bif (z.1 != 0)then some false else nP M u I)else(KJ j z.1).bind fun m=>(Vh j z.1).bind fun J=>(dW j J.1).bind fun U=>(YL U).bind fun q=>(bif (!m.2)then Yp j u m q L M I true else(bif (m.1.Kind != 14)then Yp j u m q L M I true else(Ae j u).bind fun Y=>(bif (m.1.Content.Target != Y.Id)then Yp j u m q L M I true else(bif (J.2 != 4)then Yp j u m q L M I true else(aV j J.1 m.1.aP).bind fun Z=>Yp j u m q L M I (Z != 3))))))else(bif (I==(L.length:Int))then(YW).bind fun x41=>some x41 else some false).bind fun x39=>some x39)
def aSC (j:AX) (m:AL):Int→Int→Option Bool:=aQ (aNp j m) Af
def aLW (j:AX):Option Bool:=(aU j 14).bind fun m=>(bif m then(YW).bind fun q=>some q else(Qj j).bind fun u=>aSC j u 0 0)
def as7 (ay r) (h:aLW ay=some r):BG 7 [BL ay] [] (Ai r) []:=Am.aN Tryz.func7 rfl<|AZ<|Ac<|AU h fun x1 hx1 h=>AO<|.a 1<|.ca (aNi ay 14 x1 hx1)<|.bJ<|BM h (fun h=>AU h fun x3 hx3 h=>AO<|.ca (lW  x3 hx3)<|.aW<|Cj) fun h=>AU h fun u hx4 h=>AO<|.a 1<|.ca (Qv ay u hx4).view<|.aW<|AZ<|Ac<|AZ<|AP.block<|EW (fun U Y=>⟨BH 130 [(0,BL ay),(3,Bl u),(4,AV U),(5,AV Y)],[],0⟩) _ _ _ _ (Ad 130 57 []) h<|fun J42 k7 hk7 U Y h=>Ac<|AO<|.a 2<|.p (BN BA ay Ce rfl)<|.aW<|CB h (fun h=>DN (fun s=>∃(v9:Int),CS s ⟨BH 130 [(0,BL ay),(3,Bl u),(4,AV v9),(5,AV Y)],[],0⟩∧nP k7 Y v9=some r) (by rintro s ⟨v9,hs,h⟩;exact Cm hs<|Aw<|.a 3<|.nil<|hk7 _ _ _ (Ad 130 57 []) h)<|fun K10=>AP.block<|DJ h fun x11 aAL x12 as2 h=>AO<|.a 3<|.p (BQ BA aAL Ce Dj rfl)<|.a 2<|.ca (aGc ay x11.Id x12 as2)<|.aW<|Ac<|AZ<|BM h (fun h=>Ac<|AZ<|BM h CP fun h=>AP.exit<|K10 _ ⟨U,Ad 130 57 [],h⟩) fun h=>AZ<|AU h fun z asW h=>AO<|.a 2<|.ca (NY ay x12.1 z asW)<|.aW<|AU h fun x16 hx16 h=>AO<|.a 2<|.ca (ab5 ay x12.1 x16 hx16)<|.aW<|DJ h fun x17 asM I Zu h=>AO<|.a 2<|.ca (aJq ay x16.1 x17 asM).view<|.ca (xW x17 I Zu)<|.aW<|Ac<|DN (fun s=>∃(v19:Bool),CS s ⟨BH 130 [(0,BL ay),(3,Bl u),(4,AV (Ag (U+1))),(5,AV Y),(8,.ptr 0 0),(12,.ptr 1 0),(90,Ai v19)],[.box (BD (BA z.1)),.box (BD (Fr I.1))],0⟩∧Yp ay Y z I u k7 U v19=some r) (by rintro s ⟨v19,hs,h⟩;exact Cm hs<|BM h CP fun h=>Ac<|DN (fun s=>∃(v21:Bool),CS s ⟨BH 130 [(0,BL ay),(3,Bl u),(4,AV (Ag (U+1))),(5,AV Y),(107,Ai v21)],[],0⟩∧lD ay u k7 Y U v21=some r) (by rintro s ⟨v21,hs,h⟩;exact Cm hs<|BM h CP fun h=>AU h fun x23 asK h=>AO<|.a 2<|.ca (arZ ay u x23 asK).view<|.p (BN Aa x23 CQ rfl)<|.aW<|AO<|.a 2<|AU h fun x24 hx24 h=>.mg 114 8 (Ai x24) (.bi hx24 (k2:=fun h=>AU h fun Vz Zo h=>.a 2<|.ca (aRy ay u Vz Zo).view<|.p (BN BA Vz Ce rfl)<|.a 1<|.p (BN Aa u CQ rfl)<|.aW<|Dx))<|.bJ<|BM h CP fun h=>K10 _ ⟨(Ag (U+1)),Ad 130 57 [],h⟩)<|fun K28=>AU h fun x29 Z h=>GY h (fun J h=>AU h fun x31 hx31 h=>AP.draw A8 A8 A8 (.a 4<|.p (BQ BA Z Ce Dj rfl)<|.a 3<|.c (BI some J)<|.a 3<|.ca (V4 I.1 z.1.aP x31 hx31)<|.a 4<|.nil _)<|K28 _ ⟨(decide (x31<I.1.fC)),Ad 130 162259276829213363391578010288185 [],h⟩) fun J h=>AP.draw A8 A8 A8 (.a 4<|.p (BQ BA Z Ce Dj rfl)<|.a 3<|.c (BI some J)<|.a 8<|.nil _)<|K28 _ ⟨false,Ad 130 162259276829213363391578010288185 [],h⟩)<|fun L=>GY h (fun j h=>AP.draw A8 A8 A8 (.a 2<|.c (BI some j)<|.a 27<|.nil _)<|L _ ⟨true,Ad 130 1237940039285380274899128633 [(0,true),(1,true)],h⟩) fun j h=>GY h (fun m h=>AP.draw A8 A8 A8 (.a 2<|.c (BI some j)<|.a 4<|.c (BI some m)<|.a 22<|.nil _)<|L _ ⟨true,Ad 130 1237940039285380274899128633 [(0,true),(1,true)],h⟩) fun m h=>AU h fun x35 M h=>GY h (fun q h=>AP.draw A8 A8 A8 (.a 2<|.c (BI some j)<|.a 4<|.c (BI some m)<|.a 5<|.p (BQ BA M Ce Dj rfl)<|.a 4<|.c (BI some q)<|.a 11<|.nil _)<|L _ ⟨true,Ad 130 1237940039285380274899128633 [(0,true),(1,true)],h⟩) fun q h=>GY h (fun O h=>AP.draw A8 A8 A8 (.a 2<|.c (BI some j)<|.a 4<|.c (BI some m)<|.a 5<|.p (BQ BA M Ce Dj rfl)<|.a 4<|.c (BI some q)<|.a 3<|.c (BI some O)<|.a 7<|.nil _)<|L _ ⟨true,Ad 130 1237940039285380274899128633 [(0,true),(1,true)],h⟩) fun O h=>AU h fun x38 hx38 h=>AP.draw A8 A8 A8 (.a 2<|.c (BI some j)<|.a 4<|.c (BI some m)<|.a 5<|.p (BQ BA M Ce Dj rfl)<|.a 4<|.c (BI some q)<|.a 3<|.c (BI some O)<|.a 4<|.ca (aUF ay x16.1 z.1.aP x38 hx38)<|.a 2<|.nil _)<|L _ ⟨(x38 != 3),Ad 130 1237940039285380274899128633 [(0,true),(1,true)],h⟩) fun h=>AP.exit<|AO<|.a 2<|.p (BN Aa u CQ rfl)<|.a 1<|AU h fun x39 hx39 h=>.mg 127 2 (Ai x39) (.bi hx39 (fun h=>AU h fun x41 aFR h=>.ca (lW  x41 aFR)<|.aW<|Dx))<|.aW<|Cj
def aOy (j:AX) (u:(AL→Int→Option AL)):AL→Int→Option AL:=fun q m=>(bif decide (m<(j.length:Int))then(Ae j m).bind fun z=>(Bz 8 q [z.Id]).bind fun I=>u I (Ag (m+1))else some q)
def aaY (j:AX):AL→Int→Option AL:=aQ (aOy j) Af
def vJ (j:AX):Option AL:=(Il 8 0 0 (j.length:Int)).bind fun m=>aaY j m 0
def aad (ay r) (h:vJ ay=some r):BG 31 [BL ay] [] (.aZ 0) [(E9 r)]:=Am.aN Tryz.func31 rfl<|AO<|.f (D6 3 1 rfl)<|.bJ<|AU h fun L j h=>AO<|.a 1<|.p (BN BA ay Ce rfl)<|.f (XA Aa 0 j EI zero3 A8 A8 A8 BJ rfl)<|.aW<|Ac<|AO<|.a 1<|.p (BN BA ay Ce rfl)<|.aW<|AP.block<|EW (fun z I=>⟨BH 22 [(3,.aZ 0),(9,BL ay),(10,AV (ay.length:Int)),(11,AV I)],[(E9 z)],0⟩) _ _ _ _ (Ad 22 3592 [(1,true)]) h<|fun M O m z I h=>AZ<|Ac<|CB h (fun h=>Ac<|AP.block<|AU h fun J q h=>AO<|.p (BQ BA q Ce Dj rfl)<|.aW<|AU h fun U u h=>Aw<|.a 3<|.p (ED EI zero3 [Aa J.Id] rfl)<|.f (El (k:=0) Aa u EI A8 (fun _=>rfl) BJ rfl)<|.a 1<|.nil<|Aw<|.a 2<|.nil<|m _ _ _ (Ad 22 3592 [(2,true)]) h) fun h=>Ry
def aA8 (j:(Int→(List (Int×Int))→(List (Int×Bool))→Option AL)) (m:Int) (q:(List (Int×Int))) (u:(List (Int×Bool))):Option AL:=j (Ag (m+1)) q u
def aKV (j:(Int→(List (Int×Int))→(List (Int×Bool))→Option AL)) (m:Int) (q:(List (Int×Int))) (u:(List (Int×Bool))):Option AL:=j (Ag (m+1)) q u
def aKE (u:AB) (J:Int) (L:(Int→(List (Int×Int))→(List (Int×Bool))→Option AL)) (M:Int) (z:(Int→(List (Int×Int))→(List (Int×Bool))→Option AL)):Int→(List (Int×Int))→(List (Int×Bool))→Option AL:=fun j m q=>(bif decide (j<(u.bC.length:Int))then(Ae u.bC j).bind fun I=>(bif (I != J)then aKV z j m (E8 q I true)else aKV z j m q)else aA8 L M m q)
def aR5 (j:AB) (m:Int) (q:(Int→(List (Int×Int))→(List (Int×Bool))→Option AL)) (u:Int):Int→(List (Int×Int))→(List (Int×Bool))→Option AL:=ku (aKE j m q u) Af
def aBo (j:(AL→Int→Option AL)) (m:Int) (q:AL):Option AL:=j q (Ag (m+1))
def aH7 (j:AL) (L:(List (Int×Bool))) (u:(AL→Int→Option AL)):AL→Int→Option AL:=fun q m=>(bif decide (m<(j.length:Int))then(Ae j m).bind fun z=>(bif (!((C9 L z).getD false))then(Bz 8 q [z]).bind fun I=>aBo u m I else aBo u m q)else(VE q).bind fun J=>some J)
def aTB (j:AL) (m:(List (Int×Bool))):AL→Int→Option AL:=aQ (aH7 j m) Af
def aH0 (j:AL) (q:AX) (L:(Int→(List (Int×Int))→(List (Int×Bool))→Option AL)):Int→(List (Int×Int))→(List (Int×Bool))→Option AL:=fun u z I=>(bif decide (u<(j.length:Int))then(Ae j u).bind fun m=>(bif (!((C9 z m).isSome))then aA8 L u z I else(Ae q ((C9 z m).getD 0)).bind fun J=>aR5 J m L u 0 z I)else aTB j I [] 0)
def aUQ (j:AL) (m:AX):Int→(List (Int×Int))→(List (Int×Bool))→Option AL:=ku (aH0 j m) Af
def aEX (m:AX) (j:AL):Option AL:=(Z8 m).bind fun q=>aUQ j m 0 q []
def agS (ay fZ r) (h:aEX ay fZ=some r):BG 59 [BL ay,Bl fZ] [] (.aZ 0) [(E9 r)]:=Am.aN Tryz.func59 rfl<|AO<|.f (D6 3 1 rfl)<|.bJ<|AU h fun x1 hx1 h=>AO<|.a 1<|.f (x:=.mp 1) (ER [] [BL ay] (vG ay x1 hx1) rfl)<|.aW<|AO<|.f (x:=.mp 2) (aCy rfl)<|.aW<|Ac<|AO<|.a 1<|.p (BN Aa fZ CQ rfl)<|.aW<|AP.block<|jM (fun v2 v3 M=>⟨BH 67 [(0,BL ay),(1,Bl fZ),(5,.mp 0),(6,.mp 1),(19,Bl fZ),(20,AV (fZ.length:Int)),(21,AV v2)],[.map (List.map (BX Bq Aa) v3),.map (List.map (BX Bq DL) M)],0⟩) _ _ _ _ _ (Ad 67 3670115 [(1,true),(2,true)]) h<|fun J35 k5 hk5 v2 v3 M h=>AZ<|Ac<|CB h (fun h=>DN (fun s=>∃(v7:(List (Int×Int))) (v8:(List (Int×Bool))),CS s ⟨BH 67 [(0,BL ay),(1,Bl fZ),(5,.mp 0),(6,.mp 1),(19,Bl fZ),(20,AV (fZ.length:Int)),(21,AV v2)],[.map (List.map (BX Bq Aa) v7),.map (List.map (BX Bq DL) v8)],0⟩∧aA8 k5 v2 v7 v8=some r) (by rintro s ⟨v7,v8,hs,h⟩;exact Cm hs<|Aw<|.a 2<|.nil<|hk5 _ _ _ _ (Ad 67 3670115 [(0,true),(1,true)]) h)<|fun K9=>AP.block<|AU h fun u asU h=>AO<|.p (BQ Aa asU CQ DX rfl)<|.aW<|AO<|.a 2<|.p (x:=.fB [AV ((C9 v3 u).getD 0),Ai ((C9 v3 u).isSome)]) (zq (k:=0) (key:=u) (m:=v3) Aa 0 QC Hd zero3 A8 A8 A8 rfl)<|.aW<|Ac<|AZ<|BM h (fun h=>AP.exit<|K9 _ ⟨v3,M,Ad 67 3670115 [(0,true),(1,true)],h⟩) fun h=>AU h fun z as2 h=>AO<|.a 2<|.p (BQ BA as2 Ce Dj rfl)<|.a 2<|.p (BN Aa z.bC CQ rfl)<|.aW<|AP.block<|jM (fun J I j=>⟨BH 67 [(0,BL ay),(1,Bl fZ),(5,.mp 0),(6,.mp 1),(8,AV u),(19,Bl fZ),(20,AV (fZ.length:Int)),(21,AV v2),(37,Bl z.bC),(38,AV (z.bC.length:Int)),(39,AV J)],[.map (List.map (BX Bq Aa) I),.map (List.map (BX Bq DL) j)],0⟩) _ _ _ _ _ (Ad 67 962076344675 [(0,true),(1,true)]) h<|fun J23 k16 aAI J I j h=>AZ<|Ac<|CB h (fun h=>DN (fun s=>∃(O:(List (Int×Int))) (U:(List (Int×Bool))),CS s ⟨BH 67 [(0,BL ay),(1,Bl fZ),(5,.mp 0),(6,.mp 1),(8,AV u),(19,Bl fZ),(20,AV (fZ.length:Int)),(21,AV v2),(37,Bl z.bC),(38,AV (z.bC.length:Int)),(39,AV J)],[.map (List.map (BX Bq Aa) O),.map (List.map (BX Bq DL) U)],0⟩∧aKV k16 J O U=some r) (by rintro s ⟨O,U,hs,h⟩;exact Cm hs<|Aw<|.a 2<|.nil<|aAI _ _ _ _ (Ad 67 962076344675 [(0,true),(1,true)]) h)<|fun K20=>AP.block<|AU h fun x21 asJ h=>AO<|.p (BQ Aa asJ CQ DX rfl)<|.aW<|AZ<|BM h (fun h=>Aw<|.a 2<|.f (jd (k:=1) (key:=x21) (val:=true) (m:=j) DL Ri Hd A8 rfl)<|.nil<|K20 _ ⟨I,(E8 j x21 true),Ad 67 962076344675 [(0,true),(1,true)],h⟩) fun h=>K20 _ ⟨I,j,Ad 67 962076344675 [(0,true),(1,true)],h⟩) fun h=>AP.exit<|K9 _ ⟨I,j,Ad 67 3670115 [(0,true),(1,true)],h⟩) fun h=>AP.exit<|AO<|.f (D6 3 1 rfl)<|.bJ<|Ac<|AO<|.a 1<|.p (BN Aa fZ CQ rfl)<|.aW<|AP.block<|EW (fun q L=>⟨BH 67 [(6,.mp 0),(13,.aZ 1),(50,Bl fZ),(51,AV (fZ.length:Int)),(52,AV L)],[.map (List.map (BX Bq DL) M),(E9 q)],0⟩) _ _ _ _ (Ad 67 7881299347906624 [(1,true),(2,true)]) h<|fun J34 k26 aAD q L h=>AZ<|Ac<|CB h (fun h=>DN (fun s=>∃(Y:(List Int)),CS s ⟨BH 67 [(6,.mp 0),(13,.aZ 1),(50,Bl fZ),(51,AV (fZ.length:Int)),(52,AV L)],[.map (List.map (BX Bq DL) M),(E9 Y)],0⟩∧aBo k26 L Y=some r) (by rintro s ⟨Y,hs,h⟩;exact Cm hs<|Aw<|.a 2<|.nil<|aAD _ _ _ (Ad 67 7881299347906624 [(0,true),(1,true)]) h)<|fun K29=>AP.block<|AU h fun Z Zp h=>AO<|.p (BQ Aa Zp CQ DX rfl)<|.aW<|AO<|.a 2<|.p (x:=(Ai ((C9 M Z).getD false))) (dR (k:=0) (key:=Z) (m:=M) DL false Ri Hd uV A8 A8 A8 rfl)<|.aW<|BM h (fun h=>AU h fun x32 hx32 h=>Aw<|.a 2<|.p (ED EI zero3 [Aa Z] rfl)<|.f (El (k:=1) Aa hx32 EI A8 (fun _=>rfl) BJ rfl)<|.a 1<|.nil<|K29 _ ⟨x32,Ad 67 7881299347906624 [(0,true),(2,true)],h⟩) fun h=>K29 _ ⟨q,Ad 67 7881299347906624 [(0,true),(1,true)],h⟩) fun h=>AP.exit<|AU h fun x33 asY h=>AO<|.a 1<|.f (UO (eH:=[.aZ 1]) (gK:=[.d (.sl (List.map Aa q))]) (ah q x33 asY) (fun x hx=>XJ) aFs ⟨⟨3,1,List.map Aa q,A8,rfl⟩,trivial⟩ rfl rfl)<|.aW<|Oc
def aLf (z:AL) (J:((List (Int×Aq))×(List (Int×Aq))×(List (Int×Int)))) (j:AX) (L:(FK→Int→Option Aq)):FK→Int→Option Aq:=fun I m=>(bif decide (m<(z.length:Int))then(Ae z m).bind fun M=>(Bz 24 I ([(C9 J.2.1 M).getD []])).bind fun q=>L q (Ag (m+1))else(dz j I).bind fun u=>some u)
def aQo (m:AL) (q:((List (Int×Aq))×(List (Int×Aq))×(List (Int×Int)))) (j:AX):FK→Int→Option Aq:=aQ (aLf m q j) Af
def Zd (j:AX):Option Aq:=(dB j).bind fun q=>bV q (some []) fun m=>(bQ m.1 m.2.1 m.2.2 j).bind fun u=>(aEX j u).bind fun z=>aQo z m j [] 0
def aeD (ay r) (h:Zd ay=some r):BG 33 [BL ay] [] (EJ r) []:=Am.aN Tryz.func33 rfl<|AZ<|AU h fun x1 q h=>by cases x1 with |none=>exact(have h:=aGP h;AO<|.a 1<|.ca (Xz ay none q)<|.aW<|Ac<|AO<|.a 1<|.p (x:=(Ai true)) (aB1 A8 rfl)<|.bJ<|Ql A8<|AZ<|Cj)|some j=>exact(have h:=aG7 h;AO<|.a 1<|.f (x:=.ptr 0 0) (ER [] [BL ay] (Xz ay (some j) q) rfl)<|.aW<|Ac<|AO<|.a 1<|.p (x:=(Ai false)) (aEV (k:=0) (off:=0) A8 rfl)<|.bJ<|NM A8<|AP.skip<|AO<|.f (D6 54 1 rfl)<|.bJ<|Ac<|DJ h fun L M I O h=>AO<|.a 3<|.f (x:=.aZ 5) (ER [.ent 0,.ent 1,.ent 2,.ent 3] [.ptr 0 0,BL ay] (acY j.1 j.2.1 j.2.2 ay L M) rfl (hE:=Xr))<|.conv _ (PD (e:=3) (s:=1) 5 (xs:=List.map Aa L) A8)<|.ca (agS ay L I O).view<|.p (BN Aa I CQ rfl)<|.aW<|AP.block<|EW (fun J v6=>⟨BH 34 [(0,BL ay),(3,.ptr 0 0),(4,.aZ 4),(15,Bl I),(16,AV (I.length:Int)),(17,AV v6)],[.box [.mp 1,.mp 2,.mp 3],.eY (List.map (BX Bq (BF BP)) j.1),.eY (List.map (BX Bq (BF BP)) j.2.1),.eY (List.map (BX Bq Aa) j.2.2),.arr 54 1 (List.map (BF BP) J)],0⟩) _ _ _ _ (Ad 34 229401 [(0,true),(1,true),(2,true),(3,true),(4,true)]) h<|fun J12 k7 U J v6 h=>AZ<|Ac<|CB h (fun h=>Ac<|AP.block<|AU h fun Y Z h=>AO<|.p (BQ Aa Z CQ DX rfl)<|.aW<|AU h fun x10 u h=>Aw<|.a 6<|.p (x:=(EJ ((C9 j.2.1 Y).getD []))) (fJ (k:=2) (key:=Y) (m:=j.2.1) (BF BP) [] fM Hd WO A8 A8 A8 rfl)<|.p (ED aD6 WO [(BF BP) ((C9 j.2.1 Y).getD [])] rfl)<|.f (El (k:=4) (BF BP) u aD6 A8 (fun _=>rfl) BJ rfl)<|.a 1<|.nil<|Aw<|.a 2<|.nil<|U _ _ _ (Ad 34 229401 [(0,true),(1,true),(2,true),(3,true),(5,true)]) h) fun h=>AP.exit<|AU h fun x11 z h=>AO<|.a 2<|.conv _ (PD (e:=54) (s:=1) 4 (xs:=List.map (BF BP) J) A8)<|.ca (abH ay J x11 z)<|.aW<|Cj)
def aMC (j:Aq) (m:Aq) (u:(Int→Option Bool)):Int→Option Bool:=fun q=>(bif decide (q<(j.length:Int))then(Ae j q).bind fun z=>(Ae m q).bind fun I=>(bif (!tH z I)then some false else u (Ag (q+1)))else some true)
def aUo (j:Aq) (m:Aq):Int→Option Bool:=bg (aMC j m) Af
def aGE (j:Aq) (m:Aq):Option Bool:=(bif ((j.length:Int) != (m.length:Int))then some false else aUo j m 0)
def am4 (eX fF r) (h:aGE eX fF=some r):BG 32 [EJ eX,EJ fF] [] (Ai r) []:=Am.aN Tryz.func32 rfl<|AZ<|Ac<|AO<|.a 1<|.p (BN BP eX L8 rfl)<|.a 1<|.p (BN BP fF L8 rfl)<|.aW<|BM h CP fun h=>Ac<|AO<|.a 1<|.p (BN BP eX L8 rfl)<|.aW<|AP.block<|En (fun I=>⟨BH 26 [(1,EJ fF),(12,EJ eX),(13,AV (eX.length:Int)),(14,AV I)],[],0⟩) _ _ _ (Ad 26 28674 []) h<|fun J L q I h=>AZ<|Ac<|CB h (fun h=>Ac<|AP.block<|AU h fun j u h=>AO<|.a 1<|.p (BQ BP u L8 Ov rfl)<|.aW<|AU h fun m z h=>Gt A8 A8 A8 (.a 3<|.p (BQ BP z L8 Ov rfl)<|.a 1<|.p (x:=(Ai (!tH j m))) (zH [.int .i64 j.Kind,.string j.Key,.int .i64 j.Id] [.int .i64 m.Kind,.string m.Key,.int .i64 m.Id] (aiQ j m) BJ asZ rfl)<|.nil _)<|BM h CP fun h=>Aw<|.a 2<|.nil<|q _ _ (Ad 26 28674 []) h) fun h=>Gf
def aIx (m:AL) (u:AL) (q:AX) (Z:AX) (z:(Int→Option Bool)):Int→Option Bool:=fun j=>(bif decide (j<(m.length:Int))then(Ae m j).bind fun I=>(Ae u j).bind fun J=>(bif (I != J)then some false else z (Ag (j+1)))else(Zd q).bind fun L=>(Zd Z).bind fun M=>(aGE L M).bind fun O=>(bif O then(YW).bind fun U=>some U else some false).bind fun Y=>some Y)
def ae8 (m:AL) (q:AL) (j:AX) (u:AX):Int→Option Bool:=bg (aIx m q j u) Af
def wQ (j:AX):Option Bool:=(aU j 14).bind fun U=>(bif U then(YW).bind fun Y=>some Y else(XU j).bind fun m=>(vJ m).bind fun Z=>(vJ j).bind fun x6=>(fG Z x6).bind fun x7=>(bif (!x7)then some true else(Qj m).bind fun z=>(Qj j).bind fun I=>(fG z I).bind fun J=>some (!J)).bind fun x8=>(bif x8 then some true else(XU m).bind fun L=>(aCs L m).bind fun M=>some (!M)).bind fun O=>(bif O then some false else(Xf j).bind fun q=>(Xf m).bind fun u=>(bif ((q.length:Int) != (u.length:Int))then some false else ae8 q u j m 0)))
def ajr (ay r) (h:wQ ay=some r):BG 8 [BL ay] [] (Ai r) []:=Am.aN Tryz.func8 rfl<|AZ<|Ac<|AU h fun x1 hx1 h=>AO<|.a 1<|.ca (aNi ay 14 x1 hx1)<|.bJ<|BM h (fun h=>AU h fun x3 hx3 h=>AO<|.ca (lW  x3 hx3)<|.aW<|Cj) fun h=>AU h fun m hx4 h=>AO<|.a 1<|.ca (aMv ay m hx4).view<|.aW<|Ac<|UL h fun x5 hx5 x6 hx6 x7 hx7 h=>AO<|.a 1<|.ca (aad m x5 hx5).view<|.a 1<|.ca (aad ay x6 hx6).view<|.ca (Yu x5 x6 x7 hx7)<|.a 1<|AU h fun x8 L9 h=>.mg 18 7 (Ai x8) (.bi L9 (k2:=fun h=>UL h fun u z I J x12 L h=>.a 1<|.ca (Qv m u z).view<|.a 1<|.ca (Qv ay I J).view<|.ca (Yu u I x12 L)<|.aW<|Dx))<|.a 1<|AU h fun CG M h=>.mg 27 5 (Ai CG) (Di M (k2:=fun e i=>by subst e;have h:=i;exact DJ h fun O U x16 Y h=>.a 1<|.ca (aMv m O U).view<|.a 1<|.ca (ajH O m x16 Y)<|.aW<|Dx))<|.bJ<|BM h CP fun h=>DJ h fun j Z q aft h=>AO<|.a 1<|.ca (aKz ay j Z).view<|.a 1<|.ca (aKz m q aft).view<|.aW<|Ac<|AO<|.a 1<|.p (BN Aa j iU rfl)<|.a 1<|.p (BN Aa q iU rfl)<|.aW<|BM h CP fun h=>Ac<|AZ<|AP.block<|En (fun v21=>⟨BH 65 [(0,BL ay),(3,BL m),(4,Bl j),(5,Bl q),(6,AV v21)],[],0⟩) _ _ _ (Ad 65 121 []) h<|fun J33 k22 aFS v21 h=>Ac<|AO<|.a 2<|.p (BN Aa j iU rfl)<|.aW<|CB h (fun h=>Ac<|AP.block<|DJ h fun x24 hx24 x25 hx25 h=>Gt A8 A8 A8 (.a 2<|.p (BQ Aa hx24 iU aJr rfl)<|.a 3<|.p (BQ Aa hx25 iU aJr rfl)<|.a 2<|.nil _)<|BM h CP fun h=>Aw<|.a 3<|.nil<|aFS _ _ (Ad 65 121 []) h) fun h=>AP.exit<|UL h fun x27 hx27 x28 hx28 x29 hx29 h=>AO<|.a 1<|.ca (aeD ay x27 hx27)<|.a 1<|.ca (aeD m x28 hx28)<|.ca (am4 x27 x28 x29 hx29)<|.a 1<|AU h fun Nw Zp h=>.mg 63 1 (Ai Nw) (Di Zp (fun e i=>by subst e;have h:=i;exact AU h fun x32 hx32 h=>.ca (lW  x32 hx32)<|.aW<|Dx))<|.aW<|Cj
end Go.Proofs.YtldfpencimjjlaaGreat
end
section
namespace Go.Proofs.YtldfpencimjjlaaGreat
open Go.RowKit
def dU (l:List Int) (h:l.length≤1099511627776):VE l=some (Ed l):=by
 unfold VE aDD Nj Sz;rw[D7 DU];have j:(QZ l).length≤1099511627776:=by rw[(Uj l).length_eq];exact h
 simp[h,aCc,zh]
def ND (l:List Int):(Ed l).length≤l.length:=by
 rw[←zh];exact Eh (Lib.compact_length_le _) Ap
def aJ0 (a b:List Int):(Nv a b).length≤a.length:=by
 unfold Nv;exact Eh (Ic _ _) (ND a)
def aLM (a b:List Int):(HY a b).length≤a.length+b.length:=by
 rw[qO];exact Eh (ND _) Ap
def aiN (a b:Int):cmp_Less_int a b=some (decide (a<b)):=by
 simp[cmp_Less_int,cmp_isNaN_int]
def aQs (l:List Int) (x:Int) (hi:Inc l) (hn:l.length≤1099511627776):dP (pU l x) (fun r=>r.2=CZ l x):=by
 unfold pU aQb;refine Xi (fun(m:Nat) (a b:Int)=>∃i j:Nat,a=i∧b=j∧i≤j∧j≤l.length∧m=j-i∧(∀q,(u:q<i)→(hl:q<l.length)→l[q]<x)∧(∀q,(u:j≤q)→(hl:q<l.length)→x≤l[q])) ?_ Af l.length 0 (l.length:Int) kZ ⟨0,l.length,rfl,rfl,EZ _,Dk _,rfl,fun q u=>AA,fun q u hl=>AA⟩;rintro m a b k ⟨i,j,rfl,rfl,hij,hj,rfl,Y,h2⟩ hk;unfold abd;refine dP.bif (fun e=>?_) fun e=>?_
 ·have Z:i<j:=RZ
  have w1:Ag ((i:Int)+(j:Int))=((i+j:Nat):Int):=QX
  have w2:IntKind.u64.wrap ((i+j:Nat):Int)=((i+j:Nat):Int):=by rw[iW];omega
  have w3:Og .shr .u64 ((i+j:Nat):Int) 1=some (((i+j)/2:Nat):Int):=by
   have e0:((i+j:Nat):Int).fdiv (2^(min (1:Int).toNat IntKind.u64.bits))=(((i+j)/2:Nat):Int):=by
    have :(2:Int)^(min (1:Int).toNat IntKind.u64.bits)=2:=rfl;rw[this,aSP _ AA];omega
   unfold Og;rw[Cc AA];exact BI some e0
  have w4:Ag (((i+j)/2:Nat):Int)=(((i+j)/2:Nat):Int):=QX
  have z:(i+j)/2<l.length:=AA
  rw[w1,w2,w3];simp only[AQ];rw[w4,Ba z];simp only[AQ];rw[aiN,wrap_succ _ AA];simp only[AQ];have mono:∀p q,(L:p<l.length)→(u:q<l.length)→p<q→l[p]<l[q]:=fun p q L u I=>Jq.1 hi p q L u I;refine dP.bif (fun e2=>?_) fun e2=>?_
  ·have J:l[(i+j)/2]<x:=by simpa using e2
   refine hk (j-((i+j)/2+1)) _ _ AA ⟨(i+j)/2+1,j,rfl,rfl,AA,hj,rfl,fun q u hl=>?_,h2⟩;by_cases eq:q=(i+j)/2
   ·subst eq;exact J
   have :=mono q ((i+j)/2) hl z AA;omega
  have J:¬l[(i+j)/2]<x:=by simpa using e2
  refine hk ((i+j)/2-i) _ _ AA ⟨i,(i+j)/2,rfl,rfl,AA,AA,rfl,Y,fun q u hl=>?_⟩;by_cases eq:q=(i+j)/2
  ·subst eq;omega
  have :=mono ((i+j)/2) q z hl AA;omega
 have Z:¬i<j:=RZ
 have M:i=j:=AA
 subst M;have mono:∀p q,(L:p<l.length)→(u:q<l.length)→p<q→l[p]<l[q]:=fun p q L u I=>Jq.1 hi p q L u I;by_cases hl:i<l.length
 ·rw[show decide ((i:Int)<(l.length:Int))=true by simpa using hl,Ba hl];simp only[Au,AQ];by_cases J:l[i]=x
  ·have U:(l[i]==x)=true:=Uu
   rw[U];refine .ret ?_;exact(J3.2 (J▸Df hl)).symm
  have U:(l[i]==x)=false:=Uu
  rw[U]
  have hno:CZ l x=false:=OJ.2 fun z=>by
   obtain⟨q,u,e5⟩:=GZ z;rcases yQ q i with O|O|O
   ·have :=Y q O u;omega
   ·subst O;exact J e5
   have :=mono i q hl u O;have :=h2 i (Dk _) hl;omega
  simp[aFD,hno,dP]
 rw[show decide ((i:Int)<(l.length:Int))=false by simpa using hl];refine .ret ?_;refine(OJ.2 fun z=>?_).symm;obtain⟨q,u,U⟩:=GZ z;have :=Y q AA u;omega
def aqo {l b:List Int} {i:Nat} (h:i<l.length):(l.take (i+1)).filter (fun x=> !CZ b x)=(l.take i).filter (fun x=> !CZ b x)++(if CZ b l[i]then[]else[l[i]]):=by
 rw[Ot h,Pj];cases j:CZ b l[i]<;>simp[j]
def akV (a b:List Int) (h:a.length≤274877906944) (M:b.length≤274877906944):aEz a b=some (Nv a b):=by
 unfold aEz;rw[dU b AA,dU a AA];simp only[AQ];have ha:=ND a;have O:=ND b;have m:=Jt b
 have I:Nv a b=((Ed a).take (Ed a).length).filter (fun x=> !CZ (Ed b) x):=by
  rw[GI];unfold Nv;congr 1;funext x;congr 1;by_cases j:x∈b
  ·rw[J3.2 j,J3.2 (JV.2 j)]
  rw[OJ.2 j,OJ.2 (fun h=>j (JV.1 h))]
 rw[I];generalize Ed a=S at *;generalize Ed b=S2 at *;refine dP.eq ?_;unfold abx;refine Jf S.length kZ (fun i v=>v=(S.take i).filter (fun x=> !CZ S2 x)) Ap ?_ ?_
 ·rintro i v k hi rfl q;have u:=wrap_succ i AA;have J:((S.take i).filter (fun x=> !CZ S2 x)).length≤i:=Eh (Ic _ _) DU;have hst:=aqo (b:=S2) hi;unfold aL9 aAg;rw[show decide ((i:Int)<(S.length:Int))=true by simpa using hi,Ba hi];simp only[Au,AQ];refine(aQs S2 S[i] m AA).bind ?_;rintro r L;rw[L];cases z:CZ S2 S[i]with
  |true=>
   simp only[Dz,Aj,u];exact q _ (by rw[hst];simp[z])
  |false=>
   simp only[IU,Au,u];rw[D7 FM];exact q _ (by rw[hst];simp[z])
 rintro v k rfl;unfold aL9;rw[show decide ((S.length:Int)<(S.length:Int))=false by simp];exact .ret rfl
def XM (l:List Int) (x:Int) (h:l.length≤1099511627776):UY l x=some (CZ l x):=by
 refine dP.eq ?_;unfold UY aSn;refine Xv l.length kZ (fun i=>∀j,(m:j<i)→(hl:j<l.length)→l[j]≠x) (fun j m=>AA) ?_ ?_
 ·intro i k hi q u;unfold aOY;rw[show decide ((i:Int)<(l.length:Int))=true by simpa using hi,Ba hi,wrap_succ i AA];simp only[Au,AQ];refine dP.bif (fun e=>?_) fun e=>?_
  ·refine .ret ?_;have :l[i]=x:=RZ
   rw[J3.2 (this▸Df hi)]
  refine u fun j m hl=>?_;by_cases z:j=i
  ·subst z;simpa using e
  exact q j AA hl
 intro k q;unfold aOY;rw[show decide ((l.length:Int)<(l.length:Int))=false by simp];refine .ret ?_;rw[OJ.2];intro I;obtain⟨j,m,e⟩:=GZ I;exact q j m m e
def aGo (p:Int→Bool):∀(l:List Int) (i:Nat),i≤l.length→(∀j,(h:j<i)→(hl:j<l.length)→p l[j]=true)→(∀h:i<l.length,p l[i]=false)→l.takeWhile p=l.take i∧l.dropWhile p=l.drop i
 | [],i,h,_,_=>by simp at h;subst h;simp
 |a::l,0,_,_,m=>by
  have :=m Ap;simp at this;simp[this]
 |a::l,i+1,h,h1,m=>by
  have q:=h1 0 AA Ap;simp at q;have :=aGo p l i Jz (fun j u hl=>by have :=h1 (j+1) AA MH;simpa using this) (fun hl=>by have :=m MH;simpa using this);simp[q,this.1,this.2]
def jf (l:List Int) (x:Int) (h:l.length≤1099511627776):XI l x=some (put l x):=by
 unfold XI;rw[XM l x h];simp only[AQ];unfold put;cases hh:CZ l x with
 |true=>simp
 |false=>
  simp only[Aj,Rh,JE];refine dP.eq ?_;unfold ae4
  have m:∀i,i≤l.length→(∀j,(q:j<i)→(hl:j<l.length)→l[j]<x)→(∀h:i<l.length,¬l[i]<x)→
   dP ((Hg l 0 (i:Int)).bind fun J=>(Bz 8 [] J).bind fun L=>(Bz 8 L [x]).bind fun M=>(Hg l (i:Int) ((l.length))).bind fun z=>(Bz 8 M z).bind fun I=>some I) (· =l.takeWhile (decide<| · <x)++x::l.dropWhile (decide<| · <x)):=by
   intro i hi O U;obtain⟨Y,Z⟩:=aGo (decide<| · <x) l i hi (fun j q hl=>by simpa using O j q hl) (fun hl=>by simpa using U hl)
   have e3:Hg l 0 (i:Int)=some (l.take i):=by
    have :=iF (l:=l) (lo:=0) (hi:=i) AA hi;simpa using this
   have e4:Hg l (i:Int) (l.length:Int)=some (l.drop i):=by
    rw[iF (l:=l) (lo:=i) (hi:=l.length) hi AA];congr 1;exact QN Ap
   rw[e3];simp only[AQ];rw[D7 DU];simp only[AQ,IV];rw[D7 DU];simp only[AQ];rw[e4];simp only[AQ];rw[D7 DU];refine .ret ?_;rw[Y,Z];simp
  refine Xv l.length kZ (fun i=>∀j,(q:j<i)→(hl:j<l.length)→l[j]<x) (fun j q=>AA) ?_ ?_
  ·intro i k hi u hk;unfold aLP;rw[show decide ((i:Int)<(l.length:Int))=true by simpa using hi,Ba hi,wrap_succ i AA];simp only[Au,AQ];refine dP.bif (fun e=>?_) fun e=>?_
   ·refine hk fun j q hl=>?_;by_cases ej:j=i
    ·subst ej;simpa using e
    exact u j AA hl
   exact m i AA u (fun _=>RZ)
  intro k u;unfold aLP;rw[show decide ((l.length:Int)<(l.length:Int))=false by simp];exact m l.length AA u (fun h=>AA)
def dh (l:List Int) (x:Int):(put l x).length≤l.length+1:=by
 unfold put;split
 ·omega
 rw[EG,Fa];have :=BI List.length (rO (p:=(decide<| · <x)) (l:=l));rw[EG]at this;omega
def fK :∀(l a:List Int),(l.foldl put a).length≤a.length+l.length
 | [],a=>Ap
 |x::l,a=>by
  have j:=fK l (put a x);have m:=dh a x;simp only[Et,Fa];omega
def adz {l a:List Int} {i:Nat} (h:i<l.length):(l.take (i+1)).foldl put a=put ((l.take i).foldl put a) l[i]:=by
 rw[Ot h,V7];rfl
def aRX (l:List Int) (h:l.length≤274877906944):aG5 l=some (Ed l):=by
 refine dP.eq ?_;unfold aG5 aRF;refine Jf l.length kZ (fun i v=>v=(l.take i).foldl put []) Ap ?_ ?_
 ·rintro i v k hi rfl j;have hl:=fK (l.take i) [];simp only[Md,FY]at hl;unfold aHM;rw[show decide ((i:Int)<(l.length:Int))=true by simpa using hi,Ba hi,wrap_succ i AA];simp only[Au,AQ];rw[jf _ _ AA];exact j _ (adz hi).symm
 rintro v k rfl;unfold aHM;rw[show decide ((l.length:Int)<(l.length:Int))=false by simp];exact .ret (by rw[GI];rfl)
def aEO (a b:List Int) (h:a.length≤274877906944) (m:b.length≤274877906944):Ze a b=some (HY a b):=by
 unfold Ze;rw[aRX a h];have hs:=ND a;refine dP.eq ?_;simp only[AQ];unfold aRa;refine Jf b.length kZ (fun i v=>v=(b.take i).foldl put (Ed a)) Ap ?_ ?_
 ·rintro i v k hi rfl j;have hl:=fK (b.take i) (Ed a);simp only[FY]at hl;unfold aJh;rw[show decide ((i:Int)<(b.length:Int))=true by simpa using hi,Ba hi,wrap_succ i AA];simp only[Au,AQ];rw[jf _ _ AA];exact j _ (adz hi).symm
 rintro v k rfl;unfold aJh;rw[show decide ((b.length:Int)<(b.length:Int))=false by simp];exact .ret (by rw[GI];rfl)
end Go.Proofs.YtldfpencimjjlaaGreat
end
section
namespace Go.Proofs.YtldfpencimjjlaaGreat
open Go.RowKit
variable {α : Type}
def JW {R:Type} (c:Bool) (x y:R):(bif c then some x else some y)=some (bif c then x else y):=by cases c<;>rfl
def aAW {A R:Type} (c:Bool) (x y:Option A) (f:A→Option R):(bif c then x else y).bind f=bif c then x.bind f else y.bind f:=by cases c<;>rfl
def ZA (a b:Bool):(bif a then true else b)=(a||b):=by cases a<;>rfl
def Tv (a b:Bool):(bif a then b else false)=(a&&b):=by cases a<;>rfl
def VH {s:ByteArray} {i:Nat} (h:i<(BZ s).length):Gx s (i:Int)=some (BZ s)[i]:=by
 unfold Gx;rw[CV (aKO i)];have h':i<s.size:=VW
 have e:s[i]? =some s[i]:=by simp[h']
 simp only[Z9,e,IW,BZ,MW];rfl
def aoF {s:ByteArray} (h:0<(BZ s).length):Gx s 0=some (BZ s)[0]:=VH (i:=0) h
def Gs {R α:Type} {body:(Int→Option R)→Int→Option R} (l:List α) (hl:l.length<Af) (p:α→Bool) (bad:R) (rest:Option R)
 (u:∀k (i:Nat) (h:i<l.length),body k (i:Int)=bif p l[i]then some bad else k (Ag ((i:Int)+1))) (z:∀k,body k (l.length:Int)=rest):
 bg body Af 0=bif l.any p then some bad else rest:=by
 have L:Af=9223372036854775808:=rfl
 have key:∀n (i:Nat),i+n=l.length→∀m,n<m→bg body m (i:Int)=bif (l.drop i).any p then some bad else rest:=by
  intro n
  induction n with
  |zero=>
   intro i hi m I;obtain⟨m,rfl⟩:∃q,m=q+1:=⟨m-1,AA⟩
   have :i=l.length:=AA
   subst this;show body (bg body m) _=_;rw[z,Om];rfl
  |succ n J=>
   intro i hi m I;obtain⟨m,rfl⟩:∃q,m=q+1:=⟨m-1,AA⟩
   have j:i<l.length:=AA
   show body (bg body m) _=_;rw[u _ i j,wrap_succ i AA,J (i+1) AA m AA,LG j,Yn];cases p l[i]<;>rfl
 have :=key l.length 0 AA Af hl;simpa using this
def bytes_inj {s t:ByteArray} (h:BZ s=BZ t):s=t:=by
 have hd:s.data.toList=t.data.toList:=by
  unfold BZ at h;refine List.map_inj_right (f:=fun c:UInt8=>(c.toNat:Int)) (fun a b j=>?_) |>.1 h;exact UInt8.toNat_inj.1 AA
 obtain⟨⟨a⟩⟩:=s;obtain⟨⟨b⟩⟩:=t;simp only at hd;rw[hd]
def toList_inj {s t:ByteArray} (h:s.toList=t.toList):s=t:=by
 rw[ByteArray.toList_eq,ByteArray.toList_eq]at h;obtain⟨⟨a⟩⟩:=s;obtain⟨⟨b⟩⟩:=t;simp only at h;rw[h]
def IQ {s t:ByteArray}:(s.toList==t.toList)=decide (s=t):=by
 by_cases h:s=t
 ·subst h;simp
 have :s.toList≠t.toList:=fun e=>h (toList_inj e);simp[h,this]
def JD {R α:Type} {body:(Int→Option R)→Int→Option R} (l:List α) (hl:l.length<Af) (q:α→Bool) (g:Nat→Option R) (rest:Option R)
 (z:∀k (i:Nat) (h:i<l.length),body k (i:Int)=bif q l[i]then g i else k (Ag ((i:Int)+1))) (I:∀k,body k (l.length:Int)=rest):
 bg body Af 0=if l.findIdx q<l.length then g (l.findIdx q)else rest:=by
 have M:Af=9223372036854775808:=rfl
 have key:∀n (i:Nat),i+n=l.length→∀m,n<m→bg body m (i:Int)=if(l.drop i).findIdx q+i<l.length then g ((l.drop i).findIdx q+i)else rest:=by
  intro n
  induction n with
  |zero=>
   intro i hi m J;obtain⟨m,rfl⟩:∃u,m=u+1:=⟨m-1,AA⟩
   have :i=l.length:=AA
   subst this;show body (bg body m) _=_;rw[I,Om,Cc AA]
  |succ n L=>
   intro i hi m J;obtain⟨m,rfl⟩:∃u,m=u+1:=⟨m-1,AA⟩
   have j:i<l.length:=AA
   show body (bg body m) _=_;rw[z _ i j,wrap_succ i AA,L (i+1) AA m AA,LG j,Tm];cases q l[i]with
   |true=>simp[j]
   |false=>simp only[Aj];rw[show(l.drop (i+1)).findIdx q+(i+1)=(l.drop (i+1)).findIdx q+1+i by omega]
 have :=key l.length 0 AA Af hl;simpa using this
def lG {s:ByteArray} {lo hi:Nat} (j:lo≤hi) (m:hi≤s.size):NU s (lo:Int) (hi:Int)=some (s.extract lo hi):=by
 unfold NU;rw[CV ⟨AA,AA,AA⟩];simp
def aSx (s:ByteArray) (a b:Nat):BZ (s.extract a b)=((BZ s).take b).drop a:=by
 simp[BZ,ByteArray.data_extract,cG,Ym,List.extract_eq_drop_take']
def wJ (l:List α) (q:α→Bool):(bif l.any (fun c=> !q c)then false else true)=l.all q:=by
 have :l.any (fun c=> !q c)= !l.all q:=by simp[List.not_all_eq_any_not]
 rw[this];cases l.all q<;>rfl
def aHI :∀(l:List UInt8) (c:UInt8),Lib.indexByte l c=if l.findIdx (· ==c)<l.length then((l.findIdx (· ==c):Nat):Int)else -1
 | [],c=>rfl
 |b::l,c=>by
  unfold Lib.indexByte;rw[Tm];cases h:b==c with
  |true=>simp
  |false=>
   rw[aHI l c];simp only[Rh,JE,Aj,Fa];by_cases hl:l.findIdx (· ==c)<l.length
   ·simp only[hl,JZ,show l.findIdx (· ==c)+1<l.length+1 by omega];have :(((l.findIdx (· ==c):Nat):Int)== -1)=false:=Ap
    simp[this]
   simp[hl,show ¬l.findIdx (· ==c)+1<l.length+1 by omega]
end Go.Proofs.YtldfpencimjjlaaGreat
end
section
namespace Go.Proofs.YtldfpencimjjlaaGreat
open Go.RowKit
structure Fl (e:AB):Prop where
 prev:e.bC.length≤40
 auth:e.bD.length≤40
 allow:e.Content.Allow.length≤100
 deny:e.Content.gy.length≤100
 users:e.Content.Levels.Users.length≤100
 kinds:e.Content.Levels.Kinds.length≤100
 room:e.Room.size≤2000
 sender:e.aP.size≤2000
 key:e.Key.size≤2000
 text:e.Content.Text.size≤2000
 via:e.Content.Via.size≤2000
 server:e.qc.Server.size≤2000
 allows:∀x∈e.Content.Allow,x.size≤2000
 denies:∀x∈e.Content.gy,x.size≤2000
 names:∀x∈e.Content.Levels.Users,x.User.size≤2000
def P7 {a b:Int} (h:decide (a>b)=false):a≤b:=by have :=Jg h;omega
def aHH {α:Type} {l:List α} {P:α→Prop} (h:∀j,(hl:j<l.length)→P l[j]):∀x∈l,P x:=fun x m=>by
 obtain⟨j,q,rfl⟩:=GZ m;exact h j q
def aIg {α:Type} {body:(Int→Option Bool)→Int→Option Bool} (l:List α) (hl:l.length<Af) (m:α→Bool) (rest:Option Bool) {P:Prop}
 (I:∀(k:Int→Option Bool) (i:Nat) (h:i<l.length),body k (i:Int)=bif m l[i]then some true else k (Ag ((i:Int)+1))) (J:∀k,body k (l.length:Int)=rest)
 (L:(∀x∈l,m x=false)→dP rest (fun b=>b=false→P)):dP (bg body Af 0) (fun b=>b=false→P):=by
 refine Xv l.length hl (fun i=>∀j,(q:j<i)→(hl:j<l.length)→m l[j]=false) (fun j q=>AA) ?_ ?_
 ·intro i k hi u M;have U:Af=9223372036854775808:=rfl;rw[I k i hi,wrap_succ i AA];refine dP.bif (fun _=>.ret (fun h=>GL)) fun e=>M fun j q z=>?_;by_cases O:j=i
  ·subst O;exact e
  exact u j AA z
 intro k u;rw[J];exact L (aHH fun j q=>u j q q)
def Bv {α R:Type} {l:List α} {i:Nat} (h:i<l.length) (f:α→Option R) (z:Option R):(bif decide ((i:Int)<(l.length:Int))then(Ae l (i:Int)).bind f else z)=f l[i]:=by
 rw[show decide ((i:Int)<(l.length:Int))=true by simpa using h,Ba h];rfl
def DC {α R:Type} {l:List α} (y z:Option R):(bif decide ((l.length:Int)<(l.length:Int))then y else z)=z:=by
 rw[show decide ((l.length:Int)<(l.length:Int))=false by simp];rfl
def ahQ (e:AB):dP (zW e) (fun b=>b=false→Fl e):=by
 have hf:Af=9223372036854775808:=rfl;have m:∀{P:Prop},dP (some true) (fun b=>b=false→P):=.ret fun h=>GL
 unfold zW;simp only[JW,AQ,ZA];refine dP.bif (fun _=>m) fun a=>?_;refine dP.bif (fun _=>m) fun b=>?_;simp only[iM]at a b;obtain⟨⟨⟨⟨⟨q,u⟩,z⟩,I⟩,J⟩,L⟩:=a;obtain⟨⟨⟨⟨⟨M,O⟩,U⟩,Y⟩,Z⟩,b6⟩:=b;have q:=P7 q;have u:=P7 u;have z:=P7 z;have I:=P7 I;have J:=P7 J;have L:=P7 L;have M:=P7 M;have O:=P7 O;have U:=P7 U;have Y:=P7 Y;have Z:=P7 Z;have b6:=P7 b6;unfold aT6;refine aIg e.Content.Allow AA (fun x=>decide ((x.size:Int)>2000)) (aPX e 0) (fun k i h=>?_) (fun k=>?_) fun c1=>?_
 ·unfold aMJ;rw[Bv h]
 ·unfold aMJ;rw[DC]
 unfold aPX;refine aIg e.Content.gy AA (fun x=>decide ((x.size:Int)>2000)) (aGk e 0) (fun k i h=>?_) (fun k=>?_) fun c2=>?_
 ·unfold aJE;rw[Bv h]
 ·unfold aJE;rw[DC]
 unfold aGk;refine aIg e.Content.Levels.Users AA (fun x=>decide ((x.User.size:Int)>2000)) (some false) (fun k i h=>?_) (fun k=>?_) fun c3=>?_
 ·unfold aOA;rw[Bv h]
 ·unfold aOA;rw[DC]
 refine .ret fun _=>⟨AA,AA,AA,AA,AA,AA,AA,AA,AA,AA,AA,AA,fun x j=>?_,fun x j=>?_,fun x j=>?_⟩
 ·have :=P7 (c1 x j);omega
 ·have :=P7 (c2 x j);omega
 have :=P7 (c3 x j);omega
def fuel_lt {n:Nat} (h:n≤1099511627776):n<Af:=jQ
def dec_lt {i n:Nat} (h:i<n):decide ((i:Int)<(n:Int))=true:=Jz
def CX (n:Nat):decide ((n:Int)<(n:Int))=false:=Ap
def H6 {R A α:Type} {body:(A→Int→Option R)→A→Int→Option R} (l:List α) (hl:l.length≤1099511627776) (step:A→α→A) (I:Nat→A→Prop) (j:A→Option R) {a0:A} (z:I 0 a0)
 (J:∀k a (i:Nat) (h:i<l.length),I i a→I (i+1) (step a l[i])∧body k a (i:Int)=k (step a l[i]) (Ag ((i:Int)+1)))
 (L:∀k a,I l.length a→body k a (l.length:Int)=j a):aQ body Af a0 0=j (l.foldl step a0):=by
 have key:∀n (i:Nat) (a:A),i+n=l.length→I i a→∀m,n<m→aQ body m a (i:Int)=j ((l.drop i).foldl step a):=by
  intro n
  induction n with
  |zero=>
   intro i a hi ha m M;obtain⟨m,rfl⟩:∃u,m=u+1:=⟨m-1,AA⟩
   have :i=l.length:=AA
   subst this;show body (aQ body m) _ _=_;rw[L _ _ ha,Om];rfl
  |succ n O=>
   intro i a hi ha m M;obtain⟨m,rfl⟩:∃u,m=u+1:=⟨m-1,AA⟩
   have q:i<l.length:=AA
   obtain⟨U,Y⟩:=J (aQ body m) a i q ha;show body (aQ body m) _ _=_;rw[Y,wrap_succ i AA,O (i+1) _ AA U m AA,LG q,Et]
 have :=key l.length 0 a0 AA z Af (fuel_lt hl);simpa using this
def lZ {R A α:Type} {body:(Int→A→Option R)→Int→A→Option R} (l:List α) (hl:l.length≤1099511627776) (step:A→α→A) (I:Nat→A→Prop) (j:A→Option R) {a0:A} (z:I 0 a0)
 (J:∀k a (i:Nat) (h:i<l.length),I i a→I (i+1) (step a l[i])∧body k (i:Int) a=k (Ag ((i:Int)+1)) (step a l[i]))
 (L:∀k a,I l.length a→body k (l.length:Int) a=j a):aQ body Af 0 a0=j (l.foldl step a0):=by
 have key:∀n (i:Nat) (a:A),i+n=l.length→I i a→∀m,n<m→aQ body m (i:Int) a=j ((l.drop i).foldl step a):=by
  intro n
  induction n with
  |zero=>
   intro i a hi ha m M;obtain⟨m,rfl⟩:∃u,m=u+1:=⟨m-1,AA⟩
   have :i=l.length:=AA
   subst this;show body (aQ body m) _ _=_;rw[L _ _ ha,Om];rfl
  |succ n O=>
   intro i a hi ha m M;obtain⟨m,rfl⟩:∃u,m=u+1:=⟨m-1,AA⟩
   have q:i<l.length:=AA
   obtain⟨U,Y⟩:=J (aQ body m) a i q ha;show body (aQ body m) _ _=_;rw[Y,wrap_succ i AA,O (i+1) _ AA U m AA,LG q,Et]
 have :=key l.length 0 a0 AA z Af (fuel_lt hl);simpa using this
def JG {α:Type} (p:α→Bool):∀l:List α,l.find? p=l[l.findIdx p]?
 | []=>rfl
 |x::l=>by
  rw[SB,Tm];cases h:p x with
  |true=>rfl
  |false=>simp[JG p l]
def Dh (l:List AB) (id:Int):Option AB:=l.find? fun e=>e.Id==id
def Gq (l:List AB) (id:Int):AB×Bool:=match Dh l id with
 |some e=>(e,true)
 |none=>(F6,false)
def aQU {l:List AB} {id:Int} {e:AB} (h:Dh l id=some e):e.Id=id:=by
 have :=dn h;simpa using this
def KL {l:List AB} {id:Int} {e:AB} (h:Dh l id=some e):e∈l:=SV h
def Oo (l:List AB) (id:Int):(Gq l id).2=(Dh l id).isSome:=by
 unfold Gq;cases Dh l id<;>rfl
def aMw (l:List AB) (hl:l.length≤1099511627776) (f:AB→Option Bool) (p:AB→Bool) (j:∀e,f e=some (p e)):
 eU l f=some (if l.findIdx p<l.length then((l.findIdx p:Nat):Int)else -1):=by
 unfold eU aac;rw[JD l (fuel_lt hl) p (fun i=>some (i:Int)) (some (-1))]
 ·split<;>rfl
 ·intro k i h;unfold aOR;rw[Bv h,j];rfl
 intro k;unfold aOR;rw[DC]
def found_eq (l:List AB) (p:AB→Bool) {n:Int} (j:n=if l.findIdx p<l.length then((l.findIdx p:Nat):Int)else -1):
 (bif decide (n<0)then some (F6,false)else(Ae l n).bind fun m=>some (m,true))=some (match l.find? p with |some e=>(e,true)|none=>(F6,false)):=by
 subst j;rw[JG];by_cases h:l.findIdx p<l.length
 ·rw[CV h,D9 h,show decide (((l.findIdx p:Nat):Int)<0)=false by simp,Ba h];rfl
 rw[Cc h,I7 AA];rfl
def MK (l:List AB) (id:Int) (hl:l.length≤1099511627776):KJ l id=some (Gq l id):=by
 unfold KJ aER aDE;rw[aMw l hl _ (fun e=>e.Id==id) fun _=>rfl];exact found_eq l _ rfl
def af6 (l:List AB) (id:Int) (hl:l.length≤1099511627776):aCi l id=some (if l.findIdx (fun e=>e.Id==id)<l.length then((l.findIdx (fun e=>e.Id==id):Nat):Int)else -1):=by
 unfold aCi aUi;rw[JD l (fuel_lt hl) (fun e=>e.Id==id) (fun i=>some (i:Int)) (some (-1))]
 ·split<;>rfl
 ·intro k i h;unfold aLp;rw[Bv h]
 intro k;unfold aLp;rw[DC]
def NQ (l:List AB) (id:Int) (hl:l.length≤1099511627776):LP l id=some (Gq l id):=by
 unfold LP;rw[af6 l id hl];exact found_eq l _ rfl
def ofIds (l:List AB) (ids:List Int):List AB:=ids.filterMap (Dh l)
def foldl_append {α β:Type} (f:α→List β):∀(l:List α) (a:List β),l.foldl (fun r x=>r++f x) a=a++l.flatMap f
 | [],a=>Ap
 |x::l,a=>by rw[Et,foldl_append f l,NJ,Hr]
def aT0 (l:List AB):∀ids,ofIds l ids=ids.flatMap fun id=>(Dh l id).toList
 | []=>rfl
 |id::ids=>by
  unfold ofIds;rw[OV,NJ,←aT0 l ids];cases Dh l id<;>rfl
def toList_le {α:Type} (o:Option α):o.toList.length≤1:=by cases o<;>simp
def La {l:List AB} {id:Int} {e:AB} (h:Dh l id=some e):Gq l id=(e,true):=by unfold Gq;rw[h]
def QH {l:List AB} {id:Int} (h:Dh l id=none):Gq l id=(F6,false):=by unfold Gq;rw[h]
def Zq (l:List AB) (ids:List Int):(ofIds l ids).length≤ids.length:=List.length_filterMap_le ..
def aeo (l:List AB) (ids:List Int):ids.foldl (fun r id=>r++(Dh l id).toList) []=ofIds l ids:=by
 rw[foldl_append (fun id=>(Dh l id).toList),aT0];rfl
def aQm (l:List AB) (ids:List Int) (hl:l.length≤1000) (hi:ids.length≤1000000):kM l ids=some (ofIds l ids):=by
 unfold kM
 have m:Il 376 F6 0 (ids.length:Int)=some []:=by
  unfold Il;rw[CV aCC];rfl
 rw[m];simp only[AQ];unfold aUs;rw[H6 ids AA (fun r id=>r++(Dh l id).toList) (fun i r=>r.length≤i) (fun r=>some r) Ap]
 ·rw[aeo]
 ·intro k a i h q;have u:=toList_le (Dh l ids[i]);refine⟨Jw,?_⟩;unfold aKR aBi;rw[Bv h,MK l _ AA];cases j:Dh l ids[i]with
  |none=>simp[QH j]
  |some e=>
   rw[La j];simp only[AQ,Au,QL];rw[D7 FM];rfl
 intro k a q;unfold aKR;rw[DC]
def aNd (l:List AB) (ids:List Int) (hl:l.length≤1000) (hi:ids.length≤1000000):yN l ids=some (ofIds l ids):=by
 unfold yN aQz;rw[H6 ids AA (fun r id=>r++(Dh l id).toList) (fun i r=>r.length≤i) (fun r=>some r) Ap]
 ·rw[aeo]
 ·intro k a i h m;have q:=toList_le (Dh l ids[i]);refine⟨Jw,?_⟩;unfold aKC aPf;rw[Bv h,NQ l _ AA];cases j:Dh l ids[i]with
  |none=>simp[QH j]
  |some e=>
   rw[La j];simp only[AQ,Au,QL];rw[D7 FM];rfl
 intro k a m;unfold aKC;rw[DC]
def aTi {α:Type} (l:List α) (i:Nat) (x:α) (h:i<l.length):l.set i x=l.take i++x::l.drop (i+1):=aJK▸by simp[h]
def ab3 {α:Type} (A:List α) (g:α) (D:List α) {n:Nat} (h:A.length=n):(A++g::D).take n=A∧(A++g::D).drop (n+1)=D:=by
 subst h;simp
def aMn (l:List Int) (x:Int) (hi:Inc l) (hl:l.length≤1000000):pY l x=some (put l x):=by
 refine dP.eq ?_;unfold pY aep
 have L:∀i,i≤l.length→(∀j,(Y:j<i)→(hl:j<l.length)→l[j]<x)→(∀h:i<l.length,x<l[i])→put l x=l.take i++x::l.drop i:=by
  intro i hi' h1 O;obtain⟨e1,U⟩:=aGo (decide<| · <x) l i hi' (fun j Y hl=>by simpa using h1 j Y hl) (fun hl=>by have :=O hl;simp;omega)
  have hno:CZ l x=false:=OJ.2 fun hm=>by
   obtain⟨q,hq,e4⟩:=GZ hm;rcases ak q i with h5|h5
   ·have :=h1 q h5 hq;omega
   have h6:=O AA;rcases ak i q with h7|h7
   ·have :=Jq.1 hi i q AA hq h7;omega
   have :q=i:=AA
   subst this;omega
  unfold put;rw[hno,e1,U];rfl
 have z:∀i,i≤l.length→∀d,d≤l.length-i→∀m,d<m→dP (aQ (VA (i:Int) x) m ((i+d:Nat):Int) (l.take (i+d)++(l++[x]).getD (i+d) 0::l.drop (i+d))) (· =l.take i++x::l.drop i):=by
  intro i I d
  induction d with
  |zero=>
   intro _ m hm;obtain⟨m,rfl⟩:∃m',m=m'+1:=⟨m-1,AA⟩
   show dP (VA (i:Int) x (aQ (VA (i:Int) x) m) _ _) _;generalize aQ (VA (i:Int) x) m=k;unfold VA;rw[show decide (((i+0:Nat):Int)>(i:Int))=false by simp];simp only[Aj,PG];have hlen:i<(l.take i++(l++[x]).getD i 0::l.drop i).length:=DU
   rw[Ba hlen];refine .ret ?_;rw[Z9,aTi _ _ _ hlen];simp[aGt,List.drop_append,yL I]
  |succ d ih=>
   intro hd m hm;obtain⟨m,rfl⟩:∃m',m=m'+1:=⟨m-1,AA⟩
   have Z:=ih AA m AA;show dP (VA (i:Int) x (aQ (VA (i:Int) x) m) _ _) _;generalize aQ (VA (i:Int) x) m=k at Z ⊢;unfold VA;rw[show decide (((i+(d+1):Nat):Int)>(i:Int))=true by simp;omega];simp only[Au];have w:Ag (((i+(d+1):Nat):Int)-1)=((i+d:Nat):Int):=QX
   have J:i+d<l.length:=AA
   have hL:(l.take (i+(d+1))++(l++[x]).getD (i+(d+1)) 0::l.drop (i+(d+1))).length=l.length+1:=DU
   have h1:i+d<(l.take (i+(d+1))++(l++[x]).getD (i+(d+1)) 0::l.drop (i+(d+1))).length:=AA
   have O:i+(d+1)<(l.take (i+(d+1))++(l++[x]).getD (i+(d+1)) 0::l.drop (i+(d+1))).length:=AA
   rw[w,Ba h1];simp only[AQ];rw[Ba O];simp only[AQ]
   have hg:(l.take (i+(d+1))++(l++[x]).getD (i+(d+1)) 0::l.drop (i+(d+1)))[i+d]=l[i+d]:=by
    rw[aKm DU];simp
   rw[hg,Z9,aTi _ _ _ O]
   have e:(l.take (i+(d+1))++(l++[x]).getD (i+(d+1)) 0::l.drop (i+(d+1))).take (i+(d+1))++l[i+d]::(l.take (i+(d+1))++(l++[x]).getD (i+(d+1)) 0::l.drop (i+(d+1))).drop (i+(d+1)+1)=l.take (i+d)++(l++[x]).getD (i+d) 0::l.drop (i+d):=by
    have ht:(l.take (i+(d+1))).length=i+(d+1):=DU
    rw[(ab3 _ _ _ ht).1,(ab3 _ _ _ ht).2];have h3:(l++[x]).getD (i+d) 0=l[i+d]:=by simp[List.getD,Gj J,J]
    rw[h3,show i+(d+1)=i+d+1 by omega,Ot J,LG J,Hr];rfl
   rw[e];exact Z
 have u:l++[x]=l.take l.length++(l++[x]).getD l.length 0::l.drop l.length:=Ap
 refine Xv l.length (fuel_lt AA) (fun i=>∀j,(Y:j<i)→(hl:j<l.length)→l[j]<x) (fun j Y=>AA) ?_ ?_
 ·intro i k I hI hk;unfold aH3;rw[show decide ((i:Int)<(l.length:Int))=true by simpa using I,Ba I];simp only[Au,AQ];refine dP.bif (fun e=>?_) fun e=>?_
  ·rw[wrap_succ i AA];refine hk fun j Y hl'=>?_;by_cases ej:j=i
   ·subst ej;simpa using e
   exact hI j AA hl'
  have hge:¬l[i]<x:=RZ
  refine dP.bif (fun U=>?_) fun U=>?_
  ·have hx:l[i]=x:=ZP
   refine .ret ?_;unfold put;rw[J3.2 (hx▸Df I)];rfl
  have hx:l[i]≠x:=ZP
  rw[D7 FM];simp only[AQ];rw[L i AA hI (fun _=>AA)];have w:Ag (((l++[x]).length:Int)-1)=((i+(l.length-i):Nat):Int):=aOc
  rw[w];have M:=z i AA (l.length-i) (Dk _) Af (fuel_lt AA);rw[show i+(l.length-i)=l.length by omega]at M ⊢;rw[←u]at M;exact M
 intro k hI;unfold aH3;rw[show decide ((l.length:Int)<(l.length:Int))=false by simp];simp only[Aj,AQ];rw[D7 FM];simp only[AQ];rw[L l.length (Dk _) hI (fun h=>AA)];have w:Ag (((l++[x]).length:Int)-1)=((l.length+0:Nat):Int):=aOc
 rw[w];have M:=z l.length (Dk _) 0 AA Af (fuel_lt AA);rw[PG]at M ⊢;rw[←u]at M;exact M
def bY (l:List AB) (id:Int):Bool:=(Dh l id).isSome
def Xm (l:List AB) (ids:List Int):List Int:=ids.foldl (fun r id=>bif bY l id then r else put r id) []
def gG (l:List AB) (ids:List Int):List Int:=(Ed ids).filter (bY l)
def LX {l:List AB} {ids:List Int} {x:Int}:x∈gG l ids↔x∈ids∧bY l x=true:=by unfold gG;rw[EY,JV]
def bK (l:List AB) (ids:List Int):Inc (gG l ids):=(Jt ids).sublist QB
def aqx (l:List AB) (ids:List Int):(gG l ids).length≤ids.length:=Eh (Ic _ _) (ND ids)
def aOC (l:List AB):∀(ids r:List Int),Inc r→Inc (ids.foldl (fun r id=>bif bY l id then r else put r id) r)∧∀x,x∈ids.foldl (fun r id=>bif bY l id then r else put r id) r↔x∈r∨x∈ids∧bY l x=false
 | [],r,h=>⟨h,fun x=>Ap⟩
 |id::ids,r,h=>by
  rw[Et];cases u:bY l id with
  |true=>
   obtain⟨m,q⟩:=aOC l ids r h;refine⟨m,fun x=>(q x).trans ⟨fun h=>?_,fun h=>?_⟩⟩
   ·rcases h with h|h
    ·exact .inl h
    exact .inr ⟨FW _ h.1,h.2⟩
   rcases h with h|⟨h,j⟩
   ·exact .inl h
   rcases Ei.1 h with rfl|h
   ·rw[u]at j;cases j
   exact .inr ⟨h,j⟩
  |false=>
   obtain⟨m,q⟩:=aOC l ids (put r id) (SL h);refine⟨m,fun x=>(q x).trans ?_⟩;rw[Vd,Ei];constructor
   ·rintro((h|rfl)|h)
    ·exact .inl h
    ·exact .inr ⟨.inl rfl,u⟩
    exact .inr ⟨.inr h.1,h.2⟩
   rintro(h|⟨rfl|h,j⟩)
   ·exact .inl (.inl h)
   ·exact .inl (.inr rfl)
   exact .inr ⟨h,j⟩
def aHp {l:List AB} {ids:List Int} {x:Int}:x∈Xm l ids↔x∈ids∧bY l x=false:=by
 unfold Xm;rw[(aOC l ids [] .nil).2 x];simp
def aaw (l:List AB) (ids:List Int):(Xm l ids).length≤ids.length:=by
 have key:∀(ids r:List Int),(ids.foldl (fun r id=>bif bY l id then r else put r id) r).length≤r.length+ids.length:=by
  intro ids
  induction ids with
  |nil=>intro r;simp
  |cons id ids j=>
   intro r;rw[Et];have m:=j (bif bY l id then r else put r id)
   have q:(bif bY l id then r else put r id).length≤r.length+1:=by
    cases bY l id with
    |true=>exact Nat.le_succ _
    |false=>exact dh r id
   simp only[Fa];omega
 have :=key ids [];simpa[Xm]using this
def aGw (l:List AB) (ids:List Int) (hl:l.length≤1000) (hi:ids.length≤100000):yO l ids=some (Xm l ids):=by
 unfold yO aSp;rw[H6 ids AA (fun r id=>bif bY l id then r else put r id) (fun i r=>Inc r∧r.length≤i) (fun r=>some r) ⟨.nil,Dk _⟩]
 ·rfl
 ·intro k a i h j;have u:=af6 l ids[i] AA
  have q:bY l ids[i]=decide (l.findIdx (fun e=>e.Id==ids[i])<l.length):=by
   unfold bY Dh;rw[JG];by_cases h:l.findIdx (fun e=>e.Id==ids[i])<l.length
   ·rw[D9 h,IJ h];rfl
   rw[I7 AA,IC h];rfl
  refine⟨?_,?_⟩
  ·cases bY l ids[i]with
   |true=>exact⟨j.1,by have :=j.2;show a.length≤i+1;omega⟩
   |false=>exact⟨SL j.1,by have :=dh a ids[i];have :=j.2;show(put a ids[i]).length≤i+1;omega⟩
  unfold aMm aNz;rw[Bv h,u];simp only[AQ];by_cases m:l.findIdx (fun e=>e.Id==ids[i])<l.length
  ·rw[CV m,q,IJ m,show decide (((l.findIdx (fun e=>e.Id==ids[i]):Nat):Int)<0)=false by simp];rfl
  rw[Cc m,q,IC m,Ba h];simp only[show decide ((-1:Int)<0)=true by decide,Au,Aj,AQ];rw[aMn a _ j.1 (by have :=j.2;omega)];rfl
 intro k a j;unfold aMm;rw[DC]
def aAX (a b:List Int) (h:a.length≤274877906944) (u:b.length≤274877906944):gW a b=some (Nv a b):=by
 unfold gW;rw[aRX a h];simp only[AQ];have ha:=ND a;unfold aTg;rw[H6 (Ed a) AA (fun r x=>bif CZ b x then r else r++[x]) (fun i r=>r.length≤i) (fun r=>some r) (Dk _)]
 ·congr 1;unfold Nv;generalize Ed a=S
  have key:∀(S r:List Int),S.foldl (fun r x=>bif CZ b x then r else r++[x]) r=r++S.filter (fun x=> !CZ b x):=by
   intro S
   induction S with
   |nil=>intro r;simp
   |cons x S j=>
    intro r;rw[Et,j,SA];cases CZ b x<;>simp
  simpa using key S []
 ·intro k r i h m;have q:=XM b (Ed a)[i] AA;refine⟨?_,?_⟩
  ·cases CZ b (Ed a)[i]with
   |true=>show r.length≤i+1;omega
   |false=>show(r++[(Ed a)[i]]).length≤i+1;simp;omega
  unfold aOd aNl;rw[Bv h,q];simp only[AQ];cases CZ b (Ed a)[i]with
  |true=>rfl
  |false=>
   simp only[IU,Au,Aj];rw[Ba h];simp only[AQ];rw[D7 FM];rfl
 intro k r m;unfold aOd;rw[DC]
def aUb (l:List AB) (ids:List Int):Nv ids (Xm l ids)=gG l ids:=
 BK (aIJ _ _) (bK _ _) fun x=>by
  rw[aN7,aHp,LX];cases bY l x<;>simp
def ao3 (l:List AB) (ids:List Int) (hl:l.length≤1000) (hi:ids.length≤100000):aMG l ids=some (gG l ids):=by
 unfold aMG;rw[aGw l ids hl hi];simp only[AQ];have :=aaw l ids;rw[aAX _ _ AA AA,aUb];rfl
def abv (l:List AB) (ids:List Int) (hl:l.length≤1000) (hi:ids.length≤100000):aDN l ids=some (gG l ids):=by
 unfold aDN;rw[aGw l ids hl hi];simp only[AQ];have :=aaw l ids;rw[aAX _ _ AA AA,aUb];rfl
def iI (l:List AB) (id:Int):List Int:=(Gq l id).1.bD
def TF (l:List AB) (r:List Int) (x:Int):List Int:=bif bY l x then put r x else r
def JJ (l:List AB) (ids:List Int):List Int:=ids.foldl (fun r id=>(iI l id).foldl (TF l) r) []
def aET (l:List AB):∀(xs r:List Int),Inc r→Inc (xs.foldl (TF l) r)∧(∀x,x∈xs.foldl (TF l) r↔x∈r∨x∈xs∧bY l x=true)∧(xs.foldl (TF l) r).length≤r.length+xs.length
 | [],r,h=>⟨h,fun x=>Ap,Ap⟩
 |y::xs,r,h=>by
  rw[Et];unfold TF;cases z:bY l y with
  |true=>
   obtain⟨q,u,j⟩:=aET l xs (put r y) (SL h);refine⟨q,fun x=>(u x).trans ?_,?_⟩
   ·rw[Vd,Ei];constructor
    ·rintro((h|rfl)|h)
     ·exact .inl h
     ·exact .inr ⟨.inl rfl,z⟩
     exact .inr ⟨.inr h.1,h.2⟩
    rintro(h|⟨rfl|h,m⟩)
    ·exact .inl (.inl h)
    ·exact .inl (.inr rfl)
    exact .inr ⟨h,m⟩
   have :=dh r y;simp only[Fa,Au]at j ⊢;exact Eh j AA
  |false=>
   obtain⟨q,u,j⟩:=aET l xs r h;refine⟨q,fun x=>(u x).trans ⟨fun h=>?_,fun h=>?_⟩,?_⟩
   ·rcases h with h|h
    ·exact .inl h
    exact .inr ⟨FW _ h.1,h.2⟩
   ·rcases h with h|⟨h,m⟩
    ·exact .inl h
    rcases Ei.1 h with rfl|h
    ·rw[z]at m;cases m
    exact .inr ⟨h,m⟩
   simp only[Fa,Aj]at j ⊢;exact Eh j AA
def aOI (l:List AB):∀(ids r:List Int),Inc r→Inc (ids.foldl (fun r id=>(iI l id).foldl (TF l) r) r)∧∀x,x∈ids.foldl (fun r id=>(iI l id).foldl (TF l) r) r↔x∈r∨bY l x=true∧∃id∈ids,x∈iI l id
 | [],r,h=>⟨h,fun x=>Ap⟩
 |id::ids,r,h=>by
  rw[Et];obtain⟨m,q,_⟩:=aET l (iI l id) r h;obtain⟨u,z⟩:=aOI l ids _ m;refine⟨u,fun x=>(z x).trans ?_⟩;rw[q x];constructor
  ·rintro((h|h)|⟨h3,i,j,h5⟩)
   ·exact .inl h
   ·exact .inr ⟨h.2,id,Ep ..,h.1⟩
   exact .inr ⟨h3,i,FW _ j,h5⟩
  rintro(h|⟨h3,i,j,h5⟩)
  ·exact .inl (.inl h)
  rcases Ei.1 j with rfl|j
  ·exact .inl (.inr ⟨h5,h3⟩)
  exact .inr ⟨h3,i,j,h5⟩
def vS (l:List AB) (ids:List Int):Inc (JJ l ids):=(aOI l ids [] .nil).1
def Rl {l:List AB} {ids:List Int} {x:Int}:x∈JJ l ids↔bY l x=true∧∃id∈ids,x∈iI l id:=by
 unfold JJ;rw[(aOI l ids [] .nil).2 x];simp
def chainOf (l:List AB) (ids:List Int):List Int:=l.foldl (fun s _=>HY s (JJ l s)) (JJ l (gG l ids))
inductive Jp (l:List AB) (ids:List Int):Int→Prop
 |one {i x:Int} (h:i∈ids) (hx:x∈iI l i) (hk:bY l x=true):Jp l ids x
 |more {y x:Int} (h:Jp l ids y) (hx:x∈iI l y) (hk:bY l x=true):Jp l ids x
def ajM {l:List AB} {i x:Int} (h:x∈iI l i):bY l i=true:=by
 unfold iI at h;unfold bY;cases j:Dh l i with
 |none=>rw[QH j]at h;cases h
 |some e=>rfl
def uh {s t:List Int} (hs:Inc s) (m:Inc t) (h:∀x∈s,x∈t):s.length≤t.length∧(t.length≤s.length→s=t):=by
 have e:s=t.filter (fun x=>CZ s x):=BK hs (m.sublist QB) fun x=>by
  rw[EY,J3];exact⟨fun j=>⟨h x j,j⟩,fun j=>j.2⟩
 have hl:=Ic (fun x=>CZ s x) t;refine⟨by rw[e];exact hl,fun q=>?_⟩;have u:(t.filter (fun x=>CZ s x)).length=t.length:=by have :=BI List.length e;omega
 rw[e];exact ug.2 (List.length_filter_eq_length_iff.1 u)
def RG (l:List AB):List Int:=Ed (l.map (·.Id))
def rF {l:List AB} {x:Int} (h:bY l x=true):x∈RG l:=by
 unfold bY at h;obtain⟨e,j⟩:=TY.1 h;exact JV.2 (Ee.2 ⟨e,KL j,aQU j⟩)
def aDV (l:List AB):∀(l':List AB) (s:List Int),Inc s→(∀x∈s,bY l x=true)→
 Inc (l'.foldl (fun s _=>HY s (JJ l s)) s)∧(∀x∈l'.foldl (fun s _=>HY s (JJ l s)) s,bY l x=true)∧(∀x∈s,x∈l'.foldl (fun s _=>HY s (JJ l s)) s)∧
 ((RG l).length≤s.length+l'.length→∀x∈JJ l (l'.foldl (fun s _=>HY s (JJ l s)) s),x∈l'.foldl (fun s _=>HY s (JJ l s)) s)
 | [],s,hs,z=>⟨hs,z,fun _ h=>h,fun hlen x m=>by
     have I:=(uh hs (Jt _) (fun x m=>rF (z x m))).2 (by show(RG l).length≤s.length;simpa using hlen);have q:=rF (Rl.1 m).1;unfold RG at q
     rw[←I]at q;exact q⟩
 |e::l',s,hs,z=>by
  rw[Et]
  have J:∀x∈HY s (JJ l s),bY l x=true:=fun x m=>by
   rcases U7.1 m with h|h
   ·exact z x h
   exact(Rl.1 h).1
  obtain⟨I,q,L,M⟩:=aDV l l' (HY s (JJ l s)) (wM _ _) J;refine⟨I,q,fun x m=>L x (U7.2 (.inl m)),fun hlen=>?_⟩;have u:=uh hs (wM s (JJ l s)) fun x m=>U7.2 (.inl m);by_cases j:s=HY s (JJ l s)
  ·
   have hst:∀(l':List AB),l'.foldl (fun s _=>HY s (JJ l s)) s=s:=by
    intro l'
    induction l' with
    |nil=>rfl
    |cons e l' O=>rw[Et,←j,O]
   rw[←j,hst];intro x m;rw[j];exact U7.2 (.inr m)
  ·refine M ?_
   have :s.length<(HY s (JJ l s)).length:=by
    rcases ak s.length (HY s (JJ l s)).length with h|h
    ·exact h
    exact absurd (u.2 h) j
   simp only[Fa]at hlen;omega
def aAN (l:List AB) (ids:List Int):Inc (chainOf l ids):=(aDV l l _ (vS _ _) fun _ j=>(Rl.1 j).1).1
def atN {l:List AB} {ids:List Int} {x:Int} (h:x∈chainOf l ids):bY l x=true:=(aDV l l _ (vS _ _) fun _ j=>(Rl.1 j).1).2.1 x h
def aax (l:List AB) (ids:List Int):∀(l':List AB) (s:List Int),(∀x∈s,Jp l ids x)→∀x∈l'.foldl (fun s _=>HY s (JJ l s)) s,Jp l ids x
 | [],s,h=>h
 |e::l',s,h=>by
  rw[Et];refine aax l ids l' _ fun x j=>?_;rcases U7.1 j with j|j
  ·exact h x j
  obtain⟨m,y,q,u⟩:=Rl.1 j;exact .more (h y q) u m
def cu {l:List AB} {ids:List Int} {x:Int}:x∈chainOf l ids↔Jp l ids x:=by
 constructor
 ·refine aax l ids l _ (fun x j=>?_) x;obtain⟨u,y,z,m⟩:=Rl.1 j;exact .one (LX.1 z).1 m u
 obtain⟨u,z,m,I⟩:=aDV l l _ (vS l (gG l ids)) fun _ j=>(Rl.1 j).1
 have hlen:(RG l).length≤(JJ l (gG l ids)).length+l.length:=by
  have :=ND (l.map (·.Id));unfold RG;simp only[CM]at this;omega
 have J:=I hlen;intro h
 induction h with
 |one h j q=>exact m _ (Rl.2 ⟨q,_,LX.2 ⟨h,ajM j⟩,j⟩)
 |more h j q L=>exact J _ (Rl.2 ⟨q,_,L,j⟩)
def aF (l:List AB) (ids:List Int):(chainOf l ids).length≤l.length:=by
 have j:=(uh (t:=RG l) (aAN l ids) (Jt _) fun x m=>rF (atN m)).1;have q:=ND (l.map fun e:AB=>e.Id);unfold RG at j;simp only[CM]at q;omega
def Qy (l:List AB):Prop:=∀e∈l,e.bD.length≤40
def aEr {l:List AB} (h:Qy l) (id:Int):(iI l id).length≤40:=by
 unfold iI;cases j:Dh l id with
 |none=>rw[QH j];exact EZ _
 |some e=>rw[La j];exact h e (KL j)
def aj9 (l:List AB) (ids:List Int):(JJ l ids).length≤l.length:=by
 have j:=(uh (t:=RG l) (vS l ids) (Jt _) fun x m=>rF (Rl.1 m).1).1;have q:=ND (l.map fun e:AB=>e.Id);unfold RG at j;simp only[CM]at q;omega
def lC {l:List AB} {r:List Int} (hi:Inc r) (h:∀x∈r,bY l x=true):r.length≤l.length:=by
 have j:=(uh (t:=RG l) hi (Jt _) fun x m=>rF (h x m)).1;have q:=ND (l.map fun e:AB=>e.Id);unfold RG at j;simp only[CM]at q;omega
def aRf (l:List AB) (ids:List Int) (hl:l.length≤1000) (ha:Qy l) (hi:ids.length≤100000):aCu l ids true=some (JJ l ids):=by
 unfold aCu aPy;rw[H6 ids AA (fun r id=>(iI l id).foldl (TF l) r) (fun i r=>Inc r∧∀x∈r,bY l x=true) (fun r=>some r) ⟨.nil,fun x q=>by cases q⟩]
 ·rfl
 ·intro k r i h u;obtain⟨J,L,_⟩:=aET l (iI l ids[i]) r u.1;refine⟨⟨J,fun x q=>?_⟩,?_⟩
  ·rcases(L x).1 q with h|h
   ·exact u.2 x h
   exact h.2
  unfold aMZ aMi;rw[Bv h,NQ l _ AA];simp only[AQ,Au];show aGa (iI l ids[i]) l k (i:Int) r 0=_;have M:=aEr ha ids[i];unfold aGa;rw[H6 (iI l ids[i]) AA (TF l) (fun _ r=>Inc r∧∀x∈r,bY l x=true) (fun r=>k r (Ag ((i:Int)+1))) u]
  ·intro k2 O j z m;refine⟨?_,?_⟩
   ·unfold TF;cases I:bY l (iI l ids[i])[j]with
    |true=>exact⟨SL m.1,fun x q=>(Vd.1 q).elim (m.2 x) fun e=>e▸I⟩
    |false=>exact m
   unfold aK1 aJW;rw[Bv z,NQ l _ AA];simp only[AQ,Oo];show(bif bY l (iI l ids[i])[j]then _ else _)=_;unfold TF;cases I:bY l (iI l ids[i])[j]with
   |true=>
    simp only[Au];rw[Ba z];simp only[AQ];have :=lC m.1 m.2;rw[jf _ _ AA];rfl
   |false=>rfl
  intro k2 O _;unfold aK1;rw[DC]
 intro k r u;unfold aMZ;rw[DC]
def anb (l:List AB) (ids:List Int) (hl:l.length≤1000) (ha:Qy l) (m:Inc ids) (q:∀x∈ids,bY l x=true):aJx l ids true=some (l.foldl (fun s _=>HY s (JJ l s)) ids):=by
 unfold aJx aaM;rw[H6 l AA (fun s _=>HY s (JJ l s)) (fun _ r=>Inc r∧∀x∈r,bY l x=true) (fun r=>some r) ⟨m,q⟩]
 ·intro k r i h j;refine⟨⟨wM _ _,fun x u=>(U7.1 u).elim (j.2 x) fun h=>(Rl.1 h).1⟩,?_⟩;have z:=lC j.1 j.2;have I:=aj9 l r;unfold aHm;rw[dec_lt h];simp only[Au];rw[aRf l r hl ha AA];simp only[AQ];rw[aEO _ _ AA AA];rfl
 intro k r j;unfold aHm;rw[CX];rfl
def aPW (l:List AB) (ids:List Int) (hl:l.length≤1000) (ha:Qy l) (hi:ids.length≤100000):jU l ids=some (chainOf l ids):=by
 unfold jU;have m:=aqx l ids;rw[ao3 l ids hl hi];simp only[AQ];rw[aRf l _ hl ha AA];simp only[AQ];rw[anb l _ hl ha (vS _ _) fun x j=>(Rl.1 j).1];rfl
section
variable {R A B C D E F G : Type} {Q : R → Prop}
def TR {body:(A→B→C→Option R)→A→B→C→Option R} (I:Nat→A→B→C→Prop) (hs:∀m a b c k,I m a b c→(∀j a' q u,j<m→I j a' q u→dP (k a' q u) Q)→dP (body k a b c) Q):
 ∀n m a b c,m<n→I m a b c→dP (ku body n a b c) Q
 |0,m,_,_,_,h,_=>AA
 |n+1,m,a,b,c,h,hi=>hs m a b c _ hi fun j a' q u h' z=>TR I hs n j a' q u AA z
def aDt {body:(A→B→C→D→E→Option R)→A→B→C→D→E→Option R} (I:Nat→A→B→C→D→E→Prop) (hs:∀m a b c d e k,I m a b c d e→(∀j a' q u z e',j<m→I j a' q u z e'→dP (k a' q u z e') Q)→dP (body k a b c d e) Q):
 ∀n m a b c d e,m<n→I m a b c d e→dP (BR body n a b c d e) Q
 |0,m,_,_,_,_,_,h,_=>AA
 |n+1,m,a,b,c,d,e,h,hi=>hs m a b c d e _ hi fun j a' q u z e' h' J=>aDt I hs n j a' q u z e' AA J
def aMU {body:(A→B→C→D→E→F→Option R)→A→B→C→D→E→F→Option R} (I:Nat→A→B→C→D→E→F→Prop) (hs:∀m a b c d e f k,I m a b c d e f→(∀j a' q u z e' J,j<m→I j a' q u z e' J→dP (k a' q u z e' J) Q)→dP (body k a b c d e f) Q):
 ∀n m a b c d e f,m<n→I m a b c d e f→dP (FB body n a b c d e f) Q
 |0,m,_,_,_,_,_,_,h,_=>AA
 |n+1,m,a,b,c,d,e,f,h,hi=>hs m a b c d e f _ hi fun j a' q u z e' J h' L=>aMU I hs n j a' q u z e' J AA L
def af2 {body:(A→B→C→D→E→F→G→Option R)→A→B→C→D→E→F→G→Option R} (I:Nat→A→B→C→D→E→F→G→Prop) (hs:∀m a b c d e f g k,I m a b c d e f g→(∀j a' q u z e' J L,j<m→I j a' q u z e' J L→dP (k a' q u z e' J L) Q)→dP (body k a b c d e f g) Q):
 ∀n m a b c d e f g,m<n→I m a b c d e f g→dP (aaW body n a b c d e f g) Q
 |0,m,_,_,_,_,_,_,_,h,_=>AA
 |n+1,m,a,b,c,d,e,f,g,h,hi=>hs m a b c d e f g _ hi fun j a' q u z e' J L h' M=>af2 I hs n j a' q u z e' J L AA M
end
def Qe {V:Type}:∀(m:List (Int×V)) (k k':Int) (v:V),C9 (E8 m k v) k'=bif k'==k then some v else C9 m k'
 | [],k,k',v=>by
   unfold E8 C9;rfl
 |p::m,k,k',v=>by
  unfold E8;cases h:k==p.1 with
  |true=>
   have j:k=p.1:=Jz
   subst j;simp only[Au,C9];cases k'==p.1<;>rfl
  |false=>
   have j:k≠p.1:=Jz
   simp only[Aj,C9,Qe m k k' v];cases q:k'==p.1 with
   |true=>
    have u:k'=p.1:=Nz
    subst u;have :(p.1==k)=false:=by simpa using fun e:p.1=k=>j e.symm
    rw[this];rfl
   |false=>rfl
def Xo (l:List AB) (m:List (Int×Int)):Prop:=∀id,(C9 m id=none∧Dh l id=none)∨∃(n:Nat) (e:AB),C9 m id=some (n:Int)∧Dh l id=some e∧l[n]? =some e
def Xo.isSome {l:List AB} {m:List (Int×Int)} (h:Xo l m) (id:Int):(C9 m id).isSome=bY l id:=by
 unfold bY;rcases h id with⟨j,q⟩|⟨n,e,j,q,_⟩<;>rw[j,q]<;>rfl
def Xo.get {l:List AB} {m:List (Int×Int)} (h:Xo l m) {id:Int} {e:AB} (q:Dh l id=some e):Ae l ((C9 m id).getD 0)=some e:=by
 rcases h id with⟨_,j⟩|⟨n,e',u,j,z⟩
 ·rw[q]at j;cases j
 rw[q]at j;cases j;rw[u];show Ae l (n:Int)=_;rw[nE,z]
def qM (l:List AB) (hl:l.length≤1000):dP (Z8 l) (Xo l):=by
 unfold Z8 aRM
 refine Xi (fun m a b=>∃i:Nat,a=(i:Int)-1∧m=i∧i≤l.length∧∀id,(C9 b id=none∧(l.drop i).find? (fun e=>e.Id==id)=none)∨∃(n:Nat) (e:AB),C9 b id=some (n:Int)∧(l.drop i).find? (fun e=>e.Id==id)=some e∧l[n]? =some e) ?_ Af l.length _ _ (fuel_lt AA)
  ⟨l.length,QX,rfl,Dk _,fun id=>.inl ⟨rfl,Ap⟩⟩
 rintro m a b k ⟨i,rfl,L,hi,h⟩ z;unfold abV;refine dP.bif (fun e=>?_) fun e=>?_
 ·have u:0<i:=by have :=QE e;omega
  have j:i-1<l.length:=AA
  have I:(i:Int)-1=((i-1:Nat):Int):=AA
  rw[I,Ba j];simp only[AQ];refine z (i-1) _ _ AA ⟨i-1,QX,rfl,AA,fun id=>?_⟩;rw[Qe,LG j,show i-1+1=i by omega,SB];cases q:l[i-1].Id==id with
  |true=>
   have :(id==l[i-1].Id)=true:=by have :l[i-1].Id=id:=Nz
                                  simp[this]
   rw[this];exact .inr ⟨i-1,l[i-1],rfl,rfl,iY⟩
  |false=>
   have :(id==l[i-1].Id)=false:=by have :l[i-1].Id≠id:=Nz
                                   simpa using fun e:id=l[i-1].Id=>this e.symm
   rw[this];exact h id
 have J:i=0:=by have :=Jg e;omega
 subst J;refine .ret fun id=>?_;have :=h id;rw[vg]at this;exact this
inductive VG (l:List AB) (from_:List Int):Int→Prop
 |one {x:Int} (h:x∈from_) (hk:bY l x=true):VG l from_ x
 |more {y x:Int} (h:VG l from_ y) (hx:x∈iI l y) (hk:bY l x=true):VG l from_ x
def VG.bY {l:List AB} {f:List Int} {x:Int} (h:VG l f x):bY l x=true:=by cases h<;>assumption
def ah8 {r:List Int} {x:Int} (h:x∉r):(put r x).length=r.length+1:=by
 unfold put;rw[Cc (by rw[J3];exact h),EG,Fa];have :=BI List.length (rO (p:=(decide<| · <x)) (l:=r));rw[EG]at this;omega
def aTL (r:List Int) (x:Int):Ed (r++[x])=put (Ed r) x:=by unfold Ed;rw[V7];rfl
structure aji (l:List AB) (from_ next axb:List Int) (i:Nat) (out later:List Int) (found level:List (Int×Bool)):Prop where
 found:∀x,(C9 found x).getD false=true↔x∈out
 level:∀x,(C9 level x).getD false=true→x∈out
 nodup:(Ed out).length=out.length
 rch:∀x∈out,VG l from_ x
 seen:∀x∈next.take i,bY l x=true→x∈out
 sub:∀x∈axb,x∈out
 ref:∀y∈out,y∈axb∨∀x∈iI l y,x∈later
 back:∀x∈later,∃y∈out,x∈iI l y
 size:later.length+40*axb.length≤40*out.length
 same:out.length=axb.length→later=[]
def aPF {l:List AB} {j:List Int} (h:(Ed j).length=j.length) (m:∀x∈j,bY l x=true):j.length≤l.length:=by
 rw[←h];exact lC (Jt j) fun x q=>m x (JV.1 q)
def ai3 (l:List AB) {x:Int} {e:AB} (h:Dh l x=some e):Y9 e=some (iI l x):=by
 unfold Y9 iI;rw[La h]
def atL (l:List AB) (q:List Int) (hl:l.length≤1000) (ha:Qy l) (hf:q.length≤10000000):
 dP (ru l q fun a0=>Y9 a0) (fun r=>Inc r∧∀x,x∈r↔VG l q x):=by
 unfold ru;refine(qM l hl).bind fun at_ Z=>?_;unfold aTM
 refine aDt (fun m z next at' found level=>at'=at_∧m=2*(l.length-z.length)+(if next=[]then 0 else 1)∧next.length≤10000000∧(∀x,(C9 found x).getD false=true↔x∈z)∧(Ed z).length=z.length∧
  (∀x∈z,VG l q x)∧(∀x∈next,bY l x=true→VG l q x)∧(∀x∈q,bY l x=true→x∈z∨x∈next)∧(∀y∈z,∀x∈iI l y,bY l x=true→x∈z∨x∈next)) ?_ Af (2*(l.length-([]:List Int).length)+(if q=[]then 0 else 1)) _ _ _ _ _ ?_ ?_
 ·rintro m z next at2 found level k ⟨aFT,rfl,hn,h1,h2,h3,h4,h5,h6⟩ M;subst aFT;unfold aTl;have hol:=aPF h2 fun x j=>(h3 x j).bY;refine dP.bif (fun e=>?_) fun e=>?_
  ·have hne:next≠[]:=by
    rintro rfl;simp at e
   unfold aek;refine aMU (body:=aL0 next l (fun a0=>Y9 a0) k) (fun(m:Nat) (o la:List Int) (c:Int) (d:List (Int×Int)) (fo le:List (Int×Bool))=>∃i:Nat,c=i∧i+m=next.length∧d=at2∧aji l q next z i o la fo le) ?_ Af next.length _ _ _ _ _ _ jQ ?_
   ·rintro m o la c d fo le k2 ⟨i,rfl,hm,rfl,u⟩ U;unfold aL0;refine dP.bif (fun e=>?_) fun e=>?_
    ·have hi:i<next.length:=RZ
     have w:=wrap_succ i AA;have aFU:=aPF u.nodup fun x j=>(u.rch x j).bY;rw[Ba hi];simp only[AQ];rw[Z.isSome];unfold aE9;have J:next.take (i+1)=next.take i++[next[i]]:=by rw[Ot hi]
     cases Y:bY l next[i]with
     |false=>
      simp only[IU,Au,AQ,w];refine U (m-1) _ _ _ _ _ _ AA ⟨i+1,rfl,AA,rfl,{ u with seen:=fun x j M=>?_ }⟩;rw[J,GU]at j;rcases j with j|j
      ·exact u.seen x j M
      rw[Gu.1 j,Y]at M;cases M
     |true=>
      simp only[Dz,Aj,AQ];by_cases O:next[i]∈o
      ·rw[(u.found next[i]).2 O];simp only[Au,AQ,w];refine U (m-1) _ _ _ _ _ _ AA ⟨i+1,rfl,AA,rfl,{ u with seen:=fun x j M=>?_ }⟩;rw[J,GU]at j;rcases j with j|j
       ·exact u.seen x j M
       rw[Gu.1 j];exact O
      have f1:(C9 fo next[i]).getD false=false:=by
       cases h:(C9 fo next[i]).getD false with
       |false=>rfl
       |true=>exact absurd ((u.found _).1 h) O
      have f2:(C9 le next[i]).getD false=false:=by
       cases h:(C9 le next[i]).getD false with
       |false=>rfl
       |true=>exact absurd (u.level _ h) O
      rw[f1,f2];simp only[Aj,AQ];obtain⟨ev,hev⟩:=TY.1 (show(Dh l next[i]).isSome=true from Y);rw[D7 FM];simp only[AQ];rw[Z.get hev];simp only[AQ];rw[ai3 l hev];simp only[AQ];have hau:=aEr ha next[i];have hsz:=u.size;rw[D7 AA];simp only[AQ,w];refine U (m-1) _ _ _ _ _ _ AA ⟨i+1,rfl,AA,rfl,?_⟩;have hnx:VG l q next[i]:=h4 _ (Df hi) Y;refine⟨fun x=>?_,fun x j=>?_,?_,fun x j=>?_,fun x j M=>?_,fun x j=>kC _ (u.sub x j),fun y L=>?_,fun x j=>?_,?_,fun h=>?_⟩
      ·rw[Qe,GU,Gu];cases j:x==next[i]with
       |true=>simp only[Au,NP,true_iff];exact .inr O7
       |false=>simp only[Aj];rw[u.found x];exact⟨.inl,fun h=>h.elim id fun h=>by simp[h]at j⟩
      ·rw[Qe]at j;rw[GU,Gu];cases hxe:x==next[i]with
       |true=>exact .inr (by simpa using hxe)
       |false=>rw[hxe]at j;exact .inl (u.level x j)
      ·rw[aTL,ah8 (fun h=>O (JV.1 h)),u.nodup];simp
      ·rcases GU.1 j with j|j
       ·exact u.rch x j
       rw[Gu.1 j];exact hnx
      ·rw[J,GU]at j;rcases j with j|j
       ·exact kC _ (u.seen x j M)
       exact aBg _ j
      ·rcases GU.1 L with L|L
       ·exact(u.ref y L).imp id fun h x j=>kC _ (h x j)
       rw[Gu.1 L];exact .inr fun x j=>aBg _ j
      ·rcases GU.1 j with j|j
       ·obtain⟨y,L,h⟩:=u.back x j;exact⟨y,kC _ L,h⟩
       exact⟨next[i],aBg _ (Gu.2 rfl),j⟩
      ·simp only[EG,Nq];omega
      have :=u.size;simp only[EG,Nq]at h;omega
    have hi:i=next.length:=by have :¬i<next.length:=RZ
                              omega
    subst hi;have aFU:=aPF u.nodup fun x j=>(u.rch x j).bY;have hsz:=u.size;refine M (2*(l.length-o.length)+(if la=[]then 0 else 1)) _ _ _ _ _ ?_ ⟨rfl,rfl,AA,u.found,u.nodup,u.rch,fun x j I=>?_,fun x j I=>?_,fun y L x j I=>?_⟩
    ·rw[Cc hne];have hle:z.length≤o.length:=AA
     rcases ak z.length o.length with h|h
     ·split<;>omega
     have :=u.same AA;rw[CV this];omega
    ·obtain⟨y,L,h⟩:=u.back x j;exact .more (u.rch y L) h I
    ·rcases h5 x j I with h|h
     ·exact .inl (u.sub x h)
     exact .inl (u.seen x (by rw[GI];exact h) I)
    rcases u.ref y L with h|h
    ·rcases h6 y h x j I with h|h
     ·exact .inl (u.sub x h)
     exact .inl (u.seen x (by rw[GI];exact h) I)
    exact .inr (h x j)
   exact⟨0,rfl,AA,rfl,⟨h1,fun x j=>by simp[C9]at j,h2,h3,fun x j=>nI,fun _ h=>h,fun y L=>.inl L,fun x j=>(Ez j).elim,Ap,fun _=>rfl⟩⟩
  have hz:next=[]:=by
   cases next with
   |nil=>rfl
   |cons a b=>simp at e
  subst hz;rw[dU z AA];refine .ret ⟨Jt _,fun x=>?_⟩;rw[JV];refine⟨h3 x,fun h=>?_⟩
  induction h with
  |one h I=>exact(h5 _ h I).elim id fun h=>(Ez h).elim
  |more h j I ih=>exact(h6 _ ih _ j I).elim id fun h=>(Ez h).elim
 ·have :Af=9223372036854775808:=rfl;split<;>(simp only[Md];omega)
 exact⟨rfl,rfl,hf,fun x=>by simp[C9],rfl,fun x j=>(Ez j).elim,fun x j M=>.one j M,fun x j _=>.inr j,fun y L=>(Ez L).elim⟩
def aL4 (l:List AB) (ids:List Int) (hl:l.length≤1000) (ha:Qy l) (hi:ids.length≤100000):Xa l ids=some (chainOf l ids):=by
 refine dP.eq ?_;unfold Xa;refine(qM l hl).bind fun at_ m=>?_;unfold acf;rw[H6 ids AA (fun r id=>r++iI l id) (fun i r=>r.length≤40*i) (fun r=>(ru l r fun a0=>Y9 a0).bind fun I=>some I) Ap]
 ·rw[foldl_append (iI l),IV]
  have hlen:(ids.flatMap (iI l)).length≤40*ids.length:=by
   have key:∀ids:List Int,(ids.flatMap (iI l)).length≤40*ids.length:=by
    intro ids
    induction ids with
    |nil=>simp
    |cons x ids z=>have :=aEr ha x;rw[NJ,EG,Fa];omega
   exact key ids
  refine(atL l _ hl ha AA).bind fun r J=>.ret ?_;refine BK J.1 (aAN l ids) fun x=>(J.2 x).trans (Iff.trans ?_ cu.symm);constructor
  ·intro h
   induction h with
   |one h j=>
    obtain⟨i,hi,h⟩:=TW.1 h;exact .one hi h j
   |more h q j z=>exact .more z q j
  intro h
  induction h with
  |one h q j=>exact .one (TW.2 ⟨_,h,q⟩) j
  |more h q j z=>exact .more z q j
 ·intro k r i h M;have L:=aEr ha ids[i];refine⟨by simp only[EG];omega,?_⟩;unfold aOk aEi;rw[Bv h,m.isSome];cases j:bY l ids[i]with
  |false=>
   have :iI l ids[i]=[]:=by
    unfold iI;rw[QH (by unfold bY at j;simpa using j)];rfl
   rw[this,P6];rfl
  |true=>
   obtain⟨ev,u⟩:=TY.1 (show(Dh l ids[i]).isSome=true from j);simp only[Au];rw[m.get u];simp only[AQ];have :iI l ids[i]=ev.bD:=by unfold iI;rw[La u]
   rw[←this,D7 AA];rfl
 intro k r _;unfold aOk;rw[DC]
def aLY :∀x:List UInt8,Op.bytesLess x x=false
 | []=>rfl
 |a::x=>by
  unfold Op.bytesLess;rw[aLY x];simp
def af7 :∀{x y z:List UInt8},Op.bytesLess x y=true→Op.bytesLess y z=true→Op.bytesLess x z=true
 |_,_,[],_,h=>aA0
 | [],_,_::_,_,_=>rfl
 |_::_,[],_::_,h,_=>aA0
 |a::x,b::y,c::z,h,k=>by
  simp only[Op.bytesLess,XT,CW,G8,Q5]at h k ⊢;rcases h with h|⟨rfl,h⟩<;>rcases k with k|⟨rfl,k⟩
  ·exact .inl (UInt8.lt_trans h k)
  ·exact .inl h
  ·exact .inl k
  exact .inr ⟨rfl,af7 h k⟩
def aS3 :∀{x y:List UInt8},Op.bytesLess x y=false→Op.bytesLess y x=false→x=y
 | [],[],_,_=>rfl
 | [],_::_,h,_=>aA0
 |_::_,[],_,h=>aA0
 |a::x,b::y,h,k=>by
  simp only[Op.bytesLess,iM,aJ2,XC,Xb]at h k;have e:a=b:=UInt8.le_antisymm (UInt8.not_lt.1 k.1) (UInt8.not_lt.1 h.1);subst e;have j:=h.2.resolve_left (fun h=>h rfl);have k2:=k.2.resolve_left (fun h=>h rfl);rw[aS3 j k2]
def F7 (a b:Ah):Bool:=decide (a.Kind<b.Kind)||(a.Kind==b.Kind&&Op.bytesLess a.Key.toList b.Key.toList)
def Ij (a b:Ah):Bool:=a.Kind==b.Kind&&decide (a.Key=b.Key)
def apd (a:Ah):F7 a a=false:=by unfold F7;rw[aLY];simp
def acZ {a b c:Ah} (h:F7 a b=true) (k:F7 b c=true):F7 a c=true:=by
 unfold F7 at *;simp only[XT,CW,G8,Q5]at *;rcases h with h|⟨m,j⟩<;>rcases k with k|⟨q,k2⟩
 ·exact .inl AA
 ·exact .inl AA
 ·exact .inl AA
 exact .inr ⟨AA,af7 j k2⟩
def X6 {a b:Ah}:Ij a b=true↔a.Kind=b.Kind∧a.Key=b.Key:=by unfold Ij;simp
def abX {a b:Ah} (h:F7 a b=false) (k:F7 b a=false):Ij a b=true:=by
 unfold F7 at *;simp only[iM,aJ2,XC,Xb]at *;have e:a.Kind=b.Kind:=AA
 rw[X6];exact⟨e,toList_inj (aS3 (h.2.resolve_left fun n=>n e) (k.2.resolve_left fun n=>n e.symm))⟩
def tu {a b:Ah} (h:Ij a b=true):F7 a b=false:=by
 obtain⟨j,m⟩:=X6.1 h;unfold F7;rw[j,m,aLY];simp
def wX {a b c:Ah} (h:Ij a b=true):F7 a c=F7 b c∧F7 c a=F7 c b:=by
 obtain⟨j,m⟩:=X6.1 h;unfold F7;rw[j,m];exact⟨rfl,rfl⟩
def alJ (a b:Ah):qV a b=some (F7 a b):=by
 unfold qV F7;cases j:decide (a.Kind<b.Kind)<;>cases m:a.Kind==b.Kind<;>rfl
def al9 (k:Int) (key:ByteArray) (m:Int) (o:ByteArray) (i j:Int):aJZ k key m o=some (F7 ⟨k,key,i⟩ ⟨m,o,j⟩):=by
 unfold aJZ F7;cases q:decide (k<m)<;>cases u:k==m<;>simp_all
def Ej (s:List Ah) (e:Ah):Nat:=s.findIdx fun x=> !F7 x e
def Jr (s:List Ah) (e:Ah):Bool:=match s[Ej s e]? with
 |some x=>Ij x e
 |none=>false
def lR (s:List Ah) (e:Ah):Ej s e≤s.length:=aG8
def aaN {s:List Ah} {e:Ah} (h:Ej s e<s.length):F7 s[Ej s e] e=false:=by
 have :=aPV (w:=h);unfold Ej;simpa using this
def acW (s:List Ah) (k:Int) (key:ByteArray) (hs:s.length≤1000000):tN s k key=some (((Ej s ⟨k,key,0⟩:Nat):Int),Jr s ⟨k,key,0⟩):=by
 unfold tN aGu adq;generalize z:(⟨k,key,0⟩:Ah)=e
 have m:bg (aBX s (fun a0=>wH a0 e) (fun a0=>yK a0 e)) Af 0=some (((Ej s e:Nat):Int),Jr s e):=by
  rw[JD s (fuel_lt AA) (fun x=> !F7 x e) (fun i=>some (((i:Nat):Int),match s[i]? with |some x=> !F7 e x|none=>false)) (some (((s.length:Nat):Int),false))]
  ·split
   ·rename_i h;congr 2;unfold Jr Ej;rw[D9 h];have q:F7 s[s.findIdx fun x=> !F7 x e] e=false:=aaN h;show(!F7 e s[s.findIdx fun x=> !F7 x e])=Ij s[s.findIdx fun x=> !F7 x e] e;cases j:F7 e s[s.findIdx fun x=> !F7 x e]with
    |false=>rw[abX q j];rfl
    |true=>
     cases u:Ij s[s.findIdx fun x=> !F7 x e] e with
     |false=>rfl
     |true=>rw[(wX u).2,apd]at j;cases j
   rename_i h;have h':Ej s e=s.length:=by have :=lR s e;unfold Ej at *;omega
   have j:Jr s e=false:=by unfold Jr;rw[h',I7 (Dk _)]
   rw[h',j]
  ·intro k2 i h;unfold aBX;rw[Bv h,Bv h];simp only[wH,yK,alJ,AQ];rw[D9 h];cases F7 s[i] e<;>rfl
  intro k2;unfold aBX;rw[DC,DC];rfl
 rw[m];rfl
def J6 (s:List Ah):Prop:=s.Pairwise fun a b=>F7 a b=true
def Fj (s:List Ah) (k:Int) (key:ByteArray):Int×Bool:=match s.find? fun x=>Ij x ⟨k,key,0⟩with
 |some x=>(x.Id,true)
 |none=>(0,false)
def aGl (s:List Ah) (k:Int) (key:ByteArray) (hs:s.length≤1000000):xX s k key=some (Fj s k key):=by
 unfold xX aUc;rw[JD s (fuel_lt AA) (fun x=>Ij x ⟨k,key,0⟩) (fun i=>(Ae s (i:Int)).bind fun j=>some (j.Id,true)) (some (0,false))]
 ·unfold Fj;rw[JG];split
  ·rename_i h;rw[Ba h,D9 h];rfl
  rename_i h;rw[I7 AA]
 ·intro k2 i h;unfold aLL;rw[Bv h,Ba h];simp only[AQ];unfold Ij;rw[IQ];cases s[i].Kind==k<;>rfl
 intro k2;unfold aLL;rw[DC]
def ahY {s:List Ah} (h:J6 s) (e:Ah):s.find? (fun x=>Ij x e)=match s[Ej s e]? with |some x=>if Ij x e then some x else none|none=>none:=by
 induction s with
 |nil=>rfl
 |cons a s q=>
  have h':=OU.1 h;unfold Ej;rw[SB,Tm];cases j:F7 a e with
  |true=>
   have hs:Ij a e=false:=by
    cases hs:Ij a e with
    |false=>rfl
    |true=>rw[tu hs]at j;cases j
   rw[hs];simp only[Dz,Aj,zQ];exact q h'.2
  |false=>
   simp only[IU,Au,aIE];cases hs:Ij a e with
   |true=>rfl
   |false=>
    simp only[Rh,JE];refine aB9.2 fun x u z=>?_;have m:=h'.1 x u;rw[(wX z).2,j]at m;cases m
def aGz (s:List Ah) (k:Int) (key:ByteArray) (hs:s.length≤1000000) (h:J6 s):mM s k key=some (Fj s k key):=by
 unfold mM;rw[acW s k key hs];simp only[AQ];unfold Fj Jr;rw[ahY h];by_cases hl:Ej s ⟨k,key,0⟩<s.length
 ·rw[D9 hl];simp only;cases j:Ij s[Ej s ⟨k,key,0⟩] ⟨k,key,0⟩with
  |true=>simp only[Au,JZ];rw[Ba hl];rfl
  |false=>rfl
 rw[I7 AA];rfl
def FQ (s:List Ah) (k:Int) (key:ByteArray) (id:Int):List Ah:=
 s.take (Ej s ⟨k,key,0⟩)++⟨k,key,id⟩::s.drop (Ej s ⟨k,key,0⟩+bif Jr s ⟨k,key,0⟩then 1 else 0)
def anE {s:List Ah} {e:Ah} (h:Jr s e=true):Ej s e<s.length:=by
 unfold Jr at h;by_cases hl:Ej s e<s.length
 ·exact hl
 rw[I7 AA]at h;cases h
def xF {α:Type} {l:List α} {i:Nat} (hi:i≤l.length):Hg l 0 (i:Int)=some (l.take i):=by
 have :=iF (l:=l) (lo:=0) (hi:=i) AA hi;simpa using this
def X0 {α:Type} {l:List α} {i:Nat} (hi:i≤l.length):Hg l (i:Int) (l.length:Int)=some (l.drop i):=by
 rw[iF (l:=l) (lo:=i) (hi:=l.length) hi AA];congr 1;exact QN Ap
def Xy (s:List Ah) (k:Int) (key:ByteArray) (id:Int) (hs:s.length≤1000000):RJ s k key id=some (FQ s k key id):=by
 unfold RJ;rw[acW s k key hs];simp only[AQ];have j:=lR s ⟨k,key,0⟩;unfold aCX FQ;rw[xF j];simp only[AQ];rw[D7 DU];simp only[AQ,IV];rw[D7 DU];simp only[AQ];cases m:Jr s ⟨k,key,0⟩with
 |true=>
  have hl:=anE m;simp only[Au];rw[wrap_succ _ AA,X0 hl];simp only[AQ];rw[D7 DU];simp
 |false=>
  simp only[Aj];rw[X0 j];simp only[AQ];rw[D7 DU];simp
def aOH (s:List Ah) (k:Int) (key:ByteArray) (id:Int) (hs:s.length≤1000000):jD s k key id=some (FQ s k key id):=by
 unfold jD aS5
 have j:∀(k2:Int→Option (List Ah)),aH k2 ((Ej s ⟨k,key,0⟩:Nat):Int) s k key id false=some (FQ s k key id):=by
  intro k2;have q:=lR s ⟨k,key,0⟩;unfold aH aIa FQ;simp only[Aj];rw[xF q];simp only[AQ];rw[D7 DU];simp only[AQ,IV];rw[D7 DU];simp only[AQ];by_cases hl:Ej s ⟨k,key,0⟩<s.length
  ·rw[dec_lt hl,Ba hl];simp only[Au,AQ]
   have u:Jr s ⟨k,key,0⟩=(s[Ej s ⟨k,key,0⟩].Kind==k&&decide (s[Ej s ⟨k,key,0⟩].Key=key)):=by
    unfold Jr;rw[D9 hl];rfl
   rw[u,IQ,←Tv];cases z:s[Ej s ⟨k,key,0⟩].Kind==k with
   |false=>
    simp only[Aj,AQ];rw[X0 q];simp only[AQ];rw[D7 DU];simp
   |true=>
    simp only[Au,AQ];cases decide (s[Ej s ⟨k,key,0⟩].Key=key)with
    |true=>
     simp only[Au];rw[wrap_succ _ AA,X0 hl];simp only[AQ];rw[D7 DU];simp
    |false=>
     simp only[Aj];rw[X0 q];simp only[AQ];rw[D7 DU];simp
  have m:Ej s ⟨k,key,0⟩=s.length:=AA
  have u:Jr s ⟨k,key,0⟩=false:=by unfold Jr;rw[m,I7 (Dk _)]
  rw[u,m,CX];simp only[Aj,AQ];rw[X0 (Dk _)];simp only[AQ];rw[D7 DU];simp
 rw[JD s (fuel_lt AA) (fun x=> !F7 x ⟨k,key,0⟩) (fun i=>aH (fun _=>none) (i:Int) s k key id false) (aH (fun _=>none) (s.length:Int) s k key id false)]
 ·split
  ·exact j _
  rename_i h;have m:Ej s ⟨k,key,0⟩=s.length:=ady
  have :=j fun _=>none;rw[m]at this;exact this
 ·intro k2 i h;unfold aMN;rw[dec_lt h,Ba h];simp only[Au,AQ];rw[al9 _ _ _ _ s[i].Id 0];simp only[AQ];show aH k2 _ s k key id (F7 s[i] ⟨k,key,0⟩)=_;cases F7 s[i] ⟨k,key,0⟩<;>rfl
 intro k2;unfold aMN;rw[CX];rfl
def Pe (s:List Ah) (k:Int) (key:ByteArray) (id:Int):(FQ s k key id).length≤s.length+1:=by
 unfold FQ;have :=lR s ⟨k,key,0⟩;simp only[EG,Fa,FY,Kw];omega
def arq {s:List Ah} {e x:Ah} (h:x∈s.take (Ej s e)):F7 x e=true:=by
 obtain⟨i,hi,rfl⟩:=GZ h;have j:i<Ej s e:=by simp at hi;omega
 have :=List.not_of_lt_findIdx j;rw[vZ];simpa using this
def aQH {s:List Ah} (hs:J6 s) {e x:Ah} (h:x∈s.drop (Ej s e+bif Jr s e then 1 else 0)):F7 e x=true:=by
 generalize m:(Ej s e+bif Jr s e then 1 else 0)=n at h;obtain⟨i,hi,rfl⟩:=GZ h;rw[List.getElem_drop];rw[Kw]at hi;by_cases hl:Ej s e<s.length
 ·have I:=aaN hl;cases j:Jr s e with
  |true=>
   rw[j]at m;simp only[Au]at m;have q:Ij s[Ej s e] e=true:=aT3
   rw[←(wX q).1];exact Jq.1 hs _ _ hl AA AA
  |false=>
   rw[j]at m;simp only[Aj,PG]at m;subst m;have q:Ij s[Ej s e] e=false:=aT3
   have u:F7 e s[Ej s e]=true:=by
    cases h:F7 e s[Ej s e]with
    |true=>rfl
    |false=>rw[abX I h]at q;cases q
   rcases YB i with z|z
   ·subst z;simpa using u
   exact acZ u (Jq.1 hs _ _ hl AA AA)
 omega
def Wj {s:List Ah} (h:J6 s) (k:Int) (key:ByteArray) (id:Int):J6 (FQ s k key id):=by
 have q:Ij ⟨k,key,id⟩ ⟨k,key,0⟩=true:=X6.2 ⟨rfl,rfl⟩;unfold FQ J6;refine aS.2 ⟨h.sublist (List.take_sublist ..),OU.2 ⟨fun x j=>?_,h.sublist (List.drop_sublist ..)⟩,fun x j y m=>?_⟩
 ·rw[(wX q).1];exact aQH h j
 have u:F7 x ⟨k,key,0⟩=true:=arq j;rcases Ei.1 m with rfl|m
 ·rw[(wX q).2];exact u
 exact acZ u (aQH h m)
structure O5 (l:List (List Ah)):Prop where
 len:l.length≤100
 each:∀s∈l,s.length≤100∧J6 s
def Iy (l:List (List Ah)) (x:Ah):Bool:=l.all fun s=>(Fj s x.Kind x.Key).2&&(Fj s x.Kind x.Key).1==x.Id
def aoC (l:List (List Ah)) (x:Ah) (h:O5 l):aCl l x=some (Iy l x):=by
 unfold aCl aRH;rw[Gs l (fuel_lt (by have :=h.len;omega)) (fun s=> !((Fj s x.Kind x.Key).2&&(Fj s x.Kind x.Key).1==x.Id)) false (some true)]
 ·unfold Iy;rw[JW,wJ]
 ·intro k i hi;obtain⟨m,j⟩:=h.each l[i] (Df hi);unfold aHL;rw[Bv hi,aGz _ _ _ AA j];simp only[AQ];cases(Fj l[i] x.Kind x.Key).2<;>simp[bne]
 intro k;unfold aHL;rw[DC]
def al8 (l:List (List Ah)) (x:Ah) (h:O5 l):aM0 l x=some (Iy l x):=by
 unfold aM0 aQI;rw[Gs l (fuel_lt (by have :=h.len;omega)) (fun s=> !((Fj s x.Kind x.Key).2&&(Fj s x.Kind x.Key).1==x.Id)) false (some true)]
 ·unfold Iy;rw[JW,wJ]
 ·intro k i hi;obtain⟨j,m⟩:=h.each l[i] (Df hi);unfold aOt;rw[Bv hi,aGl _ _ _ AA];simp only[AQ];cases(Fj l[i] x.Kind x.Key).2<;>simp[bne]
 intro k;unfold aOt;rw[DC]
def Hq (l:List (List Ah)):List Ah:=match l with
 | []=>[]
 |s::_=>s.filter (Iy l)
def QA (l:List (List Ah)):List Int:=(l.flatMap fun s=>s.filter fun x=> !Iy l x).map (·.Id)
def QF (l:List (List Ah)) (i:Nat):List Ah:=if i=0 then[]else Hq l
def NH (l:List (List Ah)) (i:Nat):List Int:=((l.take i).flatMap fun s=>s.filter fun x=> !Iy l x).map (·.Id)
def adn {l:List (List Ah)} {i:Nat} (h:i<l.length):QF l (i+1)=QF l i++(if i=0 then l[i].filter (Iy l)else[]):=by
 unfold QF Hq;cases l with
 |nil=>simp at h
 |cons s l=>cases i<;>simp
def aH8 {l:List (List Ah)} {i:Nat} (h:i<l.length):NH l (i+1)=NH l i++(l[i].filter fun x=> !Iy l x).map (·.Id):=by
 unfold NH;rw[Ot h,List.flatMap_append,JU];simp
def aGn (l:List (List Ah)):NH l l.length=QA l:=by unfold NH QA;rw[GI]
def ae5 (l:List (List Ah)):QF l l.length=Hq l:=by
 unfold QF;cases l with
 |nil=>rfl
 |cons s l=>simp
def aMd {l:List (List Ah)} (h:O5 l) (i:Nat):(NH l i).length≤100*i:=by
 induction i with
 |zero=>simp[NH]
 |succ i j=>
  by_cases hi:i<l.length
  ·rw[aH8 hi,EG,CM];have :=(h.each _ (Df hi)).1;have :=Ic (fun x=> !Iy l x) l[i];omega
  have :NH l (i+1)=NH l i:=by unfold NH;rw[QN AA,QN AA]
  rw[this];omega
def aE4 {l:List (List Ah)} (h:O5 l):(QA l).length≤10000:=by
 have :=aMd h l.length;rw[aGn]at this;have :=h.len;omega
def dJ {l:List (List Ah)} (h:O5 l):(Hq l).length≤100:=by
 unfold Hq;cases l with
 |nil=>exact EZ _
 |cons s l=>exact Eh (Ic _ _) (h.each s (Ep ..)).1
def ad3 {l:List (List Ah)} (h:O5 l):J6 (Hq l):=by
 unfold Hq;cases l with
 |nil=>exact .nil
 |cons s l=>exact(h.each s (Ep ..)).2.sublist QB
def adp (l:List (List Ah)) (h:O5 l):vk l=some (Hq l,Ed (QA l)):=by
 have hlen:=h.len;refine dP.eq ?_;unfold vk ac6;refine aMU (body:=aKc l) (fun(m:Nat) (a:List Ah) (b:List Int) (c:Int) (d:List (List Ah)) (_:List Ah) (_:List Int)=>∃i:Nat,c=i∧i+m=l.length∧d=l∧a=QF l i∧b=NH l i) ?_ Af l.length [] [] 0 l [] [] (fuel_lt AA) ⟨0,rfl,AA,rfl,rfl,by simp[NH]⟩;rintro m a b c d e f k ⟨i,rfl,hm,rfl,rfl,rfl⟩ U;unfold aKc;refine dP.bif (fun hi=>?_) fun hi=>?_
 ·have hi:i<d.length:=Fp
  have hs:=(h.each d[i] (Df hi)).1;have Y:=aMd h i;rw[Ba hi];simp only[AQ,xB];unfold aRE
  refine af2 (body:=aIs d[i] k (i:Int)) (fun(J:Nat) (a:List Ah) (b:List Int) (c:Int) (u:List (List Ah)) (_:List Ah) (_:List Int) (g:Int)=>
   ∃j:Nat,c=j∧j+J=d[i].length∧u=d∧g=i∧a=QF d i++(if i=0 then(d[i].take j).filter (Iy d)else[])∧b=NH d i++((d[i].take j).filter fun x=> !Iy d x).map (·.Id)) ?_ Af d[i].length _ _ _ _ _ _ _ (fuel_lt AA) ⟨0,rfl,AA,rfl,rfl,Ap,Ap⟩
  rintro J a b c u e2 f2 g k2 ⟨j,rfl,Z,rfl,rfl,rfl,rfl⟩ I;unfold aIs;refine dP.bif (fun z=>?_) fun z=>?_
  ·have z:j<u[i].length:=U3
   have q:u[i].take (j+1)=u[i].take j++[u[i][j]]:=by rw[Ot z]
   rw[Ba z];simp only[AQ];rw[aoC u _ h];simp only[AQ];have w:=wrap_succ j AA;have L:=Ic (fun x=> !Iy u x) (u[i].take j);have M:=Ic (Iy u) (u[i].take j)
   have hst:(QF u i).length≤100:=by unfold QF;split; ·exact EZ _
                                    ·exact dJ h
   rw[FY]at L M;cases ha:Iy u u[i][j]with
   |false=>
    simp only[IU,Au];rw[D7 (by simp only[EG,CM,Nq];omega)];simp only[AQ,w];refine I (J-1) _ _ _ _ _ _ _ AA ⟨j+1,rfl,AA,rfl,rfl,?_,?_⟩
    ·rw[q,Pj];simp[ha]
    rw[q,Pj];simp[ha]
   |true=>
    simp only[Dz,Aj];by_cases O:i=0
    ·subst O;simp only[show(((0:Nat):Int)==0)=true from rfl,Au,JZ];rw[D7 Uo];simp only[AQ,w];refine I (J-1) _ _ _ _ _ _ _ AA ⟨j+1,rfl,AA,rfl,rfl,?_,?_⟩
     ·rw[q,Pj];simp[ha]
     rw[q,Pj];simp[ha]
    have :((i:Int)==0)=false:=by simpa using O
    rw[this];simp only[Aj,w];refine I (J-1) _ _ _ _ _ _ _ AA ⟨j+1,rfl,AA,rfl,rfl,?_,?_⟩
    ·simp[O]
    rw[q,Pj];simp[ha]
  have z:j=u[i].length:=by have :¬j<u[i].length:=U3
                           omega
  subst z;rw[wrap_succ i AA,GI];exact U (m-1) _ _ _ _ _ _ AA ⟨i+1,rfl,AA,rfl,(adn hi).symm,(aH8 hi).symm⟩
 have hi:i=d.length:=by have :¬i<d.length:=Fp
                        omega
 subst hi;have :=aE4 h;rw[aGn,ae5,dU _ AA];exact .ret rfl
def aSz (l:List (List Ah)) (h:O5 l):aCO l=some (Hq l,Ed (QA l)):=by
 have hlen:=h.len;refine dP.eq ?_;unfold aCO aTV;refine TR (body:=aOV l) (fun(m:Nat) (a:List Ah) (b:List Int) (c:Int)=>∃i:Nat,c=i∧i+m=l.length∧a=QF l i∧b=Ed (NH l i)) ?_ Af l.length [] [] 0 (fuel_lt AA) ⟨0,rfl,AA,rfl,by simp[NH,Ed]⟩;rintro m a b c k ⟨i,rfl,hm,rfl,rfl⟩ U;unfold aOV;refine dP.bif (fun hi=>?_) fun hi=>?_
 ·have hi:i<l.length:=Fp
  have hs:=(h.each l[i] (Df hi)).1;have Y:=aMd h i;unfold aQq
  refine TR (body:=aOX l (i:Int) k) (fun(I:Nat) (a:List Ah) (b:List Int) (c:Int)=>
   ∃j:Nat,c=j∧j+I=l[i].length∧a=QF l i++(if i=0 then(l[i].take j).filter (Iy l)else[])∧b=Ed (NH l i++((l[i].take j).filter fun x=> !Iy l x).map (·.Id))) ?_ Af l[i].length _ _ _ (fuel_lt AA) ⟨0,rfl,AA,Ap,Ap⟩
  rintro I a b c k2 ⟨j,rfl,Z,rfl,rfl⟩ z;unfold aOX;rw[Ba hi];simp only[AQ];refine dP.bif (fun u=>?_) fun u=>?_
  ·have u:j<l[i].length:=MR
   have q:l[i].take (j+1)=l[i].take j++[l[i][j]]:=by rw[Ot u]
   rw[Ba u];simp only[AQ];rw[al8 l _ h];simp only[AQ];have w:=wrap_succ j AA;have J:=Ic (fun x=> !Iy l x) (l[i].take j);have L:=Ic (Iy l) (l[i].take j)
   have hst:(QF l i).length≤100:=by unfold QF;split; ·exact EZ _
                                    ·exact dJ h
   have M:=ND (NH l i++((l[i].take j).filter fun x=> !Iy l x).map fun e:Ah=>e.Id);rw[EG,CM]at M;rw[FY]at J L;cases ha:Iy l l[i][j]with
   |false=>
    simp only[IU,Au];rw[jf _ _ AA];unfold nR;simp only[AQ,w];refine z (I-1) _ _ _ AA ⟨j+1,rfl,AA,?_,?_⟩
    ·rw[q,Pj];simp[ha]
    rw[q,Pj,JU,←Hr];simp only[ha,SA,IU,JZ,List.filter_nil,Ig,List.map_nil];rw[aTL]
   |true=>
    simp only[Dz,Aj];unfold nR;by_cases O:i=0
    ·subst O;simp only[show(((0:Nat):Int)==0)=true from rfl,Au,JZ,AQ];rw[D7 Uo];simp only[AQ,w];refine z (I-1) _ _ _ AA ⟨j+1,rfl,AA,?_,?_⟩
     ·rw[q,Pj];simp[ha]
     rw[q,Pj];simp[ha]
    have :((i:Int)==0)=false:=by simpa using O
    rw[this];simp only[Aj,w];refine z (I-1) _ _ _ AA ⟨j+1,rfl,AA,?_,?_⟩
    ·simp[O]
    rw[q,Pj];simp[ha]
  have u:j=l[i].length:=by have :¬j<l[i].length:=MR
                           omega
  subst u;rw[wrap_succ i AA,GI];exact U (m-1) _ _ _ AA ⟨i+1,rfl,AA,(adn hi).symm,by rw[←aH8 hi]⟩
 have hi:i=l.length:=by have :¬i<l.length:=Fp
                        omega
 subst hi;rw[aGn,ae5];exact .ret rfl
def RQ (s:List Ah):List Int:=s.map (·.Id)
def Ef (l:List AB) (s:List Ah):List Int:=HY (RQ s) (chainOf l (RQ s))
def allOf (l:List AB) (j:List (List Ah)):List Int:=j.foldl (fun a s=>HY a (Ef l s)) []
def Ih (l:List AB) (j:List (List Ah)) (x:Int):Nat:=j.countP fun s=>CZ (Ef l s) x
def OH (l:List AB) (j:List (List Ah)):List Int:=(allOf l j).filter fun x=>decide (Ih l j x<j.length)
def Io (l:List AB) (j:List (List Ah)):List Int:=HY (Ed (QA j)) (OH l j)
def afG (l:List AB) (s:List Ah):Inc (Ef l s):=wM _ _
def aJ3 (s:List Ah):(RQ s).length=s.length:=CM _
def qK (l:List AB) (s:List Ah):(Ef l s).length≤s.length+l.length:=by
 have j:=aLM (RQ s) (chainOf l (RQ s));have m:=aF l (RQ s);rw[aJ3]at j;unfold Ef;omega
def aHc (l:List AB):∀(j:List (List Ah)) (a:List Int),Inc a→Inc (j.foldl (fun a s=>HY a (Ef l s)) a)∧∀x,x∈j.foldl (fun a s=>HY a (Ef l s)) a↔x∈a∨∃s∈j,x∈Ef l s
 | [],a,h=>⟨h,fun x=>Ap⟩
 |s::j,a,h=>by
  rw[Et];obtain⟨q,u⟩:=aHc l j (HY a (Ef l s)) (wM _ _);refine⟨q,fun x=>(u x).trans ?_⟩;rw[U7];constructor
  ·rintro((h|h)|⟨t,m,h4⟩)
   ·exact .inl h
   ·exact .inr ⟨s,Ep ..,h⟩
   exact .inr ⟨t,FW _ m,h4⟩
  rintro(h|⟨t,m,h4⟩)
  ·exact .inl (.inl h)
  rcases Ei.1 m with rfl|m
  ·exact .inl (.inr h4)
  exact .inr ⟨t,m,h4⟩
def ajj (l:List AB) (j:List (List Ah)):Inc (allOf l j):=(aHc l j [] .nil).1
def aaz {l:List AB} {j:List (List Ah)} {x:Int}:x∈allOf l j↔∃s∈j,x∈Ef l s:=by
 unfold allOf;rw[(aHc l j [] .nil).2 x];simp
def anM (l:List AB) (j:List (List Ah)):Inc (OH l j):=(ajj l j).sublist QB
def cnt_lt {l:List AB} {j:List (List Ah)} {x:Int}:Ih l j x<j.length↔∃s∈j,x∉Ef l s:=by
 unfold Ih;have h:=List.countP_le_length (p:=fun s=>CZ (Ef l s) x) (l:=j);have u:=List.countP_eq_length (p:=fun s=>CZ (Ef l s) x) (l:=j);constructor
 ·intro I;by_cases m:∀s∈j,CZ (Ef l s) x=true
  ·have :=u.2 m;omega
  simp only[Classical.not_forall]at m;obtain⟨s,hs,q⟩:=m;exact⟨s,hs,fun J=>q (J3.2 J)⟩
 rintro⟨s,hs,q⟩;rcases ak (j.countP fun s=>CZ (Ef l s) x) j.length with z|z
 ·exact z
 exact absurd (J3.1 (u.1 AA s hs)) q
def aSZ {l:List AB} {j:List (List Ah)} {x:Int}:x∈OH l j↔(∃s∈j,x∈Ef l s)∧∃s∈j,x∉Ef l s:=by
 unfold OH;rw[EY,aaz,G8,cnt_lt]
def aUT {j:List (List Ah)} {x:Ah}:Iy j x=true↔∀s∈j,(Fj s x.Kind x.Key).2=true∧(Fj s x.Kind x.Key).1=x.Id:=by
 unfold Iy;rw[DT];simp
def aDB (l:List AB):∀(j:List (List Ah)) (a:List Int),(∀s∈j,s.length≤100)→(j.foldl (fun a s=>HY a (Ef l s)) a).length≤a.length+j.length*(100+l.length)
 | [],a,_=>Ap
 |s::j,a,h=>by
  rw[Et];have q:=aDB l j (HY a (Ef l s)) fun t m=>h t (FW _ m);have u:=aLM a (Ef l s);have z:=qK l s;have I:=h s (Ep ..);rw[Fa,UK];omega
def aRm {l:List AB} {j:List (List Ah)} (hs:O5 j) (hl:l.length≤1000):(OH l j).length≤110000:=by
 have m:=aDB l j [] fun s h=>(hs.2 s h).1;have q:=hs.1;have u:=Ic (fun x=>decide (Ih l j x<j.length)) (allOf l j);have z:j.length*(100+l.length)≤100*1100:=aCJ q AA;unfold OH;unfold allOf at u ⊢;simp only[Md]at m;omega
def ao2 {s:List Ah} (h:J6 s) {x:Ah} (z:x∈s):Fj s x.Kind x.Key=(x.Id,true):=by
 unfold Fj;cases u:s.find? (fun y=>Ij y ⟨x.Kind,x.Key,0⟩)with
 |none=>
  have :=aB9.1 u x z;unfold Ij at this;simp at this
 |some y=>
  have I:=dn u;have M:=SV u;have J:Ij y x=true:=by unfold Ij at I ⊢;exact I
  have :y=x:=by
   obtain⟨i,hi,rfl⟩:=GZ z;obtain⟨j,L,rfl⟩:=GZ M;rcases yQ i j with m|m|m
   ·have q:=Jq.1 h i j hi L m;have O:Ij s[i] s[j]=true:=by obtain⟨a,b⟩:=X6.1 J;exact X6.2 ⟨a.symm,b.symm⟩
    rw[tu O]at q;cases q
   ·subst m;rfl
   have q:=Jq.1 h j i L hi m;rw[tu J]at q;cases q
  rw[this]
def aIY {s:List Ah} {k:Int} {key:ByteArray} {n:Int} (h:Fj s k key=(n,true)):(⟨k,key,n⟩:Ah)∈s:=by
 unfold Fj at h;cases j:s.find? (fun y=>Ij y ⟨k,key,0⟩)with
 |none=>rw[j]at h;cases h
 |some y=>
  rw[j]at h;have q:Ij y ⟨k,key,0⟩=true:=by have :=dn j;exact this
  have m:=X6.1 q;have u:=SV j;obtain⟨a,b,c⟩:=y;cases h;simp only at m;rw[←m.1,←m.2];exact u
def aiM {j:List (List Ah)} {x:Ah} (m:Iy j x=true) {s:List Ah} (hs:s∈j):x∈s:=by
 obtain⟨q,u⟩:=aUT.1 m s hs;exact aIY (s:=s) (k:=x.Kind) (key:=x.Key) (n:=x.Id) (by rw[←q,←u])
def akl {j:List (List Ah)} (h:O5 j) {x:Ah} (m:∀s∈j,x∈s):Iy j x=true:=
 aUT.2 fun s hs=>by rw[ao2 (h.2 s hs).2 (m s hs)];exact⟨rfl,rfl⟩
def adO {j:List (List Ah)} (h:O5 j) (q:j≠[]) {x:Ah}:x∈Hq j↔∀s∈j,x∈s:=by
 cases j with
 |nil=>exact absurd rfl q
 |cons s j=>
  show x∈s.filter (Iy (s::j))↔_;rw[EY];exact⟨fun m t u=>aiM m.2 u,fun m=>⟨m s (Ep ..),akl h m⟩⟩
def aQE (l:List Int) (h:l.length≤1099511627776):((Nj l).bind fun x=>(Sz x).bind fun y=>some y)=some (Ed l):=by
 unfold Nj Sz;have j:(QZ l).length≤1099511627776:=by rw[(Uj l).length_eq];exact h
 simp[h,aCc,zh]
def aPq (s:List Ah):s.foldl (fun r x=>r++[x.Id]) []=RQ s:=by
 rw[foldl_append (fun x:Ah=>[x.Id])];unfold RQ;rw[IV]
 induction s with
 |nil=>rfl
 |cons x s j=>rw[NJ,j];rfl
def aoc (l:List AB) (s:List Ah) (hl:l.length≤1000) (ha:Qy l) (hs:s.length≤100):aAx l s=some (Ef l s):=by
 unfold aAx
 have q:Il 8 (0:Int) 0 (s.length:Int)=some []:=by
  unfold Il;rw[CV aCC];rfl
 rw[q];simp only[AQ];unfold aeC;rw[H6 s AA (fun r x=>r++[x.Id]) (fun i r=>r.length≤i) (fun r=>(Xa l r).bind fun u=>(Bz 8 r u).bind fun z=>(Nj z).bind fun j=>(Sz j).bind fun m=>some m) Ap]
 ·have J:=aF l (RQ s);have L:=aJ3 s;rw[aPq,aL4 l _ hl ha AA];simp only[AQ];rw[D7 AA];simp only[AQ];rw[aQE _ Jw];unfold Ef;rw[qO]
 ·intro k a i h I;refine⟨aFz,?_⟩;unfold aIQ;rw[Bv h,D7 FM];rfl
 intro k a I;unfold aIQ;rw[DC]
def anF (l:List AB) (s:List Ah) (hl:l.length≤1000) (ha:Qy l) (hs:s.length≤100):aLF l s=some (Ef l s):=by
 unfold aLF acw;rw[H6 s AA (fun r x=>r++[x.Id]) (fun i r=>r.length≤i) (fun r=>(jU l r).bind fun j=>(Ze r j).bind fun m=>some m) Ap]
 ·have u:=aF l (RQ s);have z:=aJ3 s;rw[aPq,aPW l _ hl ha AA];simp only[AQ];rw[aEO _ _ AA AA];rfl
 ·intro k a i h q;refine⟨aFz,?_⟩;unfold aPZ;rw[dec_lt h,Ba h];simp only[Au,AQ];rw[D7 FM];rfl
 intro k a q;unfold aPZ;rw[CX];rfl
def stepM (m:List (Int×Int)) (x:Int):List (Int×Int):=E8 m x (Ag (((C9 m x).getD 0)+1))
structure LZ (m:List (Int×Int)) (f:Int→Nat):Prop where
 nodup:(m.map (·.1)).Nodup
 find:∀x,C9 m x=if f x=0 then none else some (f x:Int)
def afX {m:List (Int×Int)} {k v y:Int}:y∈(E8 m k v).map (·.1)↔y=k∨y∈m.map (·.1):=by
 induction m with
 |nil=>simp[E8]
 |cons p m j=>
  unfold E8;cases h:k==p.1 with
  |true=>
   have q:k=p.1:=Jz
   simp only[Au,Ig,Ei];rw[q];simp
  |false=>
   simp only[Aj,Ig,Ei,j];exact⟨fun h=>h.elim (fun e=>.inr (.inl e)) fun h=>h.elim .inl fun h=>.inr (.inr h),fun h=>h.elim (fun e=>.inr (.inl e)) fun h=>h.elim .inl fun h=>.inr (.inr h)⟩
def apN {m:List (Int×Int)} {k v:Int} (h:(m.map (·.1)).Nodup):((E8 m k v).map (·.1)).Nodup:=by
 induction m with
 |nil=>simp[E8]
 |cons p m z=>
  have h':=Jy.1 h;unfold E8;cases u:k==p.1 with
  |true=>
   have j:k=p.1:=MR
   simp only[Au,Ig];rw[j];exact h
  |false=>
   have j:k≠p.1:=MR
   simp only[Aj,Ig];refine Jy.2 ⟨fun q=>?_,z h'.2⟩;rcases afX.1 q with e|q
   ·exact j e.symm
   exact h'.1 q
def agR (m:List (Int×Int)) (k v:Int):(E8 m k v).length≤m.length+1:=by
 induction m with
 |nil=>simp[E8]
 |cons p m j=>
  unfold E8;cases k==p.1 with
  |true=>simp
  |false=>simp only[Aj,Fa];omega
def LZ.step {m:List (Int×Int)} {f:Int→Nat} (h:LZ m f) (x:Int) (u:f x≤1000000):LZ (stepM m x) (fun y=>f y+if y=x then 1 else 0):=by
 refine⟨apN h.nodup,fun y=>?_⟩;unfold stepM;rw[Qe,h.find x]
 have e:Ag (((if f x=0 then none else some (f x:Int)).getD 0)+1)=((f x+1:Nat):Int):=by
  by_cases j:f x=0
  ·rw[CV j,j];rfl
  rw[Cc j];show Ag ((f x:Int)+1)=_;exact wrap_succ _ AA
 by_cases q:y=x
 ·subst q;simp only[KE,Au,JZ];rw[e,Cc AA]
 have :(y==x)=false:=Nz
 rw[this];simp only[Aj,Cc q,PG];exact h.find y
def LZ.fold:∀(c:List Int) {m:List (Int×Int)} {f:Int→Nat},c.Nodup→LZ m f→(∀x,f x≤1000)→LZ (c.foldl stepM m) (fun y=>f y+if y∈c then 1 else 0)
 | [],m,f,_,h,_=>by
   refine⟨h.nodup,fun x=>?_⟩;simp only[List.foldl_nil,Ez,JE,PG];exact h.find x
 |x::c,m,f,q,h,M=>by
  have j:=Jy.1 q
  have key:∀(c:List Int) (m:List (Int×Int)) (g:Int→Nat),c.Nodup→LZ m g→(∀x∈c,g x≤1000)→LZ (c.foldl stepM m) (fun y=>g y+if y∈c then 1 else 0):=by
   intro c
   induction c with
   |nil=>intro m g _ h _;refine⟨h.nodup,fun x=>?_⟩;simp only[List.foldl_nil,Ez,JE,PG];exact h.find x
   |cons z c O=>
    intro m g q h I;have j:=Jy.1 q
    have J:=O (stepM m z) (fun y=>g y+if y=z then 1 else 0) j.2 (h.step z (by have :=I z (Ep ..);omega)) fun y L=>by
     have u:y≠z:=fun e=>j.1 (e▸L);simp only[Cc u,PG];exact I y (FW _ L)
    refine⟨J.nodup,fun y=>?_⟩;rw[Et,J.find y]
    have :(g y+if y=z then 1 else 0)+(if y∈c then 1 else 0)=g y+if y∈z::c then 1 else 0:=by
     by_cases e:y=z
     ·subst e;simp[j.1]
     simp[e]
    simp only[this]
  exact key (x::c) m f q h fun y _=>M y
def aLa :∀(c:List Int) (m:List (Int×Int)),(c.foldl stepM m).length≤m.length+c.length
 | [],m=>Ap
 |x::c,m=>by
  have j:=aLa c (stepM m x);have q:=agR m x (Ag (((C9 m x).getD 0)+1));rw[Et,Fa];unfold stepM at j ⊢;omega
def Rq {l:List Int} (h:Inc l):l.Nodup:=h.imp fun h=>AA
def LZ.mem {m:List (Int×Int)} {f:Int→Nat} (h:LZ m f) {x n:Int}:(x,n)∈m↔f x≠0∧n=f x:=by
 have key:∀m:List (Int×Int),(m.map (·.1)).Nodup→((x,n)∈m↔C9 m x=some n):=by
  intro m
  induction m with
  |nil=>intro _;simp[C9]
  |cons p m I=>
   intro J;have j:=Jy.1 J;unfold C9;rw[Ei];cases z:x==p.1 with
   |true=>
    have q:x=p.1:=U3
    simp only[Au,Ll];constructor
    ·rintro(e|hm)
     ·rw[←e]
     exact absurd (Ee.2 ⟨_,hm,q⟩) j.1
    intro e;left;rw[q,←e]
   |false=>
    have q:x≠p.1:=U3
    simp only[Aj];rw[←I j.2];exact⟨fun h=>h.elim (fun e=>absurd (by rw[←e]) q) id,.inr⟩
 rw[key m h.nodup,h.find x];by_cases u:f x=0
 ·simp[u]
 rw[Cc u];simp only[Ll,ne_eq,u,not_false_eq_true,true_and];exact eq_comm
def aSG {l:List Int} (h:l.Nodup):QZ l=Ed l:=by
 refine BK ?_ (Jt l) fun x=>by rw[JV];exact(Uj l).mem_iff
 have j:=aCW l;have m:(QZ l).Nodup:=(Uj l).nodup_iff.2 h;exact(j.and m).imp fun h=>AA
def aNr (n:Int):∀(m:List (Int×Int)) (r:List Int) (j:List (List Ah)),(j.length:Int)=n→r.length+m.length≤1000000→List.foldlM (WQ j) r m=some (r++(m.filter fun p=>decide (p.2<n)).map (·.1))
 | [],r,j,_,_=>Ap
 |p::m,r,j,hs,u=>by
  simp only[Fa]at u;have e:WQ j r p=(bif decide (p.2<n)then(Bz 8 r [p.1]).bind fun q=>some q else some r):=by unfold WQ;rw[hs]
  rw[UJ,e];cases hd:decide (p.2<n)with
  |true=>
   simp only[Au];rw[D7 FM];simp only[AQ];show List.foldlM (WQ j) (r++[p.1]) m=_;rw[aNr n m (r++[p.1]) j hs Uo,SA,CV hd];simp
  |false=>
   simp only[Aj];show List.foldlM (WQ j) r m=_;rw[aNr n m r j hs AA,SA,Cc (by simp[hd])]
def aRo (l:List AB) (j:List (List Ah)) (x:Int):Ih l j x≤j.length:=List.countP_le_length
def LZ.of_eq {m:List (Int×Int)} {f g:Int→Nat} (h:LZ m f) (e:∀x,f x=g x):LZ m g:=⟨h.nodup,fun x=>by rw[h.find,e]⟩
def aqX (l:List AB) (q:List (List Ah)) (hl:l.length≤1000) (ha:Qy l) (hs:O5 q):nH l q=some (OH l q):=by
 unfold nH ac2;have hsl:=hs.len;rw[lZ (a0:=[]) q AA (fun m s=>(Ef l s).foldl stepM m) (fun i m=>LZ m (Ih l (q.take i))∧m.length≤1100*i) (fun v2=>(Il 8 (0:Int) 0 (v2.length:Int)).bind fun M=>(List.foldlM (WQ q) M v2).bind jT) ⟨⟨YV,fun x=>rfl⟩,EZ _⟩]
 ·obtain⟨L,hlen⟩:LZ (q.foldl (fun m s=>(Ef l s).foldl stepM m) []) (Ih l q)∧(q.foldl (fun m s=>(Ef l s).foldl stepM m) []).length≤1100*q.length:=by
   have key:∀(b a:List (List Ah)) (m:List (Int×Int)),(∀s∈b,s.length≤100)→a.length+b.length≤100→LZ m (Ih l a)→m.length≤1100*a.length→LZ (b.foldl (fun m s=>(Ef l s).foldl stepM m) m) (Ih l (a++b))∧(b.foldl (fun m s=>(Ef l s).foldl stepM m) m).length≤1100*(a.length+b.length):=by
    intro b
    induction b with
    |nil=>intro a m _ _ I J;simpa using⟨I,J⟩
    |cons s b ih=>
     intro a m hb O I J;rw[Et,List.append_cons];have hc:=qK l s;have u:=hb s (Ep ..);have U:=aLa (Ef l s) m;simp only[Fa]at O ⊢;have :=ih (a++[s]) ((Ef l s).foldl stepM m) (fun t ht=>hb t (FW _ ht)) Uo ?_ Uo
     ·simpa[O9,Qm 1]using this
     refine(LZ.fold (Ef l s) (Rq (afG l s)) I fun x=>by have :=aRo l a x;omega).of_eq fun x=>?_;unfold Ih;rw[List.countP_append,List.countP_singleton];by_cases z:x∈Ef l s
     ·rw[CV z,CV (J3.2 z)]
     rw[Cc z,Cc (by rw[OJ.2 z];simp)]
   have :=key q [] [] (fun s h=>(hs.each s h).1) (by simpa using hs.len) ⟨YV,fun x=>rfl⟩ (EZ _);simpa using this
  generalize q.foldl (fun m s=>(Ef l s).foldl stepM m) []=m at L hlen
  have hm:Il 8 (0:Int) 0 (m.length:Int)=some []:=by
   unfold Il;rw[CV aCC];rfl
  rw[hm];simp only[AQ];rw[aNr (q.length:Int) m [] q rfl TQ];simp only[AQ,IV];have Y:((m.filter fun p=>decide (p.2<(q.length:Int))).map (·.1)).Nodup:=L.nodup.sublist (QB.map _);have hle:((m.filter fun p=>decide (p.2<(q.length:Int))).map (·.1)).length≤m.length:=by rw[CM];exact Ic _ _
  unfold jT Nj;rw[CV AA];simp only[AQ];congr 1;rw[aSG Y];refine BK (Jt _) (anM _ _) fun x=>?_;rw[JV,Ee];unfold OH;rw[EY,aaz];constructor
  ·rintro⟨⟨y,n⟩,Z,rfl⟩;rw[EY]at Z;obtain⟨I,J⟩:=L.mem.1 Z.1;have U:n<(q.length:Int):=by simpa using Z.2
   subst J;refine⟨?_,DU⟩;have :0<Ih l q y:=AA
   obtain⟨s,hs1,hs2⟩:=List.countP_pos_iff.1 this;exact⟨s,hs1,J3.1 hs2⟩
  rintro⟨⟨s,I,J⟩,U⟩;have h4:0<Ih l q x:=List.countP_pos_iff.2 ⟨s,I,J3.2 J⟩;refine⟨(x,(Ih l q x:Int)),EY.2 ⟨L.mem.2 ⟨AA,rfl⟩,?_⟩,rfl⟩;have h5:Ih l q x<q.length:=ZP
  simp;omega
 ·intro k m i h hI;have hc:=qK l q[i];have u:=(hs.each q[i] (Df h)).1;refine⟨⟨?_,?_⟩,?_⟩
  ·refine(LZ.fold (Ef l q[i]) (Rq (afG l q[i])) hI.1 fun x=>by have :=aRo l (q.take i) x;rw[FY]at this;omega).of_eq fun x=>?_;rw[Ot h];unfold Ih;rw[List.countP_append,List.countP_singleton];by_cases z:x∈Ef l q[i]
   ·rw[CV z,CV (J3.2 z)]
   rw[Cc z,Cc (by rw[OJ.2 z];simp)]
  ·have :=aLa (Ef l q[i]) m;have :=hI.2;omega
  unfold aE5;rw[Bv h,aoc l _ hl ha u];simp only[AQ];unfold aPs;rw[lZ (Ef l q[i]) AA stepM (fun _ _=>True) (fun v8=>k (Ag ((i:Int)+1)) v8) trivial]
  ·intro k2 a j hj _;refine⟨trivial,?_⟩;unfold aFv;rw[Bv hj];rfl
  intro k2 a _;unfold aFv;rw[DC]
 intro k m hI;unfold aE5;rw[DC]
def aoW {R A B α:Type} {body:(A→B→Int→Option R)→A→B→Int→Option R} (l:List α) (hl:l.length≤1099511627776) (f:A→B→α→A) (g:A→B→α→B) (I:Nat→A→B→Prop) (j:A→B→Option R) {Q:R→Prop} {a0:A} {q:B} (u:I 0 a0 q)
 (z:∀k a b (i:Nat) (h:i<l.length),I i a b→I (i+1) (f a b l[i]) (g a b l[i])∧body k a b (i:Int)=k (f a b l[i]) (g a b l[i]) (Ag ((i:Int)+1)))
 (J:∀k a b,I l.length a b→body k a b (l.length:Int)=j a b) (L:∀a b,I l.length a b→dP (j a b) Q):dP (ku body Af a0 q 0) Q:=by
 refine TR (body:=body) (Q:=Q) (fun m a b c=>∃i:Nat,c=i∧i+m=l.length∧I i a b) ?_ Af l.length a0 q 0 (fuel_lt hl) ⟨0,rfl,AA,u⟩;rintro m a b c k ⟨i,rfl,Y,hi⟩ M;by_cases e:i<l.length
 ·obtain⟨O,U⟩:=z k a b i e hi;rw[U,wrap_succ i AA];exact M (m-1) _ _ _ AA ⟨i+1,rfl,AA,O⟩
 have :i=l.length:=AA
 subst this;rw[J _ _ _ hi];exact L a b hi
def aOb (x:Int):∀(cs:List (List Int)) (n:Nat),n+cs.length≤1000000→cs.foldl (fun(n:Int) c=>bif CZ c x then Ag (n+1)else n) (n:Int)=((n+cs.countP (fun c=>CZ c x):Nat):Int)
 | [],n,_=>Ap
 |c::cs,n,h=>by
  rw[Fa]at h;rw[Et,List.countP_cons];cases j:CZ c x with
  |true=>
   simp only[Au,JZ];rw[wrap_succ n AA,aOb x cs (n+1) AA];congr 1;omega
  |false=>
   simp only[Aj,Rh,JE,PG];exact aOb x cs n AA
def agJ (l:List AB) (m:List (List Ah)) (hl:l.length≤1000) (ha:Qy l) (hs:O5 m):aLG l m=some (OH l m):=by
 refine dP.eq ?_;unfold aLG aTh;have M:=hs.len
 have z:∀i,(allOf l (m.take i)).length≤1100*i:=by
  intro i;have O:=aDB l (m.take i) [] fun s h=>(hs.each s (ig h)).1;rw[FY,Md]at O;have h2:min i m.length*(100+l.length)≤i*1100:=aCJ (aLU _ _) AA;unfold allOf;omega
 refine aoW m AA (fun a _ s=>a++[Ef l s]) (fun _ b s=>HY b (Ef l s)) (fun i a b=>a=(m.take i).map (Ef l)∧b=allOf l (m.take i)) (fun a b=>aJu b a [] 0) ⟨rfl,rfl⟩ ?_ ?_ ?_
 ·rintro k a b i h ⟨rfl,rfl⟩;have U:=qK l m[i];have q:=(hs.each m[i] (Df h)).1;have u:m.take (i+1)=m.take i++[m[i]]:=Ot h;refine⟨⟨by rw[u,JU];rfl,by rw[u];unfold allOf;rw[V7];rfl⟩,?_⟩;unfold aKl;rw[dec_lt h,Ba h];simp only[Au,AQ];rw[anF l _ hl ha q];simp only[AQ];rw[D7 (by simp only[CM,FY,Nq];omega)];simp only[AQ];have :=z i;rw[aEO _ _ AA AA];rfl
 ·rintro k a b ⟨rfl,rfl⟩;unfold aKl;rw[CX];rfl
 rintro a b ⟨rfl,rfl⟩;rw[GI];refine dP.of ?_;have Y:=z m.length;rw[GI]at Y;unfold aJu;rw[H6 (allOf l m) AA (fun r x=>bif decide (Ih l m x<m.length)then r++[x]else r) (fun i r=>r.length≤i) (fun r=>some r) (Dk _)]
 ·congr 1;unfold OH
  have key:∀(S r:List Int),S.foldl (fun r x=>bif decide (Ih l m x<m.length)then r++[x]else r) r=r++S.filter (fun x=>decide (Ih l m x<m.length)):=by
   intro S
   induction S with
   |nil=>intro r;simp
   |cons x S Z=>
    intro r;rw[Et,Z,SA];cases decide (Ih l m x<m.length)<;>simp
  simpa using key (allOf l m) []
 ·intro k r i h hI;refine⟨?_,?_⟩
  ·cases decide (Ih l m (allOf l m)[i]<m.length)with
   |false=>show r.length≤i+1;omega
   |true=>show(r++[(allOf l m)[i]]).length≤i+1;simp;omega
  unfold aJz;rw[dec_lt h];simp only[Au];unfold aRG
  rw[H6 (m.map (Ef l)) U2 (fun(n:Int) c=>bif CZ c (allOf l m)[i]then Ag (n+1)else n) (fun _ _=>True)
   (fun n=>bif decide (n<((m.map (Ef l)).length:Int))then k (r++[(allOf l m)[i]]) (Ag ((i:Int)+1))else k r (Ag ((i:Int)+1))) trivial]
  ·have I:=aOb (allOf l m)[i] (m.map (Ef l)) 0 U2;rw[show((0:Nat):Int)=0 from rfl]at I;rw[I,List.countP_map,CM,JI]
   have e:decide (((m.countP ((fun c=>CZ c (allOf l m)[i])∘Ef l):Nat):Int)<(m.length:Int))=decide (Ih l m (allOf l m)[i]<m.length):=by
    unfold Ih;rw[oL];exact Int.ofNat_lt
   rw[e];cases decide (Ih l m (allOf l m)[i]<m.length)<;>rfl
  ·intro k2 n j J _;refine⟨trivial,?_⟩;have L:j<m.length:=by rw[CM]at J;exact J
   have U:=qK l m[j];have q:=(hs.each m[j] (Df L)).1;unfold aPM;rw[dec_lt J,Ba J,Ba h];simp only[Au,AQ];rw[XM _ _ (by rw[MW];omega)];simp only[AQ];cases CZ (m.map (Ef l))[j] (allOf l m)[i]<;>rfl
  intro k2 n _;unfold aPM;rw[CX];simp only[Aj];rw[Ba h];simp only[AQ];rw[D7 FM];cases decide (n<((m.map (Ef l)).length:Int))<;>rfl
 intro k r _;unfold aJz;rw[CX];rfl
def aok (l:List AB) (j:List (List Ah)) (hl:l.length≤1000) (ha:Qy l) (hs:O5 j):aGK l j=some (Io l j):=by
 have m:=aE4 hs;have q:=ND (QA j);have u:=aRm hs hl;unfold aGK;rw[adp j hs,aqX l j hl ha hs];simp only[AQ];rw[D7 AA];simp only[AQ];rw[aQE _ Jw];unfold Io;rw[qO]
def ah9 (l:List AB) (j:List (List Ah)) (hl:l.length≤1000) (ha:Qy l) (hs:O5 j):aMY l j=some (Io l j):=by
 have m:=aE4 hs;have q:=ND (QA j);have u:=aRm hs hl;unfold aMY;rw[aSz j hs,agJ l j hl ha hs];simp only[AQ];rw[aEO _ _ AA AA];rfl
def DF (l:List AB):Prop:=∀e∈l,Fl e
def DF.aj0 {l:List AB} (h:DF l):Qy l:=fun e j=>(h e j).auth
def aN2 {R A α:Type} {body:(A→Int→Option R)→A→Int→Option R} (l:List α) (hl:l.length<Af) (p:α→Bool) (g:Nat→Option R) (rest:Option R) (a0:A)
 (u:∀k (i:Nat) (h:i<l.length),body k a0 (i:Int)=bif p l[i]then g i else k a0 (Ag ((i:Int)+1))) (z:∀k,body k a0 (l.length:Int)=rest):
 aQ body Af a0 0=if l.findIdx p<l.length then g (l.findIdx p)else rest:=by
 have L:Af=9223372036854775808:=rfl
 have key:∀n (i:Nat),i+n=l.length→∀m,n<m→aQ body m a0 (i:Int)=if(l.drop i).findIdx p+i<l.length then g ((l.drop i).findIdx p+i)else rest:=by
  intro n
  induction n with
  |zero=>
   intro i hi m I;obtain⟨m,rfl⟩:∃q,m=q+1:=⟨m-1,AA⟩
   have :i=l.length:=AA
   subst this;show body (aQ body m) _ _=_;rw[z,Om,Cc Ap]
  |succ n J=>
   intro i hi m I;obtain⟨m,rfl⟩:∃q,m=q+1:=⟨m-1,AA⟩
   have j:i<l.length:=AA
   show body (aQ body m) _ _=_;rw[u _ i j,wrap_succ i AA,J (i+1) AA m AA,LG j,Tm];cases p l[i]with
   |true=>simp only[Au,JI];rw[CV j]
   |false=>
    simp only[Aj];rw[show(l.drop (i+1)).findIdx p+(i+1)=(l.drop (i+1)).findIdx p+1+i by omega]
 have :=key l.length 0 AA Af hl;simpa using this
def Qc {s:List Ah} {k:Int} {key:ByteArray} {id:Int} {x:Ah} (h:x∈FQ s k key id):x=⟨k,key,id⟩∨x∈s:=by
 unfold FQ at h;rcases GU.1 h with h|h
 ·exact .inr (ig h)
 rcases Ei.1 h with h|h
 ·exact .inl h
 exact .inr (aOv h)
def sN (s:List Ah):Prop:=∀x∈s,x.Id=0
def aB {s:List Ah} {k:Int} {key:ByteArray} (h:sN s):sN (FQ s k key 0):=fun x j=>by
 rcases Qc j with rfl|j
 ·rfl
 exact h x j
def xJ (l:List Ah) (k:Int) (key:ByteArray) (j:Int):Option Aq:=
 (bif decide (j<(l.length:Int))then(Ae l j).bind fun m=>some (m.Kind==k)else some false).bind fun q=>(bif q then(Ae l j).bind fun u=>some (u.Key.toList==key.toList)else some false).bind fun z=>(bif z then some l else(Hg l 0 j).bind fun I=>(Bz 32 [] I).bind fun J=>(Bz 32 J [(⟨k,key,0⟩:Ah)]).bind fun L=>(Hg l j ((l).length)).bind fun M=>(Bz 32 L M).bind fun O=>some O)
def yB (s:List Ah) (k:Int) (key:ByteArray) (hs:s.length≤1000000) (q:sN s):XP s k key=some (FQ s k key 0):=by
 unfold XP aRY
 have j:xJ s k key ((Ej s ⟨k,key,0⟩:Nat):Int)=some (FQ s k key 0):=by
  have U:=lR s ⟨k,key,0⟩;unfold xJ FQ
  have m:((Hg s 0 ((Ej s ⟨k,key,0⟩:Nat):Int)).bind fun u=>(Bz 32 [] u).bind fun z=>(Bz 32 z [(⟨k,key,0⟩:Ah)]).bind fun I=>(Hg s ((Ej s ⟨k,key,0⟩:Nat):Int) ((s).length)).bind fun J=>(Bz 32 I J).bind fun L=>some L)=some (s.take (Ej s ⟨k,key,0⟩)++⟨k,key,0⟩::s.drop (Ej s ⟨k,key,0⟩)):=by
   rw[xF U];simp only[AQ];rw[D7 DU];simp only[AQ,IV];rw[D7 DU];simp only[AQ];rw[X0 U];simp only[AQ];rw[D7 DU];simp
  rw[m];by_cases hl:Ej s ⟨k,key,0⟩<s.length
  ·rw[dec_lt hl,Ba hl];simp only[Au,AQ]
   have M:Jr s ⟨k,key,0⟩=(s[Ej s ⟨k,key,0⟩].Kind==k&&decide (s[Ej s ⟨k,key,0⟩].Key=key)):=by
    unfold Jr;rw[D9 hl];rfl
   rw[M,IQ];cases Y:s[Ej s ⟨k,key,0⟩].Kind==k with
   |false=>rfl
   |true=>
    simp only[Au,AQ,Fe];cases hd:decide (s[Ej s ⟨k,key,0⟩].Key=key)with
    |true=>
     simp only[Au];have Z:s[Ej s ⟨k,key,0⟩].Kind=k:=aDZ
     have h2:s[Ej s ⟨k,key,0⟩].Key=key:=by simpa using hd
     have h3:=q _ (Df hl)
     have h4:(⟨k,key,0⟩:Ah)=s[Ej s ⟨k,key,0⟩]:=by
      have :∀(y:Ah),y.Kind=k→y.Key=key→y.Id=0→(⟨k,key,0⟩:Ah)=y:=fun y a b c=>by cases y;simp only at a b c;rw[a,b,c]
      exact this _ Z h2 h3
     congr 1
     conv=>rhs;arg 2;arg 1;rw[h4]
     rw[←LG hl,Xx]
    |false=>rfl
  have q:Ej s ⟨k,key,0⟩=s.length:=AA
  have M:Jr s ⟨k,key,0⟩=false:=by unfold Jr;rw[q,I7 (Dk _)]
  rw[M,q,CX];rfl
 rw[JD s (fuel_lt AA) (fun x=> !F7 x ⟨k,key,0⟩) (fun i=>xJ s k key (i:Int)) (xJ s k key (s.length:Int))]
 ·split
  ·exact j
  rename_i h;have q:Ej s ⟨k,key,0⟩=s.length:=ady
  rw[q]at j;exact j
 ·intro k2 i h;unfold aM8
  have e:(bif decide ((i:Int)<(s.length:Int))then(Ae s (i:Int)).bind fun x5=>(bif decide (x5.Kind<k)then some true else(Ae s (i:Int)).bind fun x8=>(bif (x8.Kind==k)then(Ae s (i:Int)).bind fun O=>some (Op.bytesLess (O.Key.toList) (key.toList))else some false).bind fun x9=>some x9).bind fun x6=>some x6 else some false)=some (F7 s[i] ⟨k,key,0⟩):=by
   rw[dec_lt h,Ba h];simp only[Au,AQ];unfold F7;cases decide (s[i].Kind<k)<;>cases s[i].Kind==k<;>rfl
  rw[e];simp only[AQ];cases F7 s[i] ⟨k,key,0⟩<;>rfl
 intro k2;unfold aM8;rw[CX];simp only[Aj,AQ];unfold xJ;rw[CX];rfl
def LJ (e:AB):List Ah:=FQ (FQ (FQ [] 1 Bc 0) 3 Bc 0) 2 e.aP 0
def keysOf (e:AB):List Ah:=
 bif e.Kind==1 then[]else bif e.Kind==2 then(bif e.Content.N==3||e.Content.N==1||e.Content.N==2 then FQ (FQ (LJ e) 2 e.Key 0) 4 Bc 0 else FQ (LJ e) 2 e.Key 0)else LJ e
def aKr (e:AB):(LJ e).length≤3:=by
 have j:=Pe [] 1 Bc 0;have m:=Pe (FQ [] 1 Bc 0) 3 Bc 0;have q:=Pe (FQ (FQ [] 1 Bc 0) 3 Bc 0) 2 e.aP 0;unfold LJ;simp only[Md]at j;omega
def aaG (e:AB):sN (LJ e):=aB (aB (aB fun x j=>absurd j Ez))
def WY (e:AB):(keysOf e).length≤5:=by
 have j:=aKr e;have m:=Pe (LJ e) 2 e.Key 0;have q:=Pe (FQ (LJ e) 2 e.Key 0) 4 Bc 0;unfold keysOf;cases e.Kind==1<;>cases e.Kind==2<;>cases(e.Content.N==3||e.Content.N==1||e.Content.N==2)<;>simp only[Au,Aj,Md]<;>omega
def aQ0 (e:AB):uS e=some (keysOf e):=by
 have m:=aKr e;have q:=Pe (LJ e) 2 e.Key 0;have j:=Pe [] 1 Bc 0;have u:=Pe (FQ [] 1 Bc 0) 3 Bc 0;simp only[Md]at j;unfold uS keysOf;rw[Xy [] 1 Bc 0 Ap];simp only[AQ];rw[Xy _ 3 Bc 0 AA];simp only[AQ];rw[Xy _ 2 e.aP 0 AA];simp only[AQ];show(bif e.Kind==1 then some []else bif e.Kind==2 then(RJ (LJ e) 2 e.Key 0).bind _ else lN (LJ e))=_;rw[Xy (LJ e) 2 e.Key 0 AA];simp only[AQ];rw[Xy _ 4 Bc 0 AA];unfold lN;cases e.Kind==1<;>cases e.Kind==2<;>cases e.Content.N==3<;>cases e.Content.N==1<;>cases e.Content.N==2<;>rfl
def aIc (e:AB):wS e=some (keysOf e):=by
 have u:=aKr e;have z:=Pe (LJ e) 2 e.Key 0;have m:=Pe [] 1 Bc 0;have I:=Pe (FQ [] 1 Bc 0) 3 Bc 0;have z0:sN []:=fun x q=>absurd q Ez;simp only[Md]at m;unfold wS keysOf;rw[yB [] 1 Bc Ap z0];simp only[AQ];rw[yB _ 3 Bc AA (aB z0)];simp only[AQ];rw[yB _ 2 e.aP AA (aB (aB z0))];simp only[AQ];show(bif e.Kind==1 then some []else bif e.Kind != 2 then some (LJ e)else(XP (LJ e) 2 e.Key).bind _)=_;rw[yB (LJ e) 2 e.Key AA (aaG e)];simp only[AQ];rw[yB _ 4 Bc AA (aB (aaG e))];unfold aJi;have j:(e.Kind != 2)= !(e.Kind==2):=rfl;rw[j];cases e.Kind==1<;>cases e.Kind==2<;>cases e.Content.N==3<;>cases e.Content.N==1<;>cases e.Content.N==2<;>rfl
def EM (k:Ah) (x:AB):Bool:=x.Kind==k.Kind&&decide (x.Key=k.Key)
def Rf (l:List AB) (e:AB):List AB:=(keysOf e).flatMap fun k=>((ofIds l e.bD).find? (EM k)).toList
def flat_length {α β:Type} {f:α→List β} {n:Nat} (h:∀x,(f x).length≤n):∀l:List α,(l.flatMap f).length≤n*l.length
 | []=>Ap
 |x::l=>by
  have j:=h x;have m:=flat_length h l;rw[NJ,EG,Fa,Nat.mul_succ];omega
def aCM (l:List AB) (e:AB):(Rf l e).length≤5:=by
 have j:=flat_length (f:=fun k=>((ofIds l e.bD).find? (EM k)).toList) (n:=1) (fun k=>toList_le _) (keysOf e);have m:=WY e;unfold Rf;omega
def aPN {l:List AB} {ids:List Int} {x:AB} (h:x∈ofIds l ids):x∈l:=by
 obtain⟨i,_,h⟩:=U5.1 h;exact KL h
def apW {l:List AB} {e x:AB} (h:x∈Rf l e):x∈l:=by
 obtain⟨k,_,h⟩:=TW.1 h;have :(ofIds l e.bD).find? (EM k)=some x:=Jz
 exact aPN (SV this)
def J5 (x:Ah):TP:=⟨x.Kind,x.Key⟩
def aPw (e:AB):wu e=some ((keysOf e).map J5):=by
 unfold wu;rw[aQ0];simp only[AQ];have m:=WY e;unfold abh;rw[H6 (keysOf e) AA (fun r x=>r++[J5 x]) (fun i r=>r.length≤i) (fun r=>some r) (Dk _)]
 ·rw[foldl_append (fun x=>[J5 x]),IV];congr 1
  induction keysOf e with
  |nil=>rfl
  |cons x s j=>rw[NJ,j];rfl
 ·intro k r i h q;refine⟨aFz,?_⟩;unfold aHr;rw[Bv h,D7 FM];rfl
 intro k r _;unfold aHr;rw[DC]
def aQu (l:List AB) (p:AB→Bool):∀ids:List Int,(ofIds l ids).find? p=(ids.find? fun i=>match Dh l i with |some x=>p x|none=>false).bind (Dh l)
 | []=>rfl
 |i::ids=>by
  have j:=aQu l p ids;unfold ofIds at j ⊢;rw[OV,SB];cases m:Dh l i with
  |none=>exact j
  |some x=>
   simp only;rw[SB];cases p x with
   |true=>exact m.symm
   |false=>exact j
def adJ (l:List AB) (e:AB) (hl:l.length≤1000) (z:e.bD.length≤40):ni l e=some (Rf l e):=by
 unfold ni;rw[aPw];simp only[AQ];have I:=WY e;unfold aaI;rw[H6 (a0:=[]) ((keysOf e).map J5) U2 (fun r k=>r++((ofIds l e.bD).find? fun x=>x.Kind==k.aa5&&decide (x.Key=k.aa6)).toList) (fun i r=>r.length≤i) (fun r=>some r) (Dk _)]
 ·congr 1;rw[foldl_append (fun k:TP=>((ofIds l e.bD).find? fun x=>x.Kind==k.aa5&&decide (x.Key=k.aa6)).toList),IV,List.flatMap_map];rfl
 ·intro k r i h J;have L:=toList_le ((ofIds l e.bD).find? fun x=>x.Kind==((keysOf e).map J5)[i].aa5&&decide (x.Key=((keysOf e).map J5)[i].aa6));refine⟨Jw,?_⟩;have hi:i<5:=by rw[CM]at h;omega
  unfold aIi;rw[Bv h];generalize((keysOf e).map J5)[i]=K;unfold aQg
  rw[aN2 e.bD (fuel_lt AA) (fun id=>match Dh l id with |some x=>x.Kind==K.aa5&&decide (x.Key=K.aa6)|none=>false)
   (fun j=>oW k (i:Int) (r++(match e.bD[j]? with |some id=>(Dh l id).toList|none=>[]))) (oW k (i:Int) r)]
  ·rw[aQu,JG];by_cases m:e.bD.findIdx (fun id=>match Dh l id with |some x=>x.Kind==K.aa5&&decide (x.Key=K.aa6)|none=>false)<e.bD.length
   ·rw[CV m,D9 m];rfl
   rw[Cc m,I7 AA];simp only[Option.bind_none,Option.toList_none,P6];rfl
  ·intro k2 j q;unfold aO8;rw[Bv q,MK l _ AA,D9 q];simp only[AQ];cases u:Dh l e.bD[j]with
   |none=>rw[QH u];rfl
   |some x=>
    rw[La u];simp only[Au,QL];unfold Vp;rw[IQ];rw[D7 FM];cases x.Kind==K.aa5<;>cases decide (x.Key=K.aa6)<;>rfl
  intro k2;unfold aO8;rw[DC]
 intro k r _;unfold aIi;rw[DC]
def afH (l:List AB) (e:AB) (hl:l.length≤1000) (he:e.bD.length≤40):aBw l e=some (Rf l e):=by
 unfold aBw;rw[aIc,aNd l _ hl AA];simp only[AQ];have hk:=WY e;have M:=Zq l e.bD;unfold aRW;rw[H6 (a0:=[]) (keysOf e) AA (fun r k=>r++((ofIds l e.bD).find? (EM k)).toList) (fun i r=>r.length≤i) (fun r=>some r) (Dk _)]
 ·rw[foldl_append (fun k:Ah=>((ofIds l e.bD).find? (EM k)).toList),IV];rfl
 ·intro k r i h hI;have U:=toList_le ((ofIds l e.bD).find? (EM (keysOf e)[i]));refine⟨Jw,?_⟩;have hi:i<5:=AA
  unfold aK5;rw[dec_lt h];simp only[Au];generalize ofIds l e.bD=O at M U;unfold abO
  have u:∀m (a:List AB) (j:Int),0<m→ku (QD O (keysOf e) (i:Int) k) m a true j=k a (Ag ((i:Int)+1)):=by
   intro m a j L;obtain⟨m,rfl⟩:∃I,m=I+1:=⟨m-1,AA⟩
   show QD O (keysOf e) (i:Int) k (ku (QD O (keysOf e) (i:Int) k) m) a true j=_;unfold QD;cases decide (j<(O.length:Int))<;>rfl
  have key:∀n (j:Nat),j+n=O.length→∀m,n+1<m→ku (QD O (keysOf e) (i:Int) k) m r false (j:Int)=k (r++((O.drop j).find? (EM (keysOf e)[i])).toList) (Ag ((i:Int)+1)):=by
   intro n
   induction n with
   |zero=>
    intro j Y m L;obtain⟨m,rfl⟩:∃I,m=I+1:=⟨m-1,AA⟩
    have :j=O.length:=AA
    subst this;show QD O (keysOf e) (i:Int) k (ku (QD O (keysOf e) (i:Int) k) m) r false _=_;unfold QD;rw[CX,Om];simp
   |succ n Z=>
    intro j Y m L;obtain⟨m,rfl⟩:∃I,m=I+1:=⟨m-1,AA⟩
    have z:j<O.length:=AA
    have J:=Z (j+1) AA m AA;show QD O (keysOf e) (i:Int) k (ku (QD O (keysOf e) (i:Int) k) m) r false _=_;have q:=u m;generalize ku (QD O (keysOf e) (i:Int) k) m=K at J q;unfold QD aPI aHa;rw[dec_lt z,Ba z,Ba h];simp only[Au,IU,AQ];rw[IQ,wrap_succ j AA,LG z,SB,J];rw[D7 FM];simp only[AQ];rw[q _ _ AA];unfold EM;cases O[j].Kind==(keysOf e)[i].Kind<;>cases decide (O[j].Key=(keysOf e)[i].Key)<;>rfl
  have :=key O.length 0 AA Af jQ;exact this
 intro k r _;unfold aK5;rw[CX];rfl
def Vg (c:ByteArray):Bd:=bif !(c.toList==Bc.toList)then{ Wu with Users:=[⟨c,100⟩] }else Wu
def Rn (l:List AB):ByteArray:=match l.find? fun x=>x.Kind==1 with |some x=>x.aP|none=>Bc
def EX (l:List AB):Bd:=match l.find? fun x=>x.Kind==3 with |some x=>x.Content.Levels|none=>Vg (Rn l)
def aoQ (c:ByteArray):aBT c=some (Vg c):=by
 unfold aBT Vg aA9;cases c.toList==Bc.toList<;>rfl
def amW (c:ByteArray):aIr c=some (Vg c):=by
 unfold aIr Vg aOf;cases c.toList==Bc.toList<;>rfl
def aUK (l:List AB) (k:Int) (hl:l.length≤1000):y8 l k=some (if l.findIdx (fun e=>e.Kind==k)<l.length then((l.findIdx (fun e=>e.Kind==k):Nat):Int)else -1):=by
 unfold y8;rw[aMw l AA (fun a0=>aGZ a0 k) (fun e=>e.Kind==k) fun _=>rfl];rfl
def sG (l:List AB) (hl:l.length≤1000) (hs:DF l):YL l=some (EX l,Rn l):=by
 have m:∀c,fA l c=some (match l.find? fun x=>x.Kind==3 with |some x=>x.Content.Levels|none=>Vg c,c):=by
  intro c;unfold fA;rw[aUK l 3 hl,JG];simp only[AQ];by_cases h:l.findIdx (fun e=>e.Kind==3)<l.length
  ·rw[CV h,show decide (((l.findIdx (fun e=>e.Kind==3):Nat):Int)≥0)=true by simp,Ba h,D9 h];simp only[Au,AQ];have q:=hs _ (Df h);have u:=q.users;have z:=q.kinds;unfold aAT aBB;rw[D7 TQ,D7 TQ];rfl
  rw[Cc h,I7 AA,aoQ];rfl
 unfold YL;rw[aUK l 1 hl];simp only[AQ];by_cases h:l.findIdx (fun e=>e.Kind==1)<l.length
 ·have j:Rn l=l[l.findIdx (fun e=>e.Kind==1)].aP:=by unfold Rn;rw[JG,D9 h]
  rw[CV h,show decide (((l.findIdx (fun e=>e.Kind==1):Nat):Int)≥0)=true by simp,Ba h];simp only[Au,AQ];rw[m,←j];rfl
 have j:Rn l=Bc:=by unfold Rn;rw[JG,I7 AA]
 rw[Cc h];show fA l Bc=_;rw[m,←j];rfl
def aHN (l:List AB) (hl:l.length≤1000):ql l=some (EX l,Rn l):=by
 have I:∀c,Fn1 l c 0 LD=some (match l.find? fun x=>x.Kind==3 with |some x=>x.Content.Levels|none=>Vg c,c):=by
  intro c;unfold Fn1
  have U:∀{R:Type} {body:(Int→Bd→Option R)→Int→Bd→Option R} (p:AB→Bool) (g:Nat→Option R) (rest:Option R) (a0:Bd)
   (Z:∀k (i:Nat) (h:i<l.length),body k (i:Int) a0=bif p l[i]then g i else k (Ag ((i:Int)+1)) a0) (he:∀k,body k (l.length:Int) a0=rest),
   aQ body Af 0 a0=if l.findIdx p<l.length then g (l.findIdx p)else rest:=by
   intro R body p g rest a0 Z he;have hf:Af=9223372036854775808:=rfl
   have key:∀n (i:Nat),i+n=l.length→∀m,n<m→aQ body m (i:Int) a0=if(l.drop i).findIdx p+i<l.length then g ((l.drop i).findIdx p+i)else rest:=by
    intro n
    induction n with
    |zero=>
     intro i hi m M;obtain⟨m,rfl⟩:∃z,m=z+1:=⟨m-1,AA⟩
     have :i=l.length:=AA
     subst this;show body (aQ body m) _ _=_;rw[he,Om,Cc Ap]
    |succ n Y=>
     intro i hi m M;obtain⟨m,rfl⟩:∃z,m=z+1:=⟨m-1,AA⟩
     have q:i<l.length:=AA
     show body (aQ body m) _ _=_;rw[Z _ i q,wrap_succ i AA,Y (i+1) AA m AA,LG q,Tm];cases p l[i]with
     |true=>simp only[Au,JI];rw[CV q]
     |false=>
      simp only[Aj];rw[show(l.drop (i+1)).findIdx p+(i+1)=(l.drop (i+1)).findIdx p+1+i by omega]
   have :=key l.length 0 AA Af AA;simpa using this
  rw[U (fun x=>x.Kind==3) (fun i=>some ((match l[i]? with |some x=>x.Content.Levels|none=>LD),c)) (some (Vg c,c))]
  ·rw[JG];by_cases h:l.findIdx (fun e=>e.Kind==3)<l.length
   ·rw[CV h,D9 h]
   rw[Cc h,I7 AA]
  ·intro k i h;unfold aHo;rw[Bv h,Ba h,D9 h];rfl
  intro k;unfold aHo;rw[DC,amW];rfl
 unfold ql adx;obtain⟨F,O⟩:∃F:ByteArray→Option (Bd×ByteArray),∀c,Fn1 l c 0 LD=F c:=⟨_,fun _=>rfl⟩
 simp only[O]at I
 have J:∀m (c:ByteArray) (j:Int),0<m→ku (Qk l) m c true j=F c:=by
  intro m c j M;obtain⟨m,rfl⟩:∃z,m=z+1:=⟨m-1,AA⟩
  show Qk l (ku (Qk l) m) c true j=_;unfold Qk;simp only[O];cases decide (j<(l.length:Int))<;>rfl
 have key:∀n (j:Nat),j+n=l.length→∀m,n+1<m→ku (Qk l) m Bc false (j:Int)=F (match(l.drop j).find? fun x=>x.Kind==1 with |some x=>x.aP|none=>Bc):=by
  intro n
  induction n with
  |zero=>
   intro j hj m M;obtain⟨m,rfl⟩:∃z,m=z+1:=⟨m-1,AA⟩
   have :j=l.length:=AA
   subst this;show Qk l (ku (Qk l) m) Bc false _=_;unfold Qk;simp only[O];rw[CX,Om];rfl
  |succ n Y=>
   intro j hj m M;obtain⟨m,rfl⟩:∃z,m=z+1:=⟨m-1,AA⟩
   have q:j<l.length:=AA
   have L:=Y (j+1) AA m AA;show Qk l (ku (Qk l) m) Bc false _=_;have u:=J m;generalize ku (Qk l) m=K at L u;unfold Qk aKD;simp only[O];rw[dec_lt q,Ba q];simp only[Au,IU,AQ];rw[wrap_succ j AA,LG q,SB,L,u _ _ AA];cases l[j].Kind==1<;>rfl
 have :=key l.length 0 AA Af jQ;rw[show((0:Nat):Int)=0 from rfl]at this;rw[this,I];rfl
def Dw (v:Bd) (u:ByteArray):Int:=match v.Users.find? fun x=>decide (x.User=u)with |some x=>x.N|none=>v.User
def WU (v:Bd) (u:ByteArray) (h:v.Users.length≤1000):OZ v u=some (Dw v u):=by
 unfold OZ aS1 Dw;rw[JD v.Users (fuel_lt AA) (fun x=>decide (x.User=u)) (fun i=>some (match v.Users[i]? with |some x=>x.N|none=>0)) (some v.User)]
 ·rw[JG];by_cases h:v.Users.findIdx (fun x=>decide (x.User=u))<v.Users.length
  ·rw[CV h,D9 h]
  rw[Cc h,I7 AA]
 ·intro k i h;unfold aMa;rw[Bv h,IQ,D9 h]
 intro k;unfold aMa;rw[DC]
def YS (v:Bd) (u:ByteArray) (h:v.Users.length≤1000):Uz v u=some (Dw v u):=by
 unfold Uz aUP Dw;rw[JD v.Users (fuel_lt AA) (fun x=>decide (x.User=u)) (fun i=>some (match v.Users[i]? with |some x=>x.N|none=>0)) (some v.User)]
 ·rw[JG];by_cases h:v.Users.findIdx (fun x=>decide (x.User=u))<v.Users.length
  ·rw[CV h,D9 h]
  rw[Cc h,I7 AA]
 ·intro k i h;unfold aIj;rw[Bv h,IQ,D9 h,Ba h];rfl
 intro k;unfold aIj;rw[DC]
def gI {l:List AB} (h:DF l):(EX l).Users.length≤100∧(EX l).Kinds.length≤100:=by
 unfold EX;cases j:l.find? fun x=>x.Kind==3 with
 |some x=>
  have :=h x (SV j);exact⟨this.users,this.kinds⟩
 |none=>
  simp only;unfold Vg;cases(Rn l).toList==Bc.toList with
  |true=>
   show Wu.Users.length≤100∧Wu.Kinds.length≤100;exact⟨BJ,BJ⟩
  |false=>
   show 1≤100∧Wu.Kinds.length≤100;exact⟨BJ,BJ⟩
def lV (l:List AB) (e:AB):Int:=Dw (EX (Rf l e)) e.aP
def DF.from {l:List AB} (h:DF l) (e:AB):DF (Rf l e):=fun x j=>h x (apW j)
def ang (l:List AB) (e:AB) (hl:l.length≤1000) (hs:DF l) (j:e.bD.length≤40):aBK l e=some (lV l e):=by
 have m:=aCM l e;have q:=(gI (hs.from e)).1;unfold aBK;rw[adJ l e hl j];simp only[AQ];rw[sG _ AA (hs.from e)];simp only[AQ];rw[WU _ _ AA];rfl
def aQM (l:List AB) (e:AB) (hl:l.length≤1000) (hs:DF l) (j:e.bD.length≤40):aBI l e=some (lV l e):=by
 have m:=aCM l e;have q:=(gI (hs.from e)).1;unfold aBI;rw[afH l e hl j];simp only[AQ];rw[aHN _ AA];simp only[AQ];rw[YS _ _ AA];rfl
def Oj (e:AB):Bool:=bif e.Kind==2 then(e.Content.N==0||e.Content.N==4)&& !(decide (e.Key=e.aP))else e.Kind==3||e.Kind==4
def aoP (e:AB):zU e=some (Oj e):=by
 unfold zU zD Oj;rw[IQ];by_cases m:e.Kind=2
 ·simp[m];cases e.Content.N==0<;>cases e.Content.N==4<;>rfl
 have j:(e.Kind==2)=false:=Y0
 rw[j];cases e.Kind==3<;>cases e.Kind==4<;>rfl
def ajI (e:AB):aKM e=some (Oj e):=by
 unfold aKM Oj;rw[IQ];cases e.Kind==2<;>cases e.Content.N==0<;>cases e.Content.N==4<;>cases e.Kind==3<;>cases e.Kind==4<;>rfl
def adb (l:List Int) (x:Int) (h:l.length≤1099511627776):pW l x=some (if l.findIdx (· ==x)<l.length then((l.findIdx (· ==x):Nat):Int)else -1):=by
 unfold pW adi;rw[JD l (fuel_lt h) (· ==x) (fun i=>some (i:Int)) (some (-1))]
 ·split<;>rfl
 ·intro k i hi;unfold aIn;rw[Bv hi];have :(x==l[i])=(l[i]==x):=by rw[KG];simp only[Q5];exact eq_comm
  rw[this]
 intro k;unfold aIn;rw[DC]
def acn (l:List Int) (x:Int):decide (l.findIdx (· ==x)<l.length)=CZ l x:=by
 rw[KG,J3,G8,uG];exact⟨fun⟨y,j,m⟩=>by rw[←(by simpa using m:y=x)];exact j,fun h=>⟨x,h,Ap⟩⟩
def wO (l:List Int) (x:Int) (h:l.length≤1099511627776):fH l x=some (CZ l x):=by
 unfold fH;rw[adb l x h,←acn];by_cases hl:l.findIdx (· ==x)<l.length
 ·rw[CV hl,IJ hl];simp
 rw[Cc hl,IC hl];rfl
def ab6 (l:List Int) (x:Int) (h:l.length≤1099511627776):lM l x=some (CZ l x):=by
 unfold lM;rw[wO l x h];rfl
def ev (l:List AB) (id:Int):AB:=(Gq l id).1
def VU (l:List AB) (id:Int):Bool:=bY l id&&Oj (ev l id)
def Dy (l:List AB) (full:List Int):List Int:=full.filter (VU l)
def Ur (l:List AB) (full:List Int):List Int:=Ed (Dy l full++full.filter (CZ (chainOf l (Dy l full))))
def aCL {l:List AB} {full:List Int} {x:Int}:x∈Ur l full↔x∈full∧(VU l x=true∨Jp l (Dy l full) x):=by
 unfold Ur;rw[JV,GU,EY,J3,cu];unfold Dy;rw[EY];exact⟨fun h=>h.elim (fun h=>⟨h.1,.inl h.2⟩) fun h=>⟨h.1,.inr h.2⟩,fun⟨h,k⟩=>k.elim (fun k=>.inl ⟨h,k⟩) fun k=>.inr ⟨h,k⟩⟩
def adw (l:List AB) (full:List Int):Inc (Ur l full):=Jt _
def aIH (p:Int→Bool):∀(S r:List Int),S.foldl (fun r x=>bif p x then r++[x]else r) r=r++S.filter p
 | [],r=>Ap
 |x::S,r=>by
  rw[Et,aIH p S,SA];cases p x<;>simp
def anL (l:List AB) (full:List Int) (hl:l.length≤1000) (hs:DF l) (z:full.length≤120000) (j:(Dy l full).length≤100000):aAo l full=some (Ur l full):=by
 unfold aAo ac7;rw[H6 (a0:=[]) full AA (fun r x=>bif VU l x then r++[x]else r) (fun i r=>r.length≤i) (fun r=>(Xa l r).bind fun m=>aIB full m r 0) (Dk _)]
 ·have u:full.foldl (fun r x=>bif VU l x then r++[x]else r) []=Dy l full:=by rw[aIH];rfl
  have I:=aF l (Dy l full);rw[u,aL4 l _ hl hs.aj0 j];simp only[AQ];unfold aIB;rw[H6 full AA (fun r x=>bif CZ (chainOf l (Dy l full)) x then r++[x]else r) (fun i r=>r.length≤(Dy l full).length+i) (fun r=>some (Ed r)) (Dk _)]
  ·rw[aIH];rfl
  ·intro k r i h q;refine⟨?_,?_⟩
   ·cases CZ (chainOf l (Dy l full)) full[i]with
    |false=>show r.length≤(Dy l full).length+(i+1);omega
    |true=>show(r++[full[i]]).length≤(Dy l full).length+(i+1);simp;omega
   unfold aNV aB3;rw[Bv h,ab6 _ _ AA];simp only[AQ];rw[D7 FM];cases CZ (chainOf l (Dy l full)) full[i]<;>rfl
  intro k r q;unfold aNV;rw[DC,dU _ AA];rfl
 ·intro k r i h q;refine⟨?_,?_⟩
  ·cases VU l full[i]with
   |false=>show r.length≤i+1;omega
   |true=>show(r++[full[i]]).length≤i+1;simp;omega
  unfold aJA aC3;rw[Bv h,MK l _ AA];simp only[AQ];rw[D7 FM];unfold VU bY ev;rw[aoP,Oo];cases(Dh l full[i]).isSome<;>cases Oj (Gq l full[i]).1<;>rfl
 intro k r _;unfold aJA;rw[DC]
def Jp.aDP {l:List AB} {ids:List Int} {i x:Int} (hi:i∈ids) (h:Jp l [i] x):Jp l ids x:=by
 induction h with
 |one h j m=>rw[Gu.1 h]at j;exact .one hi j m
 |more h j m q=>exact .more q j m
def Jp.split {l:List AB} {ids:List Int} {x:Int}:Jp l ids x↔∃i∈ids,Jp l [i] x:=by
 constructor
 ·intro h
  induction h with
  |one h j m=>exact⟨_,h,.one (Gu.2 rfl) j m⟩
  |more h j m z=>obtain⟨i,q,u⟩:=z;exact⟨i,q,.more u j m⟩
 rintro⟨i,q,u⟩;exact .aDP q u
def Jp.bY {l:List AB} {ids:List Int} {x:Int} (h:Jp l ids x):bY l x=true:=by cases h<;>assumption
def ZG (h r:List Int) (y:Int):List Int:=bif CZ h y then put r y else r
def aDA (h:List Int):∀(c r:List Int),Inc r→Inc (c.foldl (ZG h) r)∧∀x,x∈c.foldl (ZG h) r↔x∈r∨x∈c∧x∈h
 | [],r,m=>⟨m,fun x=>Ap⟩
 |y::c,r,m=>by
  rw[Et];unfold ZG;cases I:CZ h y with
  |true=>
   obtain⟨q,u⟩:=aDA h c (put r y) (SL m);refine⟨q,fun x=>(u x).trans ?_⟩;rw[Vd,Ei];constructor
   ·rintro((j|rfl)|j)
    ·exact .inl j
    ·exact .inr ⟨.inl rfl,J3.1 I⟩
    exact .inr ⟨.inr j.1,j.2⟩
   rintro(j|⟨rfl|j,z⟩)
   ·exact .inl (.inl j)
   ·exact .inl (.inr rfl)
   exact .inr ⟨j,z⟩
  |false=>
   obtain⟨q,u⟩:=aDA h c r m;refine⟨q,fun x=>(u x).trans ⟨fun j=>j.imp id fun j=>⟨FW _ j.1,j.2⟩,fun j=>j.imp id fun j=>⟨?_,j.2⟩⟩⟩;rcases Ei.1 j.1 with rfl|z
   ·exact absurd j.2 (OJ.1 I)
   exact z
def Zm (l:List AB) (h r:List Int) (x:Int):List Int:=bif Oj (ev l x)then(chainOf l [x]).foldl (ZG h) (put r x)else r
def aGh (l:List AB) (h:List Int):∀(c r:List Int),Inc r→Inc (c.foldl (Zm l h) r)∧∀x,x∈c.foldl (Zm l h) r↔x∈r∨∃i∈c,Oj (ev l i)=true∧(x=i∨Jp l [i] x∧x∈h)
 | [],r,u=>⟨u,fun x=>Ap⟩
 |y::c,r,u=>by
  rw[Et];unfold Zm;cases z:Oj (ev l y)with
  |true=>
   obtain⟨L,M⟩:=aDA h (chainOf l [y]) (put r y) (SL u);obtain⟨I,J⟩:=aGh l h c _ L;refine⟨I,fun x=>(J x).trans ?_⟩;rw[M x,Vd,cu];constructor
   ·rintro(((j|rfl)|j)|⟨i,j,q⟩)
    ·exact .inl j
    ·exact .inr ⟨x,Ep ..,z,.inl rfl⟩
    ·exact .inr ⟨y,Ep ..,z,.inr j⟩
    exact .inr ⟨i,FW _ j,q⟩
   rintro(j|⟨i,j,q,m⟩)
   ·exact .inl (.inl (.inl j))
   rcases Ei.1 j with rfl|j
   ·rcases m with rfl|m
    ·exact .inl (.inl (.inr rfl))
    exact .inl (.inr m)
   exact .inr ⟨i,j,q,m⟩
  |false=>
   obtain⟨I,J⟩:=aGh l h c r u;refine⟨I,fun x=>(J x).trans ⟨fun j=>j.imp id fun⟨i,q,m⟩=>⟨i,FW _ q,m⟩,fun j=>j.imp id fun⟨i,q,m,O⟩=>⟨i,?_,m,O⟩⟩⟩;rcases Ei.1 q with rfl|q
   ·rw[z]at m;cases m
   exact q
def apu (l:List AB) (full:List Int):(gG l full).foldl (Zm l (gG l full)) []=Ur l full:=by
 obtain⟨z,I⟩:=aGh l (gG l full) (gG l full) [] .nil;refine BK z (adw _ _) fun x=>(I x).trans ?_;rw[aCL,LX,Jp.split];unfold Dy VU;constructor
 ·rintro(u|⟨i,u,j,q⟩)
  ·exact absurd u Ez
  have m:=LX.1 u;rcases q with rfl|q
  ·exact⟨m.1,.inl (by rw[m.2,j];rfl)⟩
  exact⟨q.2.1,.inr ⟨i,EY.2 ⟨m.1,by rw[m.2,j];rfl⟩,q.1⟩⟩
 rintro⟨u,j|⟨i,j,q⟩⟩
 ·rw[CW]at j;exact .inr ⟨x,LX.2 ⟨u,j.1⟩,j.2,.inl rfl⟩
 rw[EY,CW]at j;exact .inr ⟨i,LX.2 ⟨j.1,j.2.1⟩,j.2.2,.inr ⟨q,u,q.bY⟩⟩
def ag2 (l:List AB) (full:List Int) (hl:l.length≤1000) (hs:DF l) (L:full.length≤100000):aMV l full=some (Ur l full):=by
 unfold aMV;rw[abv l full hl L];simp only[AQ];have M:(gG l full).length≤l.length:=lC (bK l full) fun x m=>(LX.1 m).2;unfold aRS;rw[H6 (a0:=[]) (gG l full) AA (Zm l (gG l full)) (fun _ r=>Inc r∧∀x∈r,bY l x=true) (fun r=>some r) ⟨.nil,fun x m=>absurd m Ez⟩]
 ·rw[apu]
 ·intro k r i h u;have z:bY l (gG l full)[i]=true:=(LX.1 (Df h)).2;have O:=lC u.1 u.2;have g:=aDA (gG l full) (chainOf l [(gG l full)[i]]) (put r (gG l full)[i]) (SL u.1);refine⟨?_,?_⟩
  ·unfold Zm;cases Oj (ev l (gG l full)[i])with
   |false=>exact u
   |true=>
    refine⟨g.1,fun x m=>?_⟩;rcases(g.2 x).1 m with q|q
    ·rcases Vd.1 q with q|rfl
     ·exact u.2 x q
     exact z
    exact(LX.1 q.2).2
  unfold aIq aGU;rw[Bv h,NQ l _ AA];simp only[AQ];rw[ajI,Ba h];simp only[AQ];rw[jf _ _ AA];simp only[AQ];rw[aPW l _ hl hs.aj0 Ap];simp only[AQ];unfold Zm;show(bif Oj (ev l (gG l full)[i])then _ else _)=_;cases Oj (ev l (gG l full)[i])with
  |false=>rfl
  |true=>
   simp only[Au];have hc:=aF l [(gG l full)[i]];unfold aTQ
   rw[H6 (chainOf l [(gG l full)[i]]) AA (ZG (gG l full)) (fun _ r=>Inc r∧∀x∈r,bY l x=true) (fun r=>k r (Ag ((i:Int)+1))) ⟨SL u.1,fun x m=>by
    rcases Vd.1 m with q|rfl
    ·exact u.2 x q
    exact z⟩]
   ·intro k2 U j J I;have Y:=lC I.1 I.2;refine⟨?_,?_⟩
    ·unfold ZG;cases Z:CZ (gG l full) (chainOf l [(gG l full)[i]])[j]with
     |false=>exact I
     |true=>
      refine⟨SL I.1,fun x m=>?_⟩;rcases Vd.1 m with q|rfl
      ·exact I.2 x q
      exact(LX.1 (J3.1 Z)).2
    unfold aPa aOJ;rw[Bv J,XM _ _ AA,Ba J];simp only[AQ];rw[jf _ _ AA];unfold ZG;cases CZ (gG l full) (chainOf l [(gG l full)[i]])[j]<;>rfl
   intro k2 U _;unfold aPa aGU;rw[DC]
 intro k r _;unfold aIq;rw[DC]
def zX (l:List AB) (full:List Int):(Ur l full).length≤l.length:=
 lC (adw l full) fun x j=>by
  rcases(aCL.1 j).2 with h|h
  ·unfold VU at h;rw[CW]at h;exact h.1
  exact h.bY
def Eu (l:List AB) (id:Int):QT:=⟨id,lV l (ev l id),(ev l id).Time,chainOf l [id]⟩
def WA (l:List AB) (left:List Int) (x:Int):Bool:= !left.any fun y=>CZ (chainOf l [x]) y
def Yq (a b:QT):Bool:=bif a.Je != b.Je then decide (a.Je>b.Je)else decide (a.Bo<b.Bo)
def Gh (l:List AB) (left:List Int) (b:Option Int) (x:Int):Option Int:=bif WA l left x&&(match b with |none=>true|some y=>Yq (Eu l x) (Eu l y))then some x else b
def Sr (l:List AB) (left:List Int):Option Int:=left.foldl (Gh l left) none
def rV (l:List AB):Nat→List Int→List Int
 |0,_=>[]
 |n+1,left=>match Sr l left with
  |none=>[]
  |some b=>b::rV l n (left.filter (· != b))
def aeJ (l:List AB):∀ids:List Int,ids.flatMap (fun id=>bif bY l id then[Eu l id]else[])=(ids.filter (bY l)).map (Eu l)
 | []=>rfl
 |i::ids=>by
  rw[NJ,aeJ l ids,SA];cases bY l i<;>simp
def ag5 (l:List AB) (ids:List Int) (hl:l.length≤1000) (hs:DF l) (hi:ids.length≤100000):aCh l ids=some ((gG l ids).map (Eu l)):=by
 unfold aCh;rw[dU ids AA];simp only[AQ];have q:=ND ids;unfold adS;rw[H6 (a0:=[]) (Ed ids) AA (fun r id=>r++bif bY l id then[Eu l id]else[]) (fun i r=>r.length≤i) (fun r=>some r) (Dk _)]
 ·rw[foldl_append (fun id=>bif bY l id then[Eu l id]else[]),IV,aeJ];rfl
 ·intro k r i h z;refine⟨?_,?_⟩
  ·cases bY l (Ed ids)[i]<;>simp <;>omega
  unfold aKH aEH;rw[Bv h,MK l _ AA];simp only[AQ];unfold bY;cases j:Dh l (Ed ids)[i]with
  |none=>rw[QH j];simp
  |some e=>
   have u:=hs e (KL j);have m:ev l (Ed ids)[i]=e:=by unfold ev;rw[La j]
   rw[La j];simp only[Au,Option.isSome_some];rw[ang l e hl hs u.auth,aL4 l _ hl hs.aj0 Ap];simp only[AQ];rw[D7 FM];unfold Eu;rw[m];rfl
 intro k r _;unfold aKH;rw[DC]
def aR9 (l:List AB) (left:List Int):∀(c:List Int) (b:Option Int) {x:Int},c.foldl (Gh l left) b=some x→b=some x∨x∈c
 | [],b,x,h=>.inl h
 |y::c,b,x,h=>by
  rw[Et]at h;rcases aR9 l left c _ h with j|j
  ·have key:∀c:Bool,(bif c then some y else b)=some x→b=some x∨x=y:=fun c m=>by
    cases c with
    |true=>simp only[Au,Ll]at m;exact .inr m.symm
    |false=>exact .inl m
   rcases key _ j with q|q
   ·exact .inl q
   exact .inr (q▸Ep ..)
  exact .inr (FW _ j)
def alm {l:List AB} {left:List Int} {x:Int} (h:Sr l left=some x):x∈left:=by
 rcases aR9 l left left none h with h|h
 ·cases h
 exact h
def aeI {left:List Int} (z:left.Nodup) {j:Nat} (I:j<left.length):left.take j++left.drop (j+1)=left.filter (· != left[j]):=by
 have e:left=left.take j++left[j]::left.drop (j+1):=by rw[←LG I,Xx]
 have m:(left.take j++left[j]::left.drop (j+1)).Nodup:=by rw[←e];exact z
 have u:=lK.1 m;have J:=Jy.1 u.2.1
 have L:(left.take j).filter (· != left[j])=left.take j:=ug.2 fun x q=>by
  have :=u.2.2 x q left[j] (Ep ..);simpa using this
 have M:(left.drop (j+1)).filter (· != left[j])=left.drop (j+1):=ug.2 fun x q=>by
  have :x≠left[j]:=fun e=>J.1 (e▸q);simpa using this
 have :(left.take j++left[j]::left.drop (j+1)).filter (· != left[j])=left.take j++left.drop (j+1):=by
  rw[Pj,SA,L,M];simp
 rw[←e]at this;exact this.symm
def adL {left:List Int} (m:left.Nodup) {b:Int} (q:b∈left):(left.filter (· != b)).length+1=left.length:=by
 obtain⟨j,u,rfl⟩:=GZ q;rw[←aeI m u,EG,FY,Kw];omega
def ap1 {left:List Int} (h:Inc left) (b:Int):Nv left [b]=left.filter (· != b):=by
 unfold Nv;rw[aqr h];congr 1;funext x;by_cases e:x=b
 ·subst e;simp[CZ]
 simp[CZ,e]
def aqg (l:List AB) (hl:l.length≤1000):∀(m:Nat) (left acc:List Int) (N:Nat),left.length=m→Inc left→(∀x∈left,bY l x=true)→acc.length+left.length≤1000000→m<N→aQ Z4 N (left.map (Eu l)) acc=some (acc++rV l m left):=by
 intro m
 induction m with
 |zero=>
  intro left acc N hm hi hk hacc hN;obtain⟨N,rfl⟩:∃N',N=N'+1:=⟨N-1,AA⟩
  have :left=[]:=Gg hm;subst this;show Z4 _ _ _=_;unfold Z4 rV;simp
 |succ m ih=>
  intro left acc N hm hi hk hacc hN;obtain⟨N,rfl⟩:∃N',N=N'+1:=⟨N-1,AA⟩
  have hll:=lC hi hk;refine dP.eq ?_;show dP (Z4 (aQ Z4 N) _ _) _;have ih':=fun Z acc' h1 h2 h3 h4=>ih Z acc' N h1 h2 h3 h4 AA;generalize aQ Z4 N=K at ih';unfold Z4;rw[show decide (((left.map (Eu l)).length:Int)>0)=true by rw[CM];simp;omega];simp only[Au];unfold aaA;refine TR (body:=aHQ (left.map (Eu l)) K) (fun m2 a b c=>∃i:Nat,b=i∧i+m2=left.length∧c=acc∧((a= -1∧(left.take i).foldl (Gh l left) none=none)∨∃(j:Nat) (z:j<left.length),a=(j:Int)∧(left.take i).foldl (Gh l left) none=some left[j])) ?_ Af left.length (-1) 0 acc (fuel_lt AA) ⟨0,rfl,AA,rfl,.inl ⟨rfl,rfl⟩⟩;rintro m2 a b c k ⟨i,rfl,hm2,rfl,hI⟩ I;unfold aHQ;by_cases J:i<left.length
  ·have O:i<(left.map (Eu l)).length:=by rw[CM];exact J
   rw[dec_lt O,Ba O,MW];simp only[Au,AQ]
   have hst:(left.take (i+1)).foldl (Gh l left) none=Gh l left ((left.take i).foldl (Gh l left) none) left[i]:=by
    rw[Ot J,V7];rfl
   unfold acI;have hc:=aF l [left[i]]
   have hin:∀(k2:Int→Int→List Int→Option (List Int)),aQ (YO (left.map (Eu l)) (Eu l left[i]) k2 (i:Int) a) Af 0 c=bif WA l left left[i]then(bif decide (a<0)then Yt k2 (i:Int) a true c else(Ae (left.map (Eu l)) a).bind fun x27=>(Zg (Eu l left[i]) x27).bind fun x28=>Yt k2 (i:Int) a x28 c)else ZY k2 (i:Int) a c:=by
    intro k2
    have key:∀n (j:Nat),j+n=left.length→∀m,n<m→aQ (YO (left.map (Eu l)) (Eu l left[i]) k2 (i:Int) a) m (j:Int) c=bif !(left.drop j).any (fun y=>CZ (chainOf l [left[i]]) y)then(bif decide (a<0)then Yt k2 (i:Int) a true c else(Ae (left.map (Eu l)) a).bind fun x27=>(Zg (Eu l left[i]) x27).bind fun x28=>Yt k2 (i:Int) a x28 c)else ZY k2 (i:Int) a c:=by
     intro n
     induction n with
     |zero=>
      intro j z m hm;obtain⟨m,rfl⟩:∃m',m=m'+1:=⟨m-1,AA⟩
      have :j=left.length:=AA
      subst this;show YO _ _ _ _ _ _ _ _=_;unfold YO;rw[show decide ((left.length:Int)<((left.map (Eu l)).length:Int))=false by rw[CM];exact CX _,Om];rfl
     |succ n ihn=>
      intro j z m hm;obtain⟨m,rfl⟩:∃m',m=m'+1:=⟨m-1,AA⟩
      have hjl:j<left.length:=AA
      have aFV:j<(left.map (Eu l)).length:=by rw[CM];exact hjl
      have U:=ihn (j+1) AA m AA;show YO _ _ _ _ _ (aQ _ m) _ _=_;generalize aQ (YO (left.map (Eu l)) (Eu l left[i]) k2 (i:Int) a) m=L at U;unfold YO;rw[Bv aFV,MW];show((lM (chainOf l [left[i]]) left[j]).bind _)=_;rw[ab6 _ _ AA,wrap_succ j AA,LG hjl,Yn];simp only[AQ];cases CZ (chainOf l [left[i]]) left[j]with
      |true=>rfl
      |false=>
       simp only[Aj,ML];exact U
    exact key left.length 0 AA Af (fuel_lt AA)
   rw[hin];have hw:=wrap_succ i AA;unfold Yt ZY;rw[hw];cases M:WA l left left[i]with
   |false=>
    simp only[Aj];refine I (m2-1) _ _ _ AA ⟨i+1,rfl,AA,rfl,?_⟩;have e:Gh l left ((left.take i).foldl (Gh l left) none) left[i]=(left.take i).foldl (Gh l left) none:=by unfold Gh;rw[M];rfl
    rw[hst,e];exact hI
   |true=>
    simp only[Au];rcases hI with⟨rfl,Y⟩|⟨j,z,rfl,Y⟩
    ·rw[show decide ((-1:Int)<0)=true by decide];simp only[Au];refine I (m2-1) _ _ _ AA ⟨i+1,rfl,AA,rfl,.inr ⟨i,J,rfl,?_⟩⟩;rw[hst,Y];unfold Gh;rw[M];rfl
    have q:j<(left.map (Eu l)).length:=by rw[CM];exact z
    rw[show decide ((j:Int)<0)=false by simp,Ba q,MW];simp only[Aj,AQ]
    have e1:Zg (Eu l left[i]) (Eu l left[j])=some (Yq (Eu l left[i]) (Eu l left[j])):=by
     unfold Zg Yq;cases(Eu l left[i]).Je != (Eu l left[j]).Je<;>rfl
    rw[e1];simp only[AQ];cases ha:Yq (Eu l left[i]) (Eu l left[j])with
    |true=>
     simp only[Au];refine I (m2-1) _ _ _ AA ⟨i+1,rfl,AA,rfl,.inr ⟨i,J,rfl,?_⟩⟩;rw[hst,Y];unfold Gh;rw[M];simp only[ha];rfl
    |false=>
     simp only[Aj];refine I (m2-1) _ _ _ AA ⟨i+1,rfl,AA,rfl,.inr ⟨j,z,rfl,?_⟩⟩;rw[hst,Y];unfold Gh;rw[M];simp only[ha];rfl
  have hie:i=left.length:=AA
  subst hie;rw[show decide ((left.length:Int)<((left.map (Eu l)).length:Int))=false by rw[CM];exact CX _];simp only[Aj];rw[GI]at hI;have u:rV l (m+1) left=match Sr l left with |none=>[]|some b=>b::rV l m (left.filter (· != b)):=rfl
  rcases hI with⟨rfl,Y⟩|⟨j,z,rfl,Y⟩
  ·rw[show decide ((-1:Int)<0)=true by decide];refine .ret ?_;have h1:Sr l left=none:=Y;rw[u,h1];simp
  have q:j<(left.map (Eu l)).length:=by rw[CM];exact z
  rw[show decide ((j:Int)<0)=false by simp,Ba q,MW];simp only[Aj,AQ];have h1:Sr l left=some left[j]:=Y;rw[D7 FM];simp only[AQ];rw[xF (Nat.le_of_lt q),wrap_succ j AA,X0 q];simp only[AQ];rw[D7 (by rw[FY,Kw,CM];omega)];simp only[AQ]
  have e2:(left.map (Eu l)).take j++(left.map (Eu l)).drop (j+1)=(left.filter (· != left[j])).map (Eu l):=by
   rw[←aeI (Rq hi) z,JU,Ym,cG]
  rw[e2];have hwl:=adL (Rq hi) (Df z);rw[ih' (left.filter (· != left[j])) (c++[(Eu l left[j]).nJ]) AA (hi.sublist QB) (fun x hx=>hk x ((EY.1 hx).1)) Uo];refine .ret ?_;rw[u,h1,Hr];rfl
def asA (l:List AB) (ids:List Int) (hl:l.length≤1000) (hs:DF l) (hi:ids.length≤100000):yw l ids=some (rV l (gG l ids).length (gG l ids)):=by
 have m:(gG l ids).length≤l.length:=lC (bK l ids) fun x j=>(LX.1 j).2;unfold yw;rw[ag5 l ids hl hs hi];simp only[AQ];unfold aTD;rw[aqg l hl _ (gG l ids) [] Af rfl (bK l ids) (fun x j=>(LX.1 j).2) TQ (fuel_lt AA)];rfl
def ajn (l:List AB) (left:List Int) (x:Int) (hl:l.length≤1000) (hs:DF l) (j:left.length≤100000):aJ9 l left x=some (WA l left x):=by
 unfold aJ9;rw[aPW l _ hl hs.aj0 Ap];simp only[AQ];have m:=aF l [x];unfold ac9;rw[Gs (chainOf l [x]) (fuel_lt AA) (fun y=>CZ left y) false (some true)]
 ·unfold WA
  have e:(chainOf l [x]).any (fun y=>CZ left y)=left.any fun y=>CZ (chainOf l [x]) y:=by
   rw[KG,Fv,Fv];simp only[J3];exact⟨fun⟨y,a,b⟩=>⟨y,b,a⟩,fun⟨y,a,b⟩=>⟨y,b,a⟩⟩
  rw[e];cases left.any fun y=>CZ (chainOf l [x]) y<;>rfl
 ·intro k i h;unfold aNT;rw[Bv h,XM _ _ AA];simp only[AQ]
 intro k;unfold aNT;rw[DC]
def aOl {R A B C D:Type} {Q:R→Prop} {body:(A→B→C→D→Option R)→A→B→C→D→Option R} (I:Nat→A→B→C→D→Prop) (hs:∀m a b c d k,I m a b c d→(∀j a' q u z,j<m→I j a' q u z→dP (k a' q u z) Q)→dP (body k a b c d) Q):
 ∀n m a b c d,m<n→I m a b c d→dP (XY body n a b c d) Q
 |0,m,_,_,_,_,h,_=>AA
 |n+1,m,a,b,c,d,h,hi=>hs m a b c d _ hi fun j a' q u z h' J=>aOl I hs n j a' q u z AA J
def Ib {l:List AB} {x:Int} (h:bY l x=true):Dh l x=some (ev l x)∧(ev l x).Id=x:=by
 unfold bY at h;obtain⟨e,j⟩:=TY.1 h;have :ev l x=e:=by unfold ev;rw[La j]
 rw[this];exact⟨j,aQU j⟩
def aon (l:List AB) (x y:Int) (hl:l.length≤1000) (hs:DF l) (m:bY l x=true) (q:bY l y=true) (u:y<x):aJc l (ev l x) (ev l y)=some (Yq (Eu l x) (Eu l y)):=by
 obtain⟨z,I⟩:=Ib m;obtain⟨J,L⟩:=Ib q;unfold aJc;rw[aQM l _ hl hs (hs _ (KL z)).auth,aQM l _ hl hs (hs _ (KL J)).auth];simp only[AQ];unfold Yq Eu;simp only;cases lV l (ev l x) != lV l (ev l y)with
 |true=>rfl
 |false=>
  simp only[Aj];rw[I,L];by_cases j:(ev l x).Time=(ev l y).Time
  ·rw[j];simp;omega
  have :((ev l x).Time != (ev l y).Time)=true:=O7
  rw[this];rfl
def agN (l:List AB) (hl:l.length≤1000) (hs:DF l):∀(m:Nat) (left acc:List Int) (N:Nat),left.length=m→Inc left→(∀x∈left,bY l x=true)→acc.length+left.length≤1000000→m<N→aQ (Y2 l) N left acc=some (acc++rV l m left):=by
 intro m
 induction m with
 |zero=>
  intro left acc N hm hi U Z hN;obtain⟨N,rfl⟩:∃N',N=N'+1:=⟨N-1,AA⟩
  have :left=[]:=Gg hm;subst this;show Y2 _ _ _ _=_;unfold Y2 rV;simp
 |succ m ih=>
  intro left acc N hm hi U Z hN;obtain⟨N,rfl⟩:∃N',N=N'+1:=⟨N-1,AA⟩
  have hll:=lC hi U;refine dP.eq ?_;show dP (Y2 l (aQ (Y2 l) N) _ _) _;have ih':=fun M acc' h1 h2 h3 h4=>ih M acc' N h1 h2 h3 h4 AA;generalize aQ (Y2 l) N=K at ih';unfold Y2;rw[show decide ((left.length:Int)>0)=true by simp;omega];simp only[Au];unfold aas;refine aOl (body:=aH6 left l K) (fun Y a b c d=>∃i:Nat,b=i∧i+Y=left.length∧c=acc∧((a=false∧(left.take i).foldl (Gh l left) none=none)∨∃(j:Nat) (I:j<left.length),j<i∧a=true∧d=ev l left[j]∧(left.take i).foldl (Gh l left) none=some left[j])) ?_ Af left.length false 0 acc F6 (fuel_lt AA) ⟨0,rfl,AA,rfl,.inl ⟨rfl,rfl⟩⟩;rintro Y a b c d k ⟨i,rfl,hm2,rfl,hI⟩ J;unfold aH6;by_cases q:i<left.length
  ·rw[dec_lt q,Ba q];simp only[Au,AQ];rw[NQ l _ AA];simp only[AQ];rw[ajn l left _ hl hs AA];simp only[AQ]
   have hst:(left.take (i+1)).foldl (Gh l left) none=Gh l left ((left.take i).foldl (Gh l left) none) left[i]:=by
    rw[Ot q,V7];rfl
   unfold aKk;rw[wrap_succ i AA];cases L:WA l left left[i]with
   |false=>
    simp only[Aj,AQ];refine J (Y-1) _ _ _ _ AA ⟨i+1,rfl,AA,rfl,?_⟩;have e:Gh l left ((left.take i).foldl (Gh l left) none) left[i]=(left.take i).foldl (Gh l left) none:=by unfold Gh;rw[L];rfl
    rw[hst,e];rcases hI with u|⟨j,I,O,u⟩
    ·exact .inl u
    exact .inr ⟨j,I,AA,u⟩
   |true=>
    simp only[Au];rcases hI with⟨rfl,u⟩|⟨j,I,O,rfl,rfl,u⟩
    ·simp only[IU,Au,AQ];refine J (Y-1) _ _ _ _ AA ⟨i+1,rfl,AA,rfl,.inr ⟨i,q,AA,rfl,rfl,?_⟩⟩;rw[hst,u];unfold Gh;rw[L];rfl
    simp only[Dz,Aj];have hlt2:left[j]<left[i]:=Jq.1 hi j i I q O;have e1:=aon l left[i] left[j] hl hs (U _ (Df q)) (U _ (Df I)) hlt2;rw[show(Gq l left[i]).1=ev l left[i]from rfl,e1];simp only[AQ];cases ha:Yq (Eu l left[i]) (Eu l left[j])with
    |true=>
     simp only[Au];refine J (Y-1) _ _ _ _ AA ⟨i+1,rfl,AA,rfl,.inr ⟨i,q,AA,rfl,rfl,?_⟩⟩;rw[hst,u];unfold Gh;rw[L];simp only[ha];rfl
    |false=>
     simp only[Aj];refine J (Y-1) _ _ _ _ AA ⟨i+1,rfl,AA,rfl,.inr ⟨j,I,AA,rfl,rfl,?_⟩⟩;rw[hst,u];unfold Gh;rw[L];simp only[ha];rfl
  have hie:i=left.length:=AA
  subst hie;rw[CX];simp only[Aj];rw[GI]at hI;have z:rV l (m+1) left=match Sr l left with |none=>[]|some b=>b::rV l m (left.filter (· != b)):=rfl
  rcases hI with⟨rfl,u⟩|⟨j,I,O,rfl,rfl,u⟩
  ·refine .ret ?_;have h1:Sr l left=none:=u;rw[z,h1];simp
  simp only[Dz,Aj];have h1:Sr l left=some left[j]:=u;have hid:=(Ib (U _ (Df I))).2;rw[hid,D7 FM];simp only[AQ];rw[aAX _ _ AA Ap,ap1 hi];simp only[AQ];have hwl:=adL (Rq hi) (Df I);rw[ih' (left.filter (· != left[j])) (c++[left[j]]) AA (hi.sublist QB) (fun x hx=>U x ((EY.1 hx).1)) Uo];refine .ret ?_;rw[z,h1,Hr];rfl
def anq (l:List AB) (ids:List Int) (hl:l.length≤1000) (hs:DF l) (hi:ids.length≤100000):aJO l ids=some (rV l (gG l ids).length (gG l ids)):=by
 have m:(gG l ids).length≤l.length:=lC (bK l ids) fun x j=>(LX.1 j).2;unfold aJO;rw[abv l ids hl hi];simp only[AQ];unfold aUI;rw[agN l hl hs _ (gG l ids) [] Af rfl (bK l ids) (fun x j=>(LX.1 j).2) TQ (fuel_lt AA)];rfl
def aHC (l:List AB):∀(n:Nat) (left:List Int) {x:Int},x∈rV l n left→x∈left
 |0,_,_,h=>absurd h Ez
 |n+1,left,x,h=>by
  unfold rV at h;cases j:Sr l left with
  |none=>rw[j]at h;exact absurd h Ez
  |some b=>
   rw[j]at h;rcases Ei.1 h with rfl|h
   ·exact alm j
   exact(EY.1 (aHC l n _ h)).1
def aQB (l:List AB):∀(n:Nat) (left:List Int),(rV l n left).length≤n
 |0,_=>Dk _
 |n+1,left=>by
  unfold rV;cases Sr l left with
  |none=>exact EZ _
  |some b=>have :=aQB l n (left.filter (· != b));simp only[Fa];omega
def OL (l:List AB) (e:AB):Option Int:=e.bD.find? fun id=>bY l id&&(ev l id).Kind==3
def aY (l:List AB) (e:AB):Int×Bool:=match OL l e with |some x=>(x,true)|none=>(0,false)
def aS0 (l:List AB) (e:AB) (hl:l.length≤1000) (j:e.bD.length≤40):qC l e=some (aY l e):=by
 unfold qC aQh;rw[JD e.bD (fuel_lt AA) (fun id=>bY l id&&(ev l id).Kind==3) (fun i=>some (match e.bD[i]? with |some x=>(x,true)|none=>(0,false))) (some (0,false))]
 ·unfold aY OL;rw[JG];by_cases h:e.bD.findIdx (fun id=>bY l id&&(ev l id).Kind==3)<e.bD.length
  ·rw[CV h]
  rw[Cc h,I7 AA]
 ·intro k i h;unfold aLy;rw[Bv h,MK l _ AA,D9 h];simp only[AQ];unfold bY ev;rw[Oo];cases(Dh l e.bD[i]).isSome<;>rfl
 intro k;unfold aLy;rw[DC]
def apg (l:List AB) (e:AB) (hl:l.length≤1000) (j:e.bD.length≤40):aHw l e=some (aY l e):=by
 unfold aHw acs;rw[JD e.bD (fuel_lt AA) (fun id=>bY l id&&(ev l id).Kind==3) (fun i=>some (match e.bD[i]? with |some x=>(x,true)|none=>(0,false))) (some (0,false))]
 ·unfold aY OL;rw[JG];by_cases h:e.bD.findIdx (fun id=>bY l id&&(ev l id).Kind==3)<e.bD.length
  ·rw[CV h]
  rw[Cc h,I7 AA]
 ·intro k i h;unfold aMt;rw[Bv h,NQ l _ AA,D9 h,Ba h];simp only[AQ];unfold bY ev;rw[Oo];cases(Dh l e.bD[i]).isSome<;>rfl
 intro k;unfold aMt;rw[DC]
def Bh (l:List AB):Nat→List Int→Int→List Int
 |0,seen,_=>seen
 |n+1,seen,id=>bif CZ seen id|| !bY l id then seen else match OL l (ev l id)with
  |none=>seen++[id]
  |some x=>Bh l n (seen++[id]) x
def Xd (l:List AB) (id:Int):List Int:=Bh l l.length [] id
structure UN (l:List AB) (seen:List Int):Prop where
 nodup:seen.Nodup
 known:∀x∈seen,bY l x=true
def UN.length {l:List AB} {seen:List Int} (h:UN l seen):seen.length≤l.length:=by
 rw[←(Uj seen).length_eq,aSG h.nodup];exact lC (Jt _) fun x j=>h.known x (JV.1 j)
def UN.snoc {l:List AB} {seen:List Int} (h:UN l seen) {id:Int} (m:id∉seen) (q:bY l id=true):UN l (seen++[id]):=by
 refine⟨lK.2 ⟨h.nodup,Ap,fun a ha b u=>?_⟩,fun x j=>?_⟩
 ·rw[Gu.1 u];exact fun e=>m (e▸ha)
 rcases GU.1 j with j|j
 ·exact h.known x j
 rw[Gu.1 j];exact q
def afI (l:List AB):∀(n:Nat) (seen:List Int) (id:Int),UN l seen→UN l (Bh l n seen id)
 |0,_,_,h=>h
 |n+1,seen,id,h=>by
  unfold Bh;cases j:CZ seen id|| !bY l id with
  |true=>exact h
  |false=>
   rw[iM,OJ]at j;have m:=h.snoc j.1 (by simpa using j.2);simp only[Aj];cases OL l (ev l id)with
   |none=>exact m
   |some x=>exact afI l n _ x m
def abk (l:List AB):∀(n:Nat) (seen:List Int) (id:Int),∃t,Bh l n seen id=seen++t
 |0,seen,_=>⟨[],by simp[Bh]⟩
 |n+1,seen,id=>by
  unfold Bh;cases CZ seen id|| !bY l id with
  |true=>exact⟨[],Ap⟩
  |false=>
   simp only[Aj];cases OL l (ev l id)with
   |none=>exact⟨[id],rfl⟩
   |some x=>
    obtain⟨t,j⟩:=abk l n (seen++[id]) x;exact⟨id::t,by simp only[j,Hr];rfl⟩
def af9 (l:List AB) (id:Int):(Xd l id).length≤l.length:=(afI l _ [] id ⟨YV,fun x j=>absurd j Ez⟩).length
def amx (l:List AB) (hl:l.length≤1000) (hs:DF l) (Z v9:List Int):∀(m:Nat) (seen:List Int) (id:Int) (N:Nat),seen.length+m=l.length→UN l seen→m<N→FB XH N seen seen Z v9 id l=some (Bh l m seen id):=by
 intro m
 induction m with
 |zero=>
  intro seen id N hm u hN;obtain⟨N,rfl⟩:∃N',N=N'+1:=⟨N-1,AA⟩
  have I:=u.length;show XH _ _ _ _ _ _ _=_;unfold XH;rw[wO _ _ AA,MK l _ AA];simp only[AQ];rw[Oo];cases J:CZ seen id with
  |true=>rfl
  |false=>
   cases q:(Dh l id).isSome with
   |false=>rfl
   |true=>
    have L:=(u.snoc (OJ.1 J) q).length;simp only[EG,Nq]at L;omega
 |succ m ih=>
  intro seen id N hm u hN;obtain⟨N,rfl⟩:∃N',N=N'+1:=⟨N-1,AA⟩
  have I:=u.length;show XH (FB XH N) _ _ _ _ _ _=_;have z:=fun j M h1 L=>ih j M N h1 L AA;generalize FB XH N=K at z;unfold XH Bh;rw[wO _ _ AA,MK l _ AA];simp only[AQ];rw[Oo];cases J:CZ seen id with
  |true=>rfl
  |false=>
   cases q:(Dh l id).isSome with
   |false=>rw[show bY l id=false from q];rfl
   |true=>
    obtain⟨e,Y⟩:=TY.1 q;rw[show bY l id=true from q];simp only[IU,Dz,Kr,Au,Aj];rw[D7 FM];simp only[AQ];unfold aB7;simp only[Aj];rw[D7 FM];simp only[AQ];have O:(Gq l id).1=ev l id:=rfl
    have U:(ev l id).bD.length≤40:=by
     have :ev l id=e:=by unfold ev;rw[La Y]
     rw[this];exact(hs e (KL Y)).auth
    rw[O,aS0 l _ hl U];simp only[AQ];unfold aY;cases OL l (ev l id)with
    |none=>rfl
    |some x=>exact z (seen++[id]) x Uo (u.snoc (OJ.1 J) q)
def apn (l:List AB) (id:Int) (hl:l.length≤1000) (hs:DF l):aAa l id=some (Xd l id):=by
 unfold aAa nC aSU;exact amx l hl hs [] [] l.length [] id Af Ap ⟨YV,fun x j=>absurd j Ez⟩ (fuel_lt AA)
def ajW (l:List AB) (hl:l.length≤1000) (hs:DF l):∀(m:Nat) (seen:List Int) (id:Int) (i N:Nat),i+m=l.length→seen.length≤i→m<N→ku (YT l) N seen id (i:Int)=some (Bh l m seen id):=by
 intro m
 induction m with
 |zero=>
  intro seen id i N M O U;obtain⟨N,rfl⟩:∃N',N=N'+1:=⟨N-1,AA⟩
  have :i=l.length:=AA
  subst this;show YT _ _ _ _ _=_;unfold YT;rw[CX];rfl
 |succ m Y=>
  intro seen id i N M O U;obtain⟨N,rfl⟩:∃N',N=N'+1:=⟨N-1,AA⟩
  show YT _ (ku (YT l) N) _ _ _=_;have q:=fun j u Z h1 h2=>Y j u Z N h1 h2 AA;generalize ku (YT l) N=K at q;unfold YT Bh;rw[dec_lt AA,NQ l _ AA,XM _ _ AA];simp only[Au,AQ];rw[Oo];cases z:(Dh l id).isSome with
  |false=>rw[show bY l id=false from z];cases CZ seen id<;>rfl
  |true=>
   rw[show bY l id=true from z];cases hh:CZ seen id with
   |true=>rfl
   |false=>
    obtain⟨e,L⟩:=TY.1 z;simp only[Dz,Kr,Aj,AQ];rw[D7 FM];simp only[AQ];have I:(Gq l id).1=ev l id:=rfl
    have J:(ev l id).bD.length≤40:=by
     have :ev l id=e:=by unfold ev;rw[La L]
     rw[this];exact(hs e (KL L)).auth
    rw[I,apg l _ hl J,wrap_succ i AA];simp only[AQ];unfold aY;cases OL l (ev l id)with
    |none=>rfl
    |some x=>exact q (seen++[id]) x (i+1) AA Uo
def ae9 (l:List AB) (id:Int) (hl:l.length≤1000) (hs:DF l):zu l id=some (Xd l id):=by
 unfold zu aSl;exact ajW l hl hs l.length [] id 0 Af Ap (Dk _) (fuel_lt AA)
def dF (j way:List Int):Int:=match way.find? (CZ j)with |some x=>((j.findIdx (· ==x):Nat):Int)|none=>(j.length:Int)
def LQ (l:List AB) (j:List Int) (id:Int):Int:=dF j (Xd l id)
def apP (l:List AB) (j:List Int) (hl:l.length≤1000) (hs:DF l) (hm:j.length≤100000):∀(m:Nat) (seen:List Int) (z id:Int) (N:Nat),seen.length+m=l.length→UN l seen→seen.find? (CZ j)=none→m<N→BR Xu N seen j z id l=some (dF j (Bh l m seen id)):=by
 have q:∀seen:List Int,seen.find? (CZ j)=none→dF j seen=(j.length:Int):=fun seen h=>by unfold dF;rw[h]
 intro m
 induction m with
 |zero=>
  intro seen z id N hm Y M hN;obtain⟨N,rfl⟩:∃N',N=N'+1:=⟨N-1,AA⟩
  have hwl:=Y.length;show Xu _ _ _ _ _ _=_;unfold Xu;rw[wO _ _ AA,MK l _ AA];simp only[AQ];rw[Oo];have he:dF j (Bh l 0 seen id)=(j.length:Int):=q seen M;rw[he];cases O:CZ seen id with
  |true=>rfl
  |false=>
   cases U:(Dh l id).isSome with
   |false=>rfl
   |true=>
    have h2:=(Y.snoc (OJ.1 O) U).length;simp only[EG,Nq]at h2;omega
 |succ m ih=>
  intro seen z id N hm Y M hN;obtain⟨N,rfl⟩:∃N',N=N'+1:=⟨N-1,AA⟩
  have hwl:=Y.length;show Xu (BR Xu N) _ _ _ _ _=_;have Z:=fun J z' id' h1 h2 h3=>ih J z' id' N h1 h2 h3 AA;generalize BR Xu N=K at Z;unfold Xu qZ;rw[wO _ _ AA,MK l _ AA,adb _ _ AA];simp only[AQ];rw[Oo];have L:Bh l (m+1) seen id=bif CZ seen id|| !bY l id then seen else match OL l (ev l id)with |none=>seen++[id]|some x=>Bh l m (seen++[id]) x:=rfl
  cases O:CZ seen id with
  |true=>rw[L,O];simp only[Bool.true_or,Au,Dz,Aj];rw[q seen M]
  |false=>
   cases U:(Dh l id).isSome with
   |false=>rw[L,O,show bY l id=false from U];simp only[ML,IU,Au];rw[q seen M]
   |true=>
    obtain⟨e,he⟩:=TY.1 U;rw[L,O,show bY l id=true from U];simp only[IU,Dz,Kr,Au,Aj];have u:=acn j id;by_cases I:j.findIdx (· ==id)<j.length
    ·rw[CV I,show decide (((j.findIdx (· ==id):Nat):Int)≥0)=true by simp];simp only[Au];rw[IJ I]at u
     have hex:∃t,(match OL l (ev l id)with |none=>seen++[id]|some x=>Bh l m (seen++[id]) x)=seen++[id]++t:=by
      cases OL l (ev l id)with
      |none=>exact⟨[],Ap⟩
      |some x=>exact abk l m (seen++[id]) x
     obtain⟨t,ht⟩:=hex;rw[ht];unfold dF;rw[oM,oM,M];simp[←u]
    rw[Cc I,show decide ((-1:Int)≥0)=false by decide];simp only[Aj];rw[IC I]at u;rw[D7 FM];simp only[AQ];have hev:(Gq l id).1=ev l id:=rfl
    have hea:(ev l id).bD.length≤40:=by
     have :ev l id=e:=by unfold ev;rw[La he]
     rw[this];exact(hs e (KL he)).auth
    have hf2:(seen++[id]).find? (CZ j)=none:=by rw[oM,M];simp[←u]
    rw[hev,aS0 l _ hl hea];simp only[AQ];unfold aY;cases OL l (ev l id)with
    |none=>simp only[IU,Au];rw[q _ hf2]
    |some x=>exact Z (seen++[id]) z x Uo (Y.snoc (OJ.1 O) U) hf2
def asu (l:List AB) (j:List Int) (id:Int) (hl:l.length≤1000) (hs:DF l) (m:j.length≤100000):aDU l j id=some (LQ l j id):=by
 unfold aDU nC aTH;exact apP l j hl hs m l.length [] 0 id Af Ap ⟨YV,fun x q=>absurd q Ez⟩ rfl (fuel_lt AA)
def aoe (l:List Int) (x:Int) (h:l.length≤100000):aN1 l x=some ((l.findIdx (· ==x):Nat):Int):=by
 unfold aN1 ade;rw[JD l (fuel_lt AA) (· ==x) (fun i=>some (i:Int)) (some (l.length:Int))]
 ·split
  ·rfl
  rename_i h;have :l.findIdx (· ==x)≤l.length:=aG8;congr 2;omega
 ·intro k i hi;unfold aJM;rw[Bv hi]
 intro k;unfold aJM;rw[DC]
def acP (l:List AB) (j:List Int) (id:Int) (hl:l.length≤1000) (hs:DF l) (m:j.length≤100000):aBW l j id=some (LQ l j id):=by
 unfold aBW;rw[ae9 l id hl hs];simp only[AQ];have q:=af9 l id;unfold aTX LQ dF;generalize Xd l id=W at q;rw[JD W (fuel_lt AA) (CZ j) (fun i=>some (match W[i]? with |some x=>((j.findIdx (· ==x):Nat):Int)|none=>0)) (some (j.length:Int))]
 ·rw[JG];by_cases h:W.findIdx (CZ j)<W.length
  ·rw[CV h,D9 h]
  rw[Cc h,I7 AA]
 ·intro k i h;unfold aOe;rw[Bv h,XM _ _ AA,Ba h,D9 h];simp only[AQ];rw[aoe _ _ m];rfl
 intro k;unfold aOe;rw[DC]
def EU (l:List AB) (j:List Int) (id:Int):KC:=⟨id,LQ l j id,(ev l id).Time⟩
def yG (x:KC):Int×Int×Int:=(x.nJ,x.zx,x.Bo)
def Gy (x y:KC):Bool:=KF (yG x) (yG y)
def zT (l:List AB) (j ids:List Int):List Int:=(QU Gy ((ids.filter (bY l)).map (EU l j))).map (·.nJ)
def aSO (l:List AB) (j:List Int):∀ids:List Int,ids.flatMap (fun id=>bif bY l id then[EU l j id]else[])=(ids.filter (bY l)).map (EU l j)
 | []=>rfl
 |i::ids=>by
  rw[NJ,aSO l j ids,SA];cases bY l i<;>simp
def aiJ (s:List KC) (hs:s.length≤1000000) (z:(s.map (·.nJ)).Nodup):lu s=some s:=by
 unfold lu;by_cases L:s.length<2
 ·rw[show decide ((s.length:Int)<2)=true by simp;omega];rfl
 rw[show decide ((s.length:Int)<2)=false by simp;omega];simp only[Aj];unfold abf;refine dP.eq ?_;refine Xi (body:=aBZ) (fun m a b=>∃i:Nat,a=i∧i+m=s.length∧0<i∧b=s) ?_ Af (s.length-1) 1 s (fuel_lt AA) ⟨1,rfl,AA,AA,rfl⟩;rintro m a b k ⟨i,rfl,M,hi,rfl⟩ I;unfold aBZ;by_cases j:i<b.length
 ·rw[dec_lt j,Ba j];simp only[Au,AQ];have w:Ag ((i:Int)-1)=((i-1:Nat):Int):=QX
  have q:i-1<b.length:=AA
  rw[w,Ba q];simp only[AQ]
  have u:b[i].nJ≠b[i-1].nJ:=by
   have :=Jq.1 z (i-1) i U2 U2 AA;simp only[MW]at this;exact fun e=>this e.symm
  have J:su b[i] b[i-1]=false:=by
   unfold su;rw[show(b[i].nJ==b[i-1].nJ)=false by simpa using u];rfl
  rw[J,wrap_succ i AA];exact I (m-1) _ _ AA ⟨i+1,rfl,AA,AA,rfl⟩
 have :i=b.length:=AA
 subst this;rw[CX];exact .ret rfl
def aHX (l:List AB) (j:List Int) (ids:List Int):(ids.map (EU l j)).map (·.nJ)=ids:=by
 rw[aI];exact List.map_id' ids
def atJ (l:List AB) (j ids:List Int) (hl:l.length≤1000) (hs:DF l) (L:j.length≤100000) (hi:ids.length≤100000) (M:ids.Nodup):aBa l j ids=some (zT l j ids):=by
 unfold aBa aap;rw[H6 (a0:=[]) ids AA (fun r id=>r++bif bY l id then[EU l j id]else[]) (fun i r=>r.length≤i) (fun O=>(aEE O).bind fun u=>(lu u).bind fun z=>aI7 z [] 0) (Dk _)]
 ·rw[foldl_append (fun id=>bif bY l id then[EU l j id]else[]),IV,aSO];have U:=Ic (bY l) ids;have I:((ids.filter (bY l)).map (EU l j)).length≤100000:=U2
  unfold aEE aCx;rw[CV AA];simp only[AQ];have e:(QU (fun x y:KC=>KF (x.nJ,x.zx,x.Bo) (y.nJ,y.zx,y.Bo)) ((ids.filter (bY l)).map (EU l j)))=QU Gy ((ids.filter (bY l)).map (EU l j)):=rfl;rw[e];unfold zT;have J:=Za Gy ((ids.filter (bY l)).map (EU l j))
  have m:((QU Gy ((ids.filter (bY l)).map (EU l j))).map (·.nJ)).Nodup:=by
   rw[(J.map (·.nJ)).nodup_iff,aHX];exact M.sublist QB
  have q:(QU Gy ((ids.filter (bY l)).map (EU l j))).length≤100000:=by rw[J.length_eq];exact I
  generalize QU Gy ((ids.filter (bY l)).map (EU l j))=S at m q;rw[aiJ S AA m];simp only[AQ];unfold aI7;rw[H6 (a0:=[]) S AA (fun r x=>r++[x.nJ]) (fun i r=>r.length≤i) (fun r=>some r) (Dk _)]
  ·rw[foldl_append (fun x:KC=>[x.nJ]),IV];congr 1;clear m q
   induction S with
   |nil=>rfl
   |cons x S Y=>rw[NJ,Y];rfl
  ·intro k r i h Z;refine⟨aFz,?_⟩;unfold aIv;rw[Bv h,D7 FM];rfl
  intro k r _;unfold aIv;rw[DC]
 ·intro k r i h Z;refine⟨?_,?_⟩
  ·cases bY l ids[i]<;>simp <;>omega
  unfold aMB aBh;rw[Bv h,MK l _ AA];simp only[AQ];rw[Oo,asu l j _ hl hs L];simp only[AQ];rw[D7 FM];unfold bY;cases(Dh l ids[i]).isSome with
  |true=>rfl
  |false=>simp
 intro k r _;unfold aMB;rw[DC]
def ap0 (l:List AB) (j:List Int) (a b:Int) (hl:l.length≤1000) (hs:DF l) (z:j.length≤100000):aNw l j a b=some (!Gy (EU l j b) (EU l j a)):=by
 unfold aNw;rw[acP l j a hl hs z,acP l j b hl hs z,NQ l a AA,NQ l b AA];simp only[AQ]
 have m:(!Gy (EU l j b) (EU l j a))=decide (LQ l j b<LQ l j a∨LQ l j a=LQ l j b∧((ev l a).Time<(ev l b).Time∨(ev l a).Time=(ev l b).Time∧a<b)):=by
  rw[KG,Sl,G8];exact acJ (yG (EU l j b)) (yG (EU l j a))
 rw[m];show(bif LQ l j a != LQ l j b then some (decide (LQ l j a>LQ l j b))else bif (ev l a).Time != (ev l b).Time then some (decide ((ev l a).Time<(ev l b).Time))else some (decide (a<b)))=_;by_cases q:LQ l j a=LQ l j b
 ·rw[show(LQ l j a != LQ l j b)=false by simp[q]];simp only[Aj];by_cases u:(ev l a).Time=(ev l b).Time
  ·rw[show((ev l a).Time != (ev l b).Time)=false by simp[u]];simp only[Aj];congr 1;rw[oL];constructor
   ·intro h;exact .inr ⟨q,.inr ⟨u,h⟩⟩
   rintro(h|⟨_,h|⟨_,h⟩⟩)
   ·omega
   ·omega
   exact h
  rw[show((ev l a).Time != (ev l b).Time)=true by simp[u]];simp only[Au];congr 1;rw[oL];constructor
  ·intro h;exact .inr ⟨q,.inl h⟩
  rintro(h|⟨_,h|⟨h,_⟩⟩)
  ·omega
  ·exact h
  exact absurd h u
 rw[show(LQ l j a != LQ l j b)=true by simp[q]];simp only[Au];congr 1;rw[oL];constructor
 ·intro h;exact .inl h
 rintro(h|⟨h,_⟩)
 ·exact h
 exact absurd h q
def aJs (x y z:KC) (h:Gy x y=true) (k:Gy y z=true):Gy x z=true:=aHV _ _ _ h k
def aTJ (x y:KC) (h:Gy x y=false):Gy y x=true:=ae3 _ _ h
def asR (x y:KC) (h:Gy x y=true) (k:Gy y x=true):x=y:=by
 have :=aSX _ _ h k;unfold yG at this;cases x;cases y;simp only[Ru]at this;obtain⟨a,b,c⟩:=this;subst a b c;rfl
def YZ (l:List AB) (j:List Int) (m:List Int) (x:Int):List Int:=m.take (m.findIdx fun a=>Gy (EU l j x) (EU l j a))++x::m.drop (m.findIdx fun a=>Gy (EU l j x) (EU l j a))
def ace (l:List AB) (j m:List Int) (x:Int):(YZ l j m x).Perm (x::m):=by
 unfold YZ;refine aBs.trans ?_;rw[Xx]
def ahz (l:List AB) (j m:List Int) (x:Int) (h:m.Pairwise fun a b=>Gy (EU l j a) (EU l j b)=true):(YZ l j m x).Pairwise fun a b=>Gy (EU l j a) (EU l j b)=true:=by
 unfold YZ
 have I:∀a∈m.take (m.findIdx fun a=>Gy (EU l j x) (EU l j a)),Gy (EU l j a) (EU l j x)=true:=by
  intro a ha;obtain⟨i,hi,rfl⟩:=GZ ha;have u:i<m.findIdx fun a=>Gy (EU l j x) (EU l j a):=by simp at hi;omega
  have :=List.not_of_lt_findIdx u;rw[vZ];exact aTJ _ _ aIW
 have ha:∀d∈m.drop (m.findIdx fun a=>Gy (EU l j x) (EU l j a)),Gy (EU l j x) (EU l j d)=true:=by
  intro d hd;obtain⟨i,hi,rfl⟩:=GZ hd;rw[Kw]at hi;have q:(m.findIdx fun a=>Gy (EU l j x) (EU l j a))<m.length:=AA
  have J:=aPV (w:=q);rw[List.getElem_drop];rcases YB i with rfl|M
  ·simpa using J
  exact aJs _ _ _ J (Jq.1 h _ _ q AA AA)
 refine aS.2 ⟨h.sublist (List.take_sublist _ _),OU.2 ⟨ha,h.sublist (List.drop_sublist _ _)⟩,fun a L b z=>?_⟩;rcases Ei.1 z with rfl|z
 ·exact I a L
 exact aJs _ _ _ (I a L) (ha b z)
def Xq (l:List AB) (j:List Int) (m:List Int) (x:Int):List Int:=bif bY l x then YZ l j m x else m
def aqv (l:List AB) (j ids:List Int):ids.foldl (Xq l j) []=zT l j ids:=by
 have key:∀(ids m:List Int),m.Pairwise (fun a b=>Gy (EU l j a) (EU l j b)=true)→(ids.foldl (Xq l j) m).Pairwise (fun a b=>Gy (EU l j a) (EU l j b)=true)∧(ids.foldl (Xq l j) m).Perm (ids.filter (bY l)++m):=by
  intro ids
  induction ids with
  |nil=>intro m h;exact⟨h,.refl _⟩
  |cons x ids z=>
   intro m h;rw[Et,SA];unfold Xq;cases bY l x with
   |false=>exact z m h
   |true=>
    obtain⟨u,q⟩:=z (YZ l j m x) (ahz l j m x h);refine⟨u,q.trans ?_⟩;simp only[JZ,X5];exact((ace l j m x).append_left _).trans aBs
 obtain⟨u,q⟩:=key ids [] .nil;rw[P6]at q;unfold zT
 have I:(ids.foldl (Xq l j) []).map (EU l j)=QU Gy ((ids.filter (bY l)).map (EU l j)):=
  aRw aJs aTJ asR (q.map _) (aIK.2 u)
 rw[←I,aHX]
def akz (l:List AB) (m ids:List Int) (hl:l.length≤1000) (hs:DF l) (L:m.length≤100000) (hi:ids.length≤100000) (U:ids.Nodup):aMe l m ids=some (zT l m ids):=by
 unfold aMe aQ7;rw[H6 (a0:=[]) ids AA (Xq l m) (fun i r=>r.length≤i∧∀x∈r,x∈ids.take i) (fun r=>some r) ⟨Dk _,fun x I=>absurd I Ez⟩]
 ·rw[aqv]
 ·intro k r i h ⟨Y,J⟩;have q:ids.take (i+1)=ids.take i++[ids[i]]:=Ot h
  have M:CZ r ids[i]=false:=OJ.2 fun L=>by
   obtain⟨j,u,e⟩:=GZ (J _ L);rw[vZ]at e;rw[FY]at u;exact Jq.1 U j i AA h AA e
  refine⟨?_,?_⟩
  ·unfold Xq;cases bY l ids[i]with
   |false=>exact⟨by show r.length≤i+1;omega,fun x I=>by rw[q];exact kC _ (J x I)⟩
   |true=>
    have O:=ace l m r ids[i];refine⟨?_,fun x I=>?_⟩
    ·show(YZ l m r ids[i]).length≤i+1;rw[O.length_eq,Fa];omega
    rw[q];rcases Ei.1 (O.mem_iff.1 I)with rfl|I
    ·exact aBg _ (Gu.2 rfl)
    exact kC _ (J x I)
  unfold aM4 aEe;rw[Bv h,NQ l _ AA,Ba h];simp only[AQ];rw[XM _ _ AA,M,Oo];unfold Xq bY;cases(Dh l ids[i]).isSome with
  |false=>rfl
  |true=>
   simp only[Dz,Aj,AQ,Au];unfold abb
   have z:∀(k2:Int→Option (List Int)) (j:Nat),j≤r.length→aAA k2 (j:Int) r ids (i:Int) k false=k (r.take j++ids[i]::r.drop j) (Ag ((i:Int)+1)):=by
    intro k2 j u;unfold aAA aEe;simp only[Aj];rw[X0 u];simp only[AQ];rw[D7 DU];simp only[AQ,IV];rw[xF u,Ba h];simp only[AQ];rw[D7 DU];simp only[AQ];rw[D7 DU];simp
   rw[JD r (fuel_lt AA) (fun a=>Gy (EU l m ids[i]) (EU l m a)) (fun j=>k (r.take j++ids[i]::r.drop j) (Ag ((i:Int)+1))) (k (r.take r.length++ids[i]::r.drop r.length) (Ag ((i:Int)+1)))]
   ·unfold YZ;split
    ·rfl
    rename_i Z
    have :(r.findIdx fun a=>Gy (EU l m ids[i]) (EU l m a))=r.length:=by
     have :=aG8 (p:=fun a=>Gy (EU l m ids[i]) (EU l m a)) (xs:=r);omega
    rw[this]
   ·intro k2 j u;unfold aJt;rw[dec_lt u,Ba u,Ba h];simp only[Au,AQ];rw[ap0 l m _ _ hl hs L];simp only[AQ];cases Gy (EU l m ids[i]) (EU l m r[j])with
    |true=>simp only[Dz,Au];rw[z k2 j (Nat.le_of_lt u)]
    |false=>rfl
   intro k2;unfold aJt;rw[CX];simp only[Aj];rw[z k2 r.length (Dk _)]
 intro k r _;unfold aM4;rw[DC]
def asg {l:List AB} {j ids:List Int} {x:Int}:x∈zT l j ids↔x∈ids∧bY l x=true:=by
 unfold zT;rw[((Za Gy ((ids.filter (bY l)).map (EU l j))).map (·.nJ)).mem_iff,aHX,EY]
def anC (l:List AB) (j ids:List Int):(zT l j ids).length≤ids.length:=by
 unfold zT;rw[CM,(Za _ _).length_eq,CM];exact Ic _ _
def KH (c:Int):Bool:=(decide (c≥97)&&decide (c≤122))||(decide (c≥48)&&decide (c≤57))
def ac8 (c:Int):iZ c=some (KH c):=by
 unfold iZ KH;cases decide (c≥97)<;>cases decide (c≤122)<;>cases decide (c≥48)<;>cases decide (c≤57)<;>rfl
def aKg (c:Int):mQ c=some (KH c):=by
 unfold mQ KH;cases decide (c≥97)<;>cases decide (c≤122)<;>cases decide (c≥48)<;>cases decide (c≤57)<;>rfl
def QI (l:List Int) (p:Int→Bool):Bool:=decide ((l.length:Int)≥1)&&decide ((l.length:Int)≤32)&&l.all fun c=>KH c||p c
def isLocal (c:Int):Bool:=c==95||c==46||c==45||c==61
def UQ (c:Int):Bool:=c==46||c==45
def VY (l:List Int):Bool:=QI l isLocal
def YI (l:List Int):Bool:=QI l UQ&&KH (l.getD 0 0)&&KH (l.getD (l.length-1) 0)
def aM6 {n:Nat} (h:n≤9223372036854775807):n<Af:=jQ
def aQC {s:ByteArray} (hs:s.size≤9223372036854775807) (f:Int→Option Bool) (p:Int→Bool) (j:∀c,f c=some (p c)):Zh s f=some (QI (BZ s) p):=by
 have hl:aKp s f 0=some ((BZ s).all fun c=>KH c||p c):=by
  unfold aKp;rw[Gs (BZ s) Y1 (fun c=> !(KH c||p c)) false (some true) ?_ ?_,JW,wJ]
  ·intro k i h;have h':i<s.size:=VW
   simp only[aPe,dec_lt h',Au,VH h,ac8,j,AQ];cases KH (BZ s)[i]<;>cases p (BZ s)[i]<;>rfl
  intro k;simp only[aPe,IK,CX,Aj]
 unfold Zh QI;rw[hl,IK];have m:decide ((s.size:Int)≥1)= !decide ((s.size:Int)<1):=aJ1
 have q:decide ((s.size:Int)≤32)= !decide ((s.size:Int)>32):=aJ5
 rw[m,q];cases decide ((s.size:Int)<1)<;>cases decide ((s.size:Int)>32)<;>rfl
def akM {s:ByteArray} (hs:s.size≤9223372036854775807):Zh s (fun a0=>sD a0)=some (QI (BZ s) isLocal):=aQC hs _ isLocal (fun c=>by unfold sD isLocal;cases c==95<;>cases c==46<;>cases c==45<;>cases c==61<;>rfl)
def akN {s:ByteArray} (hs:s.size≤9223372036854775807):Zh s (fun a0=>yt a0)=some (QI (BZ s) UQ):=aQC hs _ UQ (fun c=>by unfold yt UQ;cases c==46<;>cases c==45<;>rfl)
def alq {s:ByteArray} (hs:s.size≤9223372036854775807):aAS s=some (VY (BZ s)):=by
 unfold aAS VY;rw[akM hs];rfl
def aGL {s:ByteArray} (h:0<s.size):Gx s 0=some ((BZ s).getD 0 0):=by
 have h':0<(BZ s).length:=aC7
 rw[aoF h'];simp[List.getD,h']
def abY {s:ByteArray} (h:0<s.size) (hs:s.size≤9223372036854775807):Gx s (Ag ((s.size:Int)-1))=some ((BZ s).getD ((BZ s).length-1) 0):=by
 have h':s.size-1<(BZ s).length:=by rw[IK];omega
 rw[P8 AA AA,show(s.size:Int)-1=((s.size-1:Nat):Int) by omega,VH h'];have j:(BZ s).length-1=s.size-1:=by rw[IK]
 rw[j];simp[List.getD,h']
def aQl {l:List Int} {p:Int→Bool} (h:QI l p=true):0<l.length∧l.length≤32:=by
 unfold QI at h;simp only[CW,G8]at h;omega
def aju {s:ByteArray} (hs:s.size≤9223372036854775807):aA5 s=some (YI (BZ s)):=by
 unfold aA5 YI;rw[akN hs];simp only[AQ];cases m:QI (BZ s) UQ with
 |false=>rfl
 |true=>
  have j:0<s.size:=by have :=(aQl m).1;rwa [IK]at this
  simp only[Au,aGL j,abY j hs,ac8,AQ];cases KH ((BZ s).getD 0 0)<;>simp
def atQ {s:ByteArray} (hs:s.size≤9223372036854775807):aIN s=some (bif YI (BZ s)then 0 else 3):=by
 have hl:aGb s 0=some (bif (BZ s).all fun c=>KH c||UQ c then 0 else 3):=by
  unfold aGb;rw[Gs (BZ s) Y1 (fun c=> !(KH c||UQ c)) 3 (some 0) ?_ ?_,JW,←wJ]
  ·cases((BZ s).any fun c=> !(KH c||UQ c))<;>rfl
  ·intro k i h;have h':i<s.size:=VW
   simp only[aIu,dec_lt h',Au,VH h,aKg,AQ,UQ,bne];cases KH (BZ s)[i]<;>cases(BZ s)[i]==46<;>cases(BZ s)[i]==45<;>rfl
  intro k;simp only[aIu,IK,CX,Aj]
 have m:decide ((s.size:Int)≥1)= !decide ((s.size:Int)<1):=aJ1
 have q:decide ((s.size:Int)≤32)= !decide ((s.size:Int)>32):=aJ5
 unfold aIN YI QI;rw[hl];rw[show((BZ s).length:Int)=(s.size:Int) by rw[IK],m,q];by_cases u:(s.size:Int)<1
 ·simp[u]
 have j:0<s.size:=AA
 simp only[aGL j,abY j hs,aKg,AQ];cases decide ((s.size:Int)<1)<;>cases decide ((s.size:Int)>32)<;>cases KH ((BZ s).getD 0 0)<;>cases KH ((BZ s).getD ((BZ s).length-1) 0)<;>cases((BZ s).all fun c=>KH c||UQ c)<;>rfl
def agZ {s:ByteArray} (hs:s.size≤9223372036854775807):aIl s=some (VY (BZ s)):=by
 unfold aIl aRv;rw[Gs (BZ s) Y1 (fun c=> !(KH c||isLocal c)) false (some (decide ((s.size:Int)≥1)&&decide ((s.size:Int)≤32))) ?_ ?_]
 ·unfold VY QI;rw[←wJ,IK];cases((BZ s).any fun c=> !(KH c||isLocal c))<;>cases decide ((s.size:Int)≥1)<;>cases decide ((s.size:Int)≤32)<;>rfl
 ·intro k i h;have h':i<s.size:=VW
  simp only[aN9,dec_lt h',Au,VH h,aKg,AQ,isLocal,bne];cases KH (BZ s)[i]<;>cases(BZ s)[i]==95<;>cases(BZ s)[i]==46<;>cases(BZ s)[i]==45<;>cases(BZ s)[i]==61<;>rfl
 intro k;simp only[aN9,IK,CX,Aj];cases decide ((s.size:Int)≥1)<;>cases decide ((s.size:Int)≤32)<;>rfl
def aT7 (s:ByteArray):(BZ s).length=s.data.toList.length:=by simp[BZ]
def FT (s:ByteArray):Nat:=(BZ s).findIdx (· ==58)
def aHK (s:ByteArray):FT s≤s.size:=by unfold FT;rw[←IK];exact aG8
def aUk {s:ByteArray} (hs:s.size≤9223372036854775807):zY s=some (FT s:Int):=by
 unfold zY aR4;rw[JD (BZ s) Y1 (· ==58) (fun i=>some (i:Int)) (some (s.size:Int)) ?_ ?_]
 ·have :=aHK s;by_cases h:(BZ s).findIdx (· ==58)<(BZ s).length
  ·rw[CV h];rfl
  rw[Cc h];congr 2;unfold FT at this ⊢;rw[IK]at h;omega
 ·intro k i h;have h':i<s.size:=VW
  simp only[aNS,dec_lt h',Au,VH h,AQ,bne];cases(BZ s)[i]==58<;>rfl
 intro k;simp only[aNS,IK,CX,Aj,AQ]
def Un (s:ByteArray):ByteArray:=s.extract 1 (FT s)
def Rk (s:ByteArray):ByteArray:=s.extract (FT s+1) s.size
def TV (s:ByteArray):Bool:=decide (FT s<s.size)&&VY (BZ (Un s))&&YI (BZ (Rk s))
def Gi (s:ByteArray) (m:Int):Bool:=decide (0<s.size)&&(BZ s).getD 0 0==m&&TV s
def extract_size (s:ByteArray) (a b:Nat):(s.extract a b).size≤s.size:=by rw[aJw];omega
def aR3 {s:ByteArray} (h:0<s.size) (j:(BZ s).getD 0 0≠58):1≤FT s:=by
 unfold FT;have hl:0<(BZ s).length:=aC7
 match m:BZ s with
 | []=>rw[m]at hl;simp at hl
 |c::l=>
  rw[m]at j;simp only[List.getD_cons_zero]at j;rw[Tm,show(c==58)=false from by simpa using j];simp
def aGA {s:ByteArray} (hs:s.size≤9223372036854775807) {m:Int} (z:m≠58):lS s m=some (Gi s m):=by
 unfold lS Gi;by_cases j:0<s.size
 ·rw[show decide ((s.size:Int)<1)=false from by simp;omega,show decide (0<s.size)=true by simpa using j];simp only[Aj,aGL j,AQ,bne];cases I:(BZ s).getD 0 0==m with
  |false=>rfl
  |true=>
   have u:(BZ s).getD 0 0=m:=Qq
   have J:=aR3 j (by rw[u];exact z);have L:=aHK s;simp only[Dz,Aj,aUk hs,AQ,Fe];unfold TV;by_cases q:FT s<s.size
   ·have M:NU s 1 (FT s:Int)=some (Un s):=lG (lo:=1) J L
    have O:NU s (Ag ((FT s:Int)+1)) (s.size:Int)=some (Rk s):=by
     rw[P8 AA AA,show(FT s:Int)+1=((FT s+1:Nat):Int) by omega];exact lG AA (Dk _)
    rw[show decide ((FT s:Int)<(s.size:Int))=true from by simpa using q,show decide (FT s<s.size)=true by simpa using q];have U:(Un s).size≤9223372036854775807:=Eh (extract_size _ _ _) hs;have Y:(Rk s).size≤9223372036854775807:=Eh (extract_size _ _ _) hs;simp only[Au,M,O,agZ U,atQ Y,AQ];cases VY (BZ (Un s))<;>cases YI (BZ (Rk s))<;>rfl
   rw[show decide ((FT s:Int)<(s.size:Int))=false from by simpa using q,show decide (FT s<s.size)=false by simpa using q];rfl
 rw[show decide ((s.size:Int)<1)=true from by simp;omega,show decide (0<s.size)=false by simpa using j];rfl
def splitB (s:ByteArray) (b:Bool):ByteArray×ByteArray×Bool:=bif b then(Un s,Rk s,true)else(Bc,Bc,false)
def ap8 (b c:UInt8):(b==c)=(((b.toNat:Nat):Int)==((c.toNat:Nat):Int)):=by
 by_cases h:b=c
 ·subst h;simp
 have :¬b.toNat=c.toNat:=fun e=>h (UInt8.toNat_inj.1 e);have j:(b==c)=false:=Jz
 rw[j];symm;simp;omega
def af8 (s:ByteArray) (c:UInt8):s.data.toList.findIdx (· ==c)=(BZ s).findIdx (· ==((c.toNat:Nat):Int)):=by
 unfold BZ;rw[List.findIdx_map];congr 1;funext b;exact ap8 b c
def ajT (s:ByteArray):∀x∈BZ s,0≤x∧x<256:=by
 intro x j;unfold BZ at j;rw[Ee]at j;obtain⟨c,_,rfl⟩:=j;have :=c.toNat_lt;omega
def getD_mem {s:ByteArray} (h:0<s.size):(BZ s).getD 0 0∈BZ s:=by
 have hl:0<(BZ s).length:=aC7
 have e:(BZ s).getD 0 0=(BZ s)[0]:=by simp[List.getD,hl]
 rw[e];exact Df hl
def agp (marks:ByteArray) {c:Int} (u:0≤c) (z:c<256):decide (Lib.indexByte marks.data.toList c.toNat.toUInt8<0)= !(BZ marks).contains c:=by
 have e:(((c.toNat.toUInt8).toNat:Nat):Int)=c:=by
  rw[Nat.toUInt8,UInt8.toNat_ofNat'];omega
 rw[aHI,af8,e,←aT7 marks];by_cases j:c∈BZ marks
 ·have m:(BZ marks).findIdx (· ==c)<(BZ marks).length:=List.findIdx_lt_length_of_exists ⟨c,j,Ap⟩;rw[CV m,show(BZ marks).contains c=true by simpa using j];simp
 have q:¬(BZ marks).findIdx (· ==c)<(BZ marks).length:=fun h=>by
  have :=aPV (w:=h);simp only[Q5]at this;exact j (this▸Df h)
 rw[Cc q,show(BZ marks).contains c=false by simpa using j];rfl
def aTG (s:ByteArray) (a b:Nat):(s.extract 1 s.size).extract a b=s.extract (1+a) (min (1+b) s.size):=by
 refine bytes_inj ?_;simp only[aSx];have :(BZ s).take s.size=BZ s:=QN (by rw[IK];omega);rw[this,List.take_drop,aPb];congr 1;have :min (1+b) s.size=min (1+b) (BZ s).length:=by rw[IK]
 rw[this,List.take_eq_take_min]
def aoj {s:ByteArray} (h:0<s.size) (j:(BZ s).getD 0 0≠58):(BZ (s.extract 1 s.size)).findIdx (· ==58)+1=FT s:=by
 unfold FT;rw[aSx];have :(BZ s).take s.size=BZ s:=QN (by rw[IK];omega);rw[this];have hl:0<(BZ s).length:=aC7
 match m:BZ s with
 | []=>rw[m]at hl;simp at hl
 |c::l=>
  rw[m]at j;simp only[List.getD_cons_zero]at j;rw[Tm,show(c==58)=false from by simpa using j];rfl
def aki {s:ByteArray} (hs:s.size≤9223372036854775807) (h:0<s.size) (q:(BZ s).getD 0 0≠58):∃a b,strings_Cut (s.extract 1 s.size) jV=some (a,b,decide (FT s<s.size))∧(FT s<s.size→a=Un s∧b=Rk s):=by
 have J:=aR3 h q;have L:=aHK s;have M:=aoj h q;have m:(s.extract 1 s.size).size=s.size-1:=by rw[aJw];omega
 have u:zF (s.extract 1 s.size) jV=some (if FT s<s.size then((FT s-1:Nat):Int)else -1):=by
  show some (Lib.indexByte (s.extract 1 s.size).data.toList 58)=_;rw[aHI,af8,←aT7 (s.extract 1 s.size)];show some (if(BZ (s.extract 1 s.size)).findIdx (· ==58)<_ then(((BZ (s.extract 1 s.size)).findIdx (· ==58):Nat):Int)else -1)=_;rw[IK,m];have e:(BZ (s.extract 1 s.size)).findIdx (· ==58)=FT s-1:=AA
  rw[e];congr 1;by_cases j:FT s<s.size
  ·rw[CV j,CV AA]
  rw[Cc j,Cc AA]
 unfold strings_Cut aIb;rw[u,AQ];by_cases j:FT s<s.size
 ·rw[CV j,show decide (((FT s-1:Nat):Int)≥0)=true from by simp,show decide (FT s<s.size)=true by simpa using j];have z:NU (s.extract 1 s.size) 0 ((FT s-1:Nat):Int)=some ((s.extract 1 s.size).extract 0 (FT s-1)):=lG (lo:=0) AA AA
  have I:NU (s.extract 1 s.size) (Ag (((FT s-1:Nat):Int)+(jV.size:Int))) ((s.extract 1 s.size).size:Int)=some ((s.extract 1 s.size).extract (FT s) (s.size-1)):=by
   rw[show(jV.size:Int)=1 from rfl,P8 AA AA,show((FT s-1:Nat):Int)+1=((FT s:Nat):Int) by omega,m];exact lG AA AA
  simp only[Au,z,I,AQ];refine⟨_,_,rfl,fun _=>⟨?_,?_⟩⟩
  ·rw[aTG];unfold Un;congr 1;omega
  rw[aTG];unfold Rk;rw[Qm 1 (FT s)];congr 1;omega
 rw[Cc j,show decide ((-1:Int)≥0)=false from rfl,show decide (FT s<s.size)=false by simpa using j];exact⟨_,_,rfl,fun h=>absurd h j⟩
def aOu {s:ByteArray} (hs:s.size≤9223372036854775807) {marks:ByteArray} (u:∀m∈BZ marks,m≠58):jm s marks=some (splitB s ((BZ marks).any fun m=>Gi s m)):=by
 unfold jm;by_cases q:0<s.size
 ·have z:(s.toList==Bc.toList)=false:=by
   rw[IQ];simp only[XC];intro e;rw[e]at q;exact absurd q BJ
  have I:=ajT s _ (getD_mem q)
  have j:((BZ marks).any fun m=>Gi s m)=((BZ marks).contains ((BZ s).getD 0 0)&&TV s):=by
   unfold Gi;rw[show decide (0<s.size)=true by simpa using q]
   induction BZ marks with
   |nil=>rfl
   |cons m l J=>rw[Yn,J,List.contains_cons];cases(BZ s).getD 0 0==m<;>cases TV s<;>simp
  rw[z,j];simp only[Aj,aGL q,AQ,strings_IndexByte,agp marks I.1 I.2];cases L:(BZ marks).contains ((BZ s).getD 0 0)with
  |false=>rfl
  |true=>
   have M:(BZ s).getD 0 0≠58:=u _ eK;obtain⟨a,b,O,U⟩:=aki hs q M;have Y:NU s 1 (s.size:Int)=some (s.extract 1 s.size):=lG (lo:=1) AA (Dk _);simp only[Dz,Aj,Y,O,AQ,Fe];unfold TV;cases Z:decide (FT s<s.size)with
   |false=>rfl
   |true=>
    obtain⟨rfl,rfl⟩:=U (QE Z);have g1:(Un s).size≤9223372036854775807:=Eh (extract_size _ _ _) hs;have g2:(Rk s).size≤9223372036854775807:=Eh (extract_size _ _ _) hs;simp only[Dz,Aj,alq g1,aju g2,AQ];cases VY (BZ (Un s))<;>cases YI (BZ (Rk s))<;>rfl
 have hz:s.size=0:=AA
 have he:s=Bc:=bytes_inj (by
  have h1:BZ s=[]:=Gg (by rw[IK];exact hz)
  rw[h1];rfl)
 have j:((BZ marks).any fun m=>Gi s m)=false:=by
  rw[aI8];intro m _;unfold Gi;rw[show decide (0<s.size)=false by simpa using q];simp
 rw[j,he,show(Bc.toList==Bc.toList)=true from by simp];rfl
def Jc (s:ByteArray):Bool:=Gi s 64||(Gi s 33||false)
def ajP {s:ByteArray} (hs:s.size≤9223372036854775807):jm s wL=some (splitB s (Jc s)):=
 aOu hs (marks:=wL) (by rw[show BZ wL=[64,33]from rfl];intro m j;simp only[Ei,Ez,kV]at j;omega)
def aT5 {s:ByteArray} (h:TV s=true):FT s<s.size:=by unfold TV at h;simp only[CW,G8]at h;exact h.1.1
def gu {s:ByteArray} (hs:s.size≤9223372036854775807):eP s=some (splitB s (Jc s)).2.1∧um s=some (splitB s (Jc s)).2.1:=by
 have u:FT s<s.size→NU s (Ag ((FT s:Int)+1)) (s.size:Int)=some (Rk s):=fun z=>by
  rw[P8 AA AA,show(FT s:Int)+1=((FT s+1:Nat):Int) by omega];exact lG AA (Dk _)
 unfold eP um;rw[ajP hs,aGA hs BJ,aGA hs BJ,aUk hs];refine⟨rfl,?_⟩;unfold Jc;cases j:Gi s 64 with
 |true=>
  have q:=aT5 (s:=s) (by unfold Gi at j;simp only[CW]at j;exact j.2);simp only[AQ,Dz,Aj,u q,Bool.true_or];rfl
 |false=>
  cases m:Gi s 33 with
  |true=>
   have q:=aT5 (s:=s) (by unfold Gi at m;simp only[CW]at m;exact m.2);simp only[AQ,Dz,IU,Aj,Au,u q,ML,Bool.true_or];rfl
  |false=>rfl
end Go.Proofs.YtldfpencimjjlaaGreat
end
