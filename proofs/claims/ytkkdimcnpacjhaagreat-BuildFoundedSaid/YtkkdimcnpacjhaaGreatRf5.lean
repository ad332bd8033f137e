/- Part 5 of what the laws' proofs lean on: states of the walk, typed functions of the program and their laws (short forms written by wip/shrink.py; no condition). -/
import Derived.Test.YtkkdimcnpacjhaaGreatRf4
set_option linter.defProp false
set_option linter.unnecessarySimpa false
set_option linter.unusedVariables false
set_option linter.unusedSimpArgs false
section
namespace Go.Proofs.YtkkdimcnpacjhaaGreat
open Go.RowKit
set_option maxRecDepth 20000
set_option maxHeartbeats 4000000
def aJO (j:(AL→Int→Option AL)) (u:Int) (q:AL):Option AL:=j q (Ai (u+1))
def aKX (z:AL) (j:AX) (U:(AL→Int→Option AL)) (Y:Int) (q:(AL→Int→Option AL)):AL→Int→Option AL:=fun I u=>(bif decide (u<(z.length:Int))then(Ag z u).bind fun J=>(JC j J).bind fun L=>(bif L.2 then(Ag z u).bind fun M=>(Wx I M).bind fun O=>aJO q u O else aJO q u I)else U I (Ai (Y+1)))
def aJZ (q:AL) (j:AX) (u:(AL→Int→Option AL)) (z:Int):AL→Int→Option AL:=aT (aKX q j u z) Aj
def aKi (j:AX) (q:(AL→Int→Option AL)) (u:Int) (z:AL) (I:AL):Option AL:=aJZ I j q u z 0
def aIj (j:AL) (q:AX) (u:Bool) (J:(AL→Int→Option AL)):AL→Int→Option AL:=fun I z=>(bif decide (z<(j.length:Int))then(Ag j z).bind fun M=>(JC q M).bind fun L=>(bif u then aKi q J z I L.1.bg else aKi q J z I L.1.aZ)else some I)
def aSv (q:AL) (u:AX) (j:Bool):AL→Int→Option AL:=aT (aIj q u j) Aj
def aB0 (u:AX) (q:AL) (j:Bool):Option AL:=aSv q u j [] 0
def aN6 (j:AL) (z:(AL→Int→Option AL)):AL→Int→Option AL:=fun u q=>(bif decide (q<(j.length:Int))then(Ag j q).bind fun I=>(Wx u I).bind fun J=>z J (Ai (q+1))else some u)
def aST (j:AL):AL→Int→Option AL:=aT (aN6 j) Aj
def bf (j:AL) (q:AL):Option AL:=(qp j).bind fun u=>aST q u 0
def aKj (q:AX) (j:Bool) (I:(AL→Int→Option AL)):AL→Int→Option AL:=fun u z=>(bif decide (z<(q.length:Int))then(aB0 q u j).bind fun J=>(bf u J).bind fun L=>I L (Ai (z+1))else some u)
def aU9 (q:AX) (j:Bool):AL→Int→Option AL:=aT (aKj q j) Aj
def aJk (u:AX) (q:AL) (j:Bool):Option AL:=aU9 u j q 0
def lN (j:AX) (q:AL):Option AL:=(aNz j q).bind fun u=>(aB0 j u true).bind fun z=>(aJk j z true).bind fun I=>some I
def aJM (j:Ar) (q:AX) (I:(AL→Int→Option AL)):AL→Int→Option AL:=fun u z=>(bif decide (z<(j.length:Int))then(Ag j z).bind fun J=>(Bo 8 u [J.Id]).bind fun L=>I L (Ai (z+1))else(lN q u).bind fun M=>(bf u M).bind fun O=>some O)
def aX4 (j:Ar) (q:AX):AL→Int→Option AL:=aT (aJM j q) Aj
def aII (j:AX) (q:Ar):Option AL:=aX4 q j [] 0
def aaK (j:(AL→Int→Option AL)) (q:Int) (u:AL):Option AL:=j u (Ai (q+1))
def aTA (j:(Int→Int→Option AL)) (q:Int) (u:Int):Option AL:=j u (Ai (q+1))
def aNT (L:UE) (v2:AL) (j:Int) (z:AL) (I:(AL→Int→Option AL)) (J:(Int→Int→Option AL)):Int→Int→Option AL:=fun u q=>(bif decide (q<(L.length:Int))then(Ag L q).bind fun M=>(Ag v2 j).bind fun O=>(TM M O).bind fun U=>(bif U then aTA J q (Ai (u+1))else aTA J q u)else(bif decide (u<(L.length:Int))then(Ag v2 j).bind fun Y=>(Bo 8 z [Y]).bind fun Z=>aaK I j Z else aaK I j z))
def aR2 (z:UE) (I:AL) (j:Int) (q:AL) (u:(AL→Int→Option AL)):Int→Int→Option AL:=aT (aNT z I j q u) Aj
def aKZ (z:AL) (I:UE) (u:(AL→Int→Option AL)):AL→Int→Option AL:=fun j q=>(bif decide (q<(z.length:Int))then aR2 I z q j u 0 0 else some j)
def aN0 (j:AL) (q:UE):AL→Int→Option AL:=aT (aKZ j q) Aj
def aIo (j:F8) (q:AX) (L:(UE→AL→Int→Option AL)):UE→AL→Int→Option AL:=fun z I u=>(bif decide (u<(j.length:Int))then(Ag j u).bind fun M=>(aII q M).bind fun J=>(Bo 24 z [J]).bind fun O=>(bf I J).bind fun U=>L O U (Ai (u+1))else aN0 I z [] 0)
def aR8 (j:F8) (q:AX):UE→AL→Int→Option AL:=iY (aIo j q) Aj
def aH0 (q:AX) (j:F8):Option AL:=aR8 j q [] [] 0
def aLW (q:AX) (j:F8):Option AL:=(aEQ j).bind fun u=>(aH0 q j).bind fun z=>(bf u.2 z).bind fun I=>some I
def aA4 (q:AX) (j:AL):Option AL:=(pK q j).bind fun u=>(iR j u).bind fun z=>some z
def aHC (j:AB):Option Bool:=(bif (j.Kind==2)then(bif (j.Content.N==0)then some true else some (j.Content.N==4)).bind fun q=>(bif q then some (!(j.Key.toList==j.aU.toList))else some false).bind fun u=>some u else(bif (j.Kind==3)then some true else some (j.Kind==4)).bind fun z=>some z)
def aD9 (j:(AL→Int→Option AL)) (q:Int) (u:AL):Option AL:=j u (Ai (q+1))
def aM0 (j:(AL→Int→Option AL)) (q:Int) (u:AL):Option AL:=j u (Ai (q+1))
def aKY (q:AL) (O:AL) (U:(AL→Int→Option AL)) (Y:Int) (z:(AL→Int→Option AL)):AL→Int→Option AL:=fun u j=>(bif decide (j<(q.length:Int))then(Ag q j).bind fun I=>(TM O I).bind fun J=>(bif J then(Ag q j).bind fun L=>(Wx u L).bind fun M=>aM0 z j M else aM0 z j u)else aD9 U Y u)
def aS5 (j:AL) (q:AL) (u:(AL→Int→Option AL)) (z:Int):AL→Int→Option AL:=aT (aKY j q u z) Aj
def aHm (u:AL) (j:AX) (U:(AL→Int→Option AL)):AL→Int→Option AL:=fun z q=>(bif decide (q<(u.length:Int))then(Ag u q).bind fun Y=>(JC j Y).bind fun Z=>(aHC Z.1).bind fun I=>(bif I then(Ag u q).bind fun J=>(Wx z J).bind fun L=>(Ag u q).bind fun M=>(lN j [M]).bind fun O=>aS5 O u U q L 0 else aD9 U q z)else some z)
def aVE (q:AL) (j:AX):AL→Int→Option AL:=aT (aHm q j) Aj
def aIX (q:AX) (j:AL):Option AL:=(aA4 q j).bind fun u=>aVE u q [] 0
def aNX (u:AL) (j:AL) (z:(Int→Option Bool)):Int→Option Bool:=fun q=>(bif decide (q<(u.length:Int))then(Ag u q).bind fun I=>(TM j I).bind fun J=>(bif J then some false else z (Ai (q+1)))else some true)
def aYf (q:AL) (j:AL):Int→Option Bool:=bI (aNX q j) Aj
def aP0 (u:AX) (j:AL) (q:Int):Option Bool:=(lN u [q]).bind fun z=>aYf z j 0
def aLh (j:Ar) (u:Int) (q:ByteArray) (k2:(Int→Option Ar)):Int→Option Ar:=fun z=>(bif decide (z<(j.length:Int))then(Ag j z).bind fun x5=>(bif decide (x5.Kind<u)then some true else(Ag j z).bind fun x8=>(bif (x8.Kind==u)then(Ag j z).bind fun I=>some (Op.bytesLess (I.Key.toList) (q.toList))else some false).bind fun x9=>some x9).bind fun x6=>some x6 else some false).bind fun x3=>(bif x3 then k2 (Ai (z+1))else(bif decide (z<(j.length:Int))then(Ag j z).bind fun J=>some (J.Kind==u)else some false).bind fun L=>(bif L then(Ag j z).bind fun M=>some (M.Key.toList==q.toList)else some false).bind fun O=>(bif O then some j else(Hg j 0 z).bind fun U=>(Bo 32 [] U).bind fun Y=>(Bo 32 Y [(⟨u,q,0⟩:Ah)]).bind fun Z=>(Hg j z ((j).length)).bind fun x23=>(Bo 32 Z x23).bind fun x24=>some x24))
def aRT (q:Ar) (u:Int) (j:ByteArray):Int→Option Ar:=bI (aLh q u j) Aj
def YK (q:Ar) (u:Int) (j:ByteArray):Option Ar:=aRT q u j 0
def aLi (j:Ar):Option Ar:=some j
def jE (j:AB):Option Ar:=(bif (j.Kind==1)then some []else(YK [] 1 BK).bind fun J=>(YK J 3 BK).bind fun L=>(YK L 2 j.aU).bind fun z=>(bif (j.Kind != 2)then some z else(YK z 2 j.Key).bind fun I=>(bif (j.Content.N==3)then some true else some (j.Content.N==1)).bind fun M=>(bif M then some true else some (j.Content.N==2)).bind fun q=>(bif q then(YK I 4 BK).bind fun u=>aLi u else aLi I)))
def aML (j:(AX→Int→Option AX)) (q:Int) (u:AX):Option AX:=j u (Ai (q+1))
def aLr (j:AL) (q:AX) (J:(AX→Int→Option AX)):AX→Int→Option AX:=fun z u=>(bif decide (u<(j.length:Int))then(Ag j u).bind fun M=>(JC q M).bind fun L=>(bif L.2 then(Bo 376 z [L.1]).bind fun I=>aML J u I else aML J u z)else some z)
def aQp (j:AL) (q:AX):AX→Int→Option AX:=aT (aLr j q) Aj
def nZ (q:AX) (j:AL):Option AX:=aQp j q [] 0
def aIM (j:(AX→Bool→Int→Option AX)) (z:Int) (q:AX) (u:Bool):Option AX:=j q u (Ai (z+1))
def aKF (L:AX) (q:Int) (J:AX) (j:(AX→Bool→Int→Option AX)) (M:Bool) (u:Bool):Option AX:=(bif u then(Ag L q).bind fun z=>(Bo 376 J [z]).bind fun I=>aIM j q I true else aIM j q J M)
def QG (j:AX) (Z:Ar) (z:Int) (k5:(AX→Int→Option AX)) (q:(AX→Bool→Int→Option AX)):AX→Bool→Int→Option AX:=fun I J u=>(bif decide (u<(j.length:Int))then some (!J)else some false).bind fun L=>(bif L then(Ag j u).bind fun M=>(Ag Z z).bind fun O=>(bif (M.Kind==O.Kind)then(Ag j u).bind fun U=>(Ag Z z).bind fun Y=>aKF j u I q J (U.Key.toList==Y.Key.toList)else aKF j u I q J false)else k5 I (Ai (z+1)))
def aSJ (j:AX) (q:Ar) (u:Int) (z:(AX→Int→Option AX)):AX→Bool→Int→Option AX:=iY (QG j q u z) Aj
def aHs (j:Ar) (z:AX) (I:(AX→Int→Option AX)):AX→Int→Option AX:=fun q u=>(bif decide (u<(j.length:Int))then aSJ z j u I q false 0 else some q)
def aSB (j:Ar) (q:AX):AX→Int→Option AX:=aT (aHs j q) Aj
def zN (q:AX) (j:AB):Option AX:=(jE j).bind fun u=>(nZ q j.bg).bind fun z=>aSB u z [] 0
def aUa :Ba:={ L6 with kP:=50,oD:=50,iw:=50 }
def aOm (j:Ba):Option Ba:=some j
def aDx (j:ByteArray):Option Ba:=(bif (!(j.toList==BK.toList))then aOm ({ aUa with Users:=[(⟨j,100⟩:IX)] })else aOm aUa)
def aI7 (j:(ByteArray→Bool→Int→Option (Ba×ByteArray))) (q:Int) (u:ByteArray) (z:Bool):Option (Ba×ByteArray):=j u z (Ai (q+1))
def aI0 (j:AX) (u:ByteArray) (z:(Int→Ba→Option (Ba×ByteArray))):Int→Ba→Option (Ba×ByteArray):=fun q I=>(bif decide (q<(j.length:Int))then(Ag j q).bind fun J=>(bif (J.Kind==3)then(Ag j q).bind fun L=>some (L.Content.Levels,u)else z (Ai (q+1)) I)else(aDx u).bind fun M=>some (M,u))
def aAX (j:AX) (q:ByteArray):Int→Ba→Option (Ba×ByteArray):=aT (aI0 j q) Aj
def Qs (j:AX) (I:(ByteArray→Bool→Int→Option (Ba×ByteArray))):ByteArray→Bool→Int→Option (Ba×ByteArray):=fun J L q=>(bif decide (q<(j.length:Int))then some (!L)else some false).bind fun M=>(bif M then(Ag j q).bind fun u=>(bif (u.Kind==1)then(Ag j q).bind fun z=>aI7 I q z.aU true else aI7 I q J L)else aAX j J 0 L6)
def aXV (j:AX):ByteArray→Bool→Int→Option (Ba×ByteArray):=iY (Qs j) Aj
def qI (j:AX):Option (Ba×ByteArray):=aXV j BK false 0
def aNe (j:Ba) (q:ByteArray) (k2:(Int→Option Int)):Int→Option Int:=fun u=>(bif decide (u<(j.Users.length:Int))then(Ag j.Users u).bind fun z=>(bif (z.User.toList==q.toList)then(Ag j.Users u).bind fun I=>some I.N else k2 (Ai (u+1)))else some j.User)
def aQO (q:Ba) (j:ByteArray):Int→Option Int:=bI (aNe q j) Aj
def UK (q:Ba) (j:ByteArray):Option Int:=aQO q j 0
def aCj (q:AX) (j:AB):Option Int:=(zN q j).bind fun u=>(qI u).bind fun z=>(UK z.1 j.aU).bind fun I=>some I
def aIn (u:AX) (j:AB) (q:AB):Option Bool:=(aCj u j).bind fun z=>(aCj u q).bind fun I=>(bif (z != I)then some (decide (z>I))else(bif (j.Time != q.Time)then some (decide (j.Time<q.Time))else some (decide (j.Id<q.Id))))
def aIE (j:(Bool→Int→AL→AB→Option AL)) (I:Int) (q:Bool) (u:AL) (z:AB):Option AL:=j q (Ai (I+1)) u z
def aKR (q:AL) (j:AX) (k4:(AL→AL→Option AL)) (u:(Bool→Int→AL→AB→Option AL)):Bool→Int→AL→AB→Option AL:=fun M z J L=>(bif decide (z<(q.length:Int))then(Ag q z).bind fun O=>(JC j O).bind fun I=>(Ag q z).bind fun U=>(aP0 j q U).bind fun Y=>(bif Y then(bif (!M)then some true else(aIn j I.1 L).bind fun Z=>some Z).bind fun PE=>some PE else some false).bind fun Xd=>(bif Xd then aIE u z true J I.1 else aIE u z M J L)else(bif (!M)then some J else(Bo 8 J [L.Id]).bind fun x27=>(iR q [L.Id]).bind fun x28=>k4 x28 x27))
def aTd (q:AL) (j:AX) (u:(AL→AL→Option AL)):Bool→Int→AL→AB→Option AL:=XJ (aKR q j u) Aj
def YA (j:AX) (z:(AL→AL→Option AL)):AL→AL→Option AL:=fun q u=>(bif decide ((q.length:Int)>0)then aTd q j z false 0 u Bh else some u)
def aUP (j:AX):AL→AL→Option AL:=aT (YA j) Aj
def aL7 (q:AX) (j:AL):Option AL:=(aA4 q j).bind fun u=>aUP q u []
def aOH (j:AX) (u:Int) (q:ByteArray) (J:(Int→AB→Option (AB×Bool))):Int→AB→Option (AB×Bool):=fun z L=>(bif decide (z<(j.length:Int))then(Ag j z).bind fun M=>(bif (M.Kind==u)then(Ag j z).bind fun O=>some (O.Key.toList==q.toList)else some false).bind fun U=>(bif U then(Ag j z).bind fun I=>some (I,true)else J (Ai (z+1)) L)else some (Bh,false))
def aQw (q:AX) (u:Int) (j:ByteArray):Int→AB→Option (AB×Bool):=aT (aOH q u j) Aj
def aGb (q:AX) (u:Int) (j:ByteArray):Option (AB×Bool):=aQw q u j 0 Bh
def aPZ (j:(AX→Int→Option AX)) (q:Int) (u:AX):Option AX:=j u (Ai (q+1))
def aLm (I:(AX→Int→Option AX)) (J:Int) (q:Bool) (j:AX) (u:AB):Option AX:=(bif q then(Bo 376 j [u]).bind fun z=>aPZ I J z else aPZ I J j)
def aPR (q:Ar) (u:Ar) (x2:AX) (z:AX) (Z:(AX→Int→Option AX)):AX→Int→Option AX:=fun M j=>(bif decide (j<(q.length:Int))then(Ag q j).bind fun x9=>(Ag q j).bind fun O=>(qQ u x9.Kind O.Key).bind fun I=>(Ag q j).bind fun U=>(Ag q j).bind fun Y=>(aGb x2 U.Kind Y.Key).bind fun J=>(bif I.2 then(JC z I.1).bind fun L=>aLm Z j L.2 M L.1 else aLm Z j J.2 M J.1)else some M)
def aW0 (u:Ar) (j:Ar) (z:AX) (q:AX):AX→Int→Option AX:=aT (aPR u j z q) Aj
def aMT (j:AX) (u:Ar) (q:AB):Option AX:=(jE q).bind fun z=>(nZ j q.bg).bind fun I=>aW0 z u I j [] 0
def aMq (j:AX) (u:(Int→AB→Option (AB×Bool))):Int→AB→Option (AB×Bool):=fun q z=>(bif decide (q<(j.length:Int))then(Ag j q).bind fun I=>(bif (I.Kind==1)then(Ag j q).bind fun J=>some (J,true)else u (Ai (q+1)) z)else some (Bh,false))
def aXA (j:AX):Int→AB→Option (AB×Bool):=aT (aMq j) Aj
def aAR (j:AX):Option (AB×Bool):=aXA j 0 Bh
def aJV (j:AX) (q:ByteArray) (k2:(Int→Option Bool)):Int→Option Bool:=fun u=>(bif decide (u<(j.length:Int))then(Ag j u).bind fun z=>(bif (z.Kind==2)then(Ag j u).bind fun I=>some (I.Key.toList==q.toList)else some false).bind fun J=>(bif J then some true else k2 (Ai (u+1)))else some false)
def aXP (q:AX) (j:ByteArray):Int→Option Bool:=bI (aJV q j) Aj
def aHB (q:AX) (j:ByteArray):Option Bool:=aXP q j 0
def Z9 (j:Bool):Option Bool:=some j
def aIk (j:AB) (q:AX):Option Bool:=(aAR q).bind fun u=>(bif u.2 then(bif ((j.aZ.length:Int)==1)then(Ag j.aZ 0).bind fun I=>(bif (I==u.1.Id)then(bif (j.aU.toList==u.1.aU.toList)then(bif (j.Key.toList==u.1.aU.toList)then(bif (j.Content.N==3)then(aHB q j.Key).bind fun z=>Z9 (!z)else Z9 false)else Z9 false)else Z9 false)else Z9 false)else Z9 false)else Z9 false)
def aKB (j:AX) (q:ByteArray) (k2:(Int→Option Int)):Int→Option Int:=fun u=>(bif decide (u<(j.length:Int))then(Ag j u).bind fun z=>(bif (z.Kind==2)then(Ag j u).bind fun I=>some (I.Key.toList==q.toList)else some false).bind fun J=>(bif J then(Ag j u).bind fun L=>some L.Content.N else k2 (Ai (u+1)))else some 0)
def aWO (q:AX) (j:ByteArray):Int→Option Int:=bI (aKB q j) Aj
def oK (q:AX) (j:ByteArray):Option Int:=aWO q j 0
def aK (j:Int) (u:Int) (q:Bool):Option Bool:=(bif decide (j<0)then some true else some (decide (j>4))).bind fun Z=>(bif Z then some false else(bif (u==3)then(bif q then some (j != 4)else some false).bind fun x5=>some x5 else(bif (u==0)then(bif (j==1)then some true else some (j==2)).bind fun x8=>(bif x8 then some true else some (j==3)).bind fun z=>(bif z then some true else(bif (j==4)then some (!q)else some false).bind fun I=>some I).bind fun J=>some J else(bif (u==2)then(bif q then(bif (j==0)then some true else some (j==2)).bind fun L=>some L else some false).bind fun M=>some M else(bif (u==1)then(bif (!q)then(bif (j==0)then some true else some (j==2)).bind fun O=>(bif O then some true else some (j==1)).bind fun U=>some U else some false).bind fun Y=>some Y else(bif (u==4)then some (!q)else some false))))))
def aM6 (j:AX) (k2:(Int→Option (Int×FY))):Int→Option (Int×FY):=fun q=>(bif decide (q<(j.length:Int))then(Ag j q).bind fun u=>(bif (u.Kind==4)then(Ag j q).bind fun z=>(Ag j q).bind fun I=>(Bo 16 [] I.Content.Allow).bind fun J=>some (z.Content.N,J)else k2 (Ai (q+1)))else some (0,[]))
def aR5 (j:AX):Int→Option (Int×FY):=bI (aM6 j) Aj
def aHA (j:AX):Option (Int×FY):=aR5 j 0
def aOE (j:Int) (q:Int):Option Int:=(bif (q==3)then some true else some (j==1)).bind fun u=>(bif u then some 0 else(bif (q==1)then(bif (j==0)then some true else some (j==2)).bind fun z=>(bif z then some true else some (j==3)).bind fun I=>some I else some false).bind fun J=>(bif J then some 0 else some 21))
def aNJ (q:Int) (j:Int):Option Int:=(bif (q==2)then(bif (j==0)then some true else some (j==2)).bind fun u=>some u else some false).bind fun z=>(bif z then some 0 else some 21)
def aNj (q:AB) (u:AX) (j:Int):Option Int:=(aHA u).bind fun z=>(bif (q.Content.N==3)then(aOE z.1 j).bind fun I=>some I else(bif (q.Content.N==2)then(aNJ z.1 j).bind fun J=>some J else some 0))
def aHV (j:AB) (u:AX) (q:Int):Option Int:=(oK u j.aU).bind fun Z=>(bif (Z != 3)then some 18 else(qI u).bind fun z=>(UK z.1 j.aU).bind fun I=>(UK z.1 j.Key).bind fun Y=>(bif (j.Content.N==1)then some (decide (I<z.1.gJ))else some false).bind fun x6=>(bif x6 then some 20 else(bif (j.Content.N==0)then(bif (q==4)then some (decide (I<z.1.oD))else some false).bind fun J=>(bif J then some true else some (decide (I<z.1.kP))).bind fun L=>(bif L then some true else some (decide (Y≥I))).bind fun M=>some M else some false).bind fun x9=>(bif x9 then some 20 else(bif (j.Content.N==4)then(bif decide (I<z.1.oD)then some true else some (decide (Y≥I))).bind fun O=>some O else some false).bind fun U=>(bif U then some 20 else some 0))))
def aJy (j:AB) (q:AX):Option Int:=(aIk j q).bind fun J=>(bif J then some 0 else(oK q j.Key).bind fun u=>(bif (j.Key.toList==j.aU.toList)then some (u==4)else some false).bind fun L=>(bif L then some 19 else(aK u j.Content.N (j.Key.toList==j.aU.toList)).bind fun M=>(bif (!M)then some 18 else(bif (j.Key.toList==j.aU.toList)then(aNj j q u).bind fun z=>some z else(aHV j q u).bind fun I=>some I))))
def aJF (j:Ba) (q:Int) (k2:(Int→Option Int)):Int→Option Int:=fun u=>(bif decide (u<(j.Kinds.length:Int))then(Ag j.Kinds u).bind fun z=>(bif (z.Kind==q)then(Ag j.Kinds u).bind fun I=>some I.N else k2 (Ai (u+1)))else(TF q).bind fun J=>(bif J then some j.State else some j.Message))
def aXB (j:Ba) (q:Int):Int→Option Int:=bI (aJF j q) Aj
def mP (j:Ba) (q:Int):Option Int:=aXB j q 0
def aOD (j:Ba):Option AL:=some [j.User,j.Message,j.State,j.gJ,j.kP,j.oD,j.iw]
def uX (j:Int) (u:Int) (q:Int):Option Bool:=(bif (j==u)then some true else(bif decide (j≤q)then some (decide (u≤q))else some false).bind fun z=>some z).bind fun I=>some I
def yH (q:Ba) (z:Ba) (u:ByteArray) (j:ByteArray):Option Bool:=(UK q j).bind fun J=>(UK q u).bind fun I=>(UK z u).bind fun L=>(uX I L J).bind fun M=>(bif M then(bif (I==L)then some true else some (u.toList==j.toList)).bind fun O=>(bif O then some true else some (decide (I<J))).bind fun U=>some U else some false).bind fun Y=>some Y
def aH4 (j:Ba) (q:Ba) (O:Int) (z:(Int→Option Int)) (I:Int) (u:Int):Option Int:=(mP j u).bind fun J=>(mP q u).bind fun L=>(uX J L O).bind fun M=>(bif (!M)then some 20 else z (Ai (I+1)))
def aL6 (j:Ba) (u:Ba) (q:ByteArray) (I:(Int→Option Int)):Int→Option Int:=fun z=>(bif decide (z<(j.Users.length:Int))then(Ag j.Users z).bind fun J=>(yH u j J.User q).bind fun L=>(bif (!L)then some 20 else I (Ai (z+1)))else some 0)
def aI4 (q:Ba) (u:Ba) (j:ByteArray):Int→Option Int:=bI (aL6 q u j) Aj
def aKC (j:Ba) (u:Ba) (q:ByteArray) (I:(Int→Option Int)):Int→Option Int:=fun z=>(bif decide (z<(j.Users.length:Int))then(Ag j.Users z).bind fun J=>(yH j u J.User q).bind fun L=>(bif (!L)then some 20 else I (Ai (z+1)))else aI4 u j q 0)
def aLz (q:Ba) (u:Ba) (j:ByteArray):Int→Option Int:=bI (aKC q u j) Aj
def aNF (j:Ba) (q:Ba) (M:Int) (z:ByteArray) (I:(Int→Option Int)):Int→Option Int:=fun u=>(bif decide (u<(Ai ((j.Kinds.length:Int)+(q.Kinds.length:Int))))then(bif decide (u<(j.Kinds.length:Int))then(Ag j.Kinds u).bind fun J=>aH4 j q M I u J.Kind else(Ag q.Kinds (Ai (u-(j.Kinds.length:Int)))).bind fun L=>aH4 j q M I u L.Kind)else aLz j q z 0)
def aF5 (q:Ba) (u:Ba) (z:Int) (j:ByteArray):Int→Option Int:=bI (aNF q u z j) Aj
def aPO (I:AL) (L:AL) (J:Int) (q:Ba) (u:Ba) (j:ByteArray) (M:(Int→Option Int)):Int→Option Int:=fun z=>(bif decide (z<(I.length:Int))then(Ag I z).bind fun O=>(Ag L z).bind fun U=>(uX O U J).bind fun Y=>(bif (!Y)then some 20 else M (Ai (z+1)))else aF5 q u J j 0)
def aTC (z:AL) (I:AL) (J:Int) (q:Ba) (u:Ba) (j:ByteArray):Int→Option Int:=bI (aPO z I J q u j) Aj
def aKc (j:Ba) (u:Ba) (q:ByteArray):Option Int:=(UK j q).bind fun z=>(aOD j).bind fun I=>(aOD u).bind fun J=>aTC I J z j u q 0
def aN4 (j:AB) (q:AX):Option Int:=(qI q).bind fun u=>(UK u.1 j.aU).bind fun z=>(mP u.1 j.Kind).bind fun I=>(bif decide (z<I)then some 20 else(bif (j.Kind==3)then(aKc u.1 j.Content.Levels j.aU).bind fun J=>some J else some 0))
def aMl (j:Bool):Option Int:=(bif j then some 0 else some 17)
def Vh (j:AB) (q:AX):Option Int:=(aAR q).bind fun J=>(bif (j.Kind==1)then(bif (!J.2)then(X0 j.aU).bind fun L=>(X0 j.Room).bind fun M=>aMl (L.toList==M.toList)else aMl false)else(bif (!J.2)then some 17 else(bif (j.Kind==2)then(aJy j q).bind fun u=>some u else(oK q j.aU).bind fun z=>(bif (z != 3)then some 18 else(aN4 j q).bind fun I=>some I))))
def aQ4 (u:Int) (q:ByteArray) (z:Int) (j:ByteArray):Option Bool:=(bif decide (u<z)then some true else(bif (u==z)then some (Op.bytesLess (q.toList) (j.toList))else some false).bind fun I=>some I).bind fun J=>some J
def aPb (j:Ar) (u:Ar) (z:Int):Option Ar:=(Hg j z ((j).length)).bind fun I=>(Bo 32 u I).bind fun q=>some q
def cu (k2:(Int→Option Ar)) (z:Int) (j:Ar) (u:Int) (q:ByteArray) (I:Int) (Y:Bool):Option Ar:=(bif Y then k2 (Ai (z+1))else(Hg j 0 z).bind fun Z=>(Bo 32 [] Z).bind fun x6=>(Bo 32 x6 [(⟨u,q,I⟩:Ah)]).bind fun U=>(bif decide (z<(j.length:Int))then(Ag j z).bind fun J=>some (J.Kind==u)else some false).bind fun L=>(bif L then(Ag j z).bind fun M=>some (M.Key.toList==q.toList)else some false).bind fun O=>(bif O then aPb j U (Ai (z+1))else aPb j U z))
def aLK (q:Ar) (u:Int) (j:ByteArray) (z:Int) (k2:(Int→Option Ar)):Int→Option Ar:=fun I=>(bif decide (I<(q.length:Int))then(Ag q I).bind fun J=>(Ag q I).bind fun L=>(aQ4 J.Kind L.Key u j).bind fun M=>cu k2 I q u j z M else cu k2 I q u j z false)
def aQz (u:Ar) (z:Int) (j:ByteArray) (q:Int):Int→Option Ar:=bI (aLK u z j q) Aj
def jL (u:Ar) (z:Int) (j:ByteArray) (q:Int):Option Ar:=aQz u z j q 0
def aPV (j:(Ar→Int→Option Ar)) (q:Int) (u:Ar):Option Ar:=j u (Ai (q+1))
def aFK (z:Ar) (j:(AB×Bool)) (I:(Ar→Int→Option Ar)) (J:Int) (q:Bool):Option Ar:=(bif q then(jL z j.1.Kind j.1.Key j.1.Id).bind fun u=>aPV I J u else aPV I J z)
def aNZ (j:AL) (q:AX) (J:(Ar→Int→Option Ar)):Ar→Int→Option Ar:=fun z I=>(bif decide (I<(j.length:Int))then(Ag j I).bind fun U=>(JC q U).bind fun u=>(bif u.2 then(TF u.1.Kind).bind fun L=>(bif L then(aMT q z u.1).bind fun M=>(Vh u.1 M).bind fun O=>aFK z u J I (O==0)else aFK z u J I false)else aFK z u J I false)else some z)
def aas (j:AL) (q:AX):Ar→Int→Option Ar:=aT (aNZ j q) Aj
def jX (q:AX) (u:Ar) (j:AL):Option Ar:=(Bo 32 [] u).bind fun z=>aas j q z 0
def aGu (j:AB) (q:AX) (k2:(Int→Option (Int×Bool))):Int→Option (Int×Bool):=fun u=>(bif decide (u<(j.bg.length:Int))then(Ag j.bg u).bind fun I=>(JC q I).bind fun z=>(bif z.2 then some (z.1.Kind==3)else some false).bind fun J=>(bif J then(Ag j.bg u).bind fun L=>some (L,true)else k2 (Ai (u+1)))else some (0,false))
def aYR (j:AB) (q:AX):Int→Option (Int×Bool):=bI (aGu j q) Aj
def aNK (j:AX) (q:AB):Option (Int×Bool):=aYR q j 0
def Y3 (j:AX) (M:(AL→Int→Int→Option AL)):AL→Int→Int→Option AL:=fun z I J=>(bif decide (J<(j.length:Int))then(JC j I).bind fun L=>(bif (!L.2)then some true else(TM z I).bind fun O=>some O).bind fun U=>(bif U then some z else(Bo 8 z [I]).bind fun q=>(aNK j L.1).bind fun u=>(bif (!u.2)then some q else M q u.1 (Ai (J+1))))else some z)
def aRI (j:AX):AL→Int→Int→Option AL:=iY (Y3 j) Aj
def aAl (q:AX) (j:Int):Option AL:=aRI q [] j 0
def aMf (j:AL) (q:Int) (k2:(Int→Option Int)):Int→Option Int:=fun u=>(bif decide (u<(j.length:Int))then(Ag j u).bind fun z=>(bif (z==q)then some u else k2 (Ai (u+1)))else some (j.length:Int))
def aWV (j:AL) (q:Int):Int→Option Int:=bI (aMf j q) Aj
def aH7 (j:AL) (q:Int):Option Int:=aWV j q 0
def aMN (u:AL) (j:AL) (z:(Int→Option Int)):Int→Option Int:=fun q=>(bif decide (q<(u.length:Int))then(Ag u q).bind fun I=>(TM j I).bind fun J=>(bif J then(Ag u q).bind fun L=>(aH7 j L).bind fun M=>some M else z (Ai (q+1)))else some (j.length:Int))
def aT2 (q:AL) (j:AL):Int→Option Int:=bI (aMN q j) Aj
def aEC (u:AX) (j:AL) (q:Int):Option Int:=(aAl u q).bind fun z=>aT2 z j 0
def aOv (q:AX) (j:AL) (u:Int) (z:Int):Option Bool:=(aEC q j u).bind fun I=>(aEC q j z).bind fun J=>(bif (I != J)then some (decide (I>J))else(JC q u).bind fun L=>(JC q z).bind fun M=>(bif (L.1.Time != M.1.Time)then some (decide (L.1.Time<M.1.Time))else some (decide (u<z))))
def aFP (j:(AL→Int→Option AL)) (q:Int) (u:AL):Option AL:=j u (Ai (q+1))
def aFz (u:(Int→Option AL)) (q:Int) (z:AL) (j:AL) (Z:Int) (k3:(AL→Int→Option AL)) (I:Bool):Option AL:=(bif I then u (Ai (q+1))else(Hg z q ((z).length)).bind fun J=>(Bo 8 [] J).bind fun L=>(Hg z 0 q).bind fun M=>(Ag j Z).bind fun O=>(Bo 8 M [O]).bind fun U=>(Bo 8 U L).bind fun Y=>aFP k3 Z Y)
def aKv (J:AL) (j:AL) (L:Int) (z:AX) (q:AL) (Y:(AL→Int→Option AL)) (I:(Int→Option AL)):Int→Option AL:=fun u=>(bif decide (u<(J.length:Int))then(Ag J u).bind fun M=>(Ag j L).bind fun O=>(aOv z q M O).bind fun U=>aFz I u J j L Y U else aFz I u J j L Y false)
def aSz (z:AL) (q:AL) (I:Int) (u:AX) (j:AL) (J:(AL→Int→Option AL)):Int→Option AL:=bI (aKv z q I u j J) Aj
def aGv (j:AL) (u:AX) (q:AL) (M:(AL→Int→Option AL)):AL→Int→Option AL:=fun I z=>(bif decide (z<(j.length:Int))then(Ag j z).bind fun O=>(JC u O).bind fun U=>(bif (!U.2)then some true else(Ag j z).bind fun J=>(TM I J).bind fun L=>some L).bind fun Y=>(bif Y then aFP M z I else aSz I j z u q M 0)else some I)
def aUm (q:AL) (u:AX) (j:AL):AL→Int→Option AL:=aT (aGv q u j) Aj
def aMw (u:AX) (j:AL) (q:AL):Option AL:=aUm q u j [] 0
def aPv  (u:(Int→Ov→Option Ov)):Int→Ov→Option Ov:=fun q j=>(bif decide (q<(j.Same.length:Int))then(Ag j.Same q).bind fun z=>(Ag j.Same q).bind fun I=>(Ag j.Same q).bind fun J=>(jL j.Last z.Kind I.Key J.Id).bind fun L=>u (Ai (q+1)) ({ j with Last:=L })else some j)
def aVK  :Int→Ov→Option Ov:=aT (aPv) Aj
def zx (J:AL) (L:AL) (j:AX) (q:(Ar×AL)) (u:AL) (z:Ar) (M:AL):Option Ov:=(iR J L).bind fun O=>(aMw j M O).bind fun I=>(jX j (({ { { { lu with Same:=q.1 }with Power:=u }with First:=z }with Others:=I }).First) (({ { { { lu with Same:=q.1 }with Power:=u }with First:=z }with Others:=I }).Others)).bind fun U=>aVK 0 ({ Same:=q.1,Power:=u,First:=z,Others:=I,Last:=U }:Ov)
def aNQ (j:AX) (q:F8):Option Ov:=(aEQ q).bind fun u=>(aLW j q).bind fun J=>(aIX j J).bind fun L=>(aL7 j L).bind fun z=>(jX j (({ { lu with Same:=u.1 }with Power:=z }).Same) (({ { lu with Same:=u.1 }with Power:=z }).Power)).bind fun M=>(qQ (({ { { lu with Same:=u.1 }with Power:=z }with First:=M }).First) 3 BK).bind fun I=>(bif I.2 then(aAl j I.1).bind fun O=>zx J L j u z M O else zx J L j u z M [])
def zC (q:AX) (j:F8):Option Ar:=(bif ((j.length:Int)==0)then some []else(bif ((j.length:Int)==1)then(Ag j 0).bind fun u=>some u else(aNQ q j).bind fun z=>some z.Last))
def uf (j:Ar) (u:Int) (q:ByteArray) (k2:(Int→Option Bool)):Int→Option Bool:=fun z=>(bif decide (z<(j.length:Int))then(Ag j z).bind fun I=>(bif (I.Kind==u)then(Ag j z).bind fun J=>some (J.Key.toList==q.toList)else some false).bind fun L=>(bif L then some true else k2 (Ai (z+1)))else some false)
def aOI (q:Ar) (u:Int) (j:ByteArray):Int→Option Bool:=bI (uf q u j) Aj
def ZW (q:Ar) (u:Int) (j:ByteArray):Option Bool:=aOI q u j 0
def aBZ (M:AX) (j:Int) (q:Ar) (u:(Ar→Int→Option Int)) (z:Bool):Option Int:=(bif z then some 16 else(Ag M j).bind fun I=>(Ag M j).bind fun J=>(Bo 32 q [(⟨I.Kind,J.Key,0⟩:Ah)]).bind fun L=>u L (Ai (j+1)))
def aLN (u:AX) (J:Ar) (z:AB) (I:(Ar→Int→Option Int)):Ar→Int→Option Int:=fun q j=>(bif decide (j<(u.length:Int))then(Ag u j).bind fun L=>(Ag u j).bind fun M=>(ZW J L.Kind M.Key).bind fun O=>(bif (!O)then aBZ u j q I true else(Ag u j).bind fun U=>(Ag u j).bind fun Y=>(ZW q U.Kind Y.Key).bind fun Z=>aBZ u j q I Z)else(bif (z.Kind != 1)then(ZW q 1 BK).bind fun x33=>some (!x33)else some false).bind fun x31=>(bif x31 then some 16 else some 0))
def aK3 (u:AX) (q:Ar) (j:AB):Ar→Int→Option Int:=aT (aLN u q j) Aj
def aLp (q:AX) (j:AB) (J:(Int→Option Int)):Int→Option Int:=fun u=>(bif decide (u<(q.length:Int))then(Ag q u).bind fun z=>(bif (!(z.Room.toList==j.Room.toList))then some 13 else J (Ai (u+1)))else(jE j).bind fun I=>aK3 q I j [] 0)
def aOt (q:AX) (j:AB):Int→Option Int:=bI (aLp q j) Aj
def aHS (j:AB) (q:AX) (k2:(Int→Option Int)):Int→Option Int:=fun u=>(bif decide (u<(j.bg.length:Int))then(Ag j.bg u).bind fun z=>(JC q z).bind fun I=>(bif (!I.2)then some 14 else k2 (Ai (u+1)))else(nZ q j.bg).bind fun J=>aOt J j 0)
def aSu (j:AB) (q:AX):Int→Option Int:=bI (aHS j q) Aj
def aQ2 (j:AX) (q:AB):Option Int:=aSu q j 0
def aMu (j:(AX→Int→Option AX)) (q:Int) (u:AX):Option AX:=j u (Ai (q+1))
def aIQ (j:Ar) (q:AX) (J:(AX→Int→Option AX)):AX→Int→Option AX:=fun z u=>(bif decide (u<(j.length:Int))then(Ag j u).bind fun M=>(JC q M.Id).bind fun L=>(bif L.2 then(Bo 376 z [L.1]).bind fun I=>aMu J u I else aMu J u z)else some z)
def aSG (j:Ar) (q:AX):AX→Int→Option AX:=aT (aIQ j q) Aj
def aC0 (j:AX) (q:Ar):Option AX:=aSG q j [] 0
def akF (j:Fa) (q:Int) (z:(Int→JO→Option (JO×Bool))):Int→JO→Option (JO×Bool):=fun u I=>(bif decide (u<(j.length:Int))then(Ag j u).bind fun J=>(bif (J.Id==q)then(Ag j u).bind fun L=>some (L,true)else z (Ai (u+1)) I)else some (kL,false))
def agV (q:Fa) (j:Int):Int→JO→Option (JO×Bool):=aT (akF q j) Aj
def aNx (q:Fa) (j:Int):Option (JO×Bool):=agV q j 0 kL
def aMc (j:(Int→Int→Option Int)) (q:Int) (u:Int):Option Int:=j u (Ai (q+1))
def aKq (q:AB) (u:Fa) (z:AX) (j:Ar) (Y:(Int→Int→Option Int)):Int→Int→Option Int:=fun I J=>(bif decide (J<(q.bg.length:Int))then(Ag q.bg J).bind fun Z=>(aNx u Z).bind fun L=>(bif (I==0)then some (L.1.Err != 0)else some false).bind fun M=>(bif M then aMc Y J 16 else aMc Y J I)else(bif (I != 0)then some I else(aC0 z j).bind fun O=>(Vh q O).bind fun U=>some U))
def aVW (q:AB) (u:Fa) (z:AX) (j:Ar):Int→Int→Option Int:=aT (aKq q u z j) Aj
def aEy (q:AB) (u:Fa) (z:AX) (j:Ar) (I:Int):Option Int:=aVW q u z j I 0
def aBJ (u:AX) (z:Fa) (q:AB) (j:Ar):Option Int:=(aQ2 u q).bind fun L=>(bif (L==0)then(zN u q).bind fun I=>(Vh q I).bind fun J=>aEy q z u j J else aEy q z u j L)
end Go.Proofs.YtkkdimcnpacjhaaGreat
end
section
namespace Go.Proofs.YtkkdimcnpacjhaaGreat
open Go.RowKit
set_option maxRecDepth 20000
set_option maxHeartbeats 4000000
def aCY (z:(Fa→Int→Option Fa)) (I:Int) (j:Fa) (q:JO):Option Fa:=(Bo 64 j [q]).bind fun u=>z u (Ai (I+1))
def aAm (z:AX) (I:(AB×Bool)) (O:(Fa→Int→Option Fa)) (U:Int) (u:Fa) (j:JO):Option Fa:=(aBJ z u I.1 j.Before).bind fun q=>(bif ((({ { j with Err:=q }with After:=({ j with Err:=q }).Before }).Err)==0)then(TF I.1.Kind).bind fun J=>some J else some false).bind fun L=>(bif L then(jL (({ { j with Err:=q }with After:=({ j with Err:=q }).Before }).Before) I.1.Kind I.1.Key I.1.Id).bind fun M=>aCY O U u ({ { { j with Err:=q }with After:=({ j with Err:=q }).Before }with After:=M })else aCY O U u ({ { j with Err:=q }with After:=({ j with Err:=q }).Before }))
def aMx (u:(AB×Bool)) (j:AX) (Y:(Fa→Int→Option Fa)) (Z:Int) (z:(F8→Int→Fa→Option Fa)):F8→Int→Fa→Option Fa:=fun I J q=>(bif decide (J<(u.1.aZ.length:Int))then(Ag u.1.aZ J).bind fun L=>(aNx q L).bind fun M=>(Bo 24 I [M.1.After]).bind fun O=>z O (Ai (J+1)) q else(bif decide ((I.length:Int)>0)then(zC j I).bind fun U=>aAm j u Y Z q ({ (⟨u.1.Id,[],[],0⟩:JO)with Before:=U })else aAm j u Y Z q (⟨u.1.Id,[],[],0⟩:JO)))
def aaQ (q:(AB×Bool)) (j:AX) (u:(Fa→Int→Option Fa)) (z:Int):F8→Int→Fa→Option Fa:=iY (aMx q j u z) Aj
def aIT (u:AL) (j:AX) (I:(Fa→Int→Option Fa)):Fa→Int→Option Fa:=fun z q=>(bif decide (q<(u.length:Int))then(Ag u q).bind fun J=>(JC j J).bind fun L=>aaQ L j I q [] 0 z else some z)
def aUU (q:AL) (j:AX):Fa→Int→Option Fa:=aT (aIT q j) Aj
def aIJ (j:AX):Option Fa:=(aNp j).bind fun q=>aUU q j [] 0
def yA (j:AX):Option Fa:=(qE j).bind fun q=>(bif (!q)then some []else(aIJ j).bind fun u=>some u)
def aMV (j:(AL→Int→Option AL)) (q:Int) (u:AL):Option AL:=j u (Ai (q+1))
def aIC (j:AX) (q:Fa) (L:(AL→Int→Option AL)):AL→Int→Option AL:=fun z u=>(bif decide (u<(j.length:Int))then(Ag j u).bind fun O=>(uo q O.Id).bind fun M=>(bif M.2 then some (M.1.Err==0)else some false).bind fun U=>(bif U then(Ag j u).bind fun I=>(Bo 8 z [I.Id]).bind fun J=>aMV L u J else aMV L u z)else some z)
def aXb (j:AX) (q:Fa):AL→Int→Option AL:=aT (aIC j q) Aj
def aOP (j:AX) (q:Fa):Option AL:=aXb j q [] 0
def aLn (j:(AL→Int→Option AL)) (q:Int) (u:AL):Option AL:=j u (Ai (q+1))
def aNM (j:(Bool→Int→AL→Option AL)) (z:Int) (q:Bool) (u:AL):Option AL:=j q (Ai (z+1)) u
def lR (j:(Bool→Int→AL→Option AL)) (z:Int) (q:AL) (I:Bool) (u:Bool):Option AL:=(bif u then aNM j z false q else aNM j z I q)
def aNv (L:AL) (z:AX) (I:Int) (k4:(AL→Int→Option AL)) (q:(Bool→Int→AL→Option AL)):Bool→Int→AL→Option AL:=fun M u j=>(bif decide (u<(L.length:Int))then(Ag L u).bind fun O=>(JC z O).bind fun J=>(bif J.2 then(bif (u != I)then(Ag L I).bind fun U=>(TM J.1.aZ U).bind fun Y=>lR q u j M Y else lR q u j M false)else lR q u j M false)else(bif M then(Ag L I).bind fun Z=>(Bo 8 j [Z]).bind fun x27=>aLn k4 I x27 else aLn k4 I j))
def aSj (q:AL) (j:AX) (u:Int) (z:(AL→Int→Option AL)):Bool→Int→AL→Option AL:=iY (aNv q j u z) Aj
def aH5 (q:AL) (j:AX) (I:(AL→Int→Option AL)):AL→Int→Option AL:=fun u z=>(bif decide (z<(q.length:Int))then aSj q j z I true 0 u else some u)
def aRv (q:AL) (j:AX):AL→Int→Option AL:=aT (aH5 q j) Aj
def aKK (q:AX) (j:AL):Option AL:=(qp j).bind fun u=>aRv u q [] 0
def aF1 (j:AX) (q:Fa):Option AL:=(aOP j q).bind fun u=>(aKK j u).bind fun z=>some z
def aPe (j:AX):Option AL:=(yA j).bind fun q=>(aF1 j q).bind fun u=>some u
def aKD (j:(AL→Int→Option AL)) (q:Int) (u:AL):Option AL:=j u (Ai (q+1))
def aEz (j:(Int→Int→AL→Option AL)) (q:Int) (u:Int) (z:AL):Option AL:=j u (Ai (q+1)) z
def aJP (j:AL) (I:AX) (L:(AB×Bool)) (M:Int) (k3:(AL→Int→Option AL)) (J:(Int→Int→AL→Option AL)):Int→Int→AL→Option AL:=fun O q u=>(bif decide (q<(j.length:Int))then(Ag j q).bind fun U=>(JC I U).bind fun z=>(bif decide (z.1.Depth>L.1.Depth)then some true else(bif (z.1.Depth==L.1.Depth)then some (decide (z.1.Id>L.1.Id))else some false).bind fun Y=>some Y).bind fun Z=>(bif Z then aEz J q (Ai (O+1)) u else aEz J q O u)else(bif decide (O<10)then(Ag j M).bind fun x25=>(Bo 8 u [x25]).bind fun x26=>aKD k3 M x26 else aKD k3 M u))
def aSc (j:AL) (q:AX) (u:(AB×Bool)) (z:Int) (I:(AL→Int→Option AL)):Int→Int→AL→Option AL:=iY (aJP j q u z I) Aj
def aMi (j:AL) (q:AX) (I:(AL→Int→Option AL)):AL→Int→Option AL:=fun z u=>(bif decide (u<(j.length:Int))then(Ag j u).bind fun J=>(JC q J).bind fun L=>aSc j q L u I 0 0 z else some z)
def aRd (j:AL) (q:AX):AL→Int→Option AL:=aT (aMi j q) Aj
def aJa (q:AX) (j:AL):Option AL:=aRd j q [] 0
def aIP (J:AL) (j:Fa) (q:AX) (L:(F8→Int→Option Ar)):F8→Int→Option Ar:=fun u z=>(bif decide (z<(J.length:Int))then(Ag J z).bind fun M=>(uo j M).bind fun O=>(Bo 24 u [O.1.After]).bind fun U=>L U (Ai (z+1))else(bif ((u.length:Int)==0)then some []else(zC q u).bind fun I=>some I))
def aTx (u:AL) (j:Fa) (q:AX):F8→Int→Option Ar:=aT (aIP u j q) Aj
def aJB (j:AX) (q:Fa):Option Ar:=(aF1 j q).bind fun u=>aTx u q j [] 0
def Ya (j:AX):Option Ar:=(yA j).bind fun q=>(aJB j q).bind fun u=>some u
def aKV (u:(AL→Bool→Int→Option AL)) (z:Int) (j:AL) (q:Bool):Option AL:=u j q (Ai (z+1))
def gY (j:Ar) (q:Int) (J:AL) (L:(AL→Bool→Int→Option AL)) (M:Bool) (u:Bool):Option AL:=(bif u then(Ag j q).bind fun z=>(Wx J z.Id).bind fun I=>aKV L q I true else aKV L q J M)
def aMp (j:Ar) (Y:Ar) (u:Int) (k4:(AL→Int→Option AL)) (Z:(AL→Bool→Int→Option AL)):AL→Bool→Int→Option AL:=fun z I q=>(bif decide (q<(j.length:Int))then some (!I)else some false).bind fun J=>(bif J then(Ag j q).bind fun L=>(Ag Y u).bind fun M=>(bif (L.Kind==M.Kind)then(Ag j q).bind fun O=>(Ag Y u).bind fun U=>gY j q z Z I (O.Key.toList==U.Key.toList)else gY j q z Z I false)else k4 z (Ai (u+1)))
def aYI (j:Ar) (q:Ar) (u:Int) (z:(AL→Int→Option AL)):AL→Bool→Int→Option AL:=iY (aMp j q u z) Aj
def aJf (q:Ar) (j:Ar) (I:(AL→Int→Option AL)):AL→Int→Option AL:=fun u z=>(bif decide (z<(q.length:Int))then aYI j q z I u false 0 else some u)
def aSm (q:Ar) (j:Ar):AL→Int→Option AL:=aT (aJf q j) Aj
def zy (j:AB) (q:Ar):Option AL:=(jE j).bind fun u=>aSm u q [] 0
def aGK (q:AX) (I:(Int→AB→Option (AB×Int))):Int→AB→Option (AB×Int):=fun J j=>(bif decide (J<(j.aZ.length:Int))then(Ag j.aZ J).bind fun L=>(JC q L).bind fun M=>I (Ai (J+1)) ({ j with Depth:=PK j.Depth (Ai (M.1.Depth+1)) })else(Ya q).bind fun O=>(zy j O).bind fun u=>(bif decide ((({ j with bg:=u }).Depth)>100000)then some (Bh,29)else(N7 ({ j with bg:=u })).bind fun z=>(bif (z != 0)then some (Bh,z)else some ({ j with bg:=u },0))))
def aWH (j:AX):Int→AB→Option (AB×Int):=aT (aGK j) Aj
def Vy (j:AX) (q:AB):Option (AB×Int):=(aPe j).bind fun u=>(qE j).bind fun I=>(bif (!I)then some true else some ((u.length:Int)==0)).bind fun J=>(bif J then some (Bh,26)else(Ag j 0).bind fun z=>(TF (({ q with Room:=z.Room }).Kind)).bind fun L=>(aJa j u).bind fun M=>aWH j 0 ({ { { q with Room:=z.Room }with State:=L }with aZ:=M }))
def jO (q:AB) (j:ByteArray):Option AB:=(wC q).bind fun u=>(aCh ({ q with Hash:=u })).bind fun z=>some ({ { { q with Hash:=u }with Id:=z }with su:=(⟨j,({ { q with Hash:=u }with Id:=z }).Id⟩:PW) })
def vZ (q:AX) (j:ByteArray) (I:Int) (z:ByteArray) (J:Bf) (u:Int):Option (AB×Int):=(Vy q ({ Bh with aU:=j,Kind:=I,Key:=z,Time:=u,Content:=J })).bind fun L=>(bif (L.2 != 0)then some (Bh,L.2)else(Ya q).bind fun O=>(aC0 q O).bind fun U=>(Vh L.1 U).bind fun M=>(bif (M != 0)then some (Bh,M)else(X0 j).bind fun Y=>(jO L.1 Y).bind fun Z=>some (Z,0)))
def zi (q:ByteArray) (j:ByteArray) (u:Int):Option (AB×Int):=(N7 ({ Bh with Room:=q,aU:=j,Kind:=1,State:=true,Time:=u,Depth:=1 })).bind fun z=>(bif (z != 0)then some (Bh,z)else(Vh ({ Bh with Room:=q,aU:=j,Kind:=1,State:=true,Time:=u,Depth:=1 }) []).bind fun I=>(bif (I != 0)then some (Bh,I)else(X0 j).bind fun J=>(jO ({ Bh with Room:=q,aU:=j,Kind:=1,State:=true,Time:=u,Depth:=1 }) J).bind fun L=>some (L,0)))
def fG (q:ByteArray) (x3:Ba) (u:Int) (j:Int) (z:Int) (k7:(AX→AX→Int→Option (AX×Int))):AX→AX→Int→Option (AX×Int):=fun L Z M=>(bif decide (M<4)then(Ag ([{ Bh with Kind:=2,Key:=q,Content:={ Dq with N:=3 } },{ Bh with Kind:=3,Content:={ Dq with Levels:=x3 } },{ Bh with Kind:=4,Content:={ Dq with N:=u } },{ Bh with Kind:=5,Content:={ Dq with N:=j } }]:AX) M).bind fun O=>(Wh L q O.Kind O.Key O.Content z).bind fun I=>(bif (I.2 != 0)then some ([],I.2)else(Mc L I.1.Id).bind fun U=>(bif U.2 then some ([],11)else(jk L I.1).bind fun J=>(bif (J.2 != 0)then some ([],J.2)else(Bo 376 Z [I.1]).bind fun Y=>k7 J.1 Y (Ai (M+1)))))else some (Z,0))
def apF (q:ByteArray) (I:Ba) (u:Int) (j:Int) (z:Int):AX→AX→Int→Option (AX×Int):=iY (fG q I u j z) Aj
def aAj (z:ByteArray) (j:ByteArray) (u:Int) (I:Int) (q:Int):Option (AX×Int):=(ZP z j u).bind fun J=>(bif (J.2 != 0)then some ([],J.2)else(sH j).bind fun L=>apF j L I q u [J.1] [J.1] 0)
def ahP (SS oJ Kz aoZ WH r) (h:aAj SS oJ Kz aoZ WH=some r):BI 38 [D7 SS,D7 oJ,AZ Kz,AZ aoZ,AZ WH] [] (.eF [.aY 0,AZ r.2]) [(G7 r.1)]:=Aq.aO Tryz.func38 rfl<|AQ<|.f (Cj 39 29 rfl)<|.aW<|AY h fun q U h=>AQ<|.a 3<|.ca (aOk SS oJ Kz q U)<|.aW<|Ae<|Ac<|BQ h (fun h=>AQ<|.a 1<|.f (Cj 39 29 rfl)<|.aW<|MB) fun h=>AV.ay6 [apv 1 (Go.Op.buildSlice 22 1 #[(0,(Go.Operand.tmp 33))]) (fun o es Y=>aWi J5 MZ A8 A8 (Eo A8) [DY q.1] [Au q.1] A8 A8 A8 A8 Y),aHk 3 (Go.Op.buildSlice 22 1 #[(0,(Go.Operand.tmp 35))]) [(G7 []),.box (BG (Au q.1))] [(G7 []),.box (BG (Au q.1)),(G7 [q.1])] (fun o Y=>aKg J5 MZ A8 A8 (Eo A8) [DY q.1] [Au q.1] A8 A8 A8 A8 Y)] 18 0x18280b016180a016200901208080141007014200601218060100005010180400c080400e200300c100300a180200800020081001006080100410000020000 12<|AY h fun x3 Z h=>AQ<|.a 4<|.ca (aRn oJ x3 Z)<|.aW<|Ae<|Ac<|AV.block<|jP (fun z v5 v6=>⟨BL 94 [(1,D7 oJ),(2,AZ Kz),(14,BO z),(15,.aY 0),(51,.d ((aWX Au) ([{ Bh with Kind:=2,Key:=oJ,Content:={ Dq with N:=3 } },{ Bh with Kind:=3,Content:={ Dq with Levels:=x3 } },{ Bh with Kind:=4,Content:={ Dq with N:=aoZ } },{ Bh with Kind:=5,Content:={ Dq with N:=WH } }]:(List AB)))),(52,AZ v6)],[(G7 v5)],0⟩) _ _ _ _ _ (Af 94 6755399441104902 [(2,true)]) h<|fun J17 k7 hk7 z v5 v6 h=>Ac<|Ae<|CM h (fun h=>Ae<|AV.block<|AY h fun O Dy h=>AQ<|.p (x:=(DY O)) (akq (k:=.i64) Au Dy amR DU A8 (fun x=>⟨_,rfl,rfl⟩) rfl)<|.aW<|AY h fun j I h=>AQ<|.a 9<|.ca (aK2 z oJ O.Kind O.Key O.Content Kz j I)<|.aW<|Ae<|Ac<|BQ h (fun h=>AQ<|.a 1<|.f (Cj 39 29 rfl)<|.aW<|mJ) fun h=>Ae<|AY h fun x12 J h=>AQ<|.a 3<|.ca (PL z j.1.Id x12 J)<|.aW<|Ac<|BQ h (fun h=>AQ<|.f (Cj 39 29 rfl)<|.aW<|aM1) fun h=>Ae<|AY h fun u L h=>AQ<|.a 2<|.f (x:=.eF [.aY 4,AZ u.2]) (Ef [] [BO z,DY j.1] (acD z j.1 u L) rfl)<|.a 2<|.conv _ (NG (e:=39) (s:=29) 4 (xs:=List.map Au u.1) A8)<|.aW<|Ac<|BQ h (fun h=>AQ<|.a 1<|.f (Cj 39 29 rfl)<|.aW<|aLs) fun h=>AY h fun x16 M h=>BH<|.a 2<|.p (Ei J5 MZ [Au j.1] rfl)<|.f (EU (k:=0) Au M J5 A8 (fun _=>rfl) BJ rfl)<|.a 1<|.nil<|BH<|.a 2<|.nil<|hk7 _ _ _ _ (Af 94 6755399441104902 [(5,true)]) h) fun h=>QN
def aHa (j:AX):Option (AX×Int):=some (j,0)
def Uu (u:Int) (z:AB) (I:(Int→AX→Option (AX×Int))):Int→AX→Option (AX×Int):=fun j q=>(bif decide (j>u)then(Ag q (Ai (j-1))).bind fun J=>(Ag q j).bind fun L=>I (Ai (j-1)) (q.set (j).toNat J)else(Ag q u).bind fun M=>some (q.set (u).toNat z,0))
def aNs (q:Int) (j:AB):Int→AX→Option (AX×Int):=aT (Uu q j) Aj
def wB (z:(Int→Option (AX×Int))) (q:Int) (J:AX) (j:AB) (I:Bool):Option (AX×Int):=(bif I then z (Ai (q+1))else(Bo 376 J [j]).bind fun u=>aNs q j (Ai ((u.length:Int)-1)) u)
def aJS (u:AX) (J:AX) (j:AB) (z:(Int→Option (AX×Int))):Int→Option (AX×Int):=fun q=>(bif decide (q<(u.length:Int))then(Ag u q).bind fun I=>wB z q J j (decide (I.Id≤j.Id))else wB z q J j false)
def aOK (j:AX) (u:AX) (q:AB):Int→Option (AX×Int):=bI (aJS j u q) Aj
def aJn (j:AX) (q:AB) (k2:(Int→Option (AX×Int))):Int→Option (AX×Int):=fun I=>(bif decide (I<(j.length:Int))then(Ag j I).bind fun U=>(bif (!(U.Room.toList==q.Room.toList))then some ([],13)else k2 (Ai (I+1)))else(Bo 376 [] j).bind fun u=>(aQ j q.Id).bind fun z=>(bif decide (z≥0)then(kT q).bind fun J=>(bif J then(Ag j z).bind fun L=>(kT L).bind fun M=>some (!M)else some false).bind fun O=>(bif O then(Ag u z).bind fun Y=>aHa (u.set (z).toNat q)else aHa u)else(bif decide ((j.length:Int)≥2000)then some ([],29)else aOK j u q 0)))
def aXH (j:AX) (q:AB):Int→Option (AX×Int):=bI (aJn j q) Aj
def Qw (j:AX) (q:AB):Option (AX×Int):=aXH j q 0
def anb (aA gu r) (h:Qw aA gu=some r):BI 96 [BO aA,DY gu] [] (.eF [.aY 0,AZ r.2]) [(G7 r.1)]:=Aq.aO Tryz.func96 rfl<|AQ<|.a 1<|.f (Cj 39 29 rfl)<|.aW<|Ae<|Ac<|AV.block<|Fl (fun v1=>⟨BL 93 [(0,BO aA),(3,.ptr 0 0),(6,AZ v1)],[.box (BG (Au gu))],0⟩) _ _ _ (Af 93 73 [(0,true)]) h<|fun J36 k2 hk2 v1 h=>Ae<|AQ<|.a 2<|.p (BP Au aA CV rfl)<|.aW<|CM h (fun h=>Ae<|AV.block<|AY h fun x4 hx4 h=>H9 A8 A8 A8 (.a 2<|.p (Bc Au hx4 CV DU rfl)<|.a 5<|.nil _)<|BQ h (fun h=>AQ<|.f (Cj 39 29 rfl)<|.aW<|U9) fun h=>BH<|.a 3<|.nil<|hk2 _ _ (Af 93 73 [(0,true)]) h) fun h=>AV.exit<|AY h fun U hx6 h=>AQ<|.f (Ti J5 MZ [] rfl)<|.a 1<|.f (EU (k:=1) Au hx6 J5 A8 (fun _=>rfl) BJ rfl)<|.aW<|Ae<|AY h fun x7 hx7 h=>AQ<|.a 3<|.ca (agM aA gu.Id x7 hx7)<|.aW<|Ac<|BQ h (fun h=>Dt (fun s=>∃(v9:(List AB)),CW s ⟨BL 93 [(7,.aY 0)],[(G7 v9)],0⟩∧aHa v9=some r) (by rintro s ⟨v9,hs,h⟩;exact DR hs<|Ac<|Yx)<|fun K10=>AY h fun x11 Y h=>AQ<|.a 1<|.ca (aQf gu x11 Y)<|.a 1<|AY h fun x12 Z h=>.mg 37 6 (BF x12) (G8 Z (fun e i=>by subst e;have h:=i;exact DK h fun x14 as2 x15 aft h=>.a 2<|.p (Bc Au as2 CV DU rfl)<|.a 1<|.ca (aQf x14 x15 aft)<|.aW<|Ez))<|.bT<|BQ h (fun h=>AY h fun x17 z h=>BH<|.a 3<|.p (OG (e':=39) (kd:=.i64) Au z (k:=2) A8 CV DU rfl)<|.f (ah (e:=39) (size:=29) (v:=(DY gu)) (k:=2) (i:=(x7).toNat) (off:=0) (a':=gu) Au A8 (JW z).2 A8 (DU).size A8 (Eo A8) A8 (fun _=>rfl) rfl)<|.nil<|K10 _ ⟨(U.set (x7).toNat gu),Af 93 128 [(2,true)],h⟩) fun h=>K10 _ ⟨U,Af 93 128 [(2,true)],h⟩) fun h=>Ae<|AQ<|.a 1<|.p (BP Au aA CV rfl)<|.aW<|BQ h (fun h=>AQ<|.f (Cj 39 29 rfl)<|.aW<|mJ) fun h=>Ac<|Ae<|AV.block<|Fl (fun j=>⟨BL 93 [(0,BO aA),(3,.ptr 0 0),(7,.aY 1),(9,AZ j)],[.box (BG (Au gu)),(G7 U)],0⟩) _ _ _ (Af 93 649 [(0,true),(2,true)]) h<|fun J35 k20 aBE j h=>Ae<|Dt (fun s=>∃(M:Bool),CW s ⟨BL 93 [(0,BO aA),(3,.ptr 0 0),(7,.aY 1),(9,AZ j),(65,BF M)],[.box (BG (Au gu)),(G7 U)],0⟩∧wB k20 j U gu M=some r) (by rintro s ⟨M,hs,h⟩;exact DR hs<|CM h (fun h=>AV.block<|BH<|.a 3<|.nil<|aBE _ _ (Af 93 649 [(0,true),(1,true)]) h) fun h=>AV.exit<|AY h fun x23 afi h=>AQ<|.a 2<|.p (Ei J5 MZ [Au gu] rfl)<|.f (EU (k:=1) Au afi J5 A8 (fun _=>rfl) BJ rfl)<|.aW<|Ae<|AQ<|.a 1<|.p (PO (k:=2) (e':=39) (s:=29) Au x23 A8 CV rfl)<|.aW<|AV.block<|ET (fun u v25=>⟨BL 93 [(3,.ptr 0 0),(7,.aY 1),(9,AZ j),(10,AZ u)],[.box (BG (Au gu)),(G7 v25)],0⟩) _ _ _ _ (Af 93 1672 [(0,true),(2,true)]) h<|fun J31 k26 asU u v25 h=>Ae<|Ac<|CM h (fun h=>Ae<|AV.block<|DK h fun O I x29 J h=>BH<|.a 5<|.p (OG (e':=39) (kd:=.i64) Au I (k:=1) A8 CV DU rfl)<|.p (x:=(DY O)) (VT (e:=39) (size:=29) (k:=1) (i:=(Ai (u-1)).toNat) (off:=0) Au A8 A8 (JW I).2 DU (Eo A8) TB rfl)<|.p (OG (e':=39) (kd:=.i64) Au J (k:=1) A8 CV DU rfl)<|.f (ah (e:=39) (size:=29) (v:=(DY O)) (k:=1) (i:=(u).toNat) (off:=0) (a':=O) Au A8 (JW J).2 A8 (DU).size A8 (Eo A8) A8 (fun _=>rfl) rfl)<|.nil<|BH<|.a 3<|.nil<|asU _ _ _ (Af 93 1672 [(0,true),(1,true)]) h) fun h=>AV.exit<|AY h fun Zm L h=>AQ<|.a 3<|.p (OG (e':=39) (kd:=.i64) Au L (k:=1) A8 CV DU rfl)<|.f (ah (e:=39) (size:=29) (v:=(DY gu)) (k:=1) (i:=(j).toNat) (off:=0) (a':=gu) Au A8 (JW L).2 A8 (DU).size A8 (Eo A8) A8 (fun _=>rfl) rfl)<|.bT<|Ac<|U9)<|fun K32=>Fp h (fun q h=>AY h fun x34 hx34 h=>AV.draw A8 A8 A8 (.a 2<|.p (BP Au aA CV rfl)<|.a 1<|.c (Ap some q)<|.a 2<|.p (Bc Au hx34 CV DU rfl)<|.a 6<|.nil _)<|K32 _ ⟨(decide (x34.Id≤gu.Id)),Af 93 36893488147419103881 [(0,true),(1,true)],h⟩) fun q h=>AV.draw A8 A8 A8 (.a 2<|.p (BP Au aA CV rfl)<|.a 1<|.c (Ap some q)<|.a 9<|.nil _)<|K32 _ ⟨false,Af 93 36893488147419103881 [(0,true),(1,true)],h⟩
def jh (q:ByteArray) (x3:Ba) (u:Int) (j:Int) (z:Int) (k7:(AX→AX→Int→Option (AX×Int))):AX→AX→Int→Option (AX×Int):=fun L v5 J=>(bif decide (J<([2,3,4,5].length:Int))then(Ag [2,3,4,5] J).bind fun x9=>(Ag [q,BK,BK,BK] J).bind fun M=>(Ag [{ Dq with N:=3 },{ Dq with Levels:=x3 },{ Dq with N:=u },{ Dq with N:=j }] J).bind fun O=>(vZ L q x9 M O z).bind fun I=>(bif (I.2 != 0)then some ([],I.2)else(JC L I.1.Id).bind fun U=>(bif U.2 then some ([],11)else(Qw L I.1).bind fun Y=>(Bo 376 v5 [I.1]).bind fun Z=>k7 Y.1 Z (Ai (J+1))))else some (v5,0))
def aeK (q:ByteArray) (I:Ba) (u:Int) (j:Int) (z:Int):AX→AX→Int→Option (AX×Int):=iY (jh q I u j z) Aj
def aTX (z:ByteArray) (j:ByteArray) (u:Int) (I:Int) (q:Int):Option (AX×Int):=(zi z j u).bind fun J=>(bif (J.2 != 0)then some ([],J.2)else(aDx j).bind fun L=>aeK j L I q u [J.1] [J.1] 0)
def aEw (j:AX) (z:(AX→Int→Option AX)):AX→Int→Option AX:=fun u q=>(bif decide (q<(j.length:Int))then(Ag j q).bind fun I=>(Qw u I).bind fun J=>z J.1 (Ai (q+1))else some u)
def aYy (j:AX):AX→Int→Option AX:=aT (aEw j) Aj
def qo (j:AX):Option AX:=aYy j [] 0
def ajk (aA r) (h:qo aA=some r):BI 41 [BO aA] [] (BO r) []:=Aq.aO Tryz.func41 rfl<|Ac<|Ac<|Ae<|Ac<|AV.block<|ET (fun j J=>⟨BL 21 [(0,BO aA),(3,BO j),(4,AZ J)],[],0⟩) _ _ _ _ (Af 21 25 []) h<|fun M O q j J h=>Ae<|AQ<|.a 2<|.p (BP Au aA CV rfl)<|.aW<|CM h (fun h=>Ae<|AV.block<|DK h fun L u z I h=>BH<|.a 3<|.p (Bc Au u CV DU rfl)<|.a 1<|.f (x:=.eF [.aY 0,AZ z.2]) (Ef [] [BO j,DY L] (anb j L z I) rfl)<|.a 2<|.conv _ (NG (e:=39) (s:=29) 0 (xs:=List.map Au z.1) A8)<|.a 2<|.nil<|BH<|.a 3<|.nil<|q _ _ _ (Af 21 25 []) h) fun h=>I4
def UC (j:Bool):Option Bool:=some j
def aLZ (J:(AX×Int)) (j:ZA) (L:(Int→Option Bool)):Int→Option Bool:=fun u=>(bif decide (u<(J.1.length:Int))then(Ag J.1 u).bind fun M=>(bif (M.Depth != (Ai (u+1)))then some false else L (Ai (u+1)))else(qo J.1).bind fun q=>(VN q).bind fun z=>(dY q z).bind fun O=>(aS O).bind fun I=>(bif ((q.length:Int)==5)then(Ll q).bind fun U=>(bif (U==0)then(Zu q).bind fun Y=>(bif ((Y.length:Int)==5)then(bif ((z.length:Int)==5)then(aAg q z j.User).bind fun Z=>(bif (Z==3)then(bif (I.2.toList==j.User.toList)then(Sj I.1 j.User).bind fun Zm=>(bif (Zm==100)then(WO j.User).bind fun x32=>(WO j.Room).bind fun x33=>(bif (x32.toList==x33.toList)then(tC).bind fun x35=>UC x35 else UC false)else UC false)else UC false)else UC false)else UC false)else UC false)else UC false)else UC false))
def aYH (q:(AX×Int)) (j:ZA):Int→Option Bool:=bI (aLZ q j) Aj
def aKG (j:ZA):Option Bool:=(bif decide ((j.Room.size:Int)>100)then some true else some (decide ((j.User.size:Int)>100))).bind fun u=>(bif u then(tC).bind fun z=>some z else(aAj j.Room j.User j.Time j.Rule j.Visibility).bind fun q=>(bif (q.2 != 0)then(bif ((q.1.length:Int)==0)then(tC).bind fun I=>some I else some false).bind fun J=>some J else aYH q j 0))
def ap3 (zH r) (h:aKG zH=some r):BI 9 [.d (vP zH)] [] (BF r) []:=Aq.aO Tryz.func9 rfl<|Ac<|Ae<|AQ<|.a 4<|AY h fun x1 hx1 h=>.mg 14 5 (BF x1) (.bi hx1)<|.bT<|BQ h (fun h=>AY h fun x4 hx4 h=>AQ<|.ca (aJ0  x4 hx4)<|.aW<|DF) fun h=>AY h fun x5 hx5 h=>AQ<|.a 10<|.f (x:=.eF [.aY 1,AZ x5.2]) (Ef [] [D7 zH.Room,D7 zH.User,AZ zH.Time,AZ zH.Rule,AZ zH.Visibility] (ahP zH.Room zH.User zH.Time zH.Rule zH.Visibility x5 hx5) rfl)<|.a 2<|.conv _ (NG (e:=39) (s:=29) 1 (xs:=List.map Au x5.1) A8)<|.aW<|Ae<|Ac<|BQ h (fun h=>AQ<|.a 1<|.p (BP Au x5.1 CV rfl)<|.a 1<|AY h fun x7 hx7 h=>.mg 40 2 (BF x7) (.bi hx7 (fun h=>AY h fun x9 Dy h=>.ca (aJ0  x9 Dy)<|.aW<|Ez))<|.aW<|DF) fun h=>Ae<|Ac<|AV.block<|Fl (fun v10=>⟨BL 120 [(1,.ptr 0 0),(3,BO x5.1),(5,AZ v10)],[.box (BG (vP zH))],0⟩) _ _ _ (Af 120 42 [(0,true)]) h<|fun J36 k11 aBD v10 h=>Ae<|AQ<|.a 2<|.p (BP Au x5.1 CV rfl)<|.aW<|CM h (fun h=>Ae<|AV.block<|AY h fun OH as3 h=>AQ<|.a 2<|.p (Bc Au as3 CV DU rfl)<|.aW<|BQ h DJ fun h=>BH<|.a 3<|.nil<|aBD _ _ (Af 120 42 [(0,true)]) h) fun h=>AV.exit<|AY h fun j aft h=>AQ<|.a 1<|.ca (ajk x5.1 j aft)<|.aW<|AY h fun I hx16 h=>AQ<|.a 1<|.ca (aYo j I hx16)<|.aW<|DK h fun x17 Y7 x18 afq h=>AQ<|.a 2<|.ca (aM8 j I x17 Y7).view<|.ca (aFM x17 x18 afq)<|.aW<|Dt (fun s=>∃(v19:Bool),CW s ⟨BL 120 [(2,BF v19)],[],0⟩∧UC v19=some r) (by rintro s ⟨v19,hs,h⟩;exact DR hs<|DF)<|fun Y=>Fp h (fun q h=>AY h fun Z J h=>Fp h (fun u h=>AY h fun z M h=>Fp h (fun L h=>Fp h (fun O h=>AY h fun x27 hx27 h=>Fp h (fun U h=>Fp h (fun atb h=>AY h fun Zm alJ h=>Fp h (fun axz h=>DK h fun x32 hx32 x33 aoT h=>Fp h (fun aBF h=>AY h fun x35 aBA h=>AV.draw A8 A8 A8 (.a 1<|.p (BP Au j CV rfl)<|.a 1<|.c (Ap some q)<|.a 1<|.ca (Vq j Z J)<|.a 2<|.c (Ap some u)<|.a 1<|.ca (YX j z M).view<|.p (BP Ad z CQ rfl)<|.a 2<|.c (Ap some L)<|.a 1<|.p (BP BX I Jj rfl)<|.a 2<|.c (Ap some O)<|.a 4<|.ca (nS j I zH.User x27 hx27)<|.a 2<|.c (Ap some U)<|.a 5<|.c (Ap some atb)<|.a 3<|.ca (TK x18.1 zH.User Zm alJ)<|.a 2<|.c (Ap some axz)<|.a 2<|.ca (ZG zH.User x32 hx32)<|.a 2<|.ca (ZG zH.Room x33 aoT)<|.a 2<|.c (Ap some aBF)<|.ca (aJ0  x35 aBA)<|.a 2<|.nil _)<|Y _ ⟨x35,Af 120 4 [],h⟩) fun aBF h=>AV.draw A8 A8 A8 (.a 1<|.p (BP Au j CV rfl)<|.a 1<|.c (Ap some q)<|.a 1<|.ca (Vq j Z J)<|.a 2<|.c (Ap some u)<|.a 1<|.ca (YX j z M).view<|.p (BP Ad z CQ rfl)<|.a 2<|.c (Ap some L)<|.a 1<|.p (BP BX I Jj rfl)<|.a 2<|.c (Ap some O)<|.a 4<|.ca (nS j I zH.User x27 hx27)<|.a 2<|.c (Ap some U)<|.a 5<|.c (Ap some atb)<|.a 3<|.ca (TK x18.1 zH.User Zm alJ)<|.a 2<|.c (Ap some axz)<|.a 2<|.ca (ZG zH.User x32 hx32)<|.a 2<|.ca (ZG zH.Room x33 aoT)<|.a 2<|.c (Ap some aBF)<|.a 3<|.nil _)<|Y _ ⟨false,Af 120 4 [],h⟩) fun axz h=>AV.draw A8 A8 A8 (.a 1<|.p (BP Au j CV rfl)<|.a 1<|.c (Ap some q)<|.a 1<|.ca (Vq j Z J)<|.a 2<|.c (Ap some u)<|.a 1<|.ca (YX j z M).view<|.p (BP Ad z CQ rfl)<|.a 2<|.c (Ap some L)<|.a 1<|.p (BP BX I Jj rfl)<|.a 2<|.c (Ap some O)<|.a 4<|.ca (nS j I zH.User x27 hx27)<|.a 2<|.c (Ap some U)<|.a 5<|.c (Ap some atb)<|.a 3<|.ca (TK x18.1 zH.User Zm alJ)<|.a 2<|.c (Ap some axz)<|.a 12<|.nil _)<|Y _ ⟨false,Af 120 4 [],h⟩) fun atb h=>AV.draw A8 A8 A8 (.a 1<|.p (BP Au j CV rfl)<|.a 1<|.c (Ap some q)<|.a 1<|.ca (Vq j Z J)<|.a 2<|.c (Ap some u)<|.a 1<|.ca (YX j z M).view<|.p (BP Ad z CQ rfl)<|.a 2<|.c (Ap some L)<|.a 1<|.p (BP BX I Jj rfl)<|.a 2<|.c (Ap some O)<|.a 4<|.ca (nS j I zH.User x27 hx27)<|.a 2<|.c (Ap some U)<|.a 5<|.c (Ap some atb)<|.a 19<|.nil _)<|Y _ ⟨false,Af 120 4 [],h⟩) fun U h=>AV.draw A8 A8 A8 (.a 1<|.p (BP Au j CV rfl)<|.a 1<|.c (Ap some q)<|.a 1<|.ca (Vq j Z J)<|.a 2<|.c (Ap some u)<|.a 1<|.ca (YX j z M).view<|.p (BP Ad z CQ rfl)<|.a 2<|.c (Ap some L)<|.a 1<|.p (BP BX I Jj rfl)<|.a 2<|.c (Ap some O)<|.a 4<|.ca (nS j I zH.User x27 hx27)<|.a 2<|.c (Ap some U)<|.a 25<|.nil _)<|Y _ ⟨false,Af 120 4 [],h⟩) fun O h=>AV.draw A8 A8 A8 (.a 1<|.p (BP Au j CV rfl)<|.a 1<|.c (Ap some q)<|.a 1<|.ca (Vq j Z J)<|.a 2<|.c (Ap some u)<|.a 1<|.ca (YX j z M).view<|.p (BP Ad z CQ rfl)<|.a 2<|.c (Ap some L)<|.a 1<|.p (BP BX I Jj rfl)<|.a 2<|.c (Ap some O)<|.a 33<|.nil _)<|Y _ ⟨false,Af 120 4 [],h⟩) fun L h=>AV.draw A8 A8 A8 (.a 1<|.p (BP Au j CV rfl)<|.a 1<|.c (Ap some q)<|.a 1<|.ca (Vq j Z J)<|.a 2<|.c (Ap some u)<|.a 1<|.ca (YX j z M).view<|.p (BP Ad z CQ rfl)<|.a 2<|.c (Ap some L)<|.a 38<|.nil _)<|Y _ ⟨false,Af 120 4 [],h⟩) fun u h=>AV.draw A8 A8 A8 (.a 1<|.p (BP Au j CV rfl)<|.a 1<|.c (Ap some q)<|.a 1<|.ca (Vq j Z J)<|.a 2<|.c (Ap some u)<|.a 44<|.nil _)<|Y _ ⟨false,Af 120 4 [],h⟩) fun q h=>AV.draw A8 A8 A8 (.a 1<|.p (BP Au j CV rfl)<|.a 1<|.c (Ap some q)<|.a 49<|.nil _)<|Y _ ⟨false,Af 120 4 [],h⟩
end Go.Proofs.YtkkdimcnpacjhaaGreat
end
section
namespace Go.Proofs.YtkkdimcnpacjhaaGreat
open Go.RowKit
def YN (l:List Int) (h:l.length≤1099511627776):UD l=some (EF l):=by
 unfold UD aBM LK Wv;rw[Cx DW];have j:(Q8 l).length≤1099511627776:=by rw[(UA l).length_eq];exact h
 simp[h,aI2,aPh]
def KW (l:List Int):(EF l).length≤l.length:=by
 rw[←aPh];exact Ed (Lib.compact_length_le _) Aw
def aNE (a b:List Int):(OQ a b).length≤a.length:=by
 unfold OQ;exact Ed (J4 _ _) (KW a)
def aHT (a b:List Int):(Hq a b).length≤a.length+b.length:=by
 rw[tV];exact Ed (KW _) Aw
def ae2 (a b:Int):cmp_Less_int a b=some (decide (a<b)):=by
 simp[cmp_Less_int,cmp_isNaN_int]
def ae3 (l:List Int) (x:Int) (hi:Inc l) (hn:l.length≤1099511627776):dX (zO l x) (fun r=>r.2=DL l x):=by
 unfold zO aUu;refine Xh (fun(m:Nat) (a b:Int)=>∃i j:Nat,a=i∧b=j∧i≤j∧j≤l.length∧m=j-i∧(∀q,(u:q<i)→(hl:q<l.length)→l[q]<x)∧(∀q,(u:j≤q)→(hl:q<l.length)→x≤l[q])) ?_ Aj l.length 0 (l.length:Int) fE ⟨0,l.length,rfl,rfl,Ci _,Dn _,rfl,fun q u=>AA,fun q u hl=>AA⟩;rintro m a b k ⟨i,j,rfl,rfl,hij,hj,rfl,O,h2⟩ hk;unfold aVb;refine dX.bif (fun e=>?_) fun e=>?_
 ·have U:i<j:=SA
  have w1:Ai ((i:Int)+(j:Int))=((i+j:Nat):Int):=Ph
  have w2:IntKind.u64.wrap ((i+j:Nat):Int)=((i+j:Nat):Int):=by rw[iD];omega
  have w3:PD .shr .u64 ((i+j:Nat):Int) 1=some (((i+j)/2:Nat):Int):=by
   have e0:((i+j:Nat):Int).fdiv (2^(min (1:Int).toNat IntKind.u64.bits))=(((i+j)/2:Nat):Int):=by
    have :(2:Int)^(min (1:Int).toNat IntKind.u64.bits)=2:=rfl;rw[this,aYa _ AA];omega
   unfold PD;rw[CU AA];exact Ap some e0
  have w4:Ai (((i+j)/2:Nat):Int)=(((i+j)/2:Nat):Int):=Ph
  have hm:(i+j)/2<l.length:=AA
  rw[w1,w2,w3];simp only[AP];rw[w4,BZ hm];simp only[AP];rw[ae2,wrap_succ _ AA];simp only[AP];have mono:∀p q,(hp:p<l.length)→(u:q<l.length)→p<q→l[p]<l[q]:=fun p q hp u z=>IZ.1 hi p q hp u z;refine dX.bif (fun Y=>?_) fun Y=>?_
  ·have I:l[(i+j)/2]<x:=Vz
   refine hk (j-((i+j)/2+1)) _ _ AA ⟨(i+j)/2+1,j,rfl,rfl,AA,hj,rfl,fun q u hl=>?_,h2⟩;by_cases eq:q=(i+j)/2
   ·subst eq;exact I
   have :=mono q ((i+j)/2) hl hm AA;omega
  have I:¬l[(i+j)/2]<x:=Vz
  refine hk ((i+j)/2-i) _ _ AA ⟨i,(i+j)/2,rfl,rfl,AA,AA,rfl,O,fun q u hl=>?_⟩;by_cases eq:q=(i+j)/2
  ·subst eq;omega
  have :=mono ((i+j)/2) q hm hl AA;omega
 have U:¬i<j:=SA
 have J:i=j:=AA
 subst J;have mono:∀p q,(hp:p<l.length)→(u:q<l.length)→p<q→l[p]<l[q]:=fun p q hp u z=>IZ.1 hi p q hp u z;by_cases hl:i<l.length
 ·rw[show decide ((i:Int)<(l.length:Int))=true by simpa using hl,BZ hl];simp only[BD,AP];by_cases I:l[i]=x
  ·have M:(l[i]==x)=true:=Rf
   rw[M];refine .ret ?_;exact(Iu.2 (I▸ED hl)).symm
  have M:(l[i]==x)=false:=Rf
  rw[M]
  have Z:DL l x=false:=OE.2 fun hm=>by
   obtain⟨q,u,e5⟩:=G5 hm;rcases gy q i with L|L|L
   ·have :=O q L u;omega
   ·subst L;exact I e5
   have :=mono i q hl u L;have :=h2 i (Dn _) hl;omega
  simp[aDU,Z,dX]
 rw[show decide ((i:Int)<(l.length:Int))=false by simpa using hl];refine .ret ?_;refine(OE.2 fun hm=>?_).symm;obtain⟨q,u,M⟩:=G5 hm;have :=O q AA u;omega
def acQ {l b:List Int} {i:Nat} (h:i<l.length):(l.take (i+1)).filter (fun x=> !DL b x)=(l.take i).filter (fun x=> !DL b x)++(if DL b l[i]then[]else[l[i]]):=by
 rw[Nc h,Ox];cases j:DL b l[i]<;>simp[j]
def ap2 (a b:List Int) (h:a.length≤274877906944) (O:b.length≤274877906944):aAf a b=some (OQ a b):=by
 unfold aAf;rw[YN b AA,YN a AA];simp only[AP];have ha:=KW a;have U:=KW b;have q:=Jk b
 have J:OQ a b=((EF a).take (EF a).length).filter (fun x=> !DL (EF b) x):=by
  rw[FW];unfold OQ;congr 1;funext x;congr 1;by_cases j:x∈b
  ·rw[Iu.2 j,Iu.2 (IY.2 j)]
  rw[OE.2 j,OE.2 (fun h=>j (IY.1 h))]
 rw[J];generalize EF a=S at *;generalize EF b=S2 at *;refine dX.eq ?_;unfold aWI;refine Iq S.length fE (fun i v=>v=(S.take i).filter (fun x=> !DL S2 x)) Aw ?_ ?_
 ·rintro i v k hi rfl u;have z:=wrap_succ i AA;have L:((S.take i).filter (fun x=> !DL S2 x)).length≤i:=Ed (J4 _ _) DW;have hst:=acQ (b:=S2) hi;unfold aJX aCq;rw[show decide ((i:Int)<(S.length:Int))=true by simpa using hi,BZ hi];simp only[BD,AP];refine(ae3 S2 S[i] q AA).bind ?_;rintro r M;rw[M];cases I:DL S2 S[i]with
  |true=>
   simp only[EW,Am,z];exact u _ (by rw[hst];simp[I])
  |false=>
   simp only[Il,BD,z];rw[Cx FK];exact u _ (by rw[hst];simp[I])
 rintro v k rfl;unfold aJX;rw[show decide ((S.length:Int)<(S.length:Int))=false by simp];exact .ret rfl
def VY (l:List Int) (x:Int) (h:l.length≤1099511627776):TM l x=some (DL l x):=by
 refine dX.eq ?_;unfold TM aal;refine aA7 l.length fE (fun i=>∀j,(q:j<i)→(hl:j<l.length)→l[j]≠x) (fun j q=>AA) ?_ ?_
 ·intro i k hi u z;unfold aN2;rw[show decide ((i:Int)<(l.length:Int))=true by simpa using hi,BZ hi,wrap_succ i AA];simp only[BD,AP];refine dX.bif (fun e=>?_) fun e=>?_
  ·refine .ret ?_;have :l[i]=x:=SA
   rw[Iu.2 (this▸ED hi)]
  refine z fun j q hl=>?_;by_cases I:j=i
  ·subst I;simpa using e
  exact u j AA hl
 intro k u;unfold aN2;rw[show decide ((l.length:Int)<(l.length:Int))=false by simp];refine .ret ?_;rw[OE.2];intro hm;obtain⟨j,q,e⟩:=G5 hm;exact u j q q e
def aOl (p:Int→Bool):∀(l:List Int) (i:Nat),i≤l.length→(∀j,(h:j<i)→(hl:j<l.length)→p l[j]=true)→(∀h:i<l.length,p l[i]=false)→l.takeWhile p=l.take i∧l.dropWhile p=l.drop i
 | [],i,h,_,_=>by simp at h;subst h;simp
 |a::l,0,_,_,q=>by
  have :=q Aw;simp at this;simp[this]
 |a::l,i+1,h,h1,q=>by
  have u:=h1 0 AA Aw;simp at u;have :=aOl p l i J3 (fun j z hl=>by have :=h1 (j+1) AA MC;simpa using this) (fun hl=>by have :=q MC;simpa using this);simp[u,this.1,this.2]
def Zk (l:List Int) (x:Int) (h:l.length≤1099511627776):Wx l x=some (put l x):=by
 unfold Wx;rw[VY l x h];simp only[AP];unfold put;cases hh:DL l x with
 |true=>simp
 |false=>
  simp only[Am,Qh,Jl];refine dX.eq ?_;unfold aQY
  have q:∀i,i≤l.length→(∀j,(u:j<i)→(hl:j<l.length)→l[j]<x)→(∀h:i<l.length,¬l[i]<x)→
   dX ((Hg l 0 (i:Int)).bind fun L=>(Bo 8 [] L).bind fun M=>(Bo 8 M [x]).bind fun O=>(Hg l (i:Int) ((l.length))).bind fun I=>(Bo 8 O I).bind fun J=>some J) (· =l.takeWhile (decide<| · <x)++x::l.dropWhile (decide<| · <x)):=by
   intro i hi U Y;obtain⟨Z,e2⟩:=aOl (decide<| · <x) l i hi (fun j u hl=>by simpa using U j u hl) (fun hl=>by simpa using Y hl)
   have e3:Hg l 0 (i:Int)=some (l.take i):=by
    have :=mF (l:=l) (lo:=0) (hi:=i) AA hi;simpa using this
   have e4:Hg l (i:Int) (l.length:Int)=some (l.drop i):=by
    rw[mF (l:=l) (lo:=i) (hi:=l.length) hi AA];congr 1;exact Po Aw
   rw[e3];simp only[AP];rw[Cx DW];simp only[AP,I5];rw[Cx DW];simp only[AP];rw[e4];simp only[AP];rw[Cx DW];refine .ret ?_;rw[Z,e2];simp
  refine aA7 l.length fE (fun i=>∀j,(u:j<i)→(hl:j<l.length)→l[j]<x) (fun j u=>AA) ?_ ?_
  ·intro i k hi z hk;unfold aLc;rw[show decide ((i:Int)<(l.length:Int))=true by simpa using hi,BZ hi,wrap_succ i AA];simp only[BD,AP];refine dX.bif (fun e=>?_) fun e=>?_
   ·refine hk fun j u hl=>?_;by_cases ej:j=i
    ·subst ej;simpa using e
    exact z j AA hl
   exact q i AA z (fun _=>SA)
  intro k z;unfold aLc;rw[show decide ((l.length:Int)<(l.length:Int))=false by simp];exact q l.length AA z (fun h=>AA)
def iG (l:List Int) (x:Int):(put l x).length≤l.length+1:=by
 unfold put;split
 ·omega
 rw[E9,FV];have :=Ap List.length (wV (p:=(decide<| · <x)) (l:=l));rw[E9]at this;omega
def gU :∀(l a:List Int),(l.foldl put a).length≤a.length+l.length
 | [],a=>Aw
 |x::l,a=>by
  have j:=gU l (put a x);have q:=iG a x;simp only[Ey,FV];omega
def aS2 {l a:List Int} {i:Nat} (h:i<l.length):(l.take (i+1)).foldl put a=put ((l.take i).foldl put a) l[i]:=by
 rw[Nc h,TQ];rfl
def aPL (l:List Int) (h:l.length≤274877906944):qp l=some (EF l):=by
 refine dX.eq ?_;unfold qp abE;refine Iq l.length fE (fun i v=>v=(l.take i).foldl put []) Aw ?_ ?_
 ·rintro i v k hi rfl j;have hl:=gU (l.take i) [];simp only[L9,F7]at hl;unfold aPA;rw[show decide ((i:Int)<(l.length:Int))=true by simpa using hi,BZ hi,wrap_succ i AA];simp only[BD,AP];rw[Zk _ _ AA];exact j _ (aS2 hi).symm
 rintro v k rfl;unfold aPA;rw[show decide ((l.length:Int)<(l.length:Int))=false by simp];exact .ret (by rw[FW];rfl)
def Src (a b:List Int) (h:a.length≤274877906944) (q:b.length≤274877906944):bf a b=some (Hq a b):=by
 unfold bf;rw[aPL a h];have hs:=KW a;refine dX.eq ?_;simp only[AP];unfold aST;refine Iq b.length fE (fun i v=>v=(b.take i).foldl put (EF a)) Aw ?_ ?_
 ·rintro i v k hi rfl j;have hl:=gU (b.take i) (EF a);simp only[F7]at hl;unfold aN6;rw[show decide ((i:Int)<(b.length:Int))=true by simpa using hi,BZ hi,wrap_succ i AA];simp only[BD,AP];rw[Zk _ _ AA];exact j _ (aS2 hi).symm
 rintro v k rfl;unfold aN6;rw[show decide ((b.length:Int)<(b.length:Int))=false by simp];exact .ret (by rw[FW];rfl)
end Go.Proofs.YtkkdimcnpacjhaaGreat
end
section
namespace Go.Proofs.YtkkdimcnpacjhaaGreat
open Go.RowKit
variable {α : Type}
def Jw {R:Type} (c:Bool) (x y:R):(bif c then some x else some y)=some (bif c then x else y):=by cases c<;>rfl
def aEJ {A R:Type} (c:Bool) (x y:Option A) (f:A→Option R):(bif c then x else y).bind f=bif c then x.bind f else y.bind f:=by cases c<;>rfl
def jW (a b:Bool):(bif a then true else b)=(a||b):=by cases a<;>rfl
def TD (a b:Bool):(bif a then b else false)=(a&&b):=by cases a<;>rfl
def VE {s:ByteArray} {i:Nat} (h:i<(BU s).length):Hf s (i:Int)=some (BU s)[i]:=by
 unfold Hf;rw[CP (aLA i)];have h':i<s.size:=Va
 have e:s[i]? =some s[i]:=by simp[h']
 simp only[Rq,e,IV,BU,Oq];rfl
def amW {s:ByteArray} (h:0<(BU s).length):Hf s 0=some (BU s)[0]:=VE (i:=0) h
def Gi {R α:Type} {body:(Int→Option R)→Int→Option R} (l:List α) (hl:l.length<Aj) (p:α→Bool) (bad:R) (rest:Option R)
 (u:∀k (i:Nat) (h:i<l.length),body k (i:Int)=bif p l[i]then some bad else k (Ai ((i:Int)+1))) (z:∀k,body k (l.length:Int)=rest):
 bI body Aj 0=bif l.any p then some bad else rest:=by
 have J:Aj=9223372036854775808:=rfl
 have key:∀n (i:Nat),i+n=l.length→∀m,n<m→bI body m (i:Int)=bif (l.drop i).any p then some bad else rest:=by
  intro n
  induction n with
  |zero=>
   intro i hi m hm;obtain⟨m,rfl⟩:∃q,m=q+1:=⟨m-1,AA⟩
   have :i=l.length:=AA
   subst this;show body (bI body m) _=_;rw[z,P8];rfl
  |succ n I=>
   intro i hi m hm;obtain⟨m,rfl⟩:∃q,m=q+1:=⟨m-1,AA⟩
   have j:i<l.length:=AA
   show body (bI body m) _=_;rw[u _ i j,wrap_succ i AA,I (i+1) AA m AA,Jq j,aH];cases p l[i]<;>rfl
 have :=key l.length 0 AA Aj hl;simpa using this
def bytes_inj {s t:ByteArray} (h:BU s=BU t):s=t:=by
 have hd:s.data.toList=t.data.toList:=by
  unfold BU at h;refine List.map_inj_right (f:=fun c:UInt8=>(c.toNat:Int)) (fun a b j=>?_) |>.1 h;exact UInt8.toNat_inj.1 AA
 obtain⟨⟨a⟩⟩:=s;obtain⟨⟨b⟩⟩:=t;simp only at hd;rw[hd]
def toList_inj {s t:ByteArray} (h:s.toList=t.toList):s=t:=by
 rw[ByteArray.toList_eq,ByteArray.toList_eq]at h;obtain⟨⟨a⟩⟩:=s;obtain⟨⟨b⟩⟩:=t;simp only at h;rw[h]
def IB {s t:ByteArray}:(s.toList==t.toList)=decide (s=t):=by
 by_cases h:s=t
 ·subst h;simp
 have :s.toList≠t.toList:=fun e=>h (toList_inj e);simp[h,this]
def J6 {R α:Type} {body:(Int→Option R)→Int→Option R} (l:List α) (hl:l.length<Aj) (q:α→Bool) (g:Nat→Option R) (rest:Option R)
 (z:∀k (i:Nat) (h:i<l.length),body k (i:Int)=bif q l[i]then g i else k (Ai ((i:Int)+1))) (I:∀k,body k (l.length:Int)=rest):
 bI body Aj 0=if l.findIdx q<l.length then g (l.findIdx q)else rest:=by
 have L:Aj=9223372036854775808:=rfl
 have key:∀n (i:Nat),i+n=l.length→∀m,n<m→bI body m (i:Int)=if(l.drop i).findIdx q+i<l.length then g ((l.drop i).findIdx q+i)else rest:=by
  intro n
  induction n with
  |zero=>
   intro i hi m hm;obtain⟨m,rfl⟩:∃u,m=u+1:=⟨m-1,AA⟩
   have :i=l.length:=AA
   subst this;show body (bI body m) _=_;rw[I,P8,CU AA]
  |succ n J=>
   intro i hi m hm;obtain⟨m,rfl⟩:∃u,m=u+1:=⟨m-1,AA⟩
   have j:i<l.length:=AA
   show body (bI body m) _=_;rw[z _ i j,wrap_succ i AA,J (i+1) AA m AA,Jq j,Qr];cases q l[i]with
   |true=>simp[j]
   |false=>simp only[Am];rw[show(l.drop (i+1)).findIdx q+(i+1)=(l.drop (i+1)).findIdx q+1+i by omega]
 have :=key l.length 0 AA Aj hl;simpa using this
def fD {s:ByteArray} {lo hi:Nat} (j:lo≤hi) (q:hi≤s.size):NU s (lo:Int) (hi:Int)=some (s.extract lo hi):=by
 unfold NU;rw[CP ⟨AA,AA,AA⟩];simp
def aS0 (s:ByteArray) (a b:Nat):BU (s.extract a b)=((BU s).take b).drop a:=by
 simp[BU,ByteArray.data_extract,ZR,XR,List.extract_eq_drop_take']
def qM (l:List α) (q:α→Bool):(bif l.any (fun c=> !q c)then false else true)=l.all q:=by
 have :l.any (fun c=> !q c)= !l.all q:=by simp[List.not_all_eq_any_not]
 rw[this];cases l.all q<;>rfl
def aKl :∀(l:List UInt8) (c:UInt8),Lib.indexByte l c=if l.findIdx (· ==c)<l.length then((l.findIdx (· ==c):Nat):Int)else -1
 | [],c=>rfl
 |b::l,c=>by
  unfold Lib.indexByte;rw[Qr];cases h:b==c with
  |true=>simp
  |false=>
   rw[aKl l c];simp only[Qh,Jl,Am,FV];by_cases hl:l.findIdx (· ==c)<l.length
   ·simp only[hl,JV,show l.findIdx (· ==c)+1<l.length+1 by omega];have :(((l.findIdx (· ==c):Nat):Int)== -1)=false:=Aw
    simp[this]
   simp[hl,show ¬l.findIdx (· ==c)+1<l.length+1 by omega]
end Go.Proofs.YtkkdimcnpacjhaaGreat
end
section
namespace Go.Proofs.YtkkdimcnpacjhaaGreat
open Go.RowKit
structure EY (e:AB):Prop where
 prev:e.aZ.length≤40
 auth:e.bg.length≤40
 allow:e.Content.Allow.length≤100
 deny:e.Content.jd.length≤100
 users:e.Content.Levels.Users.length≤100
 kinds:e.Content.Levels.Kinds.length≤100
 room:e.Room.size≤2000
 sender:e.aU.size≤2000
 key:e.Key.size≤2000
 text:e.Content.Text.size≤2000
 via:e.Content.Via.size≤2000
 server:e.su.Server.size≤2000
 allows:∀x∈e.Content.Allow,x.size≤2000
 denies:∀x∈e.Content.jd,x.size≤2000
 names:∀x∈e.Content.Levels.Users,x.User.size≤2000
def ace {α:Type} {l:List α} {P:α→Prop} (h:∀j,(hl:j<l.length)→P l[j]):∀x∈l,P x:=fun x q=>by
 obtain⟨j,u,rfl⟩:=G5 q;exact h j u
def Bl {α R:Type} {l:List α} {i:Nat} (h:i<l.length) (f:α→Option R) (z:Option R):(bif decide ((i:Int)<(l.length:Int))then(Ag l (i:Int)).bind f else z)=f l[i]:=by
 rw[show decide ((i:Int)<(l.length:Int))=true by simpa using h,BZ h];rfl
def DZ {α R:Type} {l:List α} (y z:Option R):(bif decide ((l.length:Int)<(l.length:Int))then y else z)=z:=by
 rw[show decide ((l.length:Int)<(l.length:Int))=false by simp];rfl
def fuel_lt {n:Nat} (h:n≤1099511627776):n<Aj:=fA
def dec_lt {i n:Nat} (h:i<n):decide ((i:Int)<(n:Int))=true:=J3
def CX (n:Nat):decide ((n:Int)<(n:Int))=false:=Aw
def Hu {R A α:Type} {body:(A→Int→Option R)→A→Int→Option R} (l:List α) (hl:l.length≤1099511627776) (step:A→α→A) (I:Nat→A→Prop) (j:A→Option R) {a0:A} (z:I 0 a0)
 (J:∀k a (i:Nat) (h:i<l.length),I i a→I (i+1) (step a l[i])∧body k a (i:Int)=k (step a l[i]) (Ai ((i:Int)+1)))
 (L:∀k a,I l.length a→body k a (l.length:Int)=j a):aT body Aj a0 0=j (l.foldl step a0):=by
 have key:∀n (i:Nat) (a:A),i+n=l.length→I i a→∀m,n<m→aT body m a (i:Int)=j ((l.drop i).foldl step a):=by
  intro n
  induction n with
  |zero=>
   intro i a hi ha m hm;obtain⟨m,rfl⟩:∃u,m=u+1:=⟨m-1,AA⟩
   have :i=l.length:=AA
   subst this;show body (aT body m) _ _=_;rw[L _ _ ha,P8];rfl
  |succ n M=>
   intro i a hi ha m hm;obtain⟨m,rfl⟩:∃u,m=u+1:=⟨m-1,AA⟩
   have q:i<l.length:=AA
   obtain⟨O,U⟩:=J (aT body m) a i q ha;show body (aT body m) _ _=_;rw[U,wrap_succ i AA,M (i+1) _ AA O m AA,Jq q,Ey]
 have :=key l.length 0 a0 AA z Aj (fuel_lt hl);simpa using this
def jJ {R A α:Type} {body:(Int→A→Option R)→Int→A→Option R} (l:List α) (hl:l.length≤1099511627776) (step:A→α→A) (I:Nat→A→Prop) (j:A→Option R) {a0:A} (z:I 0 a0)
 (J:∀k a (i:Nat) (h:i<l.length),I i a→I (i+1) (step a l[i])∧body k (i:Int) a=k (Ai ((i:Int)+1)) (step a l[i]))
 (L:∀k a,I l.length a→body k (l.length:Int) a=j a):aT body Aj 0 a0=j (l.foldl step a0):=by
 have key:∀n (i:Nat) (a:A),i+n=l.length→I i a→∀m,n<m→aT body m (i:Int) a=j ((l.drop i).foldl step a):=by
  intro n
  induction n with
  |zero=>
   intro i a hi ha m hm;obtain⟨m,rfl⟩:∃u,m=u+1:=⟨m-1,AA⟩
   have :i=l.length:=AA
   subst this;show body (aT body m) _ _=_;rw[L _ _ ha,P8];rfl
  |succ n M=>
   intro i a hi ha m hm;obtain⟨m,rfl⟩:∃u,m=u+1:=⟨m-1,AA⟩
   have q:i<l.length:=AA
   obtain⟨O,U⟩:=J (aT body m) a i q ha;show body (aT body m) _ _=_;rw[U,wrap_succ i AA,M (i+1) _ AA O m AA,Jq q,Ey]
 have :=key l.length 0 a0 AA z Aj (fuel_lt hl);simpa using this
def JK {α:Type} (p:α→Bool):∀l:List α,l.find? p=l[l.findIdx p]?
 | []=>rfl
 |x::l=>by
  rw[KA,Qr];cases h:p x with
  |true=>rfl
  |false=>simp[JK p l]
def DV (l:List AB) (id:Int):Option AB:=l.find? fun e=>e.Id==id
def Fq (l:List AB) (id:Int):AB×Bool:=match DV l id with
 |some e=>(e,true)
 |none=>(Bh,false)
def aDM {l:List AB} {id:Int} {e:AB} (h:DV l id=some e):e.Id=id:=by
 have :=Td h;simpa using this
def Ht {l:List AB} {id:Int} {e:AB} (h:DV l id=some e):e∈l:=OA h
def OM (l:List AB) (id:Int):(Fq l id).2=(DV l id).isSome:=by
 unfold Fq;cases DV l id<;>rfl
def aDg (l:List AB) (hl:l.length≤1099511627776) (f:AB→Option Bool) (p:AB→Bool) (j:∀e,f e=some (p e)):
 kn l f=some (if l.findIdx p<l.length then((l.findIdx p:Nat):Int)else -1):=by
 unfold kn aam;rw[J6 l (fuel_lt hl) p (fun i=>some (i:Int)) (some (-1))]
 ·split<;>rfl
 ·intro k i h;unfold aOQ;rw[Bl h,j];rfl
 intro k;unfold aOQ;rw[DZ]
def found_eq (l:List AB) (p:AB→Bool) {n:Int} (j:n=if l.findIdx p<l.length then((l.findIdx p:Nat):Int)else -1):
 (bif decide (n<0)then some (Bh,false)else(Ag l n).bind fun q=>some (q,true))=some (match l.find? p with |some e=>(e,true)|none=>(Bh,false)):=by
 subst j;rw[JK];by_cases h:l.findIdx p<l.length
 ·rw[CP h,DC h,show decide (((l.findIdx p:Nat):Int)<0)=false by simp,BZ h];rfl
 rw[CU h,I8 AA];rfl
def Np (l:List AB) (id:Int) (hl:l.length≤1099511627776):Mc l id=some (Fq l id):=by
 unfold Mc gX xY;rw[aDg l hl _ (fun e=>e.Id==id) fun _=>rfl];exact found_eq l _ rfl
def aHp (l:List AB) (id:Int) (hl:l.length≤1099511627776):aQ l id=some (if l.findIdx (fun e=>e.Id==id)<l.length then((l.findIdx (fun e=>e.Id==id):Nat):Int)else -1):=by
 unfold aQ aWZ;rw[J6 l (fuel_lt hl) (fun e=>e.Id==id) (fun i=>some (i:Int)) (some (-1))]
 ·split<;>rfl
 ·intro k i h;unfold aNt;rw[Bl h]
 intro k;unfold aNt;rw[DZ]
def Jp (l:List AB) (id:Int) (hl:l.length≤1099511627776):JC l id=some (Fq l id):=by
 unfold JC;rw[aHp l id hl];exact found_eq l _ rfl
def ofIds (l:List AB) (ids:List Int):List AB:=ids.filterMap (DV l)
def foldl_append {α β:Type} (f:α→List β):∀(l:List α) (a:List β),l.foldl (fun r x=>r++f x) a=a++l.flatMap f
 | [],a=>Aw
 |x::l,a=>by rw[Ey,foldl_append f l,JX,HY]
def aQR (l:List AB):∀ids,ofIds l ids=ids.flatMap fun id=>(DV l id).toList
 | []=>rfl
 |id::ids=>by
  unfold ofIds;rw[Lr,JX,←aQR l ids];cases DV l id<;>rfl
def toList_le {α:Type} (o:Option α):o.toList.length≤1:=by cases o<;>simp
def LW {l:List AB} {id:Int} {e:AB} (h:DV l id=some e):Fq l id=(e,true):=by unfold Fq;rw[h]
def Rn {l:List AB} {id:Int} (h:DV l id=none):Fq l id=(Bh,false):=by unfold Fq;rw[h]
def XU (l:List AB) (ids:List Int):(ofIds l ids).length≤ids.length:=aJU ..
def abA (l:List AB) (ids:List Int):ids.foldl (fun r id=>r++(DV l id).toList) []=ofIds l ids:=by
 rw[foldl_append (fun id=>(DV l id).toList),aQR];rfl
def aTe (l:List AB) (ids:List Int) (hl:l.length≤1000) (hi:ids.length≤1000000):rE l ids=some (ofIds l ids):=by
 unfold rE
 have hm:IK 376 Bh 0 (ids.length:Int)=some []:=by
  unfold IK;rw[CP aCl];rfl
 rw[hm];simp only[AP];unfold aWy;rw[Hu ids AA (fun r id=>r++(DV l id).toList) (fun i r=>r.length≤i) (fun r=>some r) Aw]
 ·rw[abA]
 ·intro k a i h q;have ht:=toList_le (DV l ids[i]);refine⟨KY,?_⟩;unfold aMm Opn;rw[Bl h,Np l _ AA];cases j:DV l ids[i]with
  |none=>simp[Rn j]
  |some e=>
   rw[LW j];simp only[AP,BD,QZ];rw[Cx FK];rfl
 intro k a q;unfold aMm;rw[DZ]
def aIy (l:List AB) (ids:List Int) (hl:l.length≤1000) (hi:ids.length≤1000000):nZ l ids=some (ofIds l ids):=by
 unfold nZ aQp;rw[Hu ids AA (fun r id=>r++(DV l id).toList) (fun i r=>r.length≤i) (fun r=>some r) Aw]
 ·rw[abA]
 ·intro k a i h q;have ht:=toList_le (DV l ids[i]);refine⟨KY,?_⟩;unfold aLr aML;rw[Bl h,Jp l _ AA];cases j:DV l ids[i]with
  |none=>simp[Rn j]
  |some e=>
   rw[LW j];simp only[AP,BD,QZ];rw[Cx FK];rfl
 intro k a q;unfold aLr;rw[DZ]
def aEe {α:Type} (l:List α) (i:Nat) (x:α) (h:i<l.length):l.set i x=l.take i++x::l.drop (i+1):=aN5▸by simp[h]
def aAS {α:Type} (A:List α) (g:α) (D:List α) {n:Nat} (h:A.length=n):(A++g::D).take n=A∧(A++g::D).drop (n+1)=D:=by
 subst h;simp
def aMG (l:List Int) (x:Int) (hi:Inc l) (hl:l.length≤1000000):uz l x=some (put l x):=by
 refine dX.eq ?_;unfold uz aYb
 have L:∀i,i≤l.length→(∀j,(Y:j<i)→(hl:j<l.length)→l[j]<x)→(∀h:i<l.length,x<l[i])→put l x=l.take i++x::l.drop i:=by
  intro i hi' h1 O;obtain⟨e1,U⟩:=aOl (decide<| · <x) l i hi' (fun j Y hl=>by simpa using h1 j Y hl) (fun hl=>by have :=O hl;simp;omega)
  have hno:DL l x=false:=OE.2 fun hm=>by
   obtain⟨q,hq,e4⟩:=G5 hm;rcases Yl q i with h5|h5
   ·have :=h1 q h5 hq;omega
   have h6:=O AA;rcases Yl i q with h7|h7
   ·have :=IZ.1 hi i q AA hq h7;omega
   have :q=i:=AA
   subst this;omega
  unfold put;rw[hno,e1,U];rfl
 have z:∀i,i≤l.length→∀d,d≤l.length-i→∀m,d<m→dX (aT (Uo (i:Int) x) m ((i+d:Nat):Int) (l.take (i+d)++(l++[x]).getD (i+d) 0::l.drop (i+d))) (· =l.take i++x::l.drop i):=by
  intro i I d
  induction d with
  |zero=>
   intro _ m hm;obtain⟨m,rfl⟩:∃m',m=m'+1:=⟨m-1,AA⟩
   show dX (Uo (i:Int) x (aT (Uo (i:Int) x) m) _ _) _;generalize aT (Uo (i:Int) x) m=k;unfold Uo;rw[show decide (((i+0:Nat):Int)>(i:Int))=false by simp];simp only[Am,OD];have hlen:i<(l.take i++(l++[x]).getD i 0::l.drop i).length:=DW
   rw[BZ hlen];refine .ret ?_;rw[Rq,aEe _ _ _ hlen];simp[aCt,aIx,iQ I]
  |succ d ih=>
   intro hd m hm;obtain⟨m,rfl⟩:∃m',m=m'+1:=⟨m-1,AA⟩
   have Z:=ih AA m AA;show dX (Uo (i:Int) x (aT (Uo (i:Int) x) m) _ _) _;generalize aT (Uo (i:Int) x) m=k at Z ⊢;unfold Uo;rw[show decide (((i+(d+1):Nat):Int)>(i:Int))=true by simp;omega];simp only[BD];have w:Ai (((i+(d+1):Nat):Int)-1)=((i+d:Nat):Int):=Ph
   have J:i+d<l.length:=AA
   have hL:(l.take (i+(d+1))++(l++[x]).getD (i+(d+1)) 0::l.drop (i+(d+1))).length=l.length+1:=DW
   have h1:i+d<(l.take (i+(d+1))++(l++[x]).getD (i+(d+1)) 0::l.drop (i+(d+1))).length:=AA
   have O:i+(d+1)<(l.take (i+(d+1))++(l++[x]).getD (i+(d+1)) 0::l.drop (i+(d+1))).length:=AA
   rw[w,BZ h1];simp only[AP];rw[BZ O];simp only[AP]
   have hg:(l.take (i+(d+1))++(l++[x]).getD (i+(d+1)) 0::l.drop (i+(d+1)))[i+d]=l[i+d]:=by
    rw[aKf DW];simp
   rw[hg,Rq,aEe _ _ _ O]
   have e:(l.take (i+(d+1))++(l++[x]).getD (i+(d+1)) 0::l.drop (i+(d+1))).take (i+(d+1))++l[i+d]::(l.take (i+(d+1))++(l++[x]).getD (i+(d+1)) 0::l.drop (i+(d+1))).drop (i+(d+1)+1)=l.take (i+d)++(l++[x]).getD (i+d) 0::l.drop (i+d):=by
    have ht:(l.take (i+(d+1))).length=i+(d+1):=DW
    rw[(aAS _ _ _ ht).1,(aAS _ _ _ ht).2];have h3:(l++[x]).getD (i+d) 0=l[i+d]:=by simp[List.getD,GZ J,J]
    rw[h3,show i+(d+1)=i+d+1 by omega,Nc J,Jq J,HY];rfl
   rw[e];exact Z
 have u:l++[x]=l.take l.length++(l++[x]).getD l.length 0::l.drop l.length:=Aw
 refine aA7 l.length (fuel_lt AA) (fun i=>∀j,(Y:j<i)→(hl:j<l.length)→l[j]<x) (fun j Y=>AA) ?_ ?_
 ·intro i k I hI hk;unfold aLU;rw[show decide ((i:Int)<(l.length:Int))=true by simpa using I,BZ I];simp only[BD,AP];refine dX.bif (fun e=>?_) fun e=>?_
  ·rw[wrap_succ i AA];refine hk fun j Y hl'=>?_;by_cases ej:j=i
   ·subst ej;simpa using e
   exact hI j AA hl'
  have hge:¬l[i]<x:=SA
  refine dX.bif (fun U=>?_) fun U=>?_
  ·have hx:l[i]=x:=aDm
   refine .ret ?_;unfold put;rw[Iu.2 (hx▸ED I)];rfl
  have hx:l[i]≠x:=aDm
  rw[Cx FK];simp only[AP];rw[L i AA hI (fun _=>AA)];have w:Ai (((l++[x]).length:Int)-1)=((i+(l.length-i):Nat):Int):=aNy
  rw[w];have M:=z i AA (l.length-i) (Dn _) Aj (fuel_lt AA);rw[show i+(l.length-i)=l.length by omega]at M ⊢;rw[←u]at M;exact M
 intro k hI;unfold aLU;rw[show decide ((l.length:Int)<(l.length:Int))=false by simp];simp only[Am,AP];rw[Cx FK];simp only[AP];rw[L l.length (Dn _) hI (fun h=>AA)];have w:Ai (((l++[x]).length:Int)-1)=((l.length+0:Nat):Int):=aNy
 rw[w];have M:=z l.length (Dn _) 0 AA Aj (fuel_lt AA);rw[OD]at M ⊢;rw[←u]at M;exact M
def bV (l:List AB) (id:Int):Bool:=(DV l id).isSome
def ZB (l:List AB) (ids:List Int):List Int:=ids.foldl (fun r id=>bif bV l id then r else put r id) []
def gK (l:List AB) (ids:List Int):List Int:=(EF ids).filter (bV l)
def LQ {l:List AB} {ids:List Int} {x:Int}:x∈gK l ids↔x∈ids∧bV l x=true:=by unfold gK;rw[FN,IY]
def Zw (l:List AB) (ids:List Int):Inc (gK l ids):=(Jk ids).sublist QM
def ane (l:List AB) (ids:List Int):(gK l ids).length≤ids.length:=Ed (J4 _ _) (KW ids)
def aIz (l:List AB):∀(ids r:List Int),Inc r→Inc (ids.foldl (fun r id=>bif bV l id then r else put r id) r)∧∀x,x∈ids.foldl (fun r id=>bif bV l id then r else put r id) r↔x∈r∨x∈ids∧bV l x=false
 | [],r,h=>⟨h,fun x=>Aw⟩
 |id::ids,r,h=>by
  rw[Ey];cases z:bV l id with
  |true=>
   obtain⟨q,u⟩:=aIz l ids r h;refine⟨q,fun x=>(u x).trans ⟨fun h=>?_,fun h=>?_⟩⟩
   ·rcases h with h|h
    ·exact .inl h
    exact .inr ⟨F5 _ h.1,h.2⟩
   rcases h with h|⟨h,j⟩
   ·exact .inl h
   rcases EG.1 h with rfl|h
   ·rw[z]at j;cases j
   exact .inr ⟨h,j⟩
  |false=>
   obtain⟨q,u⟩:=aIz l ids (put r id) (SV h);refine⟨q,fun x=>(u x).trans ?_⟩;rw[WL,EG];constructor
   ·rintro((h|rfl)|h)
    ·exact .inl h
    ·exact .inr ⟨.inl rfl,z⟩
    exact .inr ⟨.inr h.1,h.2⟩
   rintro(h|⟨rfl|h,j⟩)
   ·exact .inl (.inl h)
   ·exact .inl (.inr rfl)
   exact .inr ⟨h,j⟩
def aIi {l:List AB} {ids:List Int} {x:Int}:x∈ZB l ids↔x∈ids∧bV l x=false:=by
 unfold ZB;rw[(aIz l ids [] .nil).2 x];simp
def aSC (l:List AB) (ids:List Int):(ZB l ids).length≤ids.length:=by
 have key:∀(ids r:List Int),(ids.foldl (fun r id=>bif bV l id then r else put r id) r).length≤r.length+ids.length:=by
  intro ids
  induction ids with
  |nil=>intro r;simp
  |cons id ids j=>
   intro r;rw[Ey];have q:=j (bif bV l id then r else put r id)
   have u:(bif bV l id then r else put r id).length≤r.length+1:=by
    cases bV l id with
    |true=>exact Nat.le_succ _
    |false=>exact iG r id
   simp only[FV];omega
 have :=key ids [];simpa[ZB]using this
def aNB (l:List AB) (ids:List Int) (hl:l.length≤1000) (hi:ids.length≤100000):pK l ids=some (ZB l ids):=by
 unfold pK aSK;rw[Hu ids AA (fun r id=>bif bV l id then r else put r id) (fun i r=>Inc r∧r.length≤i) (fun r=>some r) ⟨.nil,Dn _⟩]
 ·rfl
 ·intro k a i h j;have hp:=aHp l ids[i] AA
  have u:bV l ids[i]=decide (l.findIdx (fun e=>e.Id==ids[i])<l.length):=by
   unfold bV DV;rw[JK];by_cases h:l.findIdx (fun e=>e.Id==ids[i])<l.length
   ·rw[DC h,Gu h];rfl
   rw[I8 AA,Gv h];rfl
  refine⟨?_,?_⟩
  ·cases bV l ids[i]with
   |true=>exact⟨j.1,by have :=j.2;show a.length≤i+1;omega⟩
   |false=>exact⟨SV j.1,by have :=iG a ids[i];have :=j.2;show(put a ids[i]).length≤i+1;omega⟩
  unfold aLV aNw;rw[Bl h,hp];simp only[AP];by_cases q:l.findIdx (fun e=>e.Id==ids[i])<l.length
  ·rw[CP q,u,Gu q,show decide (((l.findIdx (fun e=>e.Id==ids[i]):Nat):Int)<0)=false by simp];rfl
  rw[CU q,u,Gv q,BZ h];simp only[show decide ((-1:Int)<0)=true by decide,BD,Am,AP];rw[aMG a _ j.1 (by have :=j.2;omega)];rfl
 intro k a j;unfold aLV;rw[DZ]
def aGC (a b:List Int) (h:a.length≤274877906944) (z:b.length≤274877906944):iR a b=some (OQ a b):=by
 unfold iR;rw[aPL a h];simp only[AP];have ha:=KW a;unfold aX3;rw[Hu (EF a) AA (fun r x=>bif DL b x then r else r++[x]) (fun i r=>r.length≤i) (fun r=>some r) (Dn _)]
 ·congr 1;unfold OQ;generalize EF a=S
  have key:∀(S r:List Int),S.foldl (fun r x=>bif DL b x then r else r++[x]) r=r++S.filter (fun x=> !DL b x):=by
   intro S
   induction S with
   |nil=>intro r;simp
   |cons x S j=>
    intro r;rw[Ey,j,Qy];cases DL b x<;>simp
  simpa using key S []
 ·intro k r i h q;have u:=VY b (EF a)[i] AA;refine⟨?_,?_⟩
  ·cases DL b (EF a)[i]with
   |true=>show r.length≤i+1;omega
   |false=>show(r++[(EF a)[i]]).length≤i+1;simp;omega
  unfold aKw aMe;rw[Bl h,u];simp only[AP];cases DL b (EF a)[i]with
  |true=>rfl
  |false=>
   simp only[Il,BD,Am];rw[BZ h];simp only[AP];rw[Cx FK];rfl
 intro k r q;unfold aKw;rw[DZ]
def aVd (l:List AB) (ids:List Int):OQ ids (ZB l ids)=gK l ids:=
 xH (aHO _ _) (Zw _ _) fun x=>by
  rw[aGc,aIi,LQ];cases bV l x<;>simp
def aha (l:List AB) (ids:List Int) (hl:l.length≤1000) (hi:ids.length≤100000):aNz l ids=some (gK l ids):=by
 unfold aNz;rw[aNB l ids hl hi];simp only[AP];have :=aSC l ids;rw[aGC _ _ AA AA,aVd];rfl
def aYp (l:List AB) (ids:List Int) (hl:l.length≤1000) (hi:ids.length≤100000):aA4 l ids=some (gK l ids):=by
 unfold aA4;rw[aNB l ids hl hi];simp only[AP];have :=aSC l ids;rw[aGC _ _ AA AA,aVd];rfl
def iO (l:List AB) (id:Int):List Int:=(Fq l id).1.bg
def Tc (l:List AB) (r:List Int) (x:Int):List Int:=bif bV l x then put r x else r
def Jd (l:List AB) (ids:List Int):List Int:=ids.foldl (fun r id=>(iO l id).foldl (Tc l) r) []
def aC7 (l:List AB):∀(xs r:List Int),Inc r→Inc (xs.foldl (Tc l) r)∧(∀x,x∈xs.foldl (Tc l) r↔x∈r∨x∈xs∧bV l x=true)∧(xs.foldl (Tc l) r).length≤r.length+xs.length
 | [],r,h=>⟨h,fun x=>Aw,Aw⟩
 |y::xs,r,h=>by
  rw[Ey];unfold Tc;cases I:bV l y with
  |true=>
   obtain⟨u,z,j⟩:=aC7 l xs (put r y) (SV h);refine⟨u,fun x=>(z x).trans ?_,?_⟩
   ·rw[WL,EG];constructor
    ·rintro((h|rfl)|h)
     ·exact .inl h
     ·exact .inr ⟨.inl rfl,I⟩
     exact .inr ⟨.inr h.1,h.2⟩
    rintro(h|⟨rfl|h,q⟩)
    ·exact .inl (.inl h)
    ·exact .inl (.inr rfl)
    exact .inr ⟨h,q⟩
   have :=iG r y;simp only[FV,BD]at j ⊢;exact Ed j AA
  |false=>
   obtain⟨u,z,j⟩:=aC7 l xs r h;refine⟨u,fun x=>(z x).trans ⟨fun h=>?_,fun h=>?_⟩,?_⟩
   ·rcases h with h|h
    ·exact .inl h
    exact .inr ⟨F5 _ h.1,h.2⟩
   ·rcases h with h|⟨h,q⟩
    ·exact .inl h
    rcases EG.1 h with rfl|h
    ·rw[I]at q;cases q
    exact .inr ⟨h,q⟩
   simp only[FV,Am]at j ⊢;exact Ed j AA
def aKA (l:List AB):∀(ids r:List Int),Inc r→Inc (ids.foldl (fun r id=>(iO l id).foldl (Tc l) r) r)∧∀x,x∈ids.foldl (fun r id=>(iO l id).foldl (Tc l) r) r↔x∈r∨bV l x=true∧∃id∈ids,x∈iO l id
 | [],r,h=>⟨h,fun x=>Aw⟩
 |id::ids,r,h=>by
  rw[Ey];obtain⟨q,u,_⟩:=aC7 l (iO l id) r h;obtain⟨z,I⟩:=aKA l ids _ q;refine⟨z,fun x=>(I x).trans ?_⟩;rw[u x];constructor
  ·rintro((h|h)|⟨h3,i,j,h5⟩)
   ·exact .inl h
   ·exact .inr ⟨h.2,id,EO ..,h.1⟩
   exact .inr ⟨h3,i,F5 _ j,h5⟩
  rintro(h|⟨h3,i,j,h5⟩)
  ·exact .inl (.inl h)
  rcases EG.1 j with rfl|j
  ·exact .inl (.inr ⟨h5,h3⟩)
  exact .inr ⟨h3,i,j,h5⟩
def wu (l:List AB) (ids:List Int):Inc (Jd l ids):=(aKA l ids [] .nil).1
def RF {l:List AB} {ids:List Int} {x:Int}:x∈Jd l ids↔bV l x=true∧∃id∈ids,x∈iO l id:=by
 unfold Jd;rw[(aKA l ids [] .nil).2 x];simp
def chainOf (l:List AB) (ids:List Int):List Int:=l.foldl (fun s _=>Hq s (Jd l s)) (Jd l (gK l ids))
inductive KC (l:List AB) (ids:List Int):Int→Prop
 |one {i x:Int} (h:i∈ids) (hx:x∈iO l i) (hk:bV l x=true):KC l ids x
 |more {y x:Int} (h:KC l ids y) (hx:x∈iO l y) (hk:bV l x=true):KC l ids x
def agK {l:List AB} {i x:Int} (h:x∈iO l i):bV l i=true:=by
 unfold iO at h;unfold bV;cases j:DV l i with
 |none=>rw[Rn j]at h;cases h
 |some e=>rfl
def rM {s t:List Int} (hs:Inc s) (ht:Inc t) (h:∀x∈s,x∈t):s.length≤t.length∧(t.length≤s.length→s=t):=by
 have e:s=t.filter (fun x=>DL s x):=xH hs (ht.sublist QM) fun x=>by
  rw[FN,Iu];exact⟨fun j=>⟨h x j,j⟩,fun j=>j.2⟩
 have hl:=J4 (fun x=>DL s x) t;refine⟨by rw[e];exact hl,fun q=>?_⟩;have u:(t.filter (fun x=>DL s x)).length=t.length:=by have :=Ap List.length e;omega
 rw[e];exact XI.2 (aQG.1 u)
def S9 (l:List AB):List Int:=EF (l.map (·.Id))
def vJ {l:List AB} {x:Int} (h:bV l x=true):x∈S9 l:=by
 unfold bV at h;obtain⟨e,j⟩:=SX.1 h;exact IY.2 (Dp.2 ⟨e,Ht j,aDM j⟩)
def aB7 (l:List AB):∀(l':List AB) (s:List Int),Inc s→(∀x∈s,bV l x=true)→
 Inc (l'.foldl (fun s _=>Hq s (Jd l s)) s)∧(∀x∈l'.foldl (fun s _=>Hq s (Jd l s)) s,bV l x=true)∧(∀x∈s,x∈l'.foldl (fun s _=>Hq s (Jd l s)) s)∧
 ((S9 l).length≤s.length+l'.length→∀x∈Jd l (l'.foldl (fun s _=>Hq s (Jd l s)) s),x∈l'.foldl (fun s _=>Hq s (Jd l s)) s)
 | [],s,hs,I=>⟨hs,I,fun _ h=>h,fun hlen x q=>by
     have J:=(rM hs (Jk _) (fun x q=>vJ (I x q))).2 (by show(S9 l).length≤s.length;simpa using hlen);have u:=vJ (RF.1 q).1;unfold S9 at u
     rw[←J]at u;exact u⟩
 |e::l',s,hs,I=>by
  rw[Ey]
  have L:∀x∈Hq s (Jd l s),bV l x=true:=fun x q=>by
   rcases Tq.1 q with h|h
   ·exact I x h
   exact(RF.1 h).1
  obtain⟨J,u,M,O⟩:=aB7 l l' (Hq s (Jd l s)) (uQ _ _) L;refine⟨J,u,fun x q=>M x (Tq.2 (.inl q)),fun hlen=>?_⟩;have z:=rM hs (uQ s (Jd l s)) fun x q=>Tq.2 (.inl q);by_cases j:s=Hq s (Jd l s)
  ·
   have hst:∀(l':List AB),l'.foldl (fun s _=>Hq s (Jd l s)) s=s:=by
    intro l'
    induction l' with
    |nil=>rfl
    |cons e l' U=>rw[Ey,←j,U]
   rw[←j,hst];intro x q;rw[j];exact Tq.2 (.inr q)
  ·refine O ?_
   have :s.length<(Hq s (Jd l s)).length:=by
    rcases Yl s.length (Hq s (Jd l s)).length with h|h
    ·exact h
    exact absurd (z.2 h) j
   simp only[FV]at hlen;omega
def aGE (l:List AB) (ids:List Int):Inc (chainOf l ids):=(aB7 l l _ (wu _ _) fun _ j=>(RF.1 j).1).1
def akn {l:List AB} {ids:List Int} {x:Int} (h:x∈chainOf l ids):bV l x=true:=(aB7 l l _ (wu _ _) fun _ j=>(RF.1 j).1).2.1 x h
def aS1 (l:List AB) (ids:List Int):∀(l':List AB) (s:List Int),(∀x∈s,KC l ids x)→∀x∈l'.foldl (fun s _=>Hq s (Jd l s)) s,KC l ids x
 | [],s,h=>h
 |e::l',s,h=>by
  rw[Ey];refine aS1 l ids l' _ fun x j=>?_;rcases Tq.1 j with j|j
  ·exact h x j
  obtain⟨q,y,u,z⟩:=RF.1 j;exact .more (h y u) z q
def dJ {l:List AB} {ids:List Int} {x:Int}:x∈chainOf l ids↔KC l ids x:=by
 constructor
 ·refine aS1 l ids l _ (fun x j=>?_) x;obtain⟨z,y,I,q⟩:=RF.1 j;exact .one (LQ.1 I).1 q z
 obtain⟨z,I,q,J⟩:=aB7 l l _ (wu l (gK l ids)) fun _ j=>(RF.1 j).1
 have hlen:(S9 l).length≤(Jd l (gK l ids)).length+l.length:=by
  have :=KW (l.map (·.Id));unfold S9;simp only[CB]at this;omega
 have L:=J hlen;intro h
 induction h with
 |one h j u=>exact q _ (RF.2 ⟨u,_,LQ.2 ⟨h,agK j⟩,j⟩)
 |more h j u M=>exact L _ (RF.2 ⟨u,_,M,j⟩)
def dh (l:List AB) (ids:List Int):(chainOf l ids).length≤l.length:=by
 have j:=(rM (t:=S9 l) (aGE l ids) (Jk _) fun x q=>vJ (akn q)).1;have u:=KW (l.map fun e:AB=>e.Id);unfold S9 at j;simp only[CB]at u;omega
def Qp (l:List AB):Prop:=∀e∈l,e.bg.length≤40
def aCi {l:List AB} (h:Qp l) (id:Int):(iO l id).length≤40:=by
 unfold iO;cases j:DV l id with
 |none=>rw[Rn j];exact Ci _
 |some e=>rw[LW j];exact h e (Ht j)
def adU (l:List AB) (ids:List Int):(Jd l ids).length≤l.length:=by
 have j:=(rM (t:=S9 l) (wu l ids) (Jk _) fun x q=>vJ (RF.1 q).1).1;have u:=KW (l.map fun e:AB=>e.Id);unfold S9 at j;simp only[CB]at u;omega
def kZ {l:List AB} {r:List Int} (hi:Inc r) (h:∀x∈r,bV l x=true):r.length≤l.length:=by
 have j:=(rM (t:=S9 l) hi (Jk _) fun x q=>vJ (h x q)).1;have u:=KW (l.map fun e:AB=>e.Id);unfold S9 at j;simp only[CB]at u;omega
def ab4 (l:List AB) (ids:List Int) (hl:l.length≤1000) (ha:Qp l) (hi:ids.length≤100000):aB0 l ids true=some (Jd l ids):=by
 unfold aB0 aSv;rw[Hu ids AA (fun r id=>(iO l id).foldl (Tc l) r) (fun i r=>Inc r∧∀x∈r,bV l x=true) (fun r=>some r) ⟨.nil,fun x u=>by cases u⟩]
 ·rfl
 ·intro k r i h z;obtain⟨L,M,_⟩:=aC7 l (iO l ids[i]) r z.1;refine⟨⟨L,fun x u=>?_⟩,?_⟩
  ·rcases(M x).1 u with h|h
   ·exact z.2 x h
   exact h.2
  unfold aIj aKi;rw[Bl h,Jp l _ AA];simp only[AP,BD];show aJZ (iO l ids[i]) l k (i:Int) r 0=_;have O:=aCi ha ids[i];unfold aJZ;rw[Hu (iO l ids[i]) AA (Tc l) (fun _ r=>Inc r∧∀x∈r,bV l x=true) (fun r=>k r (Ai ((i:Int)+1))) z]
  ·intro k2 U j I q;refine⟨?_,?_⟩
   ·unfold Tc;cases J:bV l (iO l ids[i])[j]with
    |true=>exact⟨SV q.1,fun x u=>(WL.1 u).elim (q.2 x) fun e=>e▸J⟩
    |false=>exact q
   unfold aKX aJO;rw[Bl I,Jp l _ AA];simp only[AP,OM];show(bif bV l (iO l ids[i])[j]then _ else _)=_;unfold Tc;cases J:bV l (iO l ids[i])[j]with
   |true=>
    simp only[BD];rw[BZ I];simp only[AP];have :=kZ q.1 q.2;rw[Zk _ _ AA];rfl
   |false=>rfl
  intro k2 U _;unfold aKX;rw[DZ]
 intro k r z;unfold aIj;rw[DZ]
def amX (l:List AB) (ids:List Int) (hl:l.length≤1000) (ha:Qp l) (q:Inc ids) (u:∀x∈ids,bV l x=true):aJk l ids true=some (l.foldl (fun s _=>Hq s (Jd l s)) ids):=by
 unfold aJk aU9;rw[Hu l AA (fun s _=>Hq s (Jd l s)) (fun _ r=>Inc r∧∀x∈r,bV l x=true) (fun r=>some r) ⟨q,u⟩]
 ·intro k r i h j;refine⟨⟨uQ _ _,fun x z=>(Tq.1 z).elim (j.2 x) fun h=>(RF.1 h).1⟩,?_⟩;have I:=kZ j.1 j.2;have J:=adU l r;unfold aKj;rw[dec_lt h];simp only[BD];rw[ab4 l r hl ha AA];simp only[AP];rw[Src _ _ AA AA];rfl
 intro k r j;unfold aKj;rw[CX];rfl
def aLJ (l:List AB) (ids:List Int) (hl:l.length≤1000) (ha:Qp l) (hi:ids.length≤100000):lN l ids=some (chainOf l ids):=by
 unfold lN;have q:=ane l ids;rw[aha l ids hl hi];simp only[AP];rw[ab4 l _ hl ha AA];simp only[AP];rw[amX l _ hl ha (wu _ _) fun x j=>(RF.1 j).1];rfl
section
variable {R A B C D E F G : Type} {Q : R → Prop}
def QW {body:(A→B→C→Option R)→A→B→C→Option R} (I:Nat→A→B→C→Prop) (hs:∀m a b c k,I m a b c→(∀j a' q u,j<m→I j a' q u→dX (k a' q u) Q)→dX (body k a b c) Q):
 ∀n m a b c,m<n→I m a b c→dX (iY body n a b c) Q
 |0,m,_,_,_,h,_=>AA
 |n+1,m,a,b,c,h,hi=>hs m a b c _ hi fun j a' q u h' z=>QW I hs n j a' q u AA z
def aKk {body:(A→B→C→D→E→Option R)→A→B→C→D→E→Option R} (I:Nat→A→B→C→D→E→Prop) (hs:∀m a b c d e k,I m a b c d e→(∀j a' q u z e',j<m→I j a' q u z e'→dX (k a' q u z e') Q)→dX (body k a b c d e) Q):
 ∀n m a b c d e,m<n→I m a b c d e→dX (Fe body n a b c d e) Q
 |0,m,_,_,_,_,_,h,_=>AA
 |n+1,m,a,b,c,d,e,h,hi=>hs m a b c d e _ hi fun j a' q u z e' h' J=>aKk I hs n j a' q u z e' AA J
def aHH {body:(A→B→C→D→E→F→Option R)→A→B→C→D→E→F→Option R} (I:Nat→A→B→C→D→E→F→Prop) (hs:∀m a b c d e f k,I m a b c d e f→(∀j a' q u z e' J,j<m→I j a' q u z e' J→dX (k a' q u z e' J) Q)→dX (body k a b c d e f) Q):
 ∀n m a b c d e f,m<n→I m a b c d e f→dX (Fg body n a b c d e f) Q
 |0,m,_,_,_,_,_,_,h,_=>AA
 |n+1,m,a,b,c,d,e,f,h,hi=>hs m a b c d e f _ hi fun j a' q u z e' J h' L=>aHH I hs n j a' q u z e' J AA L
def aa2 {body:(A→B→C→D→E→F→G→Option R)→A→B→C→D→E→F→G→Option R} (I:Nat→A→B→C→D→E→F→G→Prop) (hs:∀m a b c d e f g k,I m a b c d e f g→(∀j a' q u z e' J L,j<m→I j a' q u z e' J L→dX (k a' q u z e' J L) Q)→dX (body k a b c d e f g) Q):
 ∀n m a b c d e f g,m<n→I m a b c d e f g→dX (aaW body n a b c d e f g) Q
 |0,m,_,_,_,_,_,_,_,h,_=>AA
 |n+1,m,a,b,c,d,e,f,g,h,hi=>hs m a b c d e f g _ hi fun j a' q u z e' J L h' M=>aa2 I hs n j a' q u z e' J L AA M
end
def QY {V:Type}:∀(m:List (Int×V)) (k k':Int) (v:V),CJ (Ea m k v) k'=bif k'==k then some v else CJ m k'
 | [],k,k',v=>by
   unfold Ea CJ;rfl
 |p::m,k,k',v=>by
  unfold Ea;cases h:k==p.1 with
  |true=>
   have j:k=p.1:=J3
   subst j;simp only[BD,CJ];cases k'==p.1<;>rfl
  |false=>
   have j:k≠p.1:=J3
   simp only[Am,CJ,QY m k k' v];cases q:k'==p.1 with
   |true=>
    have u:k'=p.1:=MN
    subst u;have :(p.1==k)=false:=by simpa using fun e:p.1=k=>j e.symm
    rw[this];rfl
   |false=>rfl
def Y6 (l:List AB) (m:List (Int×Int)):Prop:=∀id,(CJ m id=none∧DV l id=none)∨∃(n:Nat) (e:AB),CJ m id=some (n:Int)∧DV l id=some e∧l[n]? =some e
def Y6.isSome {l:List AB} {m:List (Int×Int)} (h:Y6 l m) (id:Int):(CJ m id).isSome=bV l id:=by
 unfold bV;rcases h id with⟨j,q⟩|⟨n,e,j,q,_⟩<;>rw[j,q]<;>rfl
def Y6.get {l:List AB} {m:List (Int×Int)} (h:Y6 l m) {id:Int} {e:AB} (q:DV l id=some e):Ag l ((CJ m id).getD 0)=some e:=by
 rcases h id with⟨_,j⟩|⟨n,e',u,j,z⟩
 ·rw[q]at j;cases j
 rw[q]at j;cases j;rw[u];show Ag l (n:Int)=_;rw[aEu,z]
def wQ (l:List AB) (hl:l.length≤1000):dX (YW l) (Y6 l):=by
 unfold YW aWn
 refine Xh (fun m a b=>∃i:Nat,a=(i:Int)-1∧m=i∧i≤l.length∧∀id,(CJ b id=none∧(l.drop i).find? (fun e=>e.Id==id)=none)∨∃(n:Nat) (e:AB),CJ b id=some (n:Int)∧(l.drop i).find? (fun e=>e.Id==id)=some e∧l[n]? =some e) ?_ Aj l.length _ _ (fuel_lt AA)
  ⟨l.length,Ph,rfl,Dn _,fun id=>.inl ⟨rfl,Aw⟩⟩
 rintro m a b k ⟨i,rfl,hm,hi,h⟩ z;unfold aXK;refine dX.bif (fun e=>?_) fun e=>?_
 ·have u:0<i:=by have :=YR e;omega
  have j:i-1<l.length:=AA
  have I:(i:Int)-1=((i-1:Nat):Int):=AA
  rw[I,BZ j];simp only[AP];refine z (i-1) _ _ AA ⟨i-1,Ph,rfl,AA,fun id=>?_⟩;rw[QY,Jq j,show i-1+1=i by omega,KA];cases q:l[i-1].Id==id with
  |true=>
   have :(id==l[i-1].Id)=true:=by have :l[i-1].Id=id:=MN
                                  simp[this]
   rw[this];exact .inr ⟨i-1,l[i-1],rfl,rfl,by simp[j]⟩
  |false=>
   have :(id==l[i-1].Id)=false:=by have :l[i-1].Id≠id:=MN
                                   simpa using fun e:id=l[i-1].Id=>this e.symm
   rw[this];exact h id
 have J:i=0:=by have :=KT e;omega
 subst J;refine .ret fun id=>?_;have :=h id;rw[lK]at this;exact this
inductive UZ (l:List AB) (from_:List Int):Int→Prop
 |one {x:Int} (h:x∈from_) (hk:bV l x=true):UZ l from_ x
 |more {y x:Int} (h:UZ l from_ y) (hx:x∈iO l y) (hk:bV l x=true):UZ l from_ x
def UZ.bV {l:List AB} {f:List Int} {x:Int} (h:UZ l f x):bV l x=true:=by cases h<;>assumption
def ap4 {r:List Int} {x:Int} (h:x∉r):(put r x).length=r.length+1:=by
 unfold put;rw[CU (by rw[Iu];exact h),E9,FV];have :=Ap List.length (wV (p:=(decide<| · <x)) (l:=r));rw[E9]at this;omega
def aQb (r:List Int) (x:Int):EF (r++[x])=put (EF r) x:=by unfold EF;rw[TQ];rfl
structure afy (l:List AB) (from_ next axC:List Int) (i:Nat) (out later:List Int) (found level:List (Int×Bool)):Prop where
 found:∀x,(CJ found x).getD false=true↔x∈out
 level:∀x,(CJ level x).getD false=true→x∈out
 nodup:(EF out).length=out.length
 rch:∀x∈out,UZ l from_ x
 seen:∀x∈next.take i,bV l x=true→x∈out
 sub:∀x∈axC,x∈out
 ref:∀y∈out,y∈axC∨∀x∈iO l y,x∈later
 back:∀x∈later,∃y∈out,x∈iO l y
 size:later.length+40*axC.length≤40*out.length
 same:out.length=axC.length→later=[]
def aI9 {l:List AB} {j:List Int} (h:(EF j).length=j.length) (q:∀x∈j,bV l x=true):j.length≤l.length:=by
 rw[←h];exact kZ (Jk j) fun x u=>q x (IY.1 u)
def al8 (l:List AB) {x:Int} {e:AB} (h:DV l x=some e):Yh e=some (iO l x):=by
 unfold Yh iO;rw[LW h]
def aeY (l:List AB) (q:List Int) (hl:l.length≤1000) (ha:Qp l) (hf:q.length≤10000000):
 dX (sB l q fun a0=>Yh a0) (fun r=>Inc r∧∀x,x∈r↔UZ l q x):=by
 unfold sB;refine(wQ l hl).bind fun at_ Z=>?_;unfold aRg
 refine aKk (fun m z next at' found level=>at'=at_∧m=2*(l.length-z.length)+(if next=[]then 0 else 1)∧next.length≤10000000∧(∀x,(CJ found x).getD false=true↔x∈z)∧(EF z).length=z.length∧
  (∀x∈z,UZ l q x)∧(∀x∈next,bV l x=true→UZ l q x)∧(∀x∈q,bV l x=true→x∈z∨x∈next)∧(∀y∈z,∀x∈iO l y,bV l x=true→x∈z∨x∈next)) ?_ Aj (2*(l.length-([]:List Int).length)+(if q=[]then 0 else 1)) _ _ _ _ _ ?_ ?_
 ·rintro m z next at2 found level k ⟨aG0,rfl,hn,h1,h2,h3,h4,h5,h6⟩ M;subst aG0;unfold aTK;have hol:=aI9 h2 fun x j=>(h3 x j).bV;refine dX.bif (fun e=>?_) fun e=>?_
  ·have hne:next≠[]:=by
    rintro rfl;simp at e
   unfold aRW;refine aHH (body:=aO9 next l (fun a0=>Yh a0) k) (fun(m:Nat) (o la:List Int) (c:Int) (d:List (Int×Int)) (fo le:List (Int×Bool))=>∃i:Nat,c=i∧i+m=next.length∧d=at2∧afy l q next z i o la fo le) ?_ Aj next.length _ _ _ _ _ _ fA ?_
   ·rintro m o la c d fo le k2 ⟨i,rfl,hm,rfl,u⟩ U;unfold aO9;refine dX.bif (fun e=>?_) fun e=>?_
    ·have hi:i<next.length:=SA
     have w:=wrap_succ i AA;have aG1:=aI9 u.nodup fun x j=>(u.rch x j).bV;rw[BZ hi];simp only[AP];rw[Z.isSome];unfold aEc;have J:next.take (i+1)=next.take i++[next[i]]:=by rw[Nc hi]
     cases Y:bV l next[i]with
     |false=>
      simp only[Il,BD,AP,w];refine U (m-1) _ _ _ _ _ _ AA ⟨i+1,rfl,AA,rfl,{ u with seen:=fun x j M=>?_ }⟩;rw[J,Hl]at j;rcases j with j|j
      ·exact u.seen x j M
      rw[FT.1 j,Y]at M;cases M
     |true=>
      simp only[EW,Am,AP];by_cases O:next[i]∈o
      ·rw[(u.found next[i]).2 O];simp only[BD,AP,w];refine U (m-1) _ _ _ _ _ _ AA ⟨i+1,rfl,AA,rfl,{ u with seen:=fun x j M=>?_ }⟩;rw[J,Hl]at j;rcases j with j|j
       ·exact u.seen x j M
       rw[FT.1 j];exact O
      have f1:(CJ fo next[i]).getD false=false:=by
       cases h:(CJ fo next[i]).getD false with
       |false=>rfl
       |true=>exact absurd ((u.found _).1 h) O
      have f2:(CJ le next[i]).getD false=false:=by
       cases h:(CJ le next[i]).getD false with
       |false=>rfl
       |true=>exact absurd (u.level _ h) O
      rw[f1,f2];simp only[Am,AP];obtain⟨ev,hev⟩:=SX.1 (show(DV l next[i]).isSome=true from Y);rw[Cx FK];simp only[AP];rw[Z.get hev];simp only[AP];rw[al8 l hev];simp only[AP];have hau:=aCi ha next[i];have hsz:=u.size;rw[Cx AA];simp only[AP,w];refine U (m-1) _ _ _ _ _ _ AA ⟨i+1,rfl,AA,rfl,?_⟩;have hnx:UZ l q next[i]:=h4 _ (ED hi) Y;refine⟨fun x=>?_,fun x j=>?_,?_,fun x j=>?_,fun x j M=>?_,fun x j=>ZO _ (u.sub x j),fun y L=>?_,fun x j=>?_,?_,fun h=>?_⟩
      ·rw[QY,Hl,FT];cases j:x==next[i]with
       |true=>simp only[BD,MF,true_iff];exact .inr Wi
       |false=>simp only[Am];rw[u.found x];exact⟨.inl,fun h=>h.elim id fun h=>by simp[h]at j⟩
      ·rw[QY]at j;rw[Hl,FT];cases hxe:x==next[i]with
       |true=>exact .inr (by simpa using hxe)
       |false=>rw[hxe]at j;exact .inl (u.level x j)
      ·rw[aQb,ap4 (fun h=>O (IY.1 h)),u.nodup];simp
      ·rcases Hl.1 j with j|j
       ·exact u.rch x j
       rw[FT.1 j];exact hnx
      ·rw[J,Hl]at j;rcases j with j|j
       ·exact ZO _ (u.seen x j M)
       exact eu _ j
      ·rcases Hl.1 L with L|L
       ·exact(u.ref y L).imp id fun h x j=>ZO _ (h x j)
       rw[FT.1 L];exact .inr fun x j=>eu _ j
      ·rcases Hl.1 j with j|j
       ·obtain⟨y,L,h⟩:=u.back x j;exact⟨y,ZO _ L,h⟩
       exact⟨next[i],eu _ (FT.2 rfl),j⟩
      ·simp only[E9,NQ];omega
      have :=u.size;simp only[E9,NQ]at h;omega
    have hi:i=next.length:=by have :¬i<next.length:=SA
                              omega
    subst hi;have aG1:=aI9 u.nodup fun x j=>(u.rch x j).bV;have hsz:=u.size;refine M (2*(l.length-o.length)+(if la=[]then 0 else 1)) _ _ _ _ _ ?_ ⟨rfl,rfl,AA,u.found,u.nodup,u.rch,fun x j I=>?_,fun x j I=>?_,fun y L x j I=>?_⟩
    ·rw[CU hne];have hle:z.length≤o.length:=AA
     rcases Yl z.length o.length with h|h
     ·split<;>omega
     have :=u.same AA;rw[CP this];omega
    ·obtain⟨y,L,h⟩:=u.back x j;exact .more (u.rch y L) h I
    ·rcases h5 x j I with h|h
     ·exact .inl (u.sub x h)
     exact .inl (u.seen x (by rw[FW];exact h) I)
    rcases u.ref y L with h|h
    ·rcases h6 y h x j I with h|h
     ·exact .inl (u.sub x h)
     exact .inl (u.seen x (by rw[FW];exact h) I)
    exact .inr (h x j)
   exact⟨0,rfl,AA,rfl,⟨h1,fun x j=>by simp[CJ]at j,h2,h3,fun x j=>yF,fun _ h=>h,fun y L=>.inl L,fun x j=>(EM j).elim,Aw,fun _=>rfl⟩⟩
  have hz:next=[]:=by
   cases next with
   |nil=>rfl
   |cons a b=>simp at e
  subst hz;rw[YN z AA];refine .ret ⟨Jk _,fun x=>?_⟩;rw[IY];refine⟨h3 x,fun h=>?_⟩
  induction h with
  |one h I=>exact(h5 _ h I).elim id fun h=>(EM h).elim
  |more h j I ih=>exact(h6 _ ih _ j I).elim id fun h=>(EM h).elim
 ·have :Aj=9223372036854775808:=rfl;split<;>(simp only[L9];omega)
 exact⟨rfl,rfl,hf,fun x=>by simp[CJ],rfl,fun x j=>(EM j).elim,fun x j M=>.one j M,fun x j _=>.inr j,fun y L=>(EM L).elim⟩
def aMt (l:List AB) (ids:List Int) (hl:l.length≤1000) (ha:Qp l) (hi:ids.length≤100000):Xf l ids=some (chainOf l ids):=by
 refine dX.eq ?_;unfold Xf;refine(wQ l hl).bind fun at_ q=>?_;unfold aVl;rw[Hu ids AA (fun r id=>r++iO l id) (fun i r=>r.length≤40*i) (fun r=>(sB l r fun a0=>Yh a0).bind fun J=>some J) Aw]
 ·rw[foldl_append (iO l),I5]
  have hlen:(ids.flatMap (iO l)).length≤40*ids.length:=by
   have key:∀ids:List Int,(ids.flatMap (iO l)).length≤40*ids.length:=by
    intro ids
    induction ids with
    |nil=>simp
    |cons x ids I=>have :=aCi ha x;rw[JX,E9,FV];omega
   exact key ids
  refine(aeY l _ hl ha AA).bind fun r L=>.ret ?_;refine xH L.1 (aGE l ids) fun x=>(L.2 x).trans (Iff.trans ?_ dJ.symm);constructor
  ·intro h
   induction h with
   |one h j=>
    obtain⟨i,hi,h⟩:=Rl.1 h;exact .one hi h j
   |more h u j I=>exact .more I u j
  intro h
  induction h with
  |one h u j=>exact .one (Rl.2 ⟨_,h,u⟩) j
  |more h u j I=>exact .more I u j
 ·intro k r i h O;have M:=aCi ha ids[i];refine⟨by simp only[E9];omega,?_⟩;unfold aHI aEO;rw[Bl h,q.isSome];cases j:bV l ids[i]with
  |false=>
   have :iO l ids[i]=[]:=by
    unfold iO;rw[Rn (by unfold bV at j;simpa using j)];rfl
   rw[this,Oc];rfl
  |true=>
   obtain⟨ev,z⟩:=SX.1 (show(DV l ids[i]).isSome=true from j);simp only[BD];rw[q.get z];simp only[AP];have :iO l ids[i]=ev.bg:=by unfold iO;rw[LW z]
   rw[←this,Cx AA];rfl
 intro k r _;unfold aHI;rw[DZ]
def aJW :∀x:List UInt8,Op.bytesLess x x=false
 | []=>rfl
 |a::x=>by
  unfold Op.bytesLess;rw[aJW x];simp
def aVn :∀{x y z:List UInt8},Op.bytesLess x y=true→Op.bytesLess y z=true→Op.bytesLess x z=true
 |_,_,[],_,h=>aDA
 | [],_,_::_,_,_=>rfl
 |_::_,[],_::_,h,_=>aDA
 |a::x,b::y,c::z,h,k=>by
  simp only[Op.bytesLess,Vb,CZ,GN,OL]at h k ⊢;rcases h with h|⟨rfl,h⟩<;>rcases k with k|⟨rfl,k⟩
  ·exact .inl (UInt8.lt_trans h k)
  ·exact .inl h
  ·exact .inl k
  exact .inr ⟨rfl,aVn h k⟩
def aTf :∀{x y:List UInt8},Op.bytesLess x y=false→Op.bytesLess y x=false→x=y
 | [],[],_,_=>rfl
 | [],_::_,h,_=>aDA
 |_::_,[],_,h=>aDA
 |a::x,b::y,h,k=>by
  simp only[Op.bytesLess,VL,gW,NR,PI]at h k;have e:a=b:=UInt8.le_antisymm (UInt8.not_lt.1 k.1) (UInt8.not_lt.1 h.1);subst e;have j:=h.2.resolve_left (fun h=>h rfl);have k2:=k.2.resolve_left (fun h=>h rfl);rw[aTf j k2]
def FC (a b:Ah):Bool:=decide (a.Kind<b.Kind)||(a.Kind==b.Kind&&Op.bytesLess a.Key.toList b.Key.toList)
def Em (a b:Ah):Bool:=a.Kind==b.Kind&&decide (a.Key=b.Key)
def abR (a:Ah):FC a a=false:=by unfold FC;rw[aJW];simp
def aWb {a b c:Ah} (h:FC a b=true) (k:FC b c=true):FC a c=true:=by
 unfold FC at *;simp only[Vb,CZ,GN,OL]at *;rcases h with h|⟨q,j⟩<;>rcases k with k|⟨u,k2⟩
 ·exact .inl AA
 ·exact .inl AA
 ·exact .inl AA
 exact .inr ⟨AA,aVn j k2⟩
def NS {a b:Ah}:Em a b=true↔a.Kind=b.Kind∧a.Key=b.Key:=by unfold Em;simp
def aV7 {a b:Ah} (h:FC a b=false) (k:FC b a=false):Em a b=true:=by
 unfold FC at *;simp only[VL,gW,NR,PI]at *;have e:a.Kind=b.Kind:=AA
 rw[NS];exact⟨e,toList_inj (aTf (h.2.resolve_left fun n=>n e) (k.2.resolve_left fun n=>n e.symm))⟩
def jo {a b:Ah} (h:Em a b=true):FC a b=false:=by
 obtain⟨j,q⟩:=NS.1 h;unfold FC;rw[j,q,aJW];simp
def rJ {a b c:Ah} (h:Em a b=true):FC a c=FC b c∧FC c a=FC c b:=by
 obtain⟨j,q⟩:=NS.1 h;unfold FC;rw[j,q];exact⟨rfl,rfl⟩
def abx (a b:Ah):qX a b=some (FC a b):=by
 unfold qX FC;cases j:decide (a.Kind<b.Kind)<;>cases q:a.Kind==b.Kind<;>rfl
def al5 (k:Int) (key:ByteArray) (m:Int) (o:ByteArray) (i j:Int):aQ4 k key m o=some (FC ⟨k,key,i⟩ ⟨m,o,j⟩):=by
 unfold aQ4 FC;cases q:decide (k<m)<;>cases u:k==m<;>simp_all
def EZ (s:List Ah) (e:Ah):Nat:=s.findIdx fun x=> !FC x e
def JI (s:List Ah) (e:Ah):Bool:=match s[EZ s e]? with
 |some x=>Em x e
 |none=>false
def eY (s:List Ah) (e:Ah):EZ s e≤s.length:=lG
def aXF {s:List Ah} {e:Ah} (h:EZ s e<s.length):FC s[EZ s e] e=false:=by
 have :=aEd (w:=h);unfold EZ;simpa using this
def aYt (s:List Ah) (k:Int) (key:ByteArray) (hs:s.length≤1000000):yI s k key=some (((EZ s ⟨k,key,0⟩:Nat):Int),JI s ⟨k,key,0⟩):=by
 unfold yI aOX aWl;generalize z:(⟨k,key,0⟩:Ah)=e
 have hp:bI (aEs s (fun a0=>qm a0 e) (fun a0=>sF a0 e)) Aj 0=some (((EZ s e:Nat):Int),JI s e):=by
  rw[J6 s (fuel_lt AA) (fun x=> !FC x e) (fun i=>some (((i:Nat):Int),match s[i]? with |some x=> !FC e x|none=>false)) (some (((s.length:Nat):Int),false))]
  ·split
   ·rename_i h;congr 2;unfold JI EZ;rw[DC h];have q:FC s[s.findIdx fun x=> !FC x e] e=false:=aXF h;show(!FC e s[s.findIdx fun x=> !FC x e])=Em s[s.findIdx fun x=> !FC x e] e;cases j:FC e s[s.findIdx fun x=> !FC x e]with
    |false=>rw[aV7 q j];rfl
    |true=>
     cases u:Em s[s.findIdx fun x=> !FC x e] e with
     |false=>rfl
     |true=>rw[(rJ u).2,abR]at j;cases j
   rename_i h;have h':EZ s e=s.length:=by have :=eY s e;unfold EZ at *;omega
   have j:JI s e=false:=by unfold JI;rw[h',I8 (Dn _)]
   rw[h',j]
  ·intro k2 i h;unfold aEs;rw[Bl h,Bl h];simp only[qm,sF,abx,AP];rw[DC h];cases FC s[i] e<;>rfl
  intro k2;unfold aEs;rw[DZ,DZ];rfl
 rw[hp];rfl
def JA (s:List Ah):Prop:=s.Pairwise fun a b=>FC a b=true
def Fz (s:List Ah) (k:Int) (key:ByteArray):Int×Bool:=match s.find? fun x=>Em x ⟨k,key,0⟩with
 |some x=>(x.Id,true)
 |none=>(0,false)
def aJl (s:List Ah) (k:Int) (key:ByteArray) (hs:s.length≤1000000):qQ s k key=some (Fz s k key):=by
 unfold qQ aXD;rw[J6 s (fuel_lt AA) (fun x=>Em x ⟨k,key,0⟩) (fun i=>(Ag s (i:Int)).bind fun j=>some (j.Id,true)) (some (0,false))]
 ·unfold Fz;rw[JK];split
  ·rename_i h;rw[BZ h,DC h];rfl
  rename_i h;rw[I8 AA]
 ·intro k2 i h;unfold aJz;rw[Bl h,BZ h];simp only[AP];unfold Em;rw[IB];cases s[i].Kind==k<;>rfl
 intro k2;unfold aJz;rw[DZ]
def ajA {s:List Ah} (h:JA s) (e:Ah):s.find? (fun x=>Em x e)=match s[EZ s e]? with |some x=>if Em x e then some x else none|none=>none:=by
 induction s with
 |nil=>rfl
 |cons a s q=>
  have h':=Nr.1 h;unfold EZ;rw[KA,Qr];cases hp:FC a e with
  |true=>
   have hs:Em a e=false:=by
    cases hs:Em a e with
    |false=>rfl
    |true=>rw[jo hs]at hp;cases hp
   rw[hs];simp only[EW,Am,xO];exact q h'.2
  |false=>
   simp only[Il,BD,aDa];cases hs:Em a e with
   |true=>rfl
   |false=>
    simp only[Qh,Jl];refine WW.2 fun x u z=>?_;have j:=h'.1 x u;rw[(rJ z).2,hp]at j;cases j
def aHd (s:List Ah) (k:Int) (key:ByteArray) (hs:s.length≤1000000) (h:JA s):mM s k key=some (Fz s k key):=by
 unfold mM;rw[aYt s k key hs];simp only[AP];unfold Fz JI;rw[ajA h];by_cases hl:EZ s ⟨k,key,0⟩<s.length
 ·rw[DC hl];simp only;cases j:Em s[EZ s ⟨k,key,0⟩] ⟨k,key,0⟩with
  |true=>simp only[BD,JV];rw[BZ hl];rfl
  |false=>rfl
 rw[I8 AA];rfl
def ES (s:List Ah) (k:Int) (key:ByteArray) (id:Int):List Ah:=
 s.take (EZ s ⟨k,key,0⟩)++⟨k,key,id⟩::s.drop (EZ s ⟨k,key,0⟩+bif JI s ⟨k,key,0⟩then 1 else 0)
def ah5 {s:List Ah} {e:Ah} (h:JI s e=true):EZ s e<s.length:=by
 unfold JI at h;by_cases hl:EZ s e<s.length
 ·exact hl
 rw[I8 AA]at h;cases h
def pF {α:Type} {l:List α} {i:Nat} (hi:i≤l.length):Hg l 0 (i:Int)=some (l.take i):=by
 have :=mF (l:=l) (lo:=0) (hi:=i) AA hi;simpa using this
def Ua {α:Type} {l:List α} {i:Nat} (hi:i≤l.length):Hg l (i:Int) (l.length:Int)=some (l.drop i):=by
 rw[mF (l:=l) (lo:=i) (hi:=l.length) hi AA];congr 1;exact Po Aw
def Yi (s:List Ah) (k:Int) (key:ByteArray) (id:Int) (hs:s.length≤1000000):SG s k key id=some (ES s k key id):=by
 unfold SG;rw[aYt s k key hs];simp only[AP];have hp:=eY s ⟨k,key,0⟩;unfold aBO ES;rw[pF hp];simp only[AP];rw[Cx DW];simp only[AP,I5];rw[Cx DW];simp only[AP];cases j:JI s ⟨k,key,0⟩with
 |true=>
  have hl:=ah5 j;simp only[BD];rw[wrap_succ _ AA,Ua hl];simp only[AP];rw[Cx DW];simp
 |false=>
  simp only[Am];rw[Ua hp];simp only[AP];rw[Cx DW];simp
def aNH (s:List Ah) (k:Int) (key:ByteArray) (id:Int) (hs:s.length≤1000000):jL s k key id=some (ES s k key id):=by
 unfold jL aQz
 have j:∀(k2:Int→Option (List Ah)),cu k2 ((EZ s ⟨k,key,0⟩:Nat):Int) s k key id false=some (ES s k key id):=by
  intro k2;have hp:=eY s ⟨k,key,0⟩;unfold cu aPb ES;simp only[Am];rw[pF hp];simp only[AP];rw[Cx DW];simp only[AP,I5];rw[Cx DW];simp only[AP];by_cases hl:EZ s ⟨k,key,0⟩<s.length
  ·rw[dec_lt hl,BZ hl];simp only[BD,AP]
   have u:JI s ⟨k,key,0⟩=(s[EZ s ⟨k,key,0⟩].Kind==k&&decide (s[EZ s ⟨k,key,0⟩].Key=key)):=by
    unfold JI;rw[DC hl];rfl
   rw[u,IB,←TD];cases z:s[EZ s ⟨k,key,0⟩].Kind==k with
   |false=>
    simp only[Am,AP];rw[Ua hp];simp only[AP];rw[Cx DW];simp
   |true=>
    simp only[BD,AP];cases decide (s[EZ s ⟨k,key,0⟩].Key=key)with
    |true=>
     simp only[BD];rw[wrap_succ _ AA,Ua hl];simp only[AP];rw[Cx DW];simp
    |false=>
     simp only[Am];rw[Ua hp];simp only[AP];rw[Cx DW];simp
  have q:EZ s ⟨k,key,0⟩=s.length:=AA
  have u:JI s ⟨k,key,0⟩=false:=by unfold JI;rw[q,I8 (Dn _)]
  rw[u,q,CX];simp only[Am,AP];rw[Ua (Dn _)];simp only[AP];rw[Cx DW];simp
 rw[J6 s (fuel_lt AA) (fun x=> !FC x ⟨k,key,0⟩) (fun i=>cu (fun _=>none) (i:Int) s k key id false) (cu (fun _=>none) (s.length:Int) s k key id false)]
 ·split
  ·exact j _
  rename_i h;have q:EZ s ⟨k,key,0⟩=s.length:=aag
  have :=j fun _=>none;rw[q]at this;exact this
 ·intro k2 i h;unfold aLK;rw[dec_lt h,BZ h];simp only[BD,AP];rw[al5 _ _ _ _ s[i].Id 0];simp only[AP];show cu k2 _ s k key id (FC s[i] ⟨k,key,0⟩)=_;cases FC s[i] ⟨k,key,0⟩<;>rfl
 intro k2;unfold aLK;rw[CX];rfl
def PU (s:List Ah) (k:Int) (key:ByteArray) (id:Int):(ES s k key id).length≤s.length+1:=by
 unfold ES;have :=eY s ⟨k,key,0⟩;simp only[E9,FV,F7,IJ];omega
def ap5 {s:List Ah} {e x:Ah} (h:x∈s.take (EZ s e)):FC x e=true:=by
 obtain⟨i,hi,rfl⟩:=G5 h;have j:i<EZ s e:=by simp at hi;omega
 have :=aPp j;rw[WJ];simpa using this
def aQs {s:List Ah} (hs:JA s) {e x:Ah} (h:x∈s.drop (EZ s e+bif JI s e then 1 else 0)):FC e x=true:=by
 generalize q:(EZ s e+bif JI s e then 1 else 0)=n at h;obtain⟨i,hi,rfl⟩:=G5 h;rw[Xp];rw[IJ]at hi;by_cases hl:EZ s e<s.length
 ·have J:=aXF hl;cases j:JI s e with
  |true=>
   rw[j]at q;simp only[BD]at q;have u:Em s[EZ s e] e=true:=aRO
   rw[←(rJ u).1];exact IZ.1 hs _ _ hl AA AA
  |false=>
   rw[j]at q;simp only[Am,OD]at q;subst q;have u:Em s[EZ s e] e=false:=aRO
   have z:FC e s[EZ s e]=true:=by
    cases h:FC e s[EZ s e]with
    |true=>rfl
    |false=>rw[aV7 J h]at u;cases u
   rcases Yk i with I|I
   ·subst I;simpa using z
   exact aWb z (IZ.1 hs _ _ hl AA AA)
 omega
def WR {s:List Ah} (h:JA s) (k:Int) (key:ByteArray) (id:Int):JA (ES s k key id):=by
 have u:Em ⟨k,key,id⟩ ⟨k,key,0⟩=true:=NS.2 ⟨rfl,rfl⟩;unfold ES JA;refine UG.2 ⟨h.sublist (aKE ..),Nr.2 ⟨fun x j=>?_,h.sublist (yZ ..)⟩,fun x j y q=>?_⟩
 ·rw[(rJ u).1];exact aQs h j
 have z:FC x ⟨k,key,0⟩=true:=ap5 j;rcases EG.1 q with rfl|q
 ·rw[(rJ u).2];exact z
 exact aWb z (aQs h q)
structure O4 (l:List (List Ah)):Prop where
 len:l.length≤100
 each:∀s∈l,s.length≤100∧JA s
def Iy (l:List (List Ah)) (x:Ah):Bool:=l.all fun s=>(Fz s x.Kind x.Key).2&&(Fz s x.Kind x.Key).1==x.Id
def ak9 (l:List (List Ah)) (x:Ah) (h:O4 l):aA0 l x=some (Iy l x):=by
 unfold aA0 aXS;rw[Gi l (fuel_lt aLo) (fun s=> !((Fz s x.Kind x.Key).2&&(Fz s x.Kind x.Key).1==x.Id)) false (some true)]
 ·unfold Iy;rw[Jw,qM]
 ·intro k i hi;obtain⟨q,j⟩:=h.each l[i] (ED hi);unfold aHz;rw[Bl hi,aHd _ _ _ AA j];simp only[AP];cases(Fz l[i] x.Kind x.Key).2<;>simp[bne]
 intro k;unfold aHz;rw[DZ]
def amY (l:List (List Ah)) (x:Ah) (h:O4 l):aLB l x=some (Iy l x):=by
 unfold aLB aSQ;rw[Gi l (fuel_lt aLo) (fun s=> !((Fz s x.Kind x.Key).2&&(Fz s x.Kind x.Key).1==x.Id)) false (some true)]
 ·unfold Iy;rw[Jw,qM]
 ·intro k i hi;obtain⟨j,q⟩:=h.each l[i] (ED hi);unfold aLS;rw[Bl hi,aJl _ _ _ AA];simp only[AP];cases(Fz l[i] x.Kind x.Key).2<;>simp[bne]
 intro k;unfold aLS;rw[DZ]
def Hr (l:List (List Ah)):List Ah:=match l with
 | []=>[]
 |s::_=>s.filter (Iy l)
def Px (l:List (List Ah)):List Int:=(l.flatMap fun s=>s.filter fun x=> !Iy l x).map (·.Id)
def QT (l:List (List Ah)) (i:Nat):List Ah:=if i=0 then[]else Hr l
def NV (l:List (List Ah)) (i:Nat):List Int:=((l.take i).flatMap fun s=>s.filter fun x=> !Iy l x).map (·.Id)
def aVH {l:List (List Ah)} {i:Nat} (h:i<l.length):QT l (i+1)=QT l i++(if i=0 then l[i].filter (Iy l)else[]):=by
 unfold QT Hr;cases l with
 |nil=>simp at h
 |cons s l=>cases i<;>simp
def aMD {l:List (List Ah)} {i:Nat} (h:i<l.length):NV l (i+1)=NV l i++(l[i].filter fun x=> !Iy l x).map (·.Id):=by
 unfold NV;rw[Nc h,List.flatMap_append,KO];simp
def aNR (l:List (List Ah)):NV l l.length=Px l:=by unfold NV Px;rw[FW]
def aRH (l:List (List Ah)):QT l l.length=Hr l:=by
 unfold QT;cases l with
 |nil=>rfl
 |cons s l=>simp
def aM7 {l:List (List Ah)} (h:O4 l) (i:Nat):(NV l i).length≤100*i:=by
 induction i with
 |zero=>simp[NV]
 |succ i j=>
  by_cases hi:i<l.length
  ·rw[aMD hi,E9,CB];have :=(h.each _ (ED hi)).1;have :=J4 (fun x=> !Iy l x) l[i];omega
  have :NV l (i+1)=NV l i:=by unfold NV;rw[Po AA,Po AA]
  rw[this];omega
def aC5 {l:List (List Ah)} (h:O4 l):(Px l).length≤10000:=by
 have :=aM7 h l.length;rw[aNR]at this;have :=h.len;omega
def Zd {l:List (List Ah)} (h:O4 l):(Hr l).length≤100:=by
 unfold Hr;cases l with
 |nil=>exact Ci _
 |cons s l=>exact Ed (J4 _ _) (h.each s (EO ..)).1
def aRs {l:List (List Ah)} (h:O4 l):JA (Hr l):=by
 unfold Hr;cases l with
 |nil=>exact .nil
 |cons s l=>exact(h.each s (EO ..)).2.sublist QM
def aYN (l:List (List Ah)) (h:O4 l):qR l=some (Hr l,EF (Px l)):=by
 have hlen:=h.len;refine dX.eq ?_;unfold qR aad;refine aHH (body:=aJJ l) (fun(m:Nat) (a:List Ah) (b:List Int) (c:Int) (d:List (List Ah)) (_:List Ah) (_:List Int)=>∃i:Nat,c=i∧i+m=l.length∧d=l∧a=QT l i∧b=NV l i) ?_ Aj l.length [] [] 0 l [] [] (fuel_lt AA) ⟨0,rfl,AA,rfl,rfl,by simp[NV]⟩;rintro m a b c d e f k ⟨i,rfl,hm,rfl,rfl,rfl⟩ U;unfold aJJ;refine dX.bif (fun hi=>?_) fun hi=>?_
 ·have hi:i<d.length:=G6
  have hs:=(h.each d[i] (ED hi)).1;have Y:=aM7 h i;rw[BZ hi];simp only[AP,nE];unfold aVx
  refine aa2 (body:=aQ9 d[i] k (i:Int)) (fun(J:Nat) (a:List Ah) (b:List Int) (c:Int) (u:List (List Ah)) (_:List Ah) (_:List Int) (g:Int)=>
   ∃j:Nat,c=j∧j+J=d[i].length∧u=d∧g=i∧a=QT d i++(if i=0 then(d[i].take j).filter (Iy d)else[])∧b=NV d i++((d[i].take j).filter fun x=> !Iy d x).map (·.Id)) ?_ Aj d[i].length _ _ _ _ _ _ _ (fuel_lt AA) ⟨0,rfl,AA,rfl,rfl,Aw,Aw⟩
  rintro J a b c u e2 f2 g k2 ⟨j,rfl,Z,rfl,rfl,rfl,rfl⟩ I;unfold aQ9;refine dX.bif (fun z=>?_) fun z=>?_
  ·have z:j<u[i].length:=Le
   have q:u[i].take (j+1)=u[i].take j++[u[i][j]]:=by rw[Nc z]
   rw[BZ z];simp only[AP];rw[ak9 u _ h];simp only[AP];have w:=wrap_succ j AA;have L:=J4 (fun x=> !Iy u x) (u[i].take j);have M:=J4 (Iy u) (u[i].take j)
   have hst:(QT u i).length≤100:=by unfold QT;split; ·exact Ci _
                                    ·exact Zd h
   rw[F7]at L M;cases ha:Iy u u[i][j]with
   |false=>
    simp only[Il,BD];rw[Cx (by simp only[E9,CB,NQ];omega)];simp only[AP,w];refine I (J-1) _ _ _ _ _ _ _ AA ⟨j+1,rfl,AA,rfl,rfl,?_,?_⟩
    ·rw[q,Ox];simp[ha]
    rw[q,Ox];simp[ha]
   |true=>
    simp only[EW,Am];by_cases O:i=0
    ·subst O;simp only[show(((0:Nat):Int)==0)=true from rfl,BD,JV];rw[Cx Us];simp only[AP,w];refine I (J-1) _ _ _ _ _ _ _ AA ⟨j+1,rfl,AA,rfl,rfl,?_,?_⟩
     ·rw[q,Ox];simp[ha]
     rw[q,Ox];simp[ha]
    have :((i:Int)==0)=false:=aBY
    rw[this];simp only[Am,w];refine I (J-1) _ _ _ _ _ _ _ AA ⟨j+1,rfl,AA,rfl,rfl,?_,?_⟩
    ·simp[O]
    rw[q,Ox];simp[ha]
  have z:j=u[i].length:=by have :¬j<u[i].length:=Le
                           omega
  subst z;rw[wrap_succ i AA,FW];exact U (m-1) _ _ _ _ _ _ AA ⟨i+1,rfl,AA,rfl,(aVH hi).symm,(aMD hi).symm⟩
 have hi:i=d.length:=by have :¬i<d.length:=G6
                        omega
 subst hi;have :=aC5 h;rw[aNR,aRH,YN _ AA];exact .ret rfl
def aVw (l:List (List Ah)) (h:O4 l):aEQ l=some (Hr l,EF (Px l)):=by
 have hlen:=h.len;refine dX.eq ?_;unfold aEQ aUA;refine QW (body:=aMO l) (fun(m:Nat) (a:List Ah) (b:List Int) (c:Int)=>∃i:Nat,c=i∧i+m=l.length∧a=QT l i∧b=EF (NV l i)) ?_ Aj l.length [] [] 0 (fuel_lt AA) ⟨0,rfl,AA,rfl,by simp[NV,EF]⟩;rintro m a b c k ⟨i,rfl,hm,rfl,rfl⟩ U;unfold aMO;refine dX.bif (fun hi=>?_) fun hi=>?_
 ·have hi:i<l.length:=G6
  have hs:=(h.each l[i] (ED hi)).1;have Y:=aM7 h i;unfold aVB
  refine QW (body:=aNO l (i:Int) k) (fun(I:Nat) (a:List Ah) (b:List Int) (c:Int)=>
   ∃j:Nat,c=j∧j+I=l[i].length∧a=QT l i++(if i=0 then(l[i].take j).filter (Iy l)else[])∧b=EF (NV l i++((l[i].take j).filter fun x=> !Iy l x).map (·.Id))) ?_ Aj l[i].length _ _ _ (fuel_lt AA) ⟨0,rfl,AA,Aw,Aw⟩
  rintro I a b c k2 ⟨j,rfl,Z,rfl,rfl⟩ z;unfold aNO;rw[BZ hi];simp only[AP];refine dX.bif (fun u=>?_) fun u=>?_
  ·have u:j<l[i].length:=TS
   have q:l[i].take (j+1)=l[i].take j++[l[i][j]]:=by rw[Nc u]
   rw[BZ u];simp only[AP];rw[amY l _ h];simp only[AP];have w:=wrap_succ j AA;have J:=J4 (fun x=> !Iy l x) (l[i].take j);have L:=J4 (Iy l) (l[i].take j)
   have hst:(QT l i).length≤100:=by unfold QT;split; ·exact Ci _
                                    ·exact Zd h
   have M:=KW (NV l i++((l[i].take j).filter fun x=> !Iy l x).map fun e:Ah=>e.Id);rw[E9,CB]at M;rw[F7]at J L;cases ha:Iy l l[i][j]with
   |false=>
    simp only[Il,BD];rw[Zk _ _ AA];unfold tK;simp only[AP,w];refine z (I-1) _ _ _ AA ⟨j+1,rfl,AA,?_,?_⟩
    ·rw[q,Ox];simp[ha]
    rw[q,Ox,KO,←HY];simp only[ha,Qy,Il,JV,List.filter_nil,Ia,zF];rw[aQb]
   |true=>
    simp only[EW,Am];unfold tK;by_cases O:i=0
    ·subst O;simp only[show(((0:Nat):Int)==0)=true from rfl,BD,JV,AP];rw[Cx Us];simp only[AP,w];refine z (I-1) _ _ _ AA ⟨j+1,rfl,AA,?_,?_⟩
     ·rw[q,Ox];simp[ha]
     rw[q,Ox];simp[ha]
    have :((i:Int)==0)=false:=aBY
    rw[this];simp only[Am,w];refine z (I-1) _ _ _ AA ⟨j+1,rfl,AA,?_,?_⟩
    ·simp[O]
    rw[q,Ox];simp[ha]
  have u:j=l[i].length:=by have :¬j<l[i].length:=TS
                           omega
  subst u;rw[wrap_succ i AA,FW];exact U (m-1) _ _ _ AA ⟨i+1,rfl,AA,(aVH hi).symm,by rw[←aMD hi]⟩
 have hi:i=l.length:=by have :¬i<l.length:=G6
                        omega
 subst hi;rw[aNR,aRH];exact .ret rfl
def SC (s:List Ah):List Int:=s.map (·.Id)
def Ej (l:List AB) (s:List Ah):List Int:=Hq (SC s) (chainOf l (SC s))
def allOf (l:List AB) (aJ:List (List Ah)):List Int:=aJ.foldl (fun a s=>Hq a (Ej l s)) []
def Ip (l:List AB) (aJ:List (List Ah)) (x:Int):Nat:=aJ.countP fun s=>DL (Ej l s) x
def OC (l:List AB) (aJ:List (List Ah)):List Int:=(allOf l aJ).filter fun x=>decide (Ip l aJ x<aJ.length)
def Ih (l:List AB) (aJ:List (List Ah)):List Int:=Hq (EF (Px aJ)) (OC l aJ)
def abB (l:List AB) (s:List Ah):Inc (Ej l s):=uQ _ _
def aMz (s:List Ah):(SC s).length=s.length:=CB _
def oO (l:List AB) (s:List Ah):(Ej l s).length≤s.length+l.length:=by
 have j:=aHT (SC s) (chainOf l (SC s));have q:=dh l (SC s);rw[aMz]at j;unfold Ej;omega
def aKm (l:List AB):∀(aJ:List (List Ah)) (a:List Int),Inc a→Inc (aJ.foldl (fun a s=>Hq a (Ej l s)) a)∧∀x,x∈aJ.foldl (fun a s=>Hq a (Ej l s)) a↔x∈a∨∃s∈aJ,x∈Ej l s
 | [],a,h=>⟨h,fun x=>Aw⟩
 |s::aJ,a,h=>by
  rw[Ey];obtain⟨q,u⟩:=aKm l aJ (Hq a (Ej l s)) (uQ _ _);refine⟨q,fun x=>(u x).trans ?_⟩;rw[Tq];constructor
  ·rintro((h|h)|⟨t,j,h4⟩)
   ·exact .inl h
   ·exact .inr ⟨s,EO ..,h⟩
   exact .inr ⟨t,F5 _ j,h4⟩
  rintro(h|⟨t,j,h4⟩)
  ·exact .inl (.inl h)
  rcases EG.1 j with rfl|j
  ·exact .inl (.inr h4)
  exact .inr ⟨t,j,h4⟩
def aix (l:List AB) (aJ:List (List Ah)):Inc (allOf l aJ):=(aKm l aJ [] .nil).1
def aT8 {l:List AB} {aJ:List (List Ah)} {x:Int}:x∈allOf l aJ↔∃s∈aJ,x∈Ej l s:=by
 unfold allOf;rw[(aKm l aJ [] .nil).2 x];simp
def agG (l:List AB) (aJ:List (List Ah)):Inc (OC l aJ):=(aix l aJ).sublist QM
def cnt_lt {l:List AB} {aJ:List (List Ah)} {x:Int}:Ip l aJ x<aJ.length↔∃s∈aJ,x∉Ej l s:=by
 unfold Ip;have h:=List.countP_le_length (p:=fun s=>DL (Ej l s) x) (l:=aJ);have u:=List.countP_eq_length (p:=fun s=>DL (Ej l s) x) (l:=aJ);constructor
 ·intro I;by_cases j:∀s∈aJ,DL (Ej l s) x=true
  ·have :=u.2 j;omega
  simp only[Classical.not_forall]at j;obtain⟨s,hs,q⟩:=j;exact⟨s,hs,fun hm=>q (Iu.2 hm)⟩
 rintro⟨s,hs,q⟩;rcases Yl (aJ.countP fun s=>DL (Ej l s) x) aJ.length with z|z
 ·exact z
 exact absurd (Iu.1 (u.1 AA s hs)) q
def aVG {l:List AB} {aJ:List (List Ah)} {x:Int}:x∈OC l aJ↔(∃s∈aJ,x∈Ej l s)∧∃s∈aJ,x∉Ej l s:=by
 unfold OC;rw[FN,aT8,GN,cnt_lt]
def aUl {aJ:List (List Ah)} {x:Ah}:Iy aJ x=true↔∀s∈aJ,(Fz s x.Kind x.Key).2=true∧(Fz s x.Kind x.Key).1=x.Id:=by
 unfold Iy;rw[Di];simp
def aGJ (l:List AB):∀(aJ:List (List Ah)) (a:List Int),(∀s∈aJ,s.length≤100)→(aJ.foldl (fun a s=>Hq a (Ej l s)) a).length≤a.length+aJ.length*(100+l.length)
 | [],a,_=>Aw
 |s::aJ,a,h=>by
  rw[Ey];have j:=aGJ l aJ (Hq a (Ej l s)) fun t ht=>h t (F5 _ ht);have q:=aHT a (Ej l s);have u:=oO l s;have z:=h s (EO ..);rw[FV,Pe];omega
def aVD {l:List AB} {aJ:List (List Ah)} (hs:O4 aJ) (hl:l.length≤1000):(OC l aJ).length≤110000:=by
 have j:=aGJ l aJ [] fun s h=>(hs.2 s h).1;have q:=hs.1;have u:=J4 (fun x=>decide (Ip l aJ x<aJ.length)) (allOf l aJ);have z:aJ.length*(100+l.length)≤100*1100:=aAG q AA;unfold OC;unfold allOf at u ⊢;simp only[L9]at j;omega
def amh {s:List Ah} (h:JA s) {x:Ah} (I:x∈s):Fz s x.Kind x.Key=(x.Id,true):=by
 unfold Fz;cases z:s.find? (fun y=>Em y ⟨x.Kind,x.Key,0⟩)with
 |none=>
  have :=WW.1 z x I;unfold Em at this;simp at this
 |some y=>
  have J:=Td z;have O:=OA z;have L:Em y x=true:=by unfold Em at J ⊢;exact J
  have :y=x:=by
   obtain⟨i,hi,rfl⟩:=G5 I;obtain⟨j,M,rfl⟩:=G5 O;rcases gy i j with q|q|q
   ·have u:=IZ.1 h i j hi M q;have U:Em s[i] s[j]=true:=by obtain⟨a,b⟩:=NS.1 L;exact NS.2 ⟨a.symm,b.symm⟩
    rw[jo U]at u;cases u
   ·subst q;rfl
   have u:=IZ.1 h j i M hi q;rw[jo L]at u;cases u
  rw[this]
def aLa {s:List Ah} {k:Int} {key:ByteArray} {n:Int} (h:Fz s k key=(n,true)):(⟨k,key,n⟩:Ah)∈s:=by
 unfold Fz at h;cases j:s.find? (fun y=>Em y ⟨k,key,0⟩)with
 |none=>rw[j]at h;cases h
 |some y=>
  rw[j]at h;have u:Em y ⟨k,key,0⟩=true:=by have :=Td j;exact this
  have q:=NS.1 u;have z:=OA j;obtain⟨a,b,c⟩:=y;cases h;simp only at q;rw[←q.1,←q.2];exact z
def abK {aJ:List (List Ah)} {x:Ah} (j:Iy aJ x=true) {s:List Ah} (hs:s∈aJ):x∈s:=by
 obtain⟨q,u⟩:=aUl.1 j s hs;exact aLa (s:=s) (k:=x.Kind) (key:=x.Key) (n:=x.Id) (by rw[←q,←u])
def aco {aJ:List (List Ah)} (h:O4 aJ) {x:Ah} (j:∀s∈aJ,x∈s):Iy aJ x=true:=
 aUl.2 fun s hs=>by rw[amh (h.2 s hs).2 (j s hs)];exact⟨rfl,rfl⟩
def aVe {aJ:List (List Ah)} (h:O4 aJ) (q:aJ≠[]) {x:Ah}:x∈Hr aJ↔∀s∈aJ,x∈s:=by
 cases aJ with
 |nil=>exact absurd rfl q
 |cons s aJ=>
  show x∈s.filter (Iy (s::aJ))↔_;rw[FN];exact⟨fun j t ht=>abK j.2 ht,fun j=>⟨j s (EO ..),aco h j⟩⟩
def aRb (l:List Int) (h:l.length≤1099511627776):((LK l).bind fun x=>(Wv x).bind fun y=>some y)=some (EF l):=by
 unfold LK Wv;have j:(Q8 l).length≤1099511627776:=by rw[(UA l).length_eq];exact h
 simp[h,aI2,aPh]
def aUn (s:List Ah):s.foldl (fun r x=>r++[x.Id]) []=SC s:=by
 rw[foldl_append (fun x:Ah=>[x.Id])];unfold SC;rw[I5]
 induction s with
 |nil=>rfl
 |cons x s j=>rw[JX,j];rfl
def acE (l:List AB) (s:List Ah) (hl:l.length≤1000) (ha:Qp l) (hs:s.length≤100):aBP l s=some (Ej l s):=by
 unfold aBP
 have hm:IK 8 (0:Int) 0 (s.length:Int)=some []:=by
  unfold IK;rw[CP aCl];rfl
 rw[hm];simp only[AP];unfold ab3;rw[Hu s AA (fun r x=>r++[x.Id]) (fun i r=>r.length≤i) (fun r=>(Xf l r).bind fun u=>(Bo 8 r u).bind fun z=>(LK z).bind fun j=>(Wv j).bind fun q=>some q) Aw]
 ·have J:=dh l (SC s);have L:=aMz s;rw[aUn,aMt l _ hl ha AA];simp only[AP];rw[Cx AA];simp only[AP];rw[aRb _ KY];unfold Ej;rw[tV]
 ·intro k a i h I;refine⟨aAv,?_⟩;unfold aNu;rw[Bl h,Cx FK];rfl
 intro k a I;unfold aNu;rw[DZ]
def ae8 (l:List AB) (s:List Ah) (hl:l.length≤1000) (ha:Qp l) (hs:s.length≤100):aII l s=some (Ej l s):=by
 unfold aII aX4;rw[Hu s AA (fun r x=>r++[x.Id]) (fun i r=>r.length≤i) (fun r=>(lN l r).bind fun j=>(bf r j).bind fun q=>some q) Aw]
 ·have z:=dh l (SC s);have I:=aMz s;rw[aUn,aLJ l _ hl ha AA];simp only[AP];rw[Src _ _ AA AA];rfl
 ·intro k a i h u;refine⟨aAv,?_⟩;unfold aJM;rw[dec_lt h,BZ h];simp only[BD,AP];rw[Cx FK];rfl
 intro k a u;unfold aJM;rw[CX];rfl
def stepM (m:List (Int×Int)) (x:Int):List (Int×Int):=Ea m x (Ai (((CJ m x).getD 0)+1))
structure LZ (m:List (Int×Int)) (f:Int→Nat):Prop where
 nodup:(m.map (·.1)).Nodup
 find:∀x,CJ m x=if f x=0 then none else some (f x:Int)
def akv {m:List (Int×Int)} {k v y:Int}:y∈(Ea m k v).map (·.1)↔y=k∨y∈m.map (·.1):=by
 induction m with
 |nil=>simp[Ea]
 |cons p m j=>
  unfold Ea;cases h:k==p.1 with
  |true=>
   have q:k=p.1:=J3
   simp only[BD,Ia,EG];rw[q];simp
  |false=>
   simp only[Am,Ia,EG,j];exact⟨fun h=>h.elim (fun e=>.inr (.inl e)) fun h=>h.elim .inl fun h=>.inr (.inr h),fun h=>h.elim (fun e=>.inr (.inl e)) fun h=>h.elim .inl fun h=>.inr (.inr h)⟩
def amT {m:List (Int×Int)} {k v:Int} (h:(m.map (·.1)).Nodup):((Ea m k v).map (·.1)).Nodup:=by
 induction m with
 |nil=>simp[Ea]
 |cons p m u=>
  have h':=Kv.1 h;unfold Ea;cases q:k==p.1 with
  |true=>
   have j:k=p.1:=MN
   simp only[BD,Ia];rw[j];exact h
  |false=>
   have j:k≠p.1:=MN
   simp only[Am,Ia];refine Kv.2 ⟨fun hm=>?_,u h'.2⟩;rcases akv.1 hm with e|hm
   ·exact j e.symm
   exact h'.1 hm
def al0 (m:List (Int×Int)) (k v:Int):(Ea m k v).length≤m.length+1:=by
 induction m with
 |nil=>simp[Ea]
 |cons p m j=>
  unfold Ea;cases k==p.1 with
  |true=>simp
  |false=>simp only[Am,FV];omega
def LZ.step {m:List (Int×Int)} {f:Int→Nat} (h:LZ m f) (x:Int) (u:f x≤1000000):LZ (stepM m x) (fun y=>f y+if y=x then 1 else 0):=by
 refine⟨amT h.nodup,fun y=>?_⟩;unfold stepM;rw[QY,h.find x]
 have e:Ai (((if f x=0 then none else some (f x:Int)).getD 0)+1)=((f x+1:Nat):Int):=by
  by_cases j:f x=0
  ·rw[CP j,j];rfl
  rw[CU j];show Ai ((f x:Int)+1)=_;exact wrap_succ _ AA
 by_cases q:y=x
 ·subst q;simp only[SY,BD,JV];rw[e,CU AA]
 have :(y==x)=false:=MN
 rw[this];simp only[Am,CU q,OD];exact h.find y
def LZ.fold:∀(c:List Int) {m:List (Int×Int)} {f:Int→Nat},c.Nodup→LZ m f→(∀x,f x≤1000)→LZ (c.foldl stepM m) (fun y=>f y+if y∈c then 1 else 0)
 | [],m,f,_,h,_=>by
   refine⟨h.nodup,fun x=>?_⟩;simp only[List.foldl_nil,EM,Jl,OD];exact h.find x
 |x::c,m,f,q,h,M=>by
  have j:=Kv.1 q
  have key:∀(c:List Int) (m:List (Int×Int)) (g:Int→Nat),c.Nodup→LZ m g→(∀x∈c,g x≤1000)→LZ (c.foldl stepM m) (fun y=>g y+if y∈c then 1 else 0):=by
   intro c
   induction c with
   |nil=>intro m g _ h _;refine⟨h.nodup,fun x=>?_⟩;simp only[List.foldl_nil,EM,Jl,OD];exact h.find x
   |cons z c O=>
    intro m g q h I;have j:=Kv.1 q
    have J:=O (stepM m z) (fun y=>g y+if y=z then 1 else 0) j.2 (h.step z (by have :=I z (EO ..);omega)) fun y L=>by
     have u:y≠z:=fun e=>j.1 (e▸L);simp only[CU u,OD];exact I y (F5 _ L)
    refine⟨J.nodup,fun y=>?_⟩;rw[Ey,J.find y]
    have :(g y+if y=z then 1 else 0)+(if y∈c then 1 else 0)=g y+if y∈z::c then 1 else 0:=by
     by_cases e:y=z
     ·subst e;simp[j.1]
     simp[e]
    simp only[this]
  exact key (x::c) m f q h fun y _=>M y
def aKz :∀(c:List Int) (m:List (Int×Int)),(c.foldl stepM m).length≤m.length+c.length
 | [],m=>Aw
 |x::c,m=>by
  have j:=aKz c (stepM m x);have q:=al0 m x (Ai (((CJ m x).getD 0)+1));rw[Ey,FV];unfold stepM at j ⊢;omega
def U8 {l:List Int} (h:Inc l):l.Nodup:=h.imp fun h=>AA
def LZ.mem {m:List (Int×Int)} {f:Int→Nat} (h:LZ m f) {x n:Int}:(x,n)∈m↔f x≠0∧n=f x:=by
 have key:∀m:List (Int×Int),(m.map (·.1)).Nodup→((x,n)∈m↔CJ m x=some n):=by
  intro m
  induction m with
  |nil=>intro _;simp[CJ]
  |cons p m I=>
   intro J;have j:=Kv.1 J;unfold CJ;rw[EG];cases z:x==p.1 with
   |true=>
    have q:x=p.1:=Le
    simp only[BD,LU];constructor
    ·rintro(e|hm)
     ·rw[←e]
     exact absurd (Dp.2 ⟨_,hm,q⟩) j.1
    intro e;left;rw[q,←e]
   |false=>
    have q:x≠p.1:=Le
    simp only[Am];rw[←I j.2];exact⟨fun h=>h.elim (fun e=>absurd (by rw[←e]) q) id,.inr⟩
 rw[key m h.nodup,h.find x];by_cases u:f x=0
 ·simp[u]
 rw[CU u];simp only[LU,ne_eq,u,not_false_eq_true,true_and];exact eq_comm
def aT1 {l:List Int} (h:l.Nodup):Q8 l=EF l:=by
 refine xH ?_ (Jk l) fun x=>by rw[IY];exact(UA l).mem_iff
 have j:=qP l;have q:(Q8 l).Nodup:=(UA l).nodup_iff.2 h;exact(j.and q).imp fun h=>AA
def aHZ (n:Int):∀(m:List (Int×Int)) (r:List Int) (aJ:List (List Ah)),(aJ.length:Int)=n→r.length+m.length≤1000000→List.foldlM (WM aJ) r m=some (r++(m.filter fun p=>decide (p.2<n)).map (·.1))
 | [],r,aJ,_,_=>Aw
 |p::m,r,aJ,hs,q=>by
  simp only[FV]at q;have e:WM aJ r p=(bif decide (p.2<n)then(Bo 8 r [p.1]).bind fun j=>some j else some r):=by unfold WM;rw[hs]
  rw[Uj,e];cases hd:decide (p.2<n)with
  |true=>
   simp only[BD];rw[Cx FK];simp only[AP];show List.foldlM (WM aJ) (r++[p.1]) m=_;rw[aHZ n m (r++[p.1]) aJ hs Us,Qy,CP hd];simp
  |false=>
   simp only[Am];show List.foldlM (WM aJ) r m=_;rw[aHZ n m r aJ hs AA,Qy,CU (by simp[hd])]
def aVo (l:List AB) (aJ:List (List Ah)) (x:Int):Ip l aJ x≤aJ.length:=List.countP_le_length
def LZ.of_eq {m:List (Int×Int)} {f g:Int→Nat} (h:LZ m f) (e:∀x,f x=g x):LZ m g:=⟨h.nodup,fun x=>by rw[h.find,e]⟩
def akb (l:List AB) (aJ:List (List Ah)) (hl:l.length≤1000) (ha:Qp l) (hs:O4 aJ):uO l aJ=some (OC l aJ):=by
 unfold uO aTT;have hsl:=hs.len;rw[jJ (a0:=[]) aJ AA (fun m s=>(Ej l s).foldl stepM m) (fun i m=>LZ m (Ip l (aJ.take i))∧m.length≤1100*i) (fun v2=>(IK 8 (0:Int) 0 (v2.length:Int)).bind fun L=>(List.foldlM (WM aJ) L v2).bind jA) ⟨⟨aN,fun x=>rfl⟩,Ci _⟩]
 ·obtain⟨J,hlen⟩:LZ (aJ.foldl (fun m s=>(Ej l s).foldl stepM m) []) (Ip l aJ)∧(aJ.foldl (fun m s=>(Ej l s).foldl stepM m) []).length≤1100*aJ.length:=by
   have key:∀(b a:List (List Ah)) (m:List (Int×Int)),(∀s∈b,s.length≤100)→a.length+b.length≤100→LZ m (Ip l a)→m.length≤1100*a.length→LZ (b.foldl (fun m s=>(Ej l s).foldl stepM m) m) (Ip l (a++b))∧(b.foldl (fun m s=>(Ej l s).foldl stepM m) m).length≤1100*(a.length+b.length):=by
    intro b
    induction b with
    |nil=>intro a m _ _ z I;simpa using⟨z,I⟩
    |cons s b ih=>
     intro a m hb M z I;rw[Ey,List.append_cons];have hc:=oO l s;have q:=hb s (EO ..);have O:=aKz (Ej l s) m;simp only[FV]at M ⊢;have :=ih (a++[s]) ((Ej l s).foldl stepM m) (fun t ht=>hb t (F5 _ ht)) Us ?_ Us
     ·simpa[Rz,Ui 1]using this
     refine(LZ.fold (Ej l s) (U8 (abB l s)) z fun x=>by have :=aVo l a x;omega).of_eq fun x=>?_;unfold Ip;rw[List.countP_append,List.countP_singleton];by_cases u:x∈Ej l s
     ·rw[CP u,CP (Iu.2 u)]
     rw[CU u,CU (by rw[OE.2 u];simp)]
   have :=key aJ [] [] (fun s h=>(hs.each s h).1) (by simpa using hs.len) ⟨aN,fun x=>rfl⟩ (Ci _);simpa using this
  generalize aJ.foldl (fun m s=>(Ej l s).foldl stepM m) []=m at J hlen
  have hm:IK 8 (0:Int) 0 (m.length:Int)=some []:=by
   unfold IK;rw[CP aCl];rfl
  rw[hm];simp only[AP];rw[aHZ (aJ.length:Int) m [] aJ rfl SN];simp only[AP,I5];have U:((m.filter fun p=>decide (p.2<(aJ.length:Int))).map (·.1)).Nodup:=J.nodup.sublist (QM.map _);have hle:((m.filter fun p=>decide (p.2<(aJ.length:Int))).map (·.1)).length≤m.length:=by rw[CB];exact J4 _ _
  unfold jA LK;rw[CP AA];simp only[AP];congr 1;rw[aT1 U];refine xH (Jk _) (agG _ _) fun x=>?_;rw[IY,Dp];unfold OC;rw[FN,aT8];constructor
  ·rintro⟨⟨y,n⟩,hp,rfl⟩;rw[FN]at hp;obtain⟨z,I⟩:=J.mem.1 hp.1;have O:n<(aJ.length:Int):=by simpa using hp.2
   subst I;refine⟨?_,DW⟩;have :0<Ip l aJ y:=AA
   obtain⟨s,Y,Z⟩:=List.countP_pos_iff.1 this;exact⟨s,Y,Iu.1 Z⟩
  rintro⟨⟨s,z,I⟩,O⟩;have h4:0<Ip l aJ x:=List.countP_pos_iff.2 ⟨s,z,Iu.2 I⟩;refine⟨(x,(Ip l aJ x:Int)),FN.2 ⟨J.mem.2 ⟨AA,rfl⟩,?_⟩,rfl⟩;have h5:Ip l aJ x<aJ.length:=aBY
  simp;omega
 ·intro k m i h hI;have hc:=oO l aJ[i];have q:=(hs.each aJ[i] (ED h)).1;refine⟨⟨?_,?_⟩,?_⟩
  ·refine(LZ.fold (Ej l aJ[i]) (U8 (abB l aJ[i])) hI.1 fun x=>by have :=aVo l (aJ.take i) x;rw[F7]at this;omega).of_eq fun x=>?_;rw[Nc h];unfold Ip;rw[List.countP_append,List.countP_singleton];by_cases u:x∈Ej l aJ[i]
   ·rw[CP u,CP (Iu.2 u)]
   rw[CU u,CU (by rw[OE.2 u];simp)]
  ·have :=aKz (Ej l aJ[i]) m;have :=hI.2;omega
  unfold aBb;rw[Bl h,acE l _ hl ha q];simp only[AP];unfold aYm;rw[jJ (Ej l aJ[i]) AA stepM (fun _ _=>True) (fun v8=>k (Ai ((i:Int)+1)) v8) trivial]
  ·intro k2 a j hj _;refine⟨trivial,?_⟩;unfold aGG;rw[Bl hj];rfl
  intro k2 a _;unfold aGG;rw[DZ]
 intro k m hI;unfold aBb;rw[DZ]
def abS {R A B α:Type} {body:(A→B→Int→Option R)→A→B→Int→Option R} (l:List α) (hl:l.length≤1099511627776) (f:A→B→α→A) (g:A→B→α→B) (I:Nat→A→B→Prop) (j:A→B→Option R) {Q:R→Prop} {a0:A} {q:B} (u:I 0 a0 q)
 (z:∀k a b (i:Nat) (h:i<l.length),I i a b→I (i+1) (f a b l[i]) (g a b l[i])∧body k a b (i:Int)=k (f a b l[i]) (g a b l[i]) (Ai ((i:Int)+1)))
 (J:∀k a b,I l.length a b→body k a b (l.length:Int)=j a b) (L:∀a b,I l.length a b→dX (j a b) Q):dX (iY body Aj a0 q 0) Q:=by
 refine QW (body:=body) (Q:=Q) (fun m a b c=>∃i:Nat,c=i∧i+m=l.length∧I i a b) ?_ Aj l.length a0 q 0 (fuel_lt hl) ⟨0,rfl,AA,u⟩;rintro m a b c k ⟨i,rfl,hm,hi⟩ M;by_cases e:i<l.length
 ·obtain⟨O,U⟩:=z k a b i e hi;rw[U,wrap_succ i AA];exact M (m-1) _ _ _ AA ⟨i+1,rfl,AA,O⟩
 have :i=l.length:=AA
 subst this;rw[J _ _ _ hi];exact L a b hi
def aIv (x:Int):∀(cs:List (List Int)) (n:Nat),n+cs.length≤1000000→cs.foldl (fun(n:Int) c=>bif DL c x then Ai (n+1)else n) (n:Int)=((n+cs.countP (fun c=>DL c x):Nat):Int)
 | [],n,_=>Aw
 |c::cs,n,h=>by
  rw[FV]at h;rw[Ey,List.countP_cons];cases j:DL c x with
  |true=>
   simp only[BD,JV];rw[wrap_succ n AA,aIv x cs (n+1) AA];congr 1;omega
  |false=>
   simp only[Am,Qh,Jl,OD];exact aIv x cs n AA
def ahM (l:List AB) (aJ:List (List Ah)) (hl:l.length≤1000) (ha:Qp l) (hs:O4 aJ):aH0 l aJ=some (OC l aJ):=by
 refine dX.eq ?_;unfold aH0 aR8;have M:=hs.len
 have z:∀i,(allOf l (aJ.take i)).length≤1100*i:=by
  intro i;have O:=aGJ l (aJ.take i) [] fun s h=>(hs.each s (YL h)).1;rw[F7,L9]at O;have h2:min i aJ.length*(100+l.length)≤i*1100:=aAG (aH6 _ _) AA;unfold allOf;omega
 refine abS aJ AA (fun a _ s=>a++[Ej l s]) (fun _ b s=>Hq b (Ej l s)) (fun i a b=>a=(aJ.take i).map (Ej l)∧b=allOf l (aJ.take i)) (fun a b=>aN0 b a [] 0) ⟨rfl,rfl⟩ ?_ ?_ ?_
 ·rintro k a b i h ⟨rfl,rfl⟩;have U:=oO l aJ[i];have q:=(hs.each aJ[i] (ED h)).1;have u:aJ.take (i+1)=aJ.take i++[aJ[i]]:=Nc h;refine⟨⟨by rw[u,KO];rfl,by rw[u];unfold allOf;rw[TQ];rfl⟩,?_⟩;unfold aIo;rw[dec_lt h,BZ h];simp only[BD,AP];rw[ae8 l _ hl ha q];simp only[AP];rw[Cx (by simp only[CB,F7,NQ];omega)];simp only[AP];have :=z i;rw[Src _ _ AA AA];rfl
 ·rintro k a b ⟨rfl,rfl⟩;unfold aIo;rw[CX];rfl
 rintro a b ⟨rfl,rfl⟩;rw[FW];refine dX.of ?_;have Y:=z aJ.length;rw[FW]at Y;unfold aN0;rw[Hu (allOf l aJ) AA (fun r x=>bif decide (Ip l aJ x<aJ.length)then r++[x]else r) (fun i r=>r.length≤i) (fun r=>some r) (Dn _)]
 ·congr 1;unfold OC
  have key:∀(S r:List Int),S.foldl (fun r x=>bif decide (Ip l aJ x<aJ.length)then r++[x]else r) r=r++S.filter (fun x=>decide (Ip l aJ x<aJ.length)):=by
   intro S
   induction S with
   |nil=>intro r;simp
   |cons x S Z=>
    intro r;rw[Ey,Z,Qy];cases decide (Ip l aJ x<aJ.length)<;>simp
  simpa using key (allOf l aJ) []
 ·intro k r i h hI;refine⟨?_,?_⟩
  ·cases decide (Ip l aJ (allOf l aJ)[i]<aJ.length)with
   |false=>show r.length≤i+1;omega
   |true=>show(r++[(allOf l aJ)[i]]).length≤i+1;simp;omega
  unfold aKZ;rw[dec_lt h];simp only[BD];unfold aR2
  rw[Hu (aJ.map (Ej l)) Ws (fun(n:Int) c=>bif DL c (allOf l aJ)[i]then Ai (n+1)else n) (fun _ _=>True)
   (fun n=>bif decide (n<((aJ.map (Ej l)).length:Int))then k (r++[(allOf l aJ)[i]]) (Ai ((i:Int)+1))else k r (Ai ((i:Int)+1))) trivial]
  ·have I:=aIv (allOf l aJ)[i] (aJ.map (Ej l)) 0 Ws;rw[show((0:Nat):Int)=0 from rfl]at I;rw[I,List.countP_map,CB,Ij]
   have e:decide (((aJ.countP ((fun c=>DL c (allOf l aJ)[i])∘Ej l):Nat):Int)<(aJ.length:Int))=decide (Ip l aJ (allOf l aJ)[i]<aJ.length):=by
    unfold Ip;rw[ZN];exact Int.ofNat_lt
   rw[e];cases decide (Ip l aJ (allOf l aJ)[i]<aJ.length)<;>rfl
  ·intro k2 n j J _;refine⟨trivial,?_⟩;have L:j<aJ.length:=by rw[CB]at J;exact J
   have U:=oO l aJ[j];have q:=(hs.each aJ[j] (ED L)).1;unfold aNT;rw[dec_lt J,BZ J,BZ h];simp only[BD,AP];rw[VY _ _ (by rw[Oq];omega)];simp only[AP];cases DL (aJ.map (Ej l))[j] (allOf l aJ)[i]<;>rfl
  intro k2 n _;unfold aNT;rw[CX];simp only[Am];rw[BZ h];simp only[AP];rw[Cx FK];cases decide (n<((aJ.map (Ej l)).length:Int))<;>rfl
 intro k r _;unfold aKZ;rw[CX];rfl
def akp (l:List AB) (aJ:List (List Ah)) (hl:l.length≤1000) (ha:Qp l) (hs:O4 aJ):aC2 l aJ=some (Ih l aJ):=by
 have j:=aC5 hs;have q:=KW (Px aJ);have u:=aVD hs hl;unfold aC2;rw[aYN aJ hs,akb l aJ hl ha hs];simp only[AP];rw[Cx AA];simp only[AP];rw[aRb _ KY];unfold Ih;rw[tV]
def aoe (l:List AB) (aJ:List (List Ah)) (hl:l.length≤1000) (ha:Qp l) (hs:O4 aJ):aLW l aJ=some (Ih l aJ):=by
 have j:=aC5 hs;have q:=KW (Px aJ);have u:=aVD hs hl;unfold aLW;rw[aVw aJ hs,ahM l aJ hl ha hs];simp only[AP];rw[Src _ _ AA AA];rfl
def Cm (l:List AB):Prop:=∀e∈l,EY e
def Cm.ajR {l:List AB} (h:Cm l):Qp l:=fun e j=>(h e j).auth
def aOc {R A α:Type} {body:(A→Int→Option R)→A→Int→Option R} (l:List α) (hl:l.length<Aj) (p:α→Bool) (g:Nat→Option R) (rest:Option R) (a0:A)
 (u:∀k (i:Nat) (h:i<l.length),body k a0 (i:Int)=bif p l[i]then g i else k a0 (Ai ((i:Int)+1))) (z:∀k,body k a0 (l.length:Int)=rest):
 aT body Aj a0 0=if l.findIdx p<l.length then g (l.findIdx p)else rest:=by
 have J:Aj=9223372036854775808:=rfl
 have key:∀n (i:Nat),i+n=l.length→∀m,n<m→aT body m a0 (i:Int)=if(l.drop i).findIdx p+i<l.length then g ((l.drop i).findIdx p+i)else rest:=by
  intro n
  induction n with
  |zero=>
   intro i hi m hm;obtain⟨m,rfl⟩:∃q,m=q+1:=⟨m-1,AA⟩
   have :i=l.length:=AA
   subst this;show body (aT body m) _ _=_;rw[z,P8,CU Aw]
  |succ n I=>
   intro i hi m hm;obtain⟨m,rfl⟩:∃q,m=q+1:=⟨m-1,AA⟩
   have j:i<l.length:=AA
   show body (aT body m) _ _=_;rw[u _ i j,wrap_succ i AA,I (i+1) AA m AA,Jq j,Qr];cases p l[i]with
   |true=>simp only[BD,Ij];rw[CP j]
   |false=>
    simp only[Am];rw[show(l.drop (i+1)).findIdx p+(i+1)=(l.drop (i+1)).findIdx p+1+i by omega]
 have :=key l.length 0 AA Aj hl;simpa using this
def Qo {s:List Ah} {k:Int} {key:ByteArray} {id:Int} {x:Ah} (h:x∈ES s k key id):x=⟨k,key,id⟩∨x∈s:=by
 unfold ES at h;rcases Hl.1 h with h|h
 ·exact .inr (YL h)
 rcases EG.1 h with h|h
 ·exact .inl h
 exact .inr (eG h)
def pO (s:List Ah):Prop:=∀x∈s,x.Id=0
def bK {s:List Ah} {k:Int} {key:ByteArray} (h:pO s):pO (ES s k key 0):=fun x j=>by
 rcases Qo j with rfl|j
 ·rfl
 exact h x j
def ru (l:List Ah) (k:Int) (key:ByteArray) (j:Int):Option Ar:=
 (bif decide (j<(l.length:Int))then(Ag l j).bind fun q=>some (q.Kind==k)else some false).bind fun u=>(bif u then(Ag l j).bind fun z=>some (z.Key.toList==key.toList)else some false).bind fun I=>(bif I then some l else(Hg l 0 j).bind fun J=>(Bo 32 [] J).bind fun L=>(Bo 32 L [(⟨k,key,0⟩:Ah)]).bind fun M=>(Hg l j ((l).length)).bind fun O=>(Bo 32 M O).bind fun U=>some U)
def xC (s:List Ah) (k:Int) (key:ByteArray) (hs:s.length≤1000000) (u:pO s):YK s k key=some (ES s k key 0):=by
 unfold YK aRT
 have j:ru s k key ((EZ s ⟨k,key,0⟩:Nat):Int)=some (ES s k key 0):=by
  have hp:=eY s ⟨k,key,0⟩;unfold ru ES
  have q:((Hg s 0 ((EZ s ⟨k,key,0⟩:Nat):Int)).bind fun z=>(Bo 32 [] z).bind fun I=>(Bo 32 I [(⟨k,key,0⟩:Ah)]).bind fun J=>(Hg s ((EZ s ⟨k,key,0⟩:Nat):Int) ((s).length)).bind fun L=>(Bo 32 J L).bind fun M=>some M)=some (s.take (EZ s ⟨k,key,0⟩)++⟨k,key,0⟩::s.drop (EZ s ⟨k,key,0⟩)):=by
   rw[pF hp];simp only[AP];rw[Cx DW];simp only[AP,I5];rw[Cx DW];simp only[AP];rw[Ua hp];simp only[AP];rw[Cx DW];simp
  rw[q];by_cases hl:EZ s ⟨k,key,0⟩<s.length
  ·rw[dec_lt hl,BZ hl];simp only[BD,AP]
   have O:JI s ⟨k,key,0⟩=(s[EZ s ⟨k,key,0⟩].Kind==k&&decide (s[EZ s ⟨k,key,0⟩].Key=key)):=by
    unfold JI;rw[DC hl];rfl
   rw[O,IB];cases Y:s[EZ s ⟨k,key,0⟩].Kind==k with
   |false=>rfl
   |true=>
    simp only[BD,AP,GL];cases hd:decide (s[EZ s ⟨k,key,0⟩].Key=key)with
    |true=>
     simp only[BD];have Z:s[EZ s ⟨k,key,0⟩].Kind=k:=Vz
     have h2:s[EZ s ⟨k,key,0⟩].Key=key:=by simpa using hd
     have h3:=u _ (ED hl)
     have h4:(⟨k,key,0⟩:Ah)=s[EZ s ⟨k,key,0⟩]:=by
      have :∀(y:Ah),y.Kind=k→y.Key=key→y.Id=0→(⟨k,key,0⟩:Ah)=y:=fun y a b c=>by cases y;simp only at a b c;rw[a,b,c]
      exact this _ Z h2 h3
     congr 1
     conv=>rhs;arg 2;arg 1;rw[h4]
     rw[←Jq hl,Qn]
    |false=>rfl
  have u:EZ s ⟨k,key,0⟩=s.length:=AA
  have O:JI s ⟨k,key,0⟩=false:=by unfold JI;rw[u,I8 (Dn _)]
  rw[O,u,CX];rfl
 rw[J6 s (fuel_lt AA) (fun x=> !FC x ⟨k,key,0⟩) (fun i=>ru s k key (i:Int)) (ru s k key (s.length:Int))]
 ·split
  ·exact j
  rename_i h;have u:EZ s ⟨k,key,0⟩=s.length:=aag
  rw[u]at j;exact j
 ·intro k2 i h;unfold aLh
  have e:(bif decide ((i:Int)<(s.length:Int))then(Ag s (i:Int)).bind fun x5=>(bif decide (x5.Kind<k)then some true else(Ag s (i:Int)).bind fun x8=>(bif (x8.Kind==k)then(Ag s (i:Int)).bind fun U=>some (Op.bytesLess (U.Key.toList) (key.toList))else some false).bind fun x9=>some x9).bind fun x6=>some x6 else some false)=some (FC s[i] ⟨k,key,0⟩):=by
   rw[dec_lt h,BZ h];simp only[BD,AP];unfold FC;cases decide (s[i].Kind<k)<;>cases s[i].Kind==k<;>rfl
  rw[e];simp only[AP];cases FC s[i] ⟨k,key,0⟩<;>rfl
 intro k2;unfold aLh;rw[CX];simp only[Am,AP];unfold ru;rw[CX];rfl
def JF (e:AB):List Ah:=ES (ES (ES [] 1 BK 0) 3 BK 0) 2 e.aU 0
def keysOf (e:AB):List Ah:=
 bif e.Kind==1 then[]else bif e.Kind==2 then(bif e.Content.N==3||e.Content.N==1||e.Content.N==2 then ES (ES (JF e) 2 e.Key 0) 4 BK 0 else ES (JF e) 2 e.Key 0)else JF e
def aHU (e:AB):(JF e).length≤3:=by
 have j:=PU [] 1 BK 0;have q:=PU (ES [] 1 BK 0) 3 BK 0;have u:=PU (ES (ES [] 1 BK 0) 3 BK 0) 2 e.aU 0;unfold JF;simp only[L9]at j;omega
def aJE (e:AB):pO (JF e):=bK (bK (bK fun x j=>absurd j EM))
def QS (e:AB):(keysOf e).length≤5:=by
 have j:=aHU e;have q:=PU (JF e) 2 e.Key 0;have u:=PU (ES (JF e) 2 e.Key 0) 4 BK 0;unfold keysOf;cases e.Kind==1<;>cases e.Kind==2<;>cases(e.Content.N==3||e.Content.N==1||e.Content.N==2)<;>simp only[BD,Am,L9]<;>omega
def aTV (e:AB):ou e=some (keysOf e):=by
 have q:=aHU e;have u:=PU (JF e) 2 e.Key 0;have j:=PU [] 1 BK 0;have z:=PU (ES [] 1 BK 0) 3 BK 0;simp only[L9]at j;unfold ou keysOf;rw[Yi [] 1 BK 0 Aw];simp only[AP];rw[Yi _ 3 BK 0 AA];simp only[AP];rw[Yi _ 2 e.aU 0 AA];simp only[AP];show(bif e.Kind==1 then some []else bif e.Kind==2 then(SG (JF e) 2 e.Key 0).bind _ else kR (JF e))=_;rw[Yi (JF e) 2 e.Key 0 AA];simp only[AP];rw[Yi _ 4 BK 0 AA];unfold kR;cases e.Kind==1<;>cases e.Kind==2<;>cases e.Content.N==3<;>cases e.Content.N==1<;>cases e.Content.N==2<;>rfl
def zX (e:AB):jE e=some (keysOf e):=by
 have z:=aHU e;have I:=PU (JF e) 2 e.Key 0;have q:=PU [] 1 BK 0;have J:=PU (ES [] 1 BK 0) 3 BK 0;have z0:pO []:=fun x u=>absurd u EM;simp only[L9]at q;unfold jE keysOf;rw[xC [] 1 BK Aw z0];simp only[AP];rw[xC _ 3 BK AA (bK z0)];simp only[AP];rw[xC _ 2 e.aU AA (bK (bK z0))];simp only[AP];show(bif e.Kind==1 then some []else bif e.Kind != 2 then some (JF e)else(YK (JF e) 2 e.Key).bind _)=_;rw[xC (JF e) 2 e.Key AA (aJE e)];simp only[AP];rw[xC _ 4 BK AA (bK (aJE e))];unfold aLi;have j:(e.Kind != 2)= !(e.Kind==2):=rfl;rw[j];cases e.Kind==1<;>cases e.Kind==2<;>cases e.Content.N==3<;>cases e.Content.N==1<;>cases e.Content.N==2<;>rfl
def DX (k:Ah) (x:AB):Bool:=x.Kind==k.Kind&&decide (x.Key=k.Key)
def Jo (l:List AB) (e:AB):List AB:=(keysOf e).flatMap fun k=>((ofIds l e.bg).find? (DX k)).toList
def flat_length {α β:Type} {f:α→List β} {n:Nat} (h:∀x,(f x).length≤n):∀l:List α,(l.flatMap f).length≤n*l.length
 | []=>Aw
 |x::l=>by
  have j:=h x;have q:=flat_length h l;rw[JX,E9,FV,Nat.mul_succ];omega
def aCS (l:List AB) (e:AB):(Jo l e).length≤5:=by
 have j:=flat_length (f:=fun k=>((ofIds l e.bg).find? (DX k)).toList) (n:=1) (fun k=>toList_le _) (keysOf e);have q:=QS e;unfold Jo;omega
def aDE {l:List AB} {ids:List Int} {x:AB} (h:x∈ofIds l ids):x∈l:=by
 obtain⟨i,_,h⟩:=Sl.1 h;exact Ht h
def acu {l:List AB} {e x:AB} (h:x∈Jo l e):x∈l:=by
 obtain⟨k,_,h⟩:=Rl.1 h;have :(ofIds l e.bg).find? (DX k)=some x:=J3
 exact aDE (OA this)
def IU (x:Ah):QF:=⟨x.Kind,x.Key⟩
def aKQ (e:AB):jV e=some ((keysOf e).map IU):=by
 unfold jV;rw[aTV];simp only[AP];have q:=QS e;unfold aRm;rw[Hu (keysOf e) AA (fun r x=>r++[IU x]) (fun i r=>r.length≤i) (fun r=>some r) (Dn _)]
 ·rw[foldl_append (fun x=>[IU x]),I5];congr 1
  induction keysOf e with
  |nil=>rfl
  |cons x s j=>rw[JX,j];rfl
 ·intro k r i h u;refine⟨aAv,?_⟩;unfold aNg;rw[Bl h,Cx FK];rfl
 intro k r _;unfold aNg;rw[DZ]
def aXo (l:List AB) (p:AB→Bool):∀ids:List Int,(ofIds l ids).find? p=(ids.find? fun i=>match DV l i with |some x=>p x|none=>false).bind (DV l)
 | []=>rfl
 |i::ids=>by
  have j:=aXo l p ids;unfold ofIds at j ⊢;rw[Lr,KA];cases q:DV l i with
  |none=>exact j
  |some x=>
   simp only;rw[KA];cases p x with
   |true=>exact q.symm
   |false=>exact j
def aRq (l:List AB) (e:AB) (hl:l.length≤1000) (I:e.bg.length≤40):qL l e=some (Jo l e):=by
 unfold qL;rw[aKQ];simp only[AP];have J:=QS e;unfold aRP;rw[Hu (a0:=[]) ((keysOf e).map IU) Ws (fun r k=>r++((ofIds l e.bg).find? fun x=>x.Kind==k.XV&&decide (x.Key=k.XW)).toList) (fun i r=>r.length≤i) (fun r=>some r) (Dn _)]
 ·congr 1;rw[foldl_append (fun k:QF=>((ofIds l e.bg).find? fun x=>x.Kind==k.XV&&decide (x.Key=k.XW)).toList),I5,aOw];rfl
 ·intro k r i h L;have ht:=toList_le ((ofIds l e.bg).find? fun x=>x.Kind==((keysOf e).map IU)[i].XV&&decide (x.Key=((keysOf e).map IU)[i].XW));refine⟨KY,?_⟩;have hi:i<5:=by rw[CB]at h;omega
  unfold aJN;rw[Bl h];generalize((keysOf e).map IU)[i]=K;unfold aUK
  rw[aOc e.bg (fuel_lt AA) (fun id=>match DV l id with |some x=>x.Kind==K.XV&&decide (x.Key=K.XW)|none=>false)
   (fun j=>vV k (i:Int) (r++(match e.bg[j]? with |some id=>(DV l id).toList|none=>[]))) (vV k (i:Int) r)]
  ·rw[aXo,JK];by_cases q:e.bg.findIdx (fun id=>match DV l id with |some x=>x.Kind==K.XV&&decide (x.Key=K.XW)|none=>false)<e.bg.length
   ·rw[CP q,DC q];rfl
   rw[CU q,I8 AA];simp only[Option.bind_none,aPg,Oc];rfl
  ·intro k2 j u;unfold aMK;rw[Bl u,Np l _ AA,DC u];simp only[AP];cases z:DV l e.bg[j]with
   |none=>rw[Rn z];rfl
   |some x=>
    rw[LW z];simp only[BD,QZ];unfold VU;rw[IB];rw[Cx FK];cases x.Kind==K.XV<;>cases decide (x.Key=K.XW)<;>rfl
  intro k2;unfold aMK;rw[DZ]
 intro k r _;unfold aJN;rw[DZ]
def aXn (l:List AB) (e:AB) (hl:l.length≤1000) (Y:e.bg.length≤40):zN l e=some (Jo l e):=by
 unfold zN;rw[zX,aIy l _ hl AA];simp only[AP];have Z:=QS e;have L:=XU l e.bg;unfold aSB;rw[Hu (a0:=[]) (keysOf e) AA (fun r k=>r++((ofIds l e.bg).find? (DX k)).toList) (fun i r=>r.length≤i) (fun r=>some r) (Dn _)]
 ·rw[foldl_append (fun k:Ah=>((ofIds l e.bg).find? (DX k)).toList),I5];rfl
 ·intro k r i h hI;have ht:=toList_le ((ofIds l e.bg).find? (DX (keysOf e)[i]));refine⟨KY,?_⟩;have hi:i<5:=AA
  unfold aHs;rw[dec_lt h];simp only[BD];generalize ofIds l e.bg=O at L ht;unfold aSJ
  have u:∀m (a:List AB) (j:Int),0<m→iY (QG O (keysOf e) (i:Int) k) m a true j=k a (Ai ((i:Int)+1)):=by
   intro m a j hm;obtain⟨m,rfl⟩:∃I,m=I+1:=⟨m-1,AA⟩
   show QG O (keysOf e) (i:Int) k (iY (QG O (keysOf e) (i:Int) k) m) a true j=_;unfold QG;cases decide (j<(O.length:Int))<;>rfl
  have key:∀n (j:Nat),j+n=O.length→∀m,n+1<m→iY (QG O (keysOf e) (i:Int) k) m r false (j:Int)=k (r++((O.drop j).find? (DX (keysOf e)[i])).toList) (Ai ((i:Int)+1)):=by
   intro n
   induction n with
   |zero=>
    intro j M m hm;obtain⟨m,rfl⟩:∃I,m=I+1:=⟨m-1,AA⟩
    have :j=O.length:=AA
    subst this;show QG O (keysOf e) (i:Int) k (iY (QG O (keysOf e) (i:Int) k) m) r false _=_;unfold QG;rw[CX,P8];simp
   |succ n U=>
    intro j M m hm;obtain⟨m,rfl⟩:∃I,m=I+1:=⟨m-1,AA⟩
    have z:j<O.length:=AA
    have J:=U (j+1) AA m AA;show QG O (keysOf e) (i:Int) k (iY (QG O (keysOf e) (i:Int) k) m) r false _=_;have q:=u m;generalize iY (QG O (keysOf e) (i:Int) k) m=K at J q;unfold QG aKF aIM;rw[dec_lt z,BZ z,BZ h];simp only[BD,Il,AP];rw[IB,wrap_succ j AA,Jq z,KA,J];rw[Cx FK];simp only[AP];rw[q _ _ AA];unfold DX;cases O[j].Kind==(keysOf e)[i].Kind<;>cases decide (O[j].Key=(keysOf e)[i].Key)<;>rfl
  have :=key O.length 0 AA Aj fA;exact this
 intro k r _;unfold aHs;rw[CX];rfl
def Hw (c:ByteArray):Ba:=bif !(c.toList==BK.toList)then{ VD with Users:=[⟨c,100⟩] }else VD
def Q5 (l:List AB):ByteArray:=match l.find? fun x=>x.Kind==1 with |some x=>x.aU|none=>BK
def Ew (l:List AB):Ba:=match l.find? fun x=>x.Kind==3 with |some x=>x.Content.Levels|none=>Hw (Q5 l)
def aQB (c:ByteArray):sH c=some (Hw c):=by
 unfold sH Hw aEL;cases c.toList==BK.toList<;>rfl
def abC (c:ByteArray):aDx c=some (Hw c):=by
 unfold aDx Hw aOm;cases c.toList==BK.toList<;>rfl
def aQo (l:List AB) (k:Int) (hl:l.length≤1000):sQ l k=some (if l.findIdx (fun e=>e.Kind==k)<l.length then((l.findIdx (fun e=>e.Kind==k):Nat):Int)else -1):=by
 unfold sQ;rw[aDg l AA (fun a0=>aDv a0 k) (fun e=>e.Kind==k) fun _=>rfl];rfl
def aB8 (l:List AB) (hl:l.length≤1000) (hs:Cm l):aS l=some (Ew l,Q5 l):=by
 have q:∀c,gB l c=some (match l.find? fun x=>x.Kind==3 with |some x=>x.Content.Levels|none=>Hw c,c):=by
  intro c;unfold gB;rw[aQo l 3 hl,JK];simp only[AP];by_cases h:l.findIdx (fun e=>e.Kind==3)<l.length
  ·rw[CP h,show decide (((l.findIdx (fun e=>e.Kind==3):Nat):Int)≥0)=true by simp,BZ h,DC h];simp only[BD,AP];have u:=hs _ (ED h);have z:=u.users;have I:=u.kinds;unfold aB3 aCW;rw[Cx SN,Cx SN];rfl
  rw[CU h,I8 AA,aQB];rfl
 unfold aS;rw[aQo l 1 hl];simp only[AP];by_cases h:l.findIdx (fun e=>e.Kind==1)<l.length
 ·have j:Q5 l=l[l.findIdx (fun e=>e.Kind==1)].aU:=by unfold Q5;rw[JK,DC h]
  rw[CP h,show decide (((l.findIdx (fun e=>e.Kind==1):Nat):Int)≥0)=true by simp,BZ h];simp only[BD,AP];rw[q,←j];rfl
 have j:Q5 l=BK:=by unfold Q5;rw[JK,I8 AA]
 rw[CU h];show gB l BK=_;rw[q,←j];rfl
def aPE (l:List AB) (hl:l.length≤1000):qI l=some (Ew l,Q5 l):=by
 have I:∀c,aAX l c 0 L6=some (match l.find? fun x=>x.Kind==3 with |some x=>x.Content.Levels|none=>Hw c,c):=by
  intro c;unfold aAX
  have O:∀{R:Type} {body:(Int→Ba→Option R)→Int→Ba→Option R} (p:AB→Bool) (g:Nat→Option R) (rest:Option R) (a0:Ba)
   (Y:∀k (i:Nat) (h:i<l.length),body k (i:Int) a0=bif p l[i]then g i else k (Ai ((i:Int)+1)) a0) (Z:∀k,body k (l.length:Int) a0=rest),
   aT body Aj 0 a0=if l.findIdx p<l.length then g (l.findIdx p)else rest:=by
   intro R body p g rest a0 Y Z;have hf:Aj=9223372036854775808:=rfl
   have key:∀n (i:Nat),i+n=l.length→∀m,n<m→aT body m (i:Int) a0=if(l.drop i).findIdx p+i<l.length then g ((l.drop i).findIdx p+i)else rest:=by
    intro n
    induction n with
    |zero=>
     intro i hi m hm;obtain⟨m,rfl⟩:∃z,m=z+1:=⟨m-1,AA⟩
     have :i=l.length:=AA
     subst this;show body (aT body m) _ _=_;rw[Z,P8,CU Aw]
    |succ n U=>
     intro i hi m hm;obtain⟨m,rfl⟩:∃z,m=z+1:=⟨m-1,AA⟩
     have q:i<l.length:=AA
     show body (aT body m) _ _=_;rw[Y _ i q,wrap_succ i AA,U (i+1) AA m AA,Jq q,Qr];cases p l[i]with
     |true=>simp only[BD,Ij];rw[CP q]
     |false=>
      simp only[Am];rw[show(l.drop (i+1)).findIdx p+(i+1)=(l.drop (i+1)).findIdx p+1+i by omega]
   have :=key l.length 0 AA Aj AA;simpa using this
  rw[O (fun x=>x.Kind==3) (fun i=>some ((match l[i]? with |some x=>x.Content.Levels|none=>L6),c)) (some (Hw c,c))]
  ·rw[JK];by_cases h:l.findIdx (fun e=>e.Kind==3)<l.length
   ·rw[CP h,DC h]
   rw[CU h,I8 AA]
  ·intro k i h;unfold aI0;rw[Bl h,BZ h,DC h];rfl
  intro k;unfold aI0;rw[DZ,abC];rfl
 unfold qI aXV;obtain⟨F,M⟩:∃F:ByteArray→Option (Ba×ByteArray),∀c,aAX l c 0 L6=F c:=⟨_,fun _=>rfl⟩
 simp only[M]at I
 have J:∀m (c:ByteArray) (j:Int),0<m→iY (Qs l) m c true j=F c:=by
  intro m c j hm;obtain⟨m,rfl⟩:∃z,m=z+1:=⟨m-1,AA⟩
  show Qs l (iY (Qs l) m) c true j=_;unfold Qs;simp only[M];cases decide (j<(l.length:Int))<;>rfl
 have key:∀n (j:Nat),j+n=l.length→∀m,n+1<m→iY (Qs l) m BK false (j:Int)=F (match(l.drop j).find? fun x=>x.Kind==1 with |some x=>x.aU|none=>BK):=by
  intro n
  induction n with
  |zero=>
   intro j hj m hm;obtain⟨m,rfl⟩:∃z,m=z+1:=⟨m-1,AA⟩
   have :j=l.length:=AA
   subst this;show Qs l (iY (Qs l) m) BK false _=_;unfold Qs;simp only[M];rw[CX,P8];rfl
  |succ n U=>
   intro j hj m hm;obtain⟨m,rfl⟩:∃z,m=z+1:=⟨m-1,AA⟩
   have q:j<l.length:=AA
   have L:=U (j+1) AA m AA;show Qs l (iY (Qs l) m) BK false _=_;have u:=J m;generalize iY (Qs l) m=K at L u;unfold Qs aI7;simp only[M];rw[dec_lt q,BZ q];simp only[BD,Il,AP];rw[wrap_succ j AA,Jq q,KA,L,u _ _ AA];cases l[j].Kind==1<;>rfl
 have :=key l.length 0 AA Aj fA;rw[show((0:Nat):Int)=0 from rfl]at this;rw[this,I];rfl
def Dz (v:Ba) (u:ByteArray):Int:=match v.Users.find? fun x=>decide (x.User=u)with |some x=>x.N|none=>v.User
def Xq (v:Ba) (u:ByteArray) (h:v.Users.length≤1000):Sj v u=some (Dz v u):=by
 unfold Sj aUh Dz;rw[J6 v.Users (fuel_lt AA) (fun x=>decide (x.User=u)) (fun i=>some (match v.Users[i]? with |some x=>x.N|none=>0)) (some v.User)]
 ·rw[JK];by_cases h:v.Users.findIdx (fun x=>decide (x.User=u))<v.Users.length
  ·rw[CP h,DC h]
  rw[CU h,I8 AA]
 ·intro k i h;unfold aPs;rw[Bl h,IB,DC h]
 intro k;unfold aPs;rw[DZ]
def Xu (v:Ba) (u:ByteArray) (h:v.Users.length≤1000):UK v u=some (Dz v u):=by
 unfold UK aQO Dz;rw[J6 v.Users (fuel_lt AA) (fun x=>decide (x.User=u)) (fun i=>some (match v.Users[i]? with |some x=>x.N|none=>0)) (some v.User)]
 ·rw[JK];by_cases h:v.Users.findIdx (fun x=>decide (x.User=u))<v.Users.length
  ·rw[CP h,DC h]
  rw[CU h,I8 AA]
 ·intro k i h;unfold aNe;rw[Bl h,IB,DC h,BZ h];rfl
 intro k;unfold aNe;rw[DZ]
def er {l:List AB} (h:Cm l):(Ew l).Users.length≤100∧(Ew l).Kinds.length≤100:=by
 unfold Ew;cases j:l.find? fun x=>x.Kind==3 with
 |some x=>
  have :=h x (OA j);exact⟨this.users,this.kinds⟩
 |none=>
  simp only;unfold Hw;cases(Q5 l).toList==BK.toList with
  |true=>
   show VD.Users.length≤100∧VD.Kinds.length≤100;exact⟨BJ,BJ⟩
  |false=>
   show 1≤100∧VD.Kinds.length≤100;exact⟨BJ,BJ⟩
def gV (l:List AB) (e:AB):Int:=Dz (Ew (Jo l e)) e.aU
def Cm.from {l:List AB} (h:Cm l) (e:AB):Cm (Jo l e):=fun x j=>h x (acu j)
def ag7 (l:List AB) (e:AB) (hl:l.length≤1000) (hs:Cm l) (j:e.bg.length≤40):Fin l e=some (gV l e):=by
 have q:=aCS l e;have u:=(er (hs.from e)).1;unfold Fin;rw[aRq l e hl j];simp only[AP];rw[aB8 _ AA (hs.from e)];simp only[AP];rw[Xq _ _ AA];rfl
def aUD (l:List AB) (e:AB) (hl:l.length≤1000) (hs:Cm l) (j:e.bg.length≤40):aCj l e=some (gV l e):=by
 have q:=aCS l e;have u:=(er (hs.from e)).1;unfold aCj;rw[aXn l e hl j];simp only[AP];rw[aPE _ AA];simp only[AP];rw[Xu _ _ AA];rfl
def P7 (e:AB):Bool:=bif e.Kind==2 then(e.Content.N==0||e.Content.N==4)&& !(decide (e.Key=e.aU))else e.Kind==3||e.Kind==4
def aij (e:AB):aD2 e=some (P7 e):=by
 unfold aD2 aDS P7;rw[IB];by_cases q:e.Kind=2
 ·simp[q];cases e.Content.N==0<;>cases e.Content.N==4<;>rfl
 have j:(e.Kind==2)=false:=MN
 rw[j];cases e.Kind==3<;>cases e.Kind==4<;>rfl
def akN (e:AB):aHC e=some (P7 e):=by
 unfold aHC P7;rw[IB];cases e.Kind==2<;>cases e.Content.N==0<;>cases e.Content.N==4<;>cases e.Kind==3<;>cases e.Kind==4<;>rfl
def aYP (l:List Int) (x:Int) (h:l.length≤1099511627776):pz l x=some (if l.findIdx (· ==x)<l.length then((l.findIdx (· ==x):Nat):Int)else -1):=by
 unfold pz aRZ;rw[J6 l (fuel_lt h) (· ==x) (fun i=>some (i:Int)) (some (-1))]
 ·split<;>rfl
 ·intro k i hi;unfold aNV;rw[Bl hi];have :(x==l[i])=(l[i]==x):=by rw[KR];simp only[OL];exact eq_comm
  rw[this]
 intro k;unfold aNV;rw[DZ]
def aWA (l:List Int) (x:Int):decide (l.findIdx (· ==x)<l.length)=DL l x:=by
 rw[KR,Iu,GN,dQ];exact⟨fun⟨y,j,q⟩=>by rw[←(by simpa using q:y=x)];exact j,fun h=>⟨x,h,Aw⟩⟩
def pY (l:List Int) (x:Int) (h:l.length≤1099511627776):iK l x=some (DL l x):=by
 unfold iK;rw[aYP l x h,←aWA];by_cases hl:l.findIdx (· ==x)<l.length
 ·rw[CP hl,Gu hl];simp
 rw[CU hl,Gv hl];rfl
def aYj (l:List Int) (x:Int) (h:l.length≤1099511627776):lS l x=some (DL l x):=by
 unfold lS;rw[pY l x h];rfl
def ev (l:List AB) (id:Int):AB:=(Fq l id).1
def Vo (l:List AB) (id:Int):Bool:=bV l id&&P7 (ev l id)
def Du (l:List AB) (full:List Int):List Int:=full.filter (Vo l)
def TP (l:List AB) (full:List Int):List Int:=EF (Du l full++full.filter (DL (chainOf l (Du l full))))
def aFX {l:List AB} {full:List Int} {x:Int}:x∈TP l full↔x∈full∧(Vo l x=true∨KC l (Du l full) x):=by
 unfold TP;rw[IY,Hl,FN,Iu,dJ];unfold Du;rw[FN];exact⟨fun h=>h.elim (fun h=>⟨h.1,.inl h.2⟩) fun h=>⟨h.1,.inr h.2⟩,fun⟨h,k⟩=>k.elim (fun k=>.inl ⟨h,k⟩) fun k=>.inr ⟨h,k⟩⟩
def aSw (l:List AB) (full:List Int):Inc (TP l full):=Jk _
def aLT (p:Int→Bool):∀(S r:List Int),S.foldl (fun r x=>bif p x then r++[x]else r) r=r++S.filter p
 | [],r=>Aw
 |x::S,r=>by
  rw[Ey,aLT p S,Qy];cases p x<;>simp
def aeJ (l:List AB) (full:List Int) (hl:l.length≤1000) (hs:Cm l) (I:full.length≤120000) (j:(Du l full).length≤100000):zs l full=some (TP l full):=by
 unfold zs aUj;rw[Hu (a0:=[]) full AA (fun r x=>bif Vo l x then r++[x]else r) (fun i r=>r.length≤i) (fun r=>(Xf l r).bind fun q=>aOz full q r 0) (Dn _)]
 ·have z:full.foldl (fun r x=>bif Vo l x then r++[x]else r) []=Du l full:=by rw[aLT];rfl
  have J:=dh l (Du l full);rw[z,aMt l _ hl hs.ajR j];simp only[AP];unfold aOz;rw[Hu full AA (fun r x=>bif DL (chainOf l (Du l full)) x then r++[x]else r) (fun i r=>r.length≤(Du l full).length+i) (fun r=>some (EF r)) (Dn _)]
  ·rw[aLT];rfl
  ·intro k r i h u;refine⟨?_,?_⟩
   ·cases DL (chainOf l (Du l full)) full[i]with
    |false=>show r.length≤(Du l full).length+(i+1);omega
    |true=>show(r++[full[i]]).length≤(Du l full).length+(i+1);simp;omega
   unfold aGr aDJ;rw[Bl h,aYj _ _ AA];simp only[AP];rw[Cx FK];cases DL (chainOf l (Du l full)) full[i]<;>rfl
  intro k r u;unfold aGr;rw[DZ,YN _ AA];rfl
 ·intro k r i h u;refine⟨?_,?_⟩
  ·cases Vo l full[i]with
   |false=>show r.length≤i+1;omega
   |true=>show(r++[full[i]]).length≤i+1;simp;omega
  unfold aHq aCD;rw[Bl h,Np l _ AA];simp only[AP];rw[Cx FK];unfold Vo bV ev;rw[aij,OM];cases(DV l full[i]).isSome<;>cases P7 (Fq l full[i]).1<;>rfl
 intro k r _;unfold aHq;rw[DZ]
def KC.aEZ {l:List AB} {ids:List Int} {i x:Int} (hi:i∈ids) (h:KC l [i] x):KC l ids x:=by
 induction h with
 |one h j q=>rw[FT.1 h]at j;exact .one hi j q
 |more h j q u=>exact .more u j q
def KC.split {l:List AB} {ids:List Int} {x:Int}:KC l ids x↔∃i∈ids,KC l [i] x:=by
 constructor
 ·intro h
  induction h with
  |one h j q=>exact⟨_,h,.one (FT.2 rfl) j q⟩
  |more h j q I=>obtain⟨i,u,z⟩:=I;exact⟨i,u,.more z j q⟩
 rintro⟨i,u,z⟩;exact .aEZ u z
def KC.bV {l:List AB} {ids:List Int} {x:Int} (h:KC l ids x):bV l x=true:=by cases h<;>assumption
def Zv (h r:List Int) (y:Int):List Int:=bif DL h y then put r y else r
def aDo (h:List Int):∀(c r:List Int),Inc r→Inc (c.foldl (Zv h) r)∧∀x,x∈c.foldl (Zv h) r↔x∈r∨x∈c∧x∈h
 | [],r,q=>⟨q,fun x=>Aw⟩
 |y::c,r,q=>by
  rw[Ey];unfold Zv;cases J:DL h y with
  |true=>
   obtain⟨u,z⟩:=aDo h c (put r y) (SV q);refine⟨u,fun x=>(z x).trans ?_⟩;rw[WL,EG];constructor
   ·rintro((j|rfl)|j)
    ·exact .inl j
    ·exact .inr ⟨.inl rfl,Iu.1 J⟩
    exact .inr ⟨.inr j.1,j.2⟩
   rintro(j|⟨rfl|j,I⟩)
   ·exact .inl (.inl j)
   ·exact .inl (.inr rfl)
   exact .inr ⟨j,I⟩
  |false=>
   obtain⟨u,z⟩:=aDo h c r q;refine⟨u,fun x=>(z x).trans ⟨fun j=>j.imp id fun j=>⟨F5 _ j.1,j.2⟩,fun j=>j.imp id fun j=>⟨?_,j.2⟩⟩⟩;rcases EG.1 j.1 with rfl|I
   ·exact absurd j.2 (OE.1 J)
   exact I
def bG (l:List AB) (h r:List Int) (x:Int):List Int:=bif P7 (ev l x)then(chainOf l [x]).foldl (Zv h) (put r x)else r
def aO7 (l:List AB) (h:List Int):∀(c r:List Int),Inc r→Inc (c.foldl (bG l h) r)∧∀x,x∈c.foldl (bG l h) r↔x∈r∨∃i∈c,P7 (ev l i)=true∧(x=i∨KC l [i] x∧x∈h)
 | [],r,z=>⟨z,fun x=>Aw⟩
 |y::c,r,z=>by
  rw[Ey];unfold bG;cases I:P7 (ev l y)with
  |true=>
   obtain⟨M,O⟩:=aDo h (chainOf l [y]) (put r y) (SV z);obtain⟨J,L⟩:=aO7 l h c _ M;refine⟨J,fun x=>(L x).trans ?_⟩;rw[O x,WL,dJ];constructor
   ·rintro(((j|rfl)|j)|⟨i,j,u⟩)
    ·exact .inl j
    ·exact .inr ⟨x,EO ..,I,.inl rfl⟩
    ·exact .inr ⟨y,EO ..,I,.inr j⟩
    exact .inr ⟨i,F5 _ j,u⟩
   rintro(j|⟨i,j,u,q⟩)
   ·exact .inl (.inl (.inl j))
   rcases EG.1 j with rfl|j
   ·rcases q with rfl|q
    ·exact .inl (.inl (.inr rfl))
    exact .inl (.inr q)
   exact .inr ⟨i,j,u,q⟩
  |false=>
   obtain⟨J,L⟩:=aO7 l h c r z;refine⟨J,fun x=>(L x).trans ⟨fun j=>j.imp id fun⟨i,u,q⟩=>⟨i,F5 _ u,q⟩,fun j=>j.imp id fun⟨i,u,q,U⟩=>⟨i,?_,q,U⟩⟩⟩;rcases EG.1 u with rfl|u
   ·rw[I]at q;cases q
   exact u
def aiC (l:List AB) (full:List Int):(gK l full).foldl (bG l (gK l full)) []=TP l full:=by
 obtain⟨I,J⟩:=aO7 l (gK l full) (gK l full) [] .nil;refine xH I (aSw _ _) fun x=>(J x).trans ?_;rw[aFX,LQ,KC.split];unfold Du Vo;constructor
 ·rintro(z|⟨i,z,j,u⟩)
  ·exact absurd z EM
  have q:=LQ.1 z;rcases u with rfl|u
  ·exact⟨q.1,.inl (by rw[q.2,j];rfl)⟩
  exact⟨u.2.1,.inr ⟨i,FN.2 ⟨q.1,by rw[q.2,j];rfl⟩,u.1⟩⟩
 rintro⟨z,j|⟨i,j,u⟩⟩
 ·rw[CZ]at j;exact .inr ⟨x,LQ.2 ⟨z,j.1⟩,j.2,.inl rfl⟩
 rw[FN,CZ]at j;exact .inr ⟨i,LQ.2 ⟨j.1,j.2.1⟩,j.2.2,.inr ⟨u,z,u.bV⟩⟩
def an9 (l:List AB) (full:List Int) (hl:l.length≤1000) (hs:Cm l) (M:full.length≤100000):aIX l full=some (TP l full):=by
 unfold aIX;rw[aYp l full hl M];simp only[AP];have O:(gK l full).length≤l.length:=kZ (Zw l full) fun x q=>(LQ.1 q).2;unfold aVE;rw[Hu (a0:=[]) (gK l full) AA (bG l (gK l full)) (fun _ r=>Inc r∧∀x∈r,bV l x=true) (fun r=>some r) ⟨.nil,fun x q=>absurd q EM⟩]
 ·rw[aiC]
 ·intro k r i h z;have I:bV l (gK l full)[i]=true:=(LQ.1 (ED h)).2;have U:=kZ z.1 z.2;have g:=aDo (gK l full) (chainOf l [(gK l full)[i]]) (put r (gK l full)[i]) (SV z.1);refine⟨?_,?_⟩
  ·unfold bG;cases P7 (ev l (gK l full)[i])with
   |false=>exact z
   |true=>
    refine⟨g.1,fun x q=>?_⟩;rcases(g.2 x).1 q with u|u
    ·rcases WL.1 u with u|rfl
     ·exact z.2 x u
     exact I
    exact(LQ.1 u.2).2
  unfold aHm aD9;rw[Bl h,Jp l _ AA];simp only[AP];rw[akN,BZ h];simp only[AP];rw[Zk _ _ AA];simp only[AP];rw[aLJ l _ hl hs.ajR Aw];simp only[AP];unfold bG;show(bif P7 (ev l (gK l full)[i])then _ else _)=_;cases P7 (ev l (gK l full)[i])with
  |false=>rfl
  |true=>
   simp only[BD];have hc:=dh l [(gK l full)[i]];unfold aS5
   rw[Hu (chainOf l [(gK l full)[i]]) AA (Zv (gK l full)) (fun _ r=>Inc r∧∀x∈r,bV l x=true) (fun r=>k r (Ai ((i:Int)+1))) ⟨SV z.1,fun x q=>by
    rcases WL.1 q with u|rfl
    ·exact z.2 x u
    exact I⟩]
   ·intro k2 Y j L J;have Z:=kZ J.1 J.2;refine⟨?_,?_⟩
    ·unfold Zv;cases hh:DL (gK l full) (chainOf l [(gK l full)[i]])[j]with
     |false=>exact J
     |true=>
      refine⟨SV J.1,fun x q=>?_⟩;rcases WL.1 q with u|rfl
      ·exact J.2 x u
      exact(LQ.1 (Iu.1 hh)).2
    unfold aKY aM0;rw[Bl L,VY _ _ AA,BZ L];simp only[AP];rw[Zk _ _ AA];unfold Zv;cases DL (gK l full) (chainOf l [(gK l full)[i]])[j]<;>rfl
   intro k2 Y _;unfold aKY aD9;rw[DZ]
 intro k r _;unfold aHm;rw[DZ]
def aEi (l:List AB) (full:List Int):(TP l full).length≤l.length:=
 kZ (aSw l full) fun x j=>by
  rcases(aFX.1 j).2 with h|h
  ·unfold Vo at h;rw[CZ]at h;exact h.1
  exact h.bV
def Ep (l:List AB) (id:Int):QJ:=⟨id,gV l (ev l id),(ev l id).Time,chainOf l [id]⟩
def Vt (l:List AB) (left:List Int) (x:Int):Bool:= !left.any fun y=>DL (chainOf l [x]) y
def Xo (a b:QJ):Bool:=bif a.IL != b.IL then decide (a.IL>b.IL)else decide (a.Bq<b.Bq)
def Gx (l:List AB) (left:List Int) (b:Option Int) (x:Int):Option Int:=bif Vt l left x&&(match b with |none=>true|some y=>Xo (Ep l x) (Ep l y))then some x else b
def Tf (l:List AB) (left:List Int):Option Int:=left.foldl (Gx l left) none
def rP (l:List AB):Nat→List Int→List Int
 |0,_=>[]
 |n+1,left=>match Tf l left with
  |none=>[]
  |some b=>b::rP l n (left.filter (· != b))
def aWr (l:List AB):∀ids:List Int,ids.flatMap (fun id=>bif bV l id then[Ep l id]else[])=(ids.filter (bV l)).map (Ep l)
 | []=>rfl
 |i::ids=>by
  rw[JX,aWr l ids,Qy];cases bV l i<;>simp
def aiY (l:List AB) (ids:List Int) (hl:l.length≤1000) (hs:Cm l) (hi:ids.length≤100000):aAp l ids=some ((gK l ids).map (Ep l)):=by
 unfold aAp;rw[YN ids AA];simp only[AP];have u:=KW ids;unfold aXI;rw[Hu (a0:=[]) (EF ids) AA (fun r id=>r++bif bV l id then[Ep l id]else[]) (fun i r=>r.length≤i) (fun r=>some r) (Dn _)]
 ·rw[foldl_append (fun id=>bif bV l id then[Ep l id]else[]),I5,aWr];rfl
 ·intro k r i h I;refine⟨?_,?_⟩
  ·cases bV l (EF ids)[i]<;>simp <;>omega
  unfold aJA aEn;rw[Bl h,Np l _ AA];simp only[AP];unfold bV;cases j:DV l (EF ids)[i]with
  |none=>rw[Rn j];simp
  |some e=>
   have z:=hs e (Ht j);have q:ev l (EF ids)[i]=e:=by unfold ev;rw[LW j]
   rw[LW j];simp only[BD,Option.isSome_some];rw[ag7 l e hl hs z.auth,aMt l _ hl hs.ajR Aw];simp only[AP];rw[Cx FK];unfold Ep;rw[q];rfl
 intro k r _;unfold aJA;rw[DZ]
def aYS (l:List AB) (left:List Int):∀(c:List Int) (b:Option Int) {x:Int},c.foldl (Gx l left) b=some x→b=some x∨x∈c
 | [],b,x,h=>.inl h
 |y::c,b,x,h=>by
  rw[Ey]at h;rcases aYS l left c _ h with j|j
  ·have key:∀c:Bool,(bif c then some y else b)=some x→b=some x∨x=y:=fun c q=>by
    cases c with
    |true=>simp only[BD,LU]at q;exact .inr q.symm
    |false=>exact .inl q
   rcases key _ j with u|u
   ·exact .inl u
   exact .inr (u▸EO ..)
  exact .inr (F5 _ j)
def acw {l:List AB} {left:List Int} {x:Int} (h:Tf l left=some x):x∈left:=by
 rcases aYS l left left none h with h|h
 ·cases h
 exact h
def aSi {left:List Int} (I:left.Nodup) {j:Nat} (J:j<left.length):left.take j++left.drop (j+1)=left.filter (· != left[j]):=by
 have e:left=left.take j++left[j]::left.drop (j+1):=by rw[←Jq J,Qn]
 have q:(left.take j++left[j]::left.drop (j+1)).Nodup:=by rw[←e];exact I
 have z:=yJ.1 q;have L:=Kv.1 z.2.1
 have M:(left.take j).filter (· != left[j])=left.take j:=XI.2 fun x u=>by
  have :=z.2.2 x u left[j] (EO ..);simpa using this
 have O:(left.drop (j+1)).filter (· != left[j])=left.drop (j+1):=XI.2 fun x u=>by
  have :x≠left[j]:=fun e=>L.1 (e▸u);simpa using this
 have :(left.take j++left[j]::left.drop (j+1)).filter (· != left[j])=left.take j++left.drop (j+1):=by
  rw[Ox,Qy,M,O];simp
 rw[←e]at this;exact this.symm
def aSY {left:List Int} (q:left.Nodup) {b:Int} (u:b∈left):(left.filter (· != b)).length+1=left.length:=by
 obtain⟨j,z,rfl⟩:=G5 u;rw[←aSi q z,E9,F7,IJ];omega
def al9 {left:List Int} (h:Inc left) (b:Int):OQ left [b]=left.filter (· != b):=by
 unfold OQ;rw[acG h];congr 1;funext x;by_cases e:x=b
 ·subst e;simp[DL]
 simp[DL,e]
def amO (l:List AB) (hl:l.length≤1000):∀(m:Nat) (left acc:List Int) (N:Nat),left.length=m→Inc left→(∀x∈left,bV l x=true)→acc.length+left.length≤1000000→m<N→aT Xy N (left.map (Ep l)) acc=some (acc++rP l m left):=by
 intro m
 induction m with
 |zero=>
  intro left acc N hm hi hk hacc hN;obtain⟨N,rfl⟩:∃N',N=N'+1:=⟨N-1,AA⟩
  have :left=[]:=Gh hm;subst this;show Xy _ _ _=_;unfold Xy rP;simp
 |succ m ih=>
  intro left acc N hm hi hk hacc hN;obtain⟨N,rfl⟩:∃N',N=N'+1:=⟨N-1,AA⟩
  have hll:=kZ hi hk;refine dX.eq ?_;show dX (Xy (aT Xy N) _ _) _;have ih':=fun Z acc' h1 h2 h3 h4=>ih Z acc' N h1 h2 h3 h4 AA;generalize aT Xy N=K at ih';unfold Xy;rw[show decide (((left.map (Ep l)).length:Int)>0)=true by rw[CB];simp;omega];simp only[BD];unfold aTs;refine QW (body:=aOO (left.map (Ep l)) K) (fun m2 a b c=>∃i:Nat,b=i∧i+m2=left.length∧c=acc∧((a= -1∧(left.take i).foldl (Gx l left) none=none)∨∃(j:Nat) (z:j<left.length),a=(j:Int)∧(left.take i).foldl (Gx l left) none=some left[j])) ?_ Aj left.length (-1) 0 acc (fuel_lt AA) ⟨0,rfl,AA,rfl,.inl ⟨rfl,rfl⟩⟩;rintro m2 a b c k ⟨i,rfl,hm2,rfl,hI⟩ I;unfold aOO;by_cases J:i<left.length
  ·have O:i<(left.map (Ep l)).length:=by rw[CB];exact J
   rw[dec_lt O,BZ O,Oq];simp only[BD,AP]
   have hst:(left.take (i+1)).foldl (Gx l left) none=Gx l left ((left.take i).foldl (Gx l left) none) left[i]:=by
    rw[Nc J,TQ];rfl
   unfold aQU;have hc:=dh l [left[i]]
   have hin:∀(k2:Int→Int→List Int→Option (List Int)),aT (Xj (left.map (Ep l)) (Ep l left[i]) k2 (i:Int) a) Aj 0 c=bif Vt l left left[i]then(bif decide (a<0)then YC k2 (i:Int) a true c else(Ag (left.map (Ep l)) a).bind fun x27=>(bC (Ep l left[i]) x27).bind fun x28=>YC k2 (i:Int) a x28 c)else aI k2 (i:Int) a c:=by
    intro k2
    have key:∀n (j:Nat),j+n=left.length→∀m,n<m→aT (Xj (left.map (Ep l)) (Ep l left[i]) k2 (i:Int) a) m (j:Int) c=bif !(left.drop j).any (fun y=>DL (chainOf l [left[i]]) y)then(bif decide (a<0)then YC k2 (i:Int) a true c else(Ag (left.map (Ep l)) a).bind fun x27=>(bC (Ep l left[i]) x27).bind fun x28=>YC k2 (i:Int) a x28 c)else aI k2 (i:Int) a c:=by
     intro n
     induction n with
     |zero=>
      intro j z m hm;obtain⟨m,rfl⟩:∃m',m=m'+1:=⟨m-1,AA⟩
      have :j=left.length:=AA
      subst this;show Xj _ _ _ _ _ _ _ _=_;unfold Xj;rw[show decide ((left.length:Int)<((left.map (Ep l)).length:Int))=false by rw[CB];exact CX _,P8];rfl
     |succ n ihn=>
      intro j z m hm;obtain⟨m,rfl⟩:∃m',m=m'+1:=⟨m-1,AA⟩
      have hjl:j<left.length:=AA
      have aG2:j<(left.map (Ep l)).length:=by rw[CB];exact hjl
      have U:=ihn (j+1) AA m AA;show Xj _ _ _ _ _ (aT _ m) _ _=_;generalize aT (Xj (left.map (Ep l)) (Ep l left[i]) k2 (i:Int) a) m=L at U;unfold Xj;rw[Bl aG2,Oq];show((lS (chainOf l [left[i]]) left[j]).bind _)=_;rw[aYj _ _ AA,wrap_succ j AA,Jq hjl,aH];simp only[AP];cases DL (chainOf l [left[i]]) left[j]with
      |true=>rfl
      |false=>
       simp only[Am,NH];exact U
    exact key left.length 0 AA Aj (fuel_lt AA)
   rw[hin];have hw:=wrap_succ i AA;unfold YC aI;rw[hw];cases M:Vt l left left[i]with
   |false=>
    simp only[Am];refine I (m2-1) _ _ _ AA ⟨i+1,rfl,AA,rfl,?_⟩;have e:Gx l left ((left.take i).foldl (Gx l left) none) left[i]=(left.take i).foldl (Gx l left) none:=by unfold Gx;rw[M];rfl
    rw[hst,e];exact hI
   |true=>
    simp only[BD];rcases hI with⟨rfl,Y⟩|⟨j,z,rfl,Y⟩
    ·rw[show decide ((-1:Int)<0)=true by decide];simp only[BD];refine I (m2-1) _ _ _ AA ⟨i+1,rfl,AA,rfl,.inr ⟨i,J,rfl,?_⟩⟩;rw[hst,Y];unfold Gx;rw[M];rfl
    have q:j<(left.map (Ep l)).length:=by rw[CB];exact z
    rw[show decide ((j:Int)<0)=false by simp,BZ q,Oq];simp only[Am,AP]
    have e1:bC (Ep l left[i]) (Ep l left[j])=some (Xo (Ep l left[i]) (Ep l left[j])):=by
     unfold bC Xo;cases(Ep l left[i]).IL != (Ep l left[j]).IL<;>rfl
    rw[e1];simp only[AP];cases ha:Xo (Ep l left[i]) (Ep l left[j])with
    |true=>
     simp only[BD];refine I (m2-1) _ _ _ AA ⟨i+1,rfl,AA,rfl,.inr ⟨i,J,rfl,?_⟩⟩;rw[hst,Y];unfold Gx;rw[M];simp only[ha];rfl
    |false=>
     simp only[Am];refine I (m2-1) _ _ _ AA ⟨i+1,rfl,AA,rfl,.inr ⟨j,z,rfl,?_⟩⟩;rw[hst,Y];unfold Gx;rw[M];simp only[ha];rfl
  have hie:i=left.length:=AA
  subst hie;rw[show decide ((left.length:Int)<((left.map (Ep l)).length:Int))=false by rw[CB];exact CX _];simp only[Am];rw[FW]at hI;have u:rP l (m+1) left=match Tf l left with |none=>[]|some b=>b::rP l m (left.filter (· != b)):=rfl
  rcases hI with⟨rfl,Y⟩|⟨j,z,rfl,Y⟩
  ·rw[show decide ((-1:Int)<0)=true by decide];refine .ret ?_;have h1:Tf l left=none:=Y;rw[u,h1];simp
  have q:j<(left.map (Ep l)).length:=by rw[CB];exact z
  rw[show decide ((j:Int)<0)=false by simp,BZ q,Oq];simp only[Am,AP];have h1:Tf l left=some left[j]:=Y;rw[Cx FK];simp only[AP];rw[pF (Nat.le_of_lt q),wrap_succ j AA,Ua q];simp only[AP];rw[Cx (by rw[F7,IJ,CB];omega)];simp only[AP]
  have e2:(left.map (Ep l)).take j++(left.map (Ep l)).drop (j+1)=(left.filter (· != left[j])).map (Ep l):=by
   rw[←aSi (U8 hi) z,KO,XR,ZR]
  rw[e2];have hwl:=aSY (U8 hi) (ED z);rw[ih' (left.filter (· != left[j])) (c++[(Ep l left[j]).mZ]) AA (hi.sublist QM) (fun x hx=>hk x ((FN.1 hx).1)) Us];refine .ret ?_;rw[u,h1,HY];rfl
def acX (l:List AB) (ids:List Int) (hl:l.length≤1000) (hs:Cm l) (hi:ids.length≤100000):aAW l ids=some (rP l (gK l ids).length (gK l ids)):=by
 have q:(gK l ids).length≤l.length:=kZ (Zw l ids) fun x j=>(LQ.1 j).2;unfold aAW;rw[aiY l ids hl hs hi];simp only[AP];unfold aQZ;rw[amO l hl _ (gK l ids) [] Aj rfl (Zw l ids) (fun x j=>(LQ.1 j).2) SN (fuel_lt AA)];rfl
def aoM (l:List AB) (left:List Int) (x:Int) (hl:l.length≤1000) (hs:Cm l) (j:left.length≤100000):aP0 l left x=some (Vt l left x):=by
 unfold aP0;rw[aLJ l _ hl hs.ajR Aw];simp only[AP];have q:=dh l [x];unfold aYf;rw[Gi (chainOf l [x]) (fuel_lt AA) (fun y=>DL left y) false (some true)]
 ·unfold Vt
  have e:(chainOf l [x]).any (fun y=>DL left y)=left.any fun y=>DL (chainOf l [x]) y:=by
   rw[KR,Gl,Gl];simp only[Iu];exact⟨fun⟨y,a,b⟩=>⟨y,b,a⟩,fun⟨y,a,b⟩=>⟨y,b,a⟩⟩
  rw[e];cases left.any fun y=>DL (chainOf l [x]) y<;>rfl
 ·intro k i h;unfold aNX;rw[Bl h,VY _ _ AA];simp only[AP]
 intro k;unfold aNX;rw[DZ]
def aOT {R A B C D:Type} {Q:R→Prop} {body:(A→B→C→D→Option R)→A→B→C→D→Option R} (I:Nat→A→B→C→D→Prop) (hs:∀m a b c d k,I m a b c d→(∀j a' q u z,j<m→I j a' q u z→dX (k a' q u z) Q)→dX (body k a b c d) Q):
 ∀n m a b c d,m<n→I m a b c d→dX (XJ body n a b c d) Q
 |0,m,_,_,_,_,h,_=>AA
 |n+1,m,a,b,c,d,h,hi=>hs m a b c d _ hi fun j a' q u z h' J=>aOT I hs n j a' q u z AA J
def Fj {l:List AB} {x:Int} (h:bV l x=true):DV l x=some (ev l x)∧(ev l x).Id=x:=by
 unfold bV at h;obtain⟨e,j⟩:=SX.1 h;have :ev l x=e:=by unfold ev;rw[LW j]
 rw[this];exact⟨j,aDM j⟩
def agQ (l:List AB) (x y:Int) (hl:l.length≤1000) (hs:Cm l) (j:bV l x=true) (q:bV l y=true) (u:y<x):aIn l (ev l x) (ev l y)=some (Xo (Ep l x) (Ep l y)):=by
 obtain⟨z,I⟩:=Fj j;obtain⟨J,L⟩:=Fj q;unfold aIn;rw[aUD l _ hl hs (hs _ (Ht z)).auth,aUD l _ hl hs (hs _ (Ht J)).auth];simp only[AP];unfold Xo Ep;simp only;cases gV l (ev l x) != gV l (ev l y)with
 |true=>rfl
 |false=>
  simp only[Am];rw[I,L];by_cases ht:(ev l x).Time=(ev l y).Time
  ·rw[ht];simp;omega
  have :((ev l x).Time != (ev l y).Time)=true:=aDs
  rw[this];rfl
def acO (l:List AB) (hl:l.length≤1000) (hs:Cm l):∀(m:Nat) (left acc:List Int) (N:Nat),left.length=m→Inc left→(∀x∈left,bV l x=true)→acc.length+left.length≤1000000→m<N→aT (YA l) N left acc=some (acc++rP l m left):=by
 intro m
 induction m with
 |zero=>
  intro left acc N hm hi U Z hN;obtain⟨N,rfl⟩:∃N',N=N'+1:=⟨N-1,AA⟩
  have :left=[]:=Gh hm;subst this;show YA _ _ _ _=_;unfold YA rP;simp
 |succ m ih=>
  intro left acc N hm hi U Z hN;obtain⟨N,rfl⟩:∃N',N=N'+1:=⟨N-1,AA⟩
  have hll:=kZ hi U;refine dX.eq ?_;show dX (YA l (aT (YA l) N) _ _) _;have ih':=fun M acc' h1 h2 h3 h4=>ih M acc' N h1 h2 h3 h4 AA;generalize aT (YA l) N=K at ih';unfold YA;rw[show decide ((left.length:Int)>0)=true by simp;omega];simp only[BD];unfold aTd;refine aOT (body:=aKR left l K) (fun Y a b c d=>∃i:Nat,b=i∧i+Y=left.length∧c=acc∧((a=false∧(left.take i).foldl (Gx l left) none=none)∨∃(j:Nat) (I:j<left.length),j<i∧a=true∧d=ev l left[j]∧(left.take i).foldl (Gx l left) none=some left[j])) ?_ Aj left.length false 0 acc Bh (fuel_lt AA) ⟨0,rfl,AA,rfl,.inl ⟨rfl,rfl⟩⟩;rintro Y a b c d k ⟨i,rfl,hm2,rfl,hI⟩ J;unfold aKR;by_cases q:i<left.length
  ·rw[dec_lt q,BZ q];simp only[BD,AP];rw[Jp l _ AA];simp only[AP];rw[aoM l left _ hl hs AA];simp only[AP]
   have hst:(left.take (i+1)).foldl (Gx l left) none=Gx l left ((left.take i).foldl (Gx l left) none) left[i]:=by
    rw[Nc q,TQ];rfl
   unfold aIE;rw[wrap_succ i AA];cases L:Vt l left left[i]with
   |false=>
    simp only[Am,AP];refine J (Y-1) _ _ _ _ AA ⟨i+1,rfl,AA,rfl,?_⟩;have e:Gx l left ((left.take i).foldl (Gx l left) none) left[i]=(left.take i).foldl (Gx l left) none:=by unfold Gx;rw[L];rfl
    rw[hst,e];rcases hI with u|⟨j,I,O,u⟩
    ·exact .inl u
    exact .inr ⟨j,I,AA,u⟩
   |true=>
    simp only[BD];rcases hI with⟨rfl,u⟩|⟨j,I,O,rfl,rfl,u⟩
    ·simp only[Il,BD,AP];refine J (Y-1) _ _ _ _ AA ⟨i+1,rfl,AA,rfl,.inr ⟨i,q,AA,rfl,rfl,?_⟩⟩;rw[hst,u];unfold Gx;rw[L];rfl
    simp only[EW,Am];have hlt2:left[j]<left[i]:=IZ.1 hi j i I q O;have e1:=agQ l left[i] left[j] hl hs (U _ (ED q)) (U _ (ED I)) hlt2;rw[show(Fq l left[i]).1=ev l left[i]from rfl,e1];simp only[AP];cases ha:Xo (Ep l left[i]) (Ep l left[j])with
    |true=>
     simp only[BD];refine J (Y-1) _ _ _ _ AA ⟨i+1,rfl,AA,rfl,.inr ⟨i,q,AA,rfl,rfl,?_⟩⟩;rw[hst,u];unfold Gx;rw[L];simp only[ha];rfl
    |false=>
     simp only[Am];refine J (Y-1) _ _ _ _ AA ⟨i+1,rfl,AA,rfl,.inr ⟨j,I,AA,rfl,rfl,?_⟩⟩;rw[hst,u];unfold Gx;rw[L];simp only[ha];rfl
  have hie:i=left.length:=AA
  subst hie;rw[CX];simp only[Am];rw[FW]at hI;have z:rP l (m+1) left=match Tf l left with |none=>[]|some b=>b::rP l m (left.filter (· != b)):=rfl
  rcases hI with⟨rfl,u⟩|⟨j,I,O,rfl,rfl,u⟩
  ·refine .ret ?_;have h1:Tf l left=none:=u;rw[z,h1];simp
  simp only[EW,Am];have h1:Tf l left=some left[j]:=u;have hid:=(Fj (U _ (ED I))).2;rw[hid,Cx FK];simp only[AP];rw[aGC _ _ AA Aw,al9 hi];simp only[AP];have hwl:=aSY (U8 hi) (ED I);rw[ih' (left.filter (· != left[j])) (c++[left[j]]) AA (hi.sublist QM) (fun x hx=>U x ((FN.1 hx).1)) Us];refine .ret ?_;rw[z,h1,HY];rfl
def ak3 (l:List AB) (ids:List Int) (hl:l.length≤1000) (hs:Cm l) (hi:ids.length≤100000):aL7 l ids=some (rP l (gK l ids).length (gK l ids)):=by
 have q:(gK l ids).length≤l.length:=kZ (Zw l ids) fun x j=>(LQ.1 j).2;unfold aL7;rw[aYp l ids hl hi];simp only[AP];unfold aUP;rw[acO l hl hs _ (gK l ids) [] Aj rfl (Zw l ids) (fun x j=>(LQ.1 j).2) SN (fuel_lt AA)];rfl
def aPo (l:List AB):∀(n:Nat) (left:List Int) {x:Int},x∈rP l n left→x∈left
 |0,_,_,h=>absurd h EM
 |n+1,left,x,h=>by
  unfold rP at h;cases j:Tf l left with
  |none=>rw[j]at h;exact absurd h EM
  |some b=>
   rw[j]at h;rcases EG.1 h with rfl|h
   ·exact acw j
   exact(FN.1 (aPo l n _ h)).1
def abI (l:List AB):∀(n:Nat) (left:List Int),(rP l n left).length≤n
 |0,_=>Dn _
 |n+1,left=>by
  unfold rP;cases Tf l left with
  |none=>exact Ci _
  |some b=>have :=abI l n (left.filter (· != b));simp only[FV];omega
def O8 (l:List AB) (e:AB):Option Int:=e.bg.find? fun id=>bV l id&&(ev l id).Kind==3
def cZ (l:List AB) (e:AB):Int×Bool:=match O8 l e with |some x=>(x,true)|none=>(0,false)
def aay (l:List AB) (e:AB) (hl:l.length≤1000) (j:e.bg.length≤40):sG l e=some (cZ l e):=by
 unfold sG aXk;rw[J6 e.bg (fuel_lt AA) (fun id=>bV l id&&(ev l id).Kind==3) (fun i=>some (match e.bg[i]? with |some x=>(x,true)|none=>(0,false))) (some (0,false))]
 ·unfold cZ O8;rw[JK];by_cases h:e.bg.findIdx (fun id=>bV l id&&(ev l id).Kind==3)<e.bg.length
  ·rw[CP h]
  rw[CU h,I8 AA]
 ·intro k i h;unfold aIg;rw[Bl h,Np l _ AA,DC h];simp only[AP];unfold bV ev;rw[OM];cases(DV l e.bg[i]).isSome<;>rfl
 intro k;unfold aIg;rw[DZ]
def alp (l:List AB) (e:AB) (hl:l.length≤1000) (j:e.bg.length≤40):aNK l e=some (cZ l e):=by
 unfold aNK aYR;rw[J6 e.bg (fuel_lt AA) (fun id=>bV l id&&(ev l id).Kind==3) (fun i=>some (match e.bg[i]? with |some x=>(x,true)|none=>(0,false))) (some (0,false))]
 ·unfold cZ O8;rw[JK];by_cases h:e.bg.findIdx (fun id=>bV l id&&(ev l id).Kind==3)<e.bg.length
  ·rw[CP h]
  rw[CU h,I8 AA]
 ·intro k i h;unfold aGu;rw[Bl h,Jp l _ AA,DC h,BZ h];simp only[AP];unfold bV ev;rw[OM];cases(DV l e.bg[i]).isSome<;>rfl
 intro k;unfold aGu;rw[DZ]
def Bg (l:List AB):Nat→List Int→Int→List Int
 |0,seen,_=>seen
 |n+1,seen,id=>bif DL seen id|| !bV l id then seen else match O8 l (ev l id)with
  |none=>seen++[id]
  |some x=>Bg l n (seen++[id]) x
def YH (l:List AB) (id:Int):List Int:=Bg l l.length [] id
structure UL (l:List AB) (seen:List Int):Prop where
 nodup:seen.Nodup
 known:∀x∈seen,bV l x=true
def UL.length {l:List AB} {seen:List Int} (h:UL l seen):seen.length≤l.length:=by
 rw[←(UA seen).length_eq,aT1 h.nodup];exact kZ (Jk _) fun x j=>h.known x (IY.1 j)
def UL.snoc {l:List AB} {seen:List Int} (h:UL l seen) {id:Int} (q:id∉seen) (u:bV l id=true):UL l (seen++[id]):=by
 refine⟨yJ.2 ⟨h.nodup,Aw,fun a ha b z=>?_⟩,fun x j=>?_⟩
 ·rw[FT.1 z];exact fun e=>q (e▸ha)
 rcases Hl.1 j with j|j
 ·exact h.known x j
 rw[FT.1 j];exact u
def aYv (l:List AB):∀(n:Nat) (seen:List Int) (id:Int),UL l seen→UL l (Bg l n seen id)
 |0,_,_,h=>h
 |n+1,seen,id,h=>by
  unfold Bg;cases j:DL seen id|| !bV l id with
  |true=>exact h
  |false=>
   rw[VL,OE]at j;have q:=h.snoc j.1 (by simpa using j.2);simp only[Am];cases O8 l (ev l id)with
   |none=>exact q
   |some x=>exact aYv l n _ x q
def aSW (l:List AB):∀(n:Nat) (seen:List Int) (id:Int),∃t,Bg l n seen id=seen++t
 |0,seen,_=>⟨[],by simp[Bg]⟩
 |n+1,seen,id=>by
  unfold Bg;cases DL seen id|| !bV l id with
  |true=>exact⟨[],Aw⟩
  |false=>
   simp only[Am];cases O8 l (ev l id)with
   |none=>exact⟨[id],rfl⟩
   |some x=>
    obtain⟨t,ht⟩:=aSW l n (seen++[id]) x;exact⟨id::t,by simp only[ht,HY];rfl⟩
def aXO (l:List AB) (id:Int):(YH l id).length≤l.length:=(aYv l _ [] id ⟨aN,fun x j=>absurd j EM⟩).length
def ajl (l:List AB) (hl:l.length≤1000) (hs:Cm l) (Z v9:List Int):∀(m:Nat) (seen:List Int) (id:Int) (N:Nat),seen.length+m=l.length→UL l seen→m<N→Fg YP N seen seen Z v9 id l=some (Bg l m seen id):=by
 intro m
 induction m with
 |zero=>
  intro seen id N hm u hN;obtain⟨N,rfl⟩:∃N',N=N'+1:=⟨N-1,AA⟩
  have I:=u.length;show YP _ _ _ _ _ _ _=_;unfold YP;rw[pY _ _ AA,Np l _ AA];simp only[AP];rw[OM];cases J:DL seen id with
  |true=>rfl
  |false=>
   cases q:(DV l id).isSome with
   |false=>rfl
   |true=>
    have L:=(u.snoc (OE.1 J) q).length;simp only[E9,NQ]at L;omega
 |succ m ih=>
  intro seen id N hm u hN;obtain⟨N,rfl⟩:∃N',N=N'+1:=⟨N-1,AA⟩
  have I:=u.length;show YP (Fg YP N) _ _ _ _ _ _=_;have z:=fun j M h1 L=>ih j M N h1 L AA;generalize Fg YP N=K at z;unfold YP Bg;rw[pY _ _ AA,Np l _ AA];simp only[AP];rw[OM];cases J:DL seen id with
  |true=>rfl
  |false=>
   cases q:(DV l id).isSome with
   |false=>rw[show bV l id=false from q];rfl
   |true=>
    obtain⟨e,Y⟩:=SX.1 q;rw[show bV l id=true from q];simp only[Il,EW,Ku,BD,Am];rw[Cx FK];simp only[AP];unfold aAT;simp only[Am];rw[Cx FK];simp only[AP];have O:(Fq l id).1=ev l id:=rfl
    have U:(ev l id).bg.length≤40:=by
     have :ev l id=e:=by unfold ev;rw[LW Y]
     rw[this];exact(hs e (Ht Y)).auth
    rw[O,aay l _ hl U];simp only[AP];unfold cZ;cases O8 l (ev l id)with
    |none=>rfl
    |some x=>exact z (seen++[id]) x Us (u.snoc (OE.1 J) q)
def akf (l:List AB) (id:Int) (hl:l.length≤1000) (hs:Cm l):aCO l id=some (YH l id):=by
 unfold aCO uK aWD;exact ajl l hl hs [] [] l.length [] id Aj Aw ⟨aN,fun x j=>absurd j EM⟩ (fuel_lt AA)
def aoF (l:List AB) (hl:l.length≤1000) (hs:Cm l):∀(m:Nat) (seen:List Int) (id:Int) (i N:Nat),i+m=l.length→seen.length≤i→m<N→iY (Y3 l) N seen id (i:Int)=some (Bg l m seen id):=by
 intro m
 induction m with
 |zero=>
  intro seen id i N hm M O;obtain⟨N,rfl⟩:∃N',N=N'+1:=⟨N-1,AA⟩
  have :i=l.length:=AA
  subst this;show Y3 _ _ _ _ _=_;unfold Y3;rw[CX];rfl
 |succ m U=>
  intro seen id i N hm M O;obtain⟨N,rfl⟩:∃N',N=N'+1:=⟨N-1,AA⟩
  show Y3 _ (iY (Y3 l) N) _ _ _=_;have q:=fun j u Y Z h2=>U j u Y N Z h2 AA;generalize iY (Y3 l) N=K at q;unfold Y3 Bg;rw[dec_lt AA,Jp l _ AA,VY _ _ AA];simp only[BD,AP];rw[OM];cases z:(DV l id).isSome with
  |false=>rw[show bV l id=false from z];cases DL seen id<;>rfl
  |true=>
   rw[show bV l id=true from z];cases hh:DL seen id with
   |true=>rfl
   |false=>
    obtain⟨e,L⟩:=SX.1 z;simp only[EW,Ku,Am,AP];rw[Cx FK];simp only[AP];have I:(Fq l id).1=ev l id:=rfl
    have J:(ev l id).bg.length≤40:=by
     have :ev l id=e:=by unfold ev;rw[LW L]
     rw[this];exact(hs e (Ht L)).auth
    rw[I,alp l _ hl J,wrap_succ i AA];simp only[AP];unfold cZ;cases O8 l (ev l id)with
    |none=>rfl
    |some x=>exact q (seen++[id]) x (i+1) AA Us
def aQq (l:List AB) (id:Int) (hl:l.length≤1000) (hs:Cm l):aAl l id=some (YH l id):=by
 unfold aAl aRI;exact aoF l hl hs l.length [] id 0 Aj Aw (Dn _) (fuel_lt AA)
def dS (j way:List Int):Int:=match way.find? (DL j)with |some x=>((j.findIdx (· ==x):Nat):Int)|none=>(j.length:Int)
def Ld (l:List AB) (j:List Int) (id:Int):Int:=dS j (YH l id)
def acT (l:List AB) (j:List Int) (hl:l.length≤1000) (hs:Cm l) (hm:j.length≤100000):∀(m:Nat) (seen:List Int) (z id:Int) (N:Nat),seen.length+m=l.length→UL l seen→seen.find? (DL j)=none→m<N→Fe Yw N seen j z id l=some (dS j (Bg l m seen id)):=by
 have q:∀seen:List Int,seen.find? (DL j)=none→dS j seen=(j.length:Int):=fun seen h=>by unfold dS;rw[h]
 intro m
 induction m with
 |zero=>
  intro seen z id N hm Y M hN;obtain⟨N,rfl⟩:∃N',N=N'+1:=⟨N-1,AA⟩
  have hwl:=Y.length;show Yw _ _ _ _ _ _=_;unfold Yw;rw[pY _ _ AA,Np l _ AA];simp only[AP];rw[OM];have he:dS j (Bg l 0 seen id)=(j.length:Int):=q seen M;rw[he];cases O:DL seen id with
  |true=>rfl
  |false=>
   cases U:(DV l id).isSome with
   |false=>rfl
   |true=>
    have h2:=(Y.snoc (OE.1 O) U).length;simp only[E9,NQ]at h2;omega
 |succ m ih=>
  intro seen z id N hm Y M hN;obtain⟨N,rfl⟩:∃N',N=N'+1:=⟨N-1,AA⟩
  have hwl:=Y.length;show Yw (Fe Yw N) _ _ _ _ _=_;have Z:=fun J z' id' h1 h2 h3=>ih J z' id' N h1 h2 h3 AA;generalize Fe Yw N=K at Z;unfold Yw wZ;rw[pY _ _ AA,Np l _ AA,aYP _ _ AA];simp only[AP];rw[OM];have L:Bg l (m+1) seen id=bif DL seen id|| !bV l id then seen else match O8 l (ev l id)with |none=>seen++[id]|some x=>Bg l m (seen++[id]) x:=rfl
  cases O:DL seen id with
  |true=>rw[L,O];simp only[Bool.true_or,BD,EW,Am];rw[q seen M]
  |false=>
   cases U:(DV l id).isSome with
   |false=>rw[L,O,show bV l id=false from U];simp only[NH,Il,BD];rw[q seen M]
   |true=>
    obtain⟨e,he⟩:=SX.1 U;rw[L,O,show bV l id=true from U];simp only[Il,EW,Ku,BD,Am];have u:=aWA j id;by_cases I:j.findIdx (· ==id)<j.length
    ·rw[CP I,show decide (((j.findIdx (· ==id):Nat):Int)≥0)=true by simp];simp only[BD];rw[Gu I]at u
     have hex:∃t,(match O8 l (ev l id)with |none=>seen++[id]|some x=>Bg l m (seen++[id]) x)=seen++[id]++t:=by
      cases O8 l (ev l id)with
      |none=>exact⟨[],Aw⟩
      |some x=>exact aSW l m (seen++[id]) x
     obtain⟨t,ht⟩:=hex;rw[ht];unfold dS;rw[Xi,Xi,M];simp[←u]
    rw[CU I,show decide ((-1:Int)≥0)=false by decide];simp only[Am];rw[Gv I]at u;rw[Cx FK];simp only[AP];have hev:(Fq l id).1=ev l id:=rfl
    have hea:(ev l id).bg.length≤40:=by
     have :ev l id=e:=by unfold ev;rw[LW he]
     rw[this];exact(hs e (Ht he)).auth
    have hf2:(seen++[id]).find? (DL j)=none:=by rw[Xi,M];simp[←u]
    rw[hev,aay l _ hl hea];simp only[AP];unfold cZ;cases O8 l (ev l id)with
    |none=>simp only[Il,BD];rw[q _ hf2]
    |some x=>exact Z (seen++[id]) z x Us (Y.snoc (OE.1 O) U) hf2
def ana (l:List AB) (j:List Int) (id:Int) (hl:l.length≤1000) (hs:Cm l) (hm:j.length≤100000):aFg l j id=some (Ld l j id):=by
 unfold aFg uK aRe;exact acT l j hl hs hm l.length [] 0 id Aj Aw ⟨aN,fun x q=>absurd q EM⟩ rfl (fuel_lt AA)
def anT (l:List Int) (x:Int) (h:l.length≤100000):aH7 l x=some ((l.findIdx (· ==x):Nat):Int):=by
 unfold aH7 aWV;rw[J6 l (fuel_lt AA) (· ==x) (fun i=>some (i:Int)) (some (l.length:Int))]
 ·split
  ·rfl
  rename_i h;have :l.findIdx (· ==x)≤l.length:=lG;congr 2;omega
 ·intro k i hi;unfold aMf;rw[Bl hi]
 intro k;unfold aMf;rw[DZ]
def aVp (l:List AB) (j:List Int) (id:Int) (hl:l.length≤1000) (hs:Cm l) (hm:j.length≤100000):aEC l j id=some (Ld l j id):=by
 unfold aEC;rw[aQq l id hl hs];simp only[AP];have q:=aXO l id;unfold aT2 Ld dS;generalize YH l id=W at q;rw[J6 W (fuel_lt AA) (DL j) (fun i=>some (match W[i]? with |some x=>((j.findIdx (· ==x):Nat):Int)|none=>0)) (some (j.length:Int))]
 ·rw[JK];by_cases h:W.findIdx (DL j)<W.length
  ·rw[CP h,DC h]
  rw[CU h,I8 AA]
 ·intro k i h;unfold aMN;rw[Bl h,VY _ _ AA,BZ h,DC h];simp only[AP];rw[anT _ _ hm];rfl
 intro k;unfold aMN;rw[DZ]
def EX (l:List AB) (j:List Int) (id:Int):KP:=⟨id,Ld l j id,(ev l id).Time⟩
def uM (x:KP):Int×Int×Int:=(x.mZ,x.zB,x.Bq)
def Hd (x y:KP):Bool:=KX (uM x) (uM y)
def zU (l:List AB) (j ids:List Int):List Int:=(LP Hd ((ids.filter (bV l)).map (EX l j))).map (·.mZ)
def aUp (l:List AB) (j:List Int):∀ids:List Int,ids.flatMap (fun id=>bif bV l id then[EX l j id]else[])=(ids.filter (bV l)).map (EX l j)
 | []=>rfl
 |i::ids=>by
  rw[JX,aUp l j ids,Qy];cases bV l i<;>simp
def acA (s:List KP) (hs:s.length≤1000000) (z:(s.map (·.mZ)).Nodup):kJ s=some s:=by
 unfold kJ;by_cases L:s.length<2
 ·rw[show decide ((s.length:Int)<2)=true by simp;omega];rfl
 rw[show decide ((s.length:Int)<2)=false by simp;omega];simp only[Am];unfold aU2;refine dX.eq ?_;refine Xh (body:=zK) (fun m a b=>∃i:Nat,a=i∧i+m=s.length∧0<i∧b=s) ?_ Aj (s.length-1) 1 s (fuel_lt AA) ⟨1,rfl,AA,AA,rfl⟩;rintro m a b k ⟨i,rfl,hm,hi,rfl⟩ I;unfold zK;by_cases j:i<b.length
 ·rw[dec_lt j,BZ j];simp only[BD,AP];have w:Ai ((i:Int)-1)=((i-1:Nat):Int):=Ph
  have q:i-1<b.length:=AA
  rw[w,BZ q];simp only[AP]
  have u:b[i].mZ≠b[i-1].mZ:=by
   have :=IZ.1 z (i-1) i Ws Ws AA;simp only[Oq]at this;exact fun e=>this e.symm
  have J:ug b[i] b[i-1]=false:=by
   unfold ug;rw[show(b[i].mZ==b[i-1].mZ)=false by simpa using u];rfl
  rw[J,wrap_succ i AA];exact I (m-1) _ _ AA ⟨i+1,rfl,AA,AA,rfl⟩
 have :i=b.length:=AA
 subst this;rw[CX];exact .ret rfl
def aHW (l:List AB) (j:List Int) (ids:List Int):(ids.map (EX l j)).map (·.mZ)=ids:=by
 rw[V7];exact List.map_id' ids
def aki (l:List AB) (j ids:List Int) (hl:l.length≤1000) (hs:Cm l) (hm:j.length≤100000) (hi:ids.length≤100000) (L:ids.Nodup):aBR l j ids=some (zU l j ids):=by
 unfold aBR ab5;rw[Hu (a0:=[]) ids AA (fun r id=>r++bif bV l id then[EX l j id]else[]) (fun i r=>r.length≤i) (fun M=>(aBk M).bind fun z=>(kJ z).bind fun I=>aHf I [] 0) (Dn _)]
 ·rw[foldl_append (fun id=>bif bV l id then[EX l j id]else[]),I5,aUp];have O:=J4 (bV l) ids;have J:((ids.filter (bV l)).map (EX l j)).length≤100000:=Ws
  unfold aBk aFI;rw[CP AA];simp only[AP];have e:(LP (fun x y:KP=>KX (x.mZ,x.zB,x.Bq) (y.mZ,y.zB,y.Bq)) ((ids.filter (bV l)).map (EX l j)))=LP Hd ((ids.filter (bV l)).map (EX l j)):=rfl;rw[e];unfold zU;have hp:=Sz Hd ((ids.filter (bV l)).map (EX l j))
  have q:((LP Hd ((ids.filter (bV l)).map (EX l j))).map (·.mZ)).Nodup:=by
   rw[(hp.map (·.mZ)).nodup_iff,aHW];exact L.sublist QM
  have u:(LP Hd ((ids.filter (bV l)).map (EX l j))).length≤100000:=by rw[hp.length_eq];exact J
  generalize LP Hd ((ids.filter (bV l)).map (EX l j))=S at q u;rw[acA S AA q];simp only[AP];unfold aHf;rw[Hu (a0:=[]) S AA (fun r x=>r++[x.mZ]) (fun i r=>r.length≤i) (fun r=>some r) (Dn _)]
  ·rw[foldl_append (fun x:KP=>[x.mZ]),I5];congr 1;clear q u
   induction S with
   |nil=>rfl
   |cons x S U=>rw[JX,U];rfl
  ·intro k r i h Y;refine⟨aAv,?_⟩;unfold aQ5;rw[Bl h,Cx FK];rfl
  intro k r _;unfold aQ5;rw[DZ]
 ·intro k r i h Y;refine⟨?_,?_⟩
  ·cases bV l ids[i]<;>simp <;>omega
  unfold aLg aG3;rw[Bl h,Np l _ AA];simp only[AP];rw[OM,ana l j _ hl hs hm];simp only[AP];rw[Cx FK];unfold bV;cases(DV l ids[i]).isSome with
  |true=>rfl
  |false=>simp
 intro k r _;unfold aLg;rw[DZ]
def aey (l:List AB) (j:List Int) (a b:Int) (hl:l.length≤1000) (hs:Cm l) (hm:j.length≤100000):aOv l j a b=some (!Hd (EX l j b) (EX l j a)):=by
 unfold aOv;rw[aVp l j a hl hs hm,aVp l j b hl hs hm,Jp l a AA,Jp l b AA];simp only[AP]
 have q:(!Hd (EX l j b) (EX l j a))=decide (Ld l j b<Ld l j a∨Ld l j a=Ld l j b∧((ev l a).Time<(ev l b).Time∨(ev l a).Time=(ev l b).Time∧a<b)):=by
  rw[KR,Ls,GN];exact aUy (uM (EX l j b)) (uM (EX l j a))
 rw[q];show(bif Ld l j a != Ld l j b then some (decide (Ld l j a>Ld l j b))else bif (ev l a).Time != (ev l b).Time then some (decide ((ev l a).Time<(ev l b).Time))else some (decide (a<b)))=_;by_cases u:Ld l j a=Ld l j b
 ·rw[show(Ld l j a != Ld l j b)=false by simp[u]];simp only[Am];by_cases z:(ev l a).Time=(ev l b).Time
  ·rw[show((ev l a).Time != (ev l b).Time)=false by simp[z]];simp only[Am];congr 1;rw[ZN];constructor
   ·intro h;exact .inr ⟨u,.inr ⟨z,h⟩⟩
   rintro(h|⟨_,h|⟨_,h⟩⟩)
   ·omega
   ·omega
   exact h
  rw[show((ev l a).Time != (ev l b).Time)=true by simp[z]];simp only[BD];congr 1;rw[ZN];constructor
  ·intro h;exact .inr ⟨u,.inl h⟩
  rintro(h|⟨_,h|⟨h,_⟩⟩)
  ·omega
  ·exact h
  exact absurd h z
 rw[show(Ld l j a != Ld l j b)=true by simp[u]];simp only[BD];congr 1;rw[ZN];constructor
 ·intro h;exact .inl h
 rintro(h|⟨h,_⟩)
 ·exact h
 exact absurd h u
def aI1 (x y z:KP) (h:Hd x y=true) (k:Hd y z=true):Hd x z=true:=aH3 _ _ _ h k
def aaq (x y:KP) (h:Hd x y=false):Hd y x=true:=aTo _ _ h
def agX (x y:KP) (h:Hd x y=true) (k:Hd y x=true):x=y:=by
 have :=aQx _ _ h k;unfold uM at this;cases x;cases y;simp only[QH]at this;obtain⟨a,b,c⟩:=this;subst a b c;rfl
def Yn (l:List AB) (j:List Int) (q:List Int) (x:Int):List Int:=q.take (q.findIdx fun a=>Hd (EX l j x) (EX l j a))++x::q.drop (q.findIdx fun a=>Hd (EX l j x) (EX l j a))
def aaE (l:List AB) (j q:List Int) (x:Int):(Yn l j q x).Perm (x::q):=by
 unfold Yn;refine aEx.trans ?_;rw[Qn]
def aiL (l:List AB) (j q:List Int) (x:Int) (h:q.Pairwise fun a b=>Hd (EX l j a) (EX l j b)=true):(Yn l j q x).Pairwise fun a b=>Hd (EX l j a) (EX l j b)=true:=by
 unfold Yn
 have J:∀a∈q.take (q.findIdx fun a=>Hd (EX l j x) (EX l j a)),Hd (EX l j a) (EX l j x)=true:=by
  intro a ha;obtain⟨i,hi,rfl⟩:=G5 ha;have z:i<q.findIdx fun a=>Hd (EX l j x) (EX l j a):=by simp at hi;omega
  have :=aPp z;rw[WJ];exact aaq _ _ aKP
 have ha:∀d∈q.drop (q.findIdx fun a=>Hd (EX l j x) (EX l j a)),Hd (EX l j x) (EX l j d)=true:=by
  intro d hd;obtain⟨i,hi,rfl⟩:=G5 hd;rw[IJ]at hi;have u:(q.findIdx fun a=>Hd (EX l j x) (EX l j a))<q.length:=AA
  have L:=aEd (w:=u);rw[Xp];rcases Yk i with rfl|hp
  ·simpa using L
  exact aI1 _ _ _ L (IZ.1 h _ _ u AA AA)
 refine UG.2 ⟨h.sublist (aKE _ _),Nr.2 ⟨ha,h.sublist (yZ _ _)⟩,fun a M b I=>?_⟩;rcases EG.1 I with rfl|I
 ·exact J a M
 exact aI1 _ _ _ (J a M) (ha b I)
def YF (l:List AB) (j:List Int) (q:List Int) (x:Int):List Int:=bif bV l x then Yn l j q x else q
def abP (l:List AB) (j ids:List Int):ids.foldl (YF l j) []=zU l j ids:=by
 have key:∀(ids q:List Int),q.Pairwise (fun a b=>Hd (EX l j a) (EX l j b)=true)→(ids.foldl (YF l j) q).Pairwise (fun a b=>Hd (EX l j a) (EX l j b)=true)∧(ids.foldl (YF l j) q).Perm (ids.filter (bV l)++q):=by
  intro ids
  induction ids with
  |nil=>intro q h;exact⟨h,.refl _⟩
  |cons x ids I=>
   intro q h;rw[Ey,Qy];unfold YF;cases bV l x with
   |false=>exact I q h
   |true=>
    obtain⟨z,u⟩:=I (Yn l j q x) (aiL l j q x h);refine⟨z,u.trans ?_⟩;simp only[JV,Yo];exact((aaE l j q x).append_left _).trans aEx
 obtain⟨z,u⟩:=key ids [] .nil;rw[Oc]at u;unfold zU
 have J:(ids.foldl (YF l j) []).map (EX l j)=LP Hd ((ids.filter (bV l)).map (EX l j)):=
  aa4 aI1 aaq agX (u.map _) (YB.2 z)
 rw[←J,aHW]
def afL (l:List AB) (q ids:List Int) (hl:l.length≤1000) (hs:Cm l) (hm:q.length≤100000) (hi:ids.length≤100000) (O:ids.Nodup):aMw l q ids=some (zU l q ids):=by
 unfold aMw aUm;rw[Hu (a0:=[]) ids AA (YF l q) (fun i r=>r.length≤i∧∀x∈r,x∈ids.take i) (fun r=>some r) ⟨Dn _,fun x J=>absurd J EM⟩]
 ·rw[abP]
 ·intro k r i h ⟨U,L⟩;have u:ids.take (i+1)=ids.take i++[ids[i]]:=Nc h
  have M:DL r ids[i]=false:=OE.2 fun hm=>by
   obtain⟨j,z,e⟩:=G5 (L _ hm);rw[WJ]at e;rw[F7]at z;exact IZ.1 O j i AA h AA e
  refine⟨?_,?_⟩
  ·unfold YF;cases bV l ids[i]with
   |false=>exact⟨by show r.length≤i+1;omega,fun x J=>by rw[u];exact ZO _ (L x J)⟩
   |true=>
    have hp:=aaE l q r ids[i];refine⟨?_,fun x J=>?_⟩
    ·show(Yn l q r ids[i]).length≤i+1;rw[hp.length_eq,FV];omega
    rw[u];rcases EG.1 (hp.mem_iff.1 J)with rfl|J
    ·exact eu _ (FT.2 rfl)
    exact ZO _ (L x J)
  unfold aGv aFP;rw[Bl h,Jp l _ AA,BZ h];simp only[AP];rw[VY _ _ AA,M,OM];unfold YF bV;cases(DV l ids[i]).isSome with
  |false=>rfl
  |true=>
   simp only[EW,Am,AP,BD];unfold aSz
   have I:∀(k2:Int→Option (List Int)) (j:Nat),j≤r.length→aFz k2 (j:Int) r ids (i:Int) k false=k (r.take j++ids[i]::r.drop j) (Ai ((i:Int)+1)):=by
    intro k2 j z;unfold aFz aFP;simp only[Am];rw[Ua z];simp only[AP];rw[Cx DW];simp only[AP,I5];rw[pF z,BZ h];simp only[AP];rw[Cx DW];simp only[AP];rw[Cx DW];simp
   rw[J6 r (fuel_lt AA) (fun a=>Hd (EX l q ids[i]) (EX l q a)) (fun j=>k (r.take j++ids[i]::r.drop j) (Ai ((i:Int)+1))) (k (r.take r.length++ids[i]::r.drop r.length) (Ai ((i:Int)+1)))]
   ·unfold Yn;split
    ·rfl
    rename_i Y
    have :(r.findIdx fun a=>Hd (EX l q ids[i]) (EX l q a))=r.length:=by
     have :=lG (p:=fun a=>Hd (EX l q ids[i]) (EX l q a)) (xs:=r);omega
    rw[this]
   ·intro k2 j z;unfold aKv;rw[dec_lt z,BZ z,BZ h];simp only[BD,AP];rw[aey l q _ _ hl hs hm];simp only[AP];cases Hd (EX l q ids[i]) (EX l q r[j])with
    |true=>simp only[EW,BD];rw[I k2 j (Nat.le_of_lt z)]
    |false=>rfl
   intro k2;unfold aKv;rw[CX];simp only[Am];rw[I k2 r.length (Dn _)]
 intro k r _;unfold aGv;rw[DZ]
def alW {l:List AB} {j ids:List Int} {x:Int}:x∈zU l j ids↔x∈ids∧bV l x=true:=by
 unfold zU;rw[((Sz Hd ((ids.filter (bV l)).map (EX l j))).map (·.mZ)).mem_iff,aHW,FN]
def anU (l:List AB) (j ids:List Int):(zU l j ids).length≤ids.length:=by
 unfold zU;rw[CB,(Sz _ _).length_eq,CB];exact J4 _ _
def KL (c:Int):Bool:=(decide (c≥97)&&decide (c≤122))||(decide (c≥48)&&decide (c≤57))
def aaG (c:Int):ji c=some (KL c):=by
 unfold ji KL;cases decide (c≥97)<;>cases decide (c≤122)<;>cases decide (c≥48)<;>cases decide (c≤57)<;>rfl
def aJg (c:Int):kE c=some (KL c):=by
 unfold kE KL;cases decide (c≥97)<;>cases decide (c≤122)<;>cases decide (c≥48)<;>cases decide (c≤57)<;>rfl
def Qb (l:List Int) (p:Int→Bool):Bool:=decide ((l.length:Int)≥1)&&decide ((l.length:Int)≤32)&&l.all fun c=>KL c||p c
def isLocal (c:Int):Bool:=c==95||c==46||c==45||c==61
def V6 (c:Int):Bool:=c==46||c==45
def Vm (l:List Int):Bool:=Qb l isLocal
def Xz (l:List Int):Bool:=Qb l V6&&KL (l.getD 0 0)&&KL (l.getD (l.length-1) 0)
def aOe {n:Nat} (h:n≤9223372036854775807):n<Aj:=fA
def aUc {s:ByteArray} (hs:s.size≤9223372036854775807) (f:Int→Option Bool) (p:Int→Bool) (j:∀c,f c=some (p c)):cG s f=some (Qb (BU s) p):=by
 have hl:aKM s f 0=some ((BU s).all fun c=>KL c||p c):=by
  unfold aKM;rw[Gi (BU s) Z5 (fun c=> !(KL c||p c)) false (some true) ?_ ?_,Jw,qM]
  ·intro k i h;have h':i<s.size:=Va
   simp only[aKL,dec_lt h',BD,VE h,aaG,j,AP];cases KL (BU s)[i]<;>cases p (BU s)[i]<;>rfl
  intro k;simp only[aKL,I9,CX,Am]
 unfold cG Qb;rw[hl,I9];have q:decide ((s.size:Int)≥1)= !decide ((s.size:Int)<1):=aPN
 have u:decide ((s.size:Int)≤32)= !decide ((s.size:Int)>32):=aHR
 rw[q,u];cases decide ((s.size:Int)<1)<;>cases decide ((s.size:Int)>32)<;>rfl
def agv {s:ByteArray} (hs:s.size≤9223372036854775807):cG s (fun a0=>vF a0)=some (Qb (BU s) isLocal):=aUc hs _ isLocal (fun c=>by unfold vF isLocal;cases c==95<;>cases c==46<;>cases c==45<;>cases c==61<;>rfl)
def ahU {s:ByteArray} (hs:s.size≤9223372036854775807):cG s (fun a0=>vC a0)=some (Qb (BU s) V6):=aUc hs _ V6 (fun c=>by unfold vC V6;cases c==46<;>cases c==45<;>rfl)
def adF {s:ByteArray} (hs:s.size≤9223372036854775807):aA5 s=some (Vm (BU s)):=by
 unfold aA5 Vm;rw[agv hs];rfl
def aDw {s:ByteArray} (h:0<s.size):Hf s 0=some ((BU s).getD 0 0):=by
 have h':0<(BU s).length:=aB5
 rw[amW h'];simp[List.getD,h']
def aUq {s:ByteArray} (h:0<s.size) (hs:s.size≤9223372036854775807):Hf s (Ai ((s.size:Int)-1))=some ((BU s).getD ((BU s).length-1) 0):=by
 have h':s.size-1<(BU s).length:=by rw[I9];omega
 rw[MH AA AA,show(s.size:Int)-1=((s.size-1:Nat):Int) by omega,VE h'];have j:(BU s).length-1=s.size-1:=by rw[I9]
 rw[j];simp[List.getD,h']
def aS6 {l:List Int} {p:Int→Bool} (h:Qb l p=true):0<l.length∧l.length≤32:=by
 unfold Qb at h;simp only[CZ,GN]at h;omega
def ala {s:ByteArray} (hs:s.size≤9223372036854775807):aDI s=some (Xz (BU s)):=by
 unfold aDI Xz;rw[ahU hs];simp only[AP];cases j:Qb (BU s) V6 with
 |false=>rfl
 |true=>
  have hp:0<s.size:=by have :=(aS6 j).1;rwa [I9]at this
  simp only[BD,aDw hp,aUq hp hs,aaG,AP];cases KL ((BU s).getD 0 0)<;>simp
def apa {s:ByteArray} (hs:s.size≤9223372036854775807):aIq s=some (bif Xz (BU s)then 0 else 3):=by
 have hl:aIa s 0=some (bif (BU s).all fun c=>KL c||V6 c then 0 else 3):=by
  unfold aIa;rw[Gi (BU s) Z5 (fun c=> !(KL c||V6 c)) 3 (some 0) ?_ ?_,Jw,←qM]
  ·cases((BU s).any fun c=> !(KL c||V6 c))<;>rfl
  ·intro k i h;have h':i<s.size:=Va
   simp only[aIp,dec_lt h',BD,VE h,aJg,AP,V6,bne];cases KL (BU s)[i]<;>cases(BU s)[i]==46<;>cases(BU s)[i]==45<;>rfl
  intro k;simp only[aIp,I9,CX,Am]
 have j:decide ((s.size:Int)≥1)= !decide ((s.size:Int)<1):=aPN
 have q:decide ((s.size:Int)≤32)= !decide ((s.size:Int)>32):=aHR
 unfold aIq Xz Qb;rw[hl];rw[show((BU s).length:Int)=(s.size:Int) by rw[I9],j,q];by_cases u:(s.size:Int)<1
 ·simp[u]
 have hp:0<s.size:=AA
 simp only[aDw hp,aUq hp hs,aJg,AP];cases decide ((s.size:Int)<1)<;>cases decide ((s.size:Int)>32)<;>cases KL ((BU s).getD 0 0)<;>cases KL ((BU s).getD ((BU s).length-1) 0)<;>cases((BU s).all fun c=>KL c||V6 c)<;>rfl
def alI {s:ByteArray} (hs:s.size≤9223372036854775807):aL8 s=some (Vm (BU s)):=by
 unfold aL8 aU8;rw[Gi (BU s) Z5 (fun c=> !(KL c||isLocal c)) false (some (decide ((s.size:Int)≥1)&&decide ((s.size:Int)≤32))) ?_ ?_]
 ·unfold Vm Qb;rw[←qM,I9];cases((BU s).any fun c=> !(KL c||isLocal c))<;>cases decide ((s.size:Int)≥1)<;>cases decide ((s.size:Int)≤32)<;>rfl
 ·intro k i h;have h':i<s.size:=Va
  simp only[aOM,dec_lt h',BD,VE h,aJg,AP,isLocal,bne];cases KL (BU s)[i]<;>cases(BU s)[i]==95<;>cases(BU s)[i]==46<;>cases(BU s)[i]==45<;>cases(BU s)[i]==61<;>rfl
 intro k;simp only[aOM,I9,CX,Am];cases decide ((s.size:Int)≥1)<;>cases decide ((s.size:Int)≤32)<;>rfl
def aSD (s:ByteArray):(BU s).length=s.data.toList.length:=by simp[BU]
def FZ (s:ByteArray):Nat:=(BU s).findIdx (· ==58)
def aPf (s:ByteArray):FZ s≤s.size:=by unfold FZ;rw[←I9];exact lG
def aTN {s:ByteArray} (hs:s.size≤9223372036854775807):Res s=some (FZ s:Int):=by
 unfold Res aSZ;rw[J6 (BU s) Z5 (· ==58) (fun i=>some (i:Int)) (some (s.size:Int)) ?_ ?_]
 ·have :=aPf s;by_cases h:(BU s).findIdx (· ==58)<(BU s).length
  ·rw[CP h];rfl
  rw[CU h];congr 2;unfold FZ at this ⊢;rw[I9]at h;omega
 ·intro k i h;have h':i<s.size:=Va
  simp only[aPx,dec_lt h',BD,VE h,AP,bne];cases(BU s)[i]==58<;>rfl
 intro k;simp only[aPx,I9,CX,Am,AP]
def Ud (s:ByteArray):ByteArray:=s.extract 1 (FZ s)
def Pz (s:ByteArray):ByteArray:=s.extract (FZ s+1) s.size
def Tz (s:ByteArray):Bool:=decide (FZ s<s.size)&&Vm (BU (Ud s))&&Xz (BU (Pz s))
def Gn (s:ByteArray) (m:Int):Bool:=decide (0<s.size)&&(BU s).getD 0 0==m&&Tz s
def extract_size (s:ByteArray) (a b:Nat):(s.extract a b).size≤s.size:=by rw[aAZ];omega
def aYk {s:ByteArray} (h:0<s.size) (hm:(BU s).getD 0 0≠58):1≤FZ s:=by
 unfold FZ;have hl:0<(BU s).length:=aB5
 match j:BU s with
 | []=>rw[j]at hl;simp at hl
 |c::l=>
  rw[j]at hm;simp only[List.getD_cons_zero]at hm;rw[Qr,show(c==58)=false from by simpa using hm];simp
def aDz {s:ByteArray} (hs:s.size≤9223372036854775807) {m:Int} (hm:m≠58):gG s m=some (Gn s m):=by
 unfold gG Gn;by_cases j:0<s.size
 ·rw[show decide ((s.size:Int)<1)=false from by simp;omega,show decide (0<s.size)=true by simpa using j];simp only[Am,aDw j,AP,bne];cases z:(BU s).getD 0 0==m with
  |false=>rfl
  |true=>
   have u:(BU s).getD 0 0=m:=Le
   have I:=aYk j (by rw[u];exact hm);have J:=aPf s;simp only[EW,Am,aTN hs,AP,GL];unfold Tz;by_cases q:FZ s<s.size
   ·have L:NU s 1 (FZ s:Int)=some (Ud s):=fD (lo:=1) I J
    have M:NU s (Ai ((FZ s:Int)+1)) (s.size:Int)=some (Pz s):=by
     rw[MH AA AA,show(FZ s:Int)+1=((FZ s+1:Nat):Int) by omega];exact fD AA (Dn _)
    rw[show decide ((FZ s:Int)<(s.size:Int))=true from by simpa using q,show decide (FZ s<s.size)=true by simpa using q];have O:(Ud s).size≤9223372036854775807:=Ed (extract_size _ _ _) hs;have U:(Pz s).size≤9223372036854775807:=Ed (extract_size _ _ _) hs;simp only[BD,L,M,alI O,apa U,AP];cases Vm (BU (Ud s))<;>cases Xz (BU (Pz s))<;>rfl
   rw[show decide ((FZ s:Int)<(s.size:Int))=false from by simpa using q,show decide (FZ s<s.size)=false by simpa using q];rfl
 rw[show decide ((s.size:Int)<1)=true from by simp;omega,show decide (0<s.size)=false by simpa using j];rfl
def splitB (s:ByteArray) (b:Bool):ByteArray×ByteArray×Bool:=bif b then(Ud s,Pz s,true)else(BK,BK,false)
def amG (b c:UInt8):(b==c)=(((b.toNat:Nat):Int)==((c.toNat:Nat):Int)):=by
 by_cases h:b=c
 ·subst h;simp
 have :¬b.toNat=c.toNat:=fun e=>h (UInt8.toNat_inj.1 e);have j:(b==c)=false:=J3
 rw[j];symm;simp;omega
def aWf (s:ByteArray) (c:UInt8):s.data.toList.findIdx (· ==c)=(BU s).findIdx (· ==((c.toNat:Nat):Int)):=by
 unfold BU;rw[List.findIdx_map];congr 1;funext b;exact amG b c
def aoy (s:ByteArray):∀x∈BU s,0≤x∧x<256:=by
 intro x j;unfold BU at j;rw[Dp]at j;obtain⟨c,_,rfl⟩:=j;have :=c.toNat_lt;omega
def getD_mem {s:ByteArray} (h:0<s.size):(BU s).getD 0 0∈BU s:=by
 have hl:0<(BU s).length:=aB5
 have e:(BU s).getD 0 0=(BU s)[0]:=by simp[List.getD,hl]
 rw[e];exact ED hl
def aiq (marks:ByteArray) {c:Int} (u:0≤c) (z:c<256):decide (Lib.indexByte marks.data.toList c.toNat.toUInt8<0)= !(BU marks).contains c:=by
 have e:(((c.toNat.toUInt8).toNat:Nat):Int)=c:=by
  rw[Nat.toUInt8,UInt8.toNat_ofNat'];omega
 rw[aKl,aWf,e,←aSD marks];by_cases hm:c∈BU marks
 ·have j:(BU marks).findIdx (· ==c)<(BU marks).length:=List.findIdx_lt_length_of_exists ⟨c,hm,Aw⟩;rw[CP j,show(BU marks).contains c=true by simpa using hm];simp
 have q:¬(BU marks).findIdx (· ==c)<(BU marks).length:=fun h=>by
  have :=aEd (w:=h);simp only[OL]at this;exact hm (this▸ED h)
 rw[CU q,show(BU marks).contains c=false by simpa using hm];rfl
def aTB (s:ByteArray) (a b:Nat):(s.extract 1 s.size).extract a b=s.extract (1+a) (min (1+b) s.size):=by
 refine bytes_inj ?_;simp only[aS0];have :(BU s).take s.size=BU s:=Po (by rw[I9];omega);rw[this,List.take_drop,aIF];congr 1;have :min (1+b) s.size=min (1+b) (BU s).length:=by rw[I9]
 rw[this,List.take_eq_take_min]
def ap1 {s:ByteArray} (h:0<s.size) (hm:(BU s).getD 0 0≠58):(BU (s.extract 1 s.size)).findIdx (· ==58)+1=FZ s:=by
 unfold FZ;rw[aS0];have :(BU s).take s.size=BU s:=Po (by rw[I9];omega);rw[this];have hl:0<(BU s).length:=aB5
 match j:BU s with
 | []=>rw[j]at hl;simp at hl
 |c::l=>
  rw[j]at hm;simp only[List.getD_cons_zero]at hm;rw[Qr,show(c==58)=false from by simpa using hm];rfl
def ah1 {s:ByteArray} (hs:s.size≤9223372036854775807) (h:0<s.size) (hm:(BU s).getD 0 0≠58):∃a b,strings_Cut (s.extract 1 s.size) lQ=some (a,b,decide (FZ s<s.size))∧(FZ s<s.size→a=Ud s∧b=Pz s):=by
 have J:=aYk h hm;have L:=aPf s;have M:=ap1 h hm;have q:(s.extract 1 s.size).size=s.size-1:=by rw[aAZ];omega
 have u:aFZ (s.extract 1 s.size) lQ=some (if FZ s<s.size then((FZ s-1:Nat):Int)else -1):=by
  show some (Lib.indexByte (s.extract 1 s.size).data.toList 58)=_;rw[aKl,aWf,←aSD (s.extract 1 s.size)];show some (if(BU (s.extract 1 s.size)).findIdx (· ==58)<_ then(((BU (s.extract 1 s.size)).findIdx (· ==58):Nat):Int)else -1)=_;rw[I9,q];have e:(BU (s.extract 1 s.size)).findIdx (· ==58)=FZ s-1:=AA
  rw[e];congr 1;by_cases j:FZ s<s.size
  ·rw[CP j,CP AA]
  rw[CU j,CU AA]
 unfold strings_Cut aJv;rw[u,AP];by_cases j:FZ s<s.size
 ·rw[CP j,show decide (((FZ s-1:Nat):Int)≥0)=true from by simp,show decide (FZ s<s.size)=true by simpa using j];have z:NU (s.extract 1 s.size) 0 ((FZ s-1:Nat):Int)=some ((s.extract 1 s.size).extract 0 (FZ s-1)):=fD (lo:=0) AA AA
  have I:NU (s.extract 1 s.size) (Ai (((FZ s-1:Nat):Int)+(lQ.size:Int))) ((s.extract 1 s.size).size:Int)=some ((s.extract 1 s.size).extract (FZ s) (s.size-1)):=by
   rw[show(lQ.size:Int)=1 from rfl,MH AA AA,show((FZ s-1:Nat):Int)+1=((FZ s:Nat):Int) by omega,q];exact fD AA AA
  simp only[BD,z,I,AP];refine⟨_,_,rfl,fun _=>⟨?_,?_⟩⟩
  ·rw[aTB];unfold Ud;congr 1;omega
  rw[aTB];unfold Pz;rw[Ui 1 (FZ s)];congr 1;omega
 rw[CU j,show decide ((-1:Int)≥0)=false from rfl,show decide (FZ s<s.size)=false by simpa using j];exact⟨_,_,rfl,fun h=>absurd h j⟩
def aO3 {s:ByteArray} (hs:s.size≤9223372036854775807) {marks:ByteArray} (u:∀m∈BU marks,m≠58):gQ s marks=some (splitB s ((BU marks).any fun m=>Gn s m)):=by
 unfold gQ;by_cases q:0<s.size
 ·have z:(s.toList==BK.toList)=false:=by
   rw[IB];simp only[NR];intro e;rw[e]at q;exact absurd q BJ
  have I:=aoy s _ (getD_mem q)
  have j:((BU marks).any fun m=>Gn s m)=((BU marks).contains ((BU s).getD 0 0)&&Tz s):=by
   unfold Gn;rw[show decide (0<s.size)=true by simpa using q]
   induction BU marks with
   |nil=>rfl
   |cons m l J=>rw[aH,J,List.contains_cons];cases(BU s).getD 0 0==m<;>cases Tz s<;>simp
  rw[z,j];simp only[Am,aDw q,AP,strings_IndexByte,aiq marks I.1 I.2];cases L:(BU marks).contains ((BU s).getD 0 0)with
  |false=>rfl
  |true=>
   have hm:(BU s).getD 0 0≠58:=u _ Wu;obtain⟨a,b,M,O⟩:=ah1 hs q hm;have U:NU s 1 (s.size:Int)=some (s.extract 1 s.size):=fD (lo:=1) AA (Dn _);simp only[EW,Am,U,M,AP,GL];unfold Tz;cases Y:decide (FZ s<s.size)with
   |false=>rfl
   |true=>
    obtain⟨rfl,rfl⟩:=O (YR Y);have Z:(Ud s).size≤9223372036854775807:=Ed (extract_size _ _ _) hs;have g2:(Pz s).size≤9223372036854775807:=Ed (extract_size _ _ _) hs;simp only[EW,Am,adF Z,ala g2,AP];cases Vm (BU (Ud s))<;>cases Xz (BU (Pz s))<;>rfl
 have hz:s.size=0:=AA
 have he:s=BK:=bytes_inj (by
  have h1:BU s=[]:=Gh (by rw[I9];exact hz)
  rw[h1];rfl)
 have j:((BU marks).any fun m=>Gn s m)=false:=by
  rw[fV];intro m _;unfold Gn;rw[show decide (0<s.size)=false by simpa using q];simp
 rw[j,he,show(BK.toList==BK.toList)=true from by simp];rfl
def JY (s:ByteArray):Bool:=Gn s 64||(Gn s 33||false)
def ajn {s:ByteArray} (hs:s.size≤9223372036854775807):gQ s vY=some (splitB s (JY s)):=
 aO3 hs (marks:=vY) (by rw[show BU vY=[64,33]from rfl];intro m hm;simp only[EG,EM,ZL]at hm;omega)
def aQX {s:ByteArray} (h:Tz s=true):FZ s<s.size:=by unfold Tz at h;simp only[CZ,GN]at h;exact h.1.1
def Ri {s:ByteArray} (hs:s.size≤9223372036854775807):WO s=some (splitB s (JY s)).2.1∧X0 s=some (splitB s (JY s)).2.1:=by
 have z:FZ s<s.size→NU s (Ai ((FZ s:Int)+1)) (s.size:Int)=some (Pz s):=fun I=>by
  rw[MH AA AA,show(FZ s:Int)+1=((FZ s+1:Nat):Int) by omega];exact fD AA (Dn _)
 unfold WO X0;rw[ajn hs,aDz hs BJ,aDz hs BJ,aTN hs];refine⟨rfl,?_⟩;unfold JY;cases j:Gn s 64 with
 |true=>
  have u:=aQX (s:=s) (by unfold Gn at j;simp only[CZ]at j;exact j.2);simp only[AP,EW,Am,z u,Bool.true_or];rfl
 |false=>
  cases q:Gn s 33 with
  |true=>
   have u:=aQX (s:=s) (by unfold Gn at q;simp only[CZ]at q;exact q.2);simp only[AP,EW,Il,Am,BD,z u,NH,Bool.true_or];rfl
  |false=>rfl
end Go.Proofs.YtkkdimcnpacjhaaGreat
end
