/- Part 5 of what the laws' proofs lean on: states of the walk, typed functions of the program and their laws (short forms written by wip/shrink.py; no condition). -/
import Derived.Test.YtkkdimcnpacjhaaGreatRd4
set_option linter.defProp false
set_option linter.unnecessarySimpa false
set_option linter.unusedVariables false
set_option linter.unusedSimpArgs false
section
namespace Go.Proofs.YtkkdimcnpacjhaaGreat
open Go.RowKit
set_option maxRecDepth 20000
set_option maxHeartbeats 4000000
def aND (j:(AB→Int→Option AB)) (u:Int) (q:AB):Option AB:=j q (Ai (u+1))
def aOp (z:AB) (j:AX) (U:(AB→Int→Option AB)) (Y:Int) (q:(AB→Int→Option AB)):AB→Int→Option AB:=fun I u=>(bif decide (u<(z.length:Int))then(Af z u).bind fun J=>(Jk j J).bind fun L=>(bif L.2 then(Af z u).bind fun M=>(Wq I M).bind fun O=>aND q u O else aND q u I)else U I (Ai (Y+1)))
def aJm (q:AB) (j:AX) (u:(AB→Int→Option AB)) (z:Int):AB→Int→Option AB:=aV (aOp q j u z) Ag
def aIe (j:AX) (q:(AB→Int→Option AB)) (u:Int) (z:AB) (I:AB):Option AB:=aJm I j q u z 0
def aPP (j:AB) (q:AX) (u:Bool) (J:(AB→Int→Option AB)):AB→Int→Option AB:=fun I z=>(bif decide (z<(j.length:Int))then(Af j z).bind fun M=>(Jk q M).bind fun L=>(bif u then aIe q J z I L.1.aZ else aIe q J z I L.1.aU)else some I)
def aXH (q:AB) (u:AX) (j:Bool):AB→Int→Option AB:=aV (aPP q u j) Ag
def aFb (u:AX) (q:AB) (j:Bool):Option AB:=aXH q u j [] 0
def aLq (j:AB) (z:(AB→Int→Option AB)):AB→Int→Option AB:=fun u q=>(bif decide (q<(j.length:Int))then(Af j q).bind fun I=>(Wq u I).bind fun J=>z J (Ai (q+1))else some u)
def aYE (j:AB):AB→Int→Option AB:=aV (aLq j) Ag
def cZ (j:AB) (q:AB):Option AB:=(rF j).bind fun u=>aYE q u 0
def aP9 (q:AX) (j:Bool) (I:(AB→Int→Option AB)):AB→Int→Option AB:=fun u z=>(bif decide (z<(q.length:Int))then(aFb q u j).bind fun J=>(cZ u J).bind fun L=>I L (Ai (z+1))else some u)
def aRl (q:AX) (j:Bool):AB→Int→Option AB:=aV (aP9 q j) Ag
def aIr (u:AX) (q:AB) (j:Bool):Option AB:=aRl u j q 0
def gu (j:AX) (q:AB):Option AB:=(aOP j q).bind fun u=>(aFb j u true).bind fun z=>(aIr j z true).bind fun I=>some I
def aKn (j:Aw) (q:AX) (I:(AB→Int→Option AB)):AB→Int→Option AB:=fun u z=>(bif decide (z<(j.length:Int))then(Af j z).bind fun J=>(C9 8 u [J.Id]).bind fun L=>I L (Ai (z+1))else(gu q u).bind fun M=>(cZ u M).bind fun O=>some O)
def aVB (j:Aw) (q:AX):AB→Int→Option AB:=aV (aKn j q) Ag
def aP6 (j:AX) (q:Aw):Option AB:=aVB q j [] 0
def aXs (j:(AB→Int→Option AB)) (q:Int) (u:AB):Option AB:=j u (Ai (q+1))
def aan (j:(Int→Int→Option AB)) (q:Int) (u:Int):Option AB:=j u (Ai (q+1))
def aMb (L:V7) (v2:AB) (j:Int) (z:AB) (I:(AB→Int→Option AB)) (J:(Int→Int→Option AB)):Int→Int→Option AB:=fun u q=>(bif decide (q<(L.length:Int))then(Af L q).bind fun M=>(Af v2 j).bind fun O=>(UC M O).bind fun U=>(bif U then aan J q (Ai (u+1))else aan J q u)else(bif decide (u<(L.length:Int))then(Af v2 j).bind fun Y=>(C9 8 z [Y]).bind fun Z=>aXs I j Z else aXs I j z))
def aWK (z:V7) (I:AB) (j:Int) (q:AB) (u:(AB→Int→Option AB)):Int→Int→Option AB:=aV (aMb z I j q u) Ag
def aIi (z:AB) (I:V7) (u:(AB→Int→Option AB)):AB→Int→Option AB:=fun j q=>(bif decide (q<(z.length:Int))then aWK I z q j u 0 0 else some j)
def aMi (j:AB) (q:V7):AB→Int→Option AB:=aV (aIi j q) Ag
def aIG (j:F8) (q:AX) (L:(V7→AB→Int→Option AB)):V7→AB→Int→Option AB:=fun z I u=>(bif decide (u<(j.length:Int))then(Af j u).bind fun M=>(aP6 q M).bind fun J=>(C9 24 z [J]).bind fun O=>(cZ I J).bind fun U=>L O U (Ai (u+1))else aMi I z [] 0)
def aRX (j:F8) (q:AX):V7→AB→Int→Option AB:=ku (aIG j q) Ag
def aKQ (q:AX) (j:F8):Option AB:=aRX j q [] [] 0
def aMA (q:AX) (j:F8):Option AB:=(aCQ j).bind fun u=>(aKQ q j).bind fun z=>(cZ u.2 z).bind fun I=>some I
def aEt (q:AX) (j:AB):Option AB:=(o8 q j).bind fun u=>(iG j u).bind fun z=>some z
def aOq (j:AL):Option Bool:=(bif (j.Kind==2)then(bif (j.Content.N==0)then some true else some (j.Content.N==4)).bind fun q=>(bif q then some (!(j.Key.toList==j.aQ.toList))else some false).bind fun u=>some u else(bif (j.Kind==3)then some true else some (j.Kind==4)).bind fun z=>some z)
def aCg (j:(AB→Int→Option AB)) (q:Int) (u:AB):Option AB:=j u (Ai (q+1))
def aPL (j:(AB→Int→Option AB)) (q:Int) (u:AB):Option AB:=j u (Ai (q+1))
def aM9 (q:AB) (O:AB) (U:(AB→Int→Option AB)) (Y:Int) (z:(AB→Int→Option AB)):AB→Int→Option AB:=fun u j=>(bif decide (j<(q.length:Int))then(Af q j).bind fun I=>(UC O I).bind fun J=>(bif J then(Af q j).bind fun L=>(Wq u L).bind fun M=>aPL z j M else aPL z j u)else aCg U Y u)
def aRW (j:AB) (q:AB) (u:(AB→Int→Option AB)) (z:Int):AB→Int→Option AB:=aV (aM9 j q u z) Ag
def aJt (u:AB) (j:AX) (U:(AB→Int→Option AB)):AB→Int→Option AB:=fun z q=>(bif decide (q<(u.length:Int))then(Af u q).bind fun Y=>(Jk j Y).bind fun Z=>(aOq Z.1).bind fun I=>(bif I then(Af u q).bind fun J=>(Wq z J).bind fun L=>(Af u q).bind fun M=>(gu j [M]).bind fun O=>aRW O u U q L 0 else aCg U q z)else some z)
def aTM (q:AB) (j:AX):AB→Int→Option AB:=aV (aJt q j) Ag
def aPM (q:AX) (j:AB):Option AB:=(aEt q j).bind fun u=>aTM u q [] 0
def aJk (u:AB) (j:AB) (z:(Int→Option Bool)):Int→Option Bool:=fun q=>(bif decide (q<(u.length:Int))then(Af u q).bind fun I=>(UC j I).bind fun J=>(bif J then some false else z (Ai (q+1)))else some true)
def aU1 (q:AB) (j:AB):Int→Option Bool:=bI (aJk q j) Ag
def aIa (u:AX) (j:AB) (q:Int):Option Bool:=(gu u [q]).bind fun z=>aU1 z j 0
def aIL (j:Aw) (u:Int) (q:ByteArray) (k2:(Int→Option Aw)):Int→Option Aw:=fun z=>(bif decide (z<(j.length:Int))then(Af j z).bind fun x5=>(bif decide (x5.Kind<u)then some true else(Af j z).bind fun x8=>(bif (x8.Kind==u)then(Af j z).bind fun I=>some (Op.bytesLess (I.Key.toList) (q.toList))else some false).bind fun x9=>some x9).bind fun x6=>some x6 else some false).bind fun x3=>(bif x3 then k2 (Ai (z+1))else(bif decide (z<(j.length:Int))then(Af j z).bind fun J=>some (J.Kind==u)else some false).bind fun L=>(bif L then(Af j z).bind fun M=>some (M.Key.toList==q.toList)else some false).bind fun O=>(bif O then some j else(He j 0 z).bind fun U=>(C9 32 [] U).bind fun Y=>(C9 32 Y [(⟨u,q,0⟩:Ah)]).bind fun Z=>(He j z ((j).length)).bind fun x23=>(C9 32 Z x23).bind fun x24=>some x24))
def aSb (q:Aw) (u:Int) (j:ByteArray):Int→Option Aw:=bI (aIL q u j) Ag
def Yq (q:Aw) (u:Int) (j:ByteArray):Option Aw:=aSb q u j 0
def aOV (j:Aw):Option Aw:=some j
def fA (j:AL):Option Aw:=(bif (j.Kind==1)then some []else(Yq [] 1 BP).bind fun J=>(Yq J 3 BP).bind fun L=>(Yq L 2 j.aQ).bind fun z=>(bif (j.Kind != 2)then some z else(Yq z 2 j.Key).bind fun I=>(bif (j.Content.N==3)then some true else some (j.Content.N==1)).bind fun M=>(bif M then some true else some (j.Content.N==2)).bind fun q=>(bif q then(Yq I 4 BP).bind fun u=>aOV u else aOV I)))
def aJc (j:(AX→Int→Option AX)) (q:Int) (u:AX):Option AX:=j u (Ai (q+1))
def aHl (j:AB) (q:AX) (J:(AX→Int→Option AX)):AX→Int→Option AX:=fun z u=>(bif decide (u<(j.length:Int))then(Af j u).bind fun M=>(Jk q M).bind fun L=>(bif L.2 then(C9 376 z [L.1]).bind fun I=>aJc J u I else aJc J u z)else some z)
def aQ8 (j:AB) (q:AX):AX→Int→Option AX:=aV (aHl j q) Ag
def vS (q:AX) (j:AB):Option AX:=aQ8 j q [] 0
def aPq (j:(AX→Bool→Int→Option AX)) (z:Int) (q:AX) (u:Bool):Option AX:=j q u (Ai (z+1))
def aMk (L:AX) (q:Int) (J:AX) (j:(AX→Bool→Int→Option AX)) (M:Bool) (u:Bool):Option AX:=(bif u then(Af L q).bind fun z=>(C9 376 J [z]).bind fun I=>aPq j q I true else aPq j q J M)
def Qa (j:AX) (Z:Aw) (z:Int) (k5:(AX→Int→Option AX)) (q:(AX→Bool→Int→Option AX)):AX→Bool→Int→Option AX:=fun I J u=>(bif decide (u<(j.length:Int))then some (!J)else some false).bind fun L=>(bif L then(Af j u).bind fun M=>(Af Z z).bind fun O=>(bif (M.Kind==O.Kind)then(Af j u).bind fun U=>(Af Z z).bind fun Y=>aMk j u I q J (U.Key.toList==Y.Key.toList)else aMk j u I q J false)else k5 I (Ai (z+1)))
def aQP (j:AX) (q:Aw) (u:Int) (z:(AX→Int→Option AX)):AX→Bool→Int→Option AX:=ku (Qa j q u z) Ag
def aMo (j:Aw) (z:AX) (I:(AX→Int→Option AX)):AX→Int→Option AX:=fun q u=>(bif decide (u<(j.length:Int))then aQP z j u I q false 0 else some q)
def aSF (j:Aw) (q:AX):AX→Int→Option AX:=aV (aMo j q) Ag
def zW (q:AX) (j:AL):Option AX:=(fA j).bind fun u=>(vS q j.aZ).bind fun z=>aSF u z [] 0
def aSz :Bf:={ KX with jR:=50,mZ:=50,gB:=50 }
def aLQ (j:Bf):Option Bf:=some j
def aLD (j:ByteArray):Option Bf:=(bif (!(j.toList==BP.toList))then aLQ ({ aSz with Users:=[(⟨j,100⟩:Hz)] })else aLQ aSz)
def aKh (j:(ByteArray→Bool→Int→Option (Bf×ByteArray))) (q:Int) (u:ByteArray) (z:Bool):Option (Bf×ByteArray):=j u z (Ai (q+1))
def aMU (j:AX) (u:ByteArray) (z:(Int→Bf→Option (Bf×ByteArray))):Int→Bf→Option (Bf×ByteArray):=fun q I=>(bif decide (q<(j.length:Int))then(Af j q).bind fun J=>(bif (J.Kind==3)then(Af j q).bind fun L=>some (L.Content.Levels,u)else z (Ai (q+1)) I)else(aLD u).bind fun M=>some (M,u))
def aCK (j:AX) (q:ByteArray):Int→Bf→Option (Bf×ByteArray):=aV (aMU j q) Ag
def Qo (j:AX) (I:(ByteArray→Bool→Int→Option (Bf×ByteArray))):ByteArray→Bool→Int→Option (Bf×ByteArray):=fun J L q=>(bif decide (q<(j.length:Int))then some (!L)else some false).bind fun M=>(bif M then(Af j q).bind fun u=>(bif (u.Kind==1)then(Af j q).bind fun z=>aKh I q z.aQ true else aKh I q J L)else aCK j J 0 KX)
def aRb (j:AX):ByteArray→Bool→Int→Option (Bf×ByteArray):=ku (Qo j) Ag
def uM (j:AX):Option (Bf×ByteArray):=aRb j BP false 0
def aM4 (j:Bf) (q:ByteArray) (k2:(Int→Option Int)):Int→Option Int:=fun u=>(bif decide (u<(j.Users.length:Int))then(Af j.Users u).bind fun z=>(bif (z.User.toList==q.toList)then(Af j.Users u).bind fun I=>some I.N else k2 (Ai (u+1)))else some j.User)
def aVP (q:Bf) (j:ByteArray):Int→Option Int:=bI (aM4 q j) Ag
def VN (q:Bf) (j:ByteArray):Option Int:=aVP q j 0
def aBz (q:AX) (j:AL):Option Int:=(zW q j).bind fun u=>(uM u).bind fun z=>(VN z.1 j.aQ).bind fun I=>some I
def aPp (u:AX) (j:AL) (q:AL):Option Bool:=(aBz u j).bind fun z=>(aBz u q).bind fun I=>(bif (z != I)then some (decide (z>I))else(bif (j.Time != q.Time)then some (decide (j.Time<q.Time))else some (decide (j.Id<q.Id))))
def aJJ (j:(Bool→Int→AB→AL→Option AB)) (I:Int) (q:Bool) (u:AB) (z:AL):Option AB:=j q (Ai (I+1)) u z
def aP2 (q:AB) (j:AX) (k4:(AB→AB→Option AB)) (u:(Bool→Int→AB→AL→Option AB)):Bool→Int→AB→AL→Option AB:=fun M z J L=>(bif decide (z<(q.length:Int))then(Af q z).bind fun O=>(Jk j O).bind fun I=>(Af q z).bind fun U=>(aIa j q U).bind fun Y=>(bif Y then(bif (!M)then some true else(aPp j I.1 L).bind fun Z=>some Z).bind fun Gz=>some Gz else some false).bind fun La=>(bif La then aJJ u z true J I.1 else aJJ u z M J L)else(bif (!M)then some J else(C9 8 J [L.Id]).bind fun x27=>(iG q [L.Id]).bind fun x28=>k4 x28 x27))
def aUU (q:AB) (j:AX) (u:(AB→AB→Option AB)):Bool→Int→AB→AL→Option AB:=Xq (aP2 q j u) Ag
def XM (j:AX) (z:(AB→AB→Option AB)):AB→AB→Option AB:=fun q u=>(bif decide ((q.length:Int)>0)then aUU q j z false 0 u Bv else some u)
def aaH (j:AX):AB→AB→Option AB:=aV (XM j) Ag
def aOU (q:AX) (j:AB):Option AB:=(aEt q j).bind fun u=>aaH q u []
def aO3 (j:AX) (u:Int) (q:ByteArray) (J:(Int→AL→Option (AL×Bool))):Int→AL→Option (AL×Bool):=fun z L=>(bif decide (z<(j.length:Int))then(Af j z).bind fun M=>(bif (M.Kind==u)then(Af j z).bind fun O=>some (O.Key.toList==q.toList)else some false).bind fun U=>(bif U then(Af j z).bind fun I=>some (I,true)else J (Ai (z+1)) L)else some (Bv,false))
def aQD (q:AX) (u:Int) (j:ByteArray):Int→AL→Option (AL×Bool):=aV (aO3 q u j) Ag
def aHv (q:AX) (u:Int) (j:ByteArray):Option (AL×Bool):=aQD q u j 0 Bv
def aMW (j:(AX→Int→Option AX)) (q:Int) (u:AX):Option AX:=j u (Ai (q+1))
def aLe (I:(AX→Int→Option AX)) (J:Int) (q:Bool) (j:AX) (u:AL):Option AX:=(bif q then(C9 376 j [u]).bind fun z=>aMW I J z else aMW I J j)
def aPI (q:Aw) (u:Aw) (x2:AX) (z:AX) (Z:(AX→Int→Option AX)):AX→Int→Option AX:=fun M j=>(bif decide (j<(q.length:Int))then(Af q j).bind fun x9=>(Af q j).bind fun O=>(mO u x9.Kind O.Key).bind fun I=>(Af q j).bind fun U=>(Af q j).bind fun Y=>(aHv x2 U.Kind Y.Key).bind fun J=>(bif I.2 then(Jk z I.1).bind fun L=>aLe Z j L.2 M L.1 else aLe Z j J.2 M J.1)else some M)
def aav (u:Aw) (j:Aw) (z:AX) (q:AX):AX→Int→Option AX:=aV (aPI u j z q) Ag
def aNX (j:AX) (u:Aw) (q:AL):Option AX:=(fA q).bind fun z=>(vS j q.aZ).bind fun I=>aav z u I j [] 0
def aPc (j:AX) (u:(Int→AL→Option (AL×Bool))):Int→AL→Option (AL×Bool):=fun q z=>(bif decide (q<(j.length:Int))then(Af j q).bind fun I=>(bif (I.Kind==1)then(Af j q).bind fun J=>some (J,true)else u (Ai (q+1)) z)else some (Bv,false))
def aQR (j:AX):Int→AL→Option (AL×Bool):=aV (aPc j) Ag
def aEQ (j:AX):Option (AL×Bool):=aQR j 0 Bv
def aKT (j:AX) (q:ByteArray) (k2:(Int→Option Bool)):Int→Option Bool:=fun u=>(bif decide (u<(j.length:Int))then(Af j u).bind fun z=>(bif (z.Kind==2)then(Af j u).bind fun I=>some (I.Key.toList==q.toList)else some false).bind fun J=>(bif J then some true else k2 (Ai (u+1)))else some false)
def aSC (q:AX) (j:ByteArray):Int→Option Bool:=bI (aKT q j) Ag
def aJ0 (q:AX) (j:ByteArray):Option Bool:=aSC q j 0
def Y4 (j:Bool):Option Bool:=some j
def aMT (j:AL) (q:AX):Option Bool:=(aEQ q).bind fun u=>(bif u.2 then(bif ((j.aU.length:Int)==1)then(Af j.aU 0).bind fun I=>(bif (I==u.1.Id)then(bif (j.aQ.toList==u.1.aQ.toList)then(bif (j.Key.toList==u.1.aQ.toList)then(bif (j.Content.N==3)then(aJ0 q j.Key).bind fun z=>Y4 (!z)else Y4 false)else Y4 false)else Y4 false)else Y4 false)else Y4 false)else Y4 false)
def aIH (j:AX) (q:ByteArray) (k2:(Int→Option Int)):Int→Option Int:=fun u=>(bif decide (u<(j.length:Int))then(Af j u).bind fun z=>(bif (z.Kind==2)then(Af j u).bind fun I=>some (I.Key.toList==q.toList)else some false).bind fun J=>(bif J then(Af j u).bind fun L=>some L.Content.N else k2 (Ai (u+1)))else some 0)
def aRQ (q:AX) (j:ByteArray):Int→Option Int:=bI (aIH q j) Ag
def oJ (q:AX) (j:ByteArray):Option Int:=aRQ q j 0
def Zl (j:Int) (u:Int) (q:Bool):Option Bool:=(bif decide (j<0)then some true else some (decide (j>4))).bind fun Z=>(bif Z then some false else(bif (u==3)then(bif q then some (j != 4)else some false).bind fun x5=>some x5 else(bif (u==0)then(bif (j==1)then some true else some (j==2)).bind fun x8=>(bif x8 then some true else some (j==3)).bind fun z=>(bif z then some true else(bif (j==4)then some (!q)else some false).bind fun I=>some I).bind fun J=>some J else(bif (u==2)then(bif q then(bif (j==0)then some true else some (j==2)).bind fun L=>some L else some false).bind fun M=>some M else(bif (u==1)then(bif (!q)then(bif (j==0)then some true else some (j==2)).bind fun O=>(bif O then some true else some (j==1)).bind fun U=>some U else some false).bind fun Y=>some Y else(bif (u==4)then some (!q)else some false))))))
def aNR (j:AX) (k2:(Int→Option (Int×Fe))):Int→Option (Int×Fe):=fun q=>(bif decide (q<(j.length:Int))then(Af j q).bind fun u=>(bif (u.Kind==4)then(Af j q).bind fun z=>(Af j q).bind fun I=>(C9 16 [] I.Content.Allow).bind fun J=>some (z.Content.N,J)else k2 (Ai (q+1)))else some (0,[]))
def aS0 (j:AX):Int→Option (Int×Fe):=bI (aNR j) Ag
def aJx (j:AX):Option (Int×Fe):=aS0 j 0
def aPJ (j:Int) (q:Int):Option Int:=(bif (q==3)then some true else some (j==1)).bind fun u=>(bif u then some 0 else(bif (q==1)then(bif (j==0)then some true else some (j==2)).bind fun z=>(bif z then some true else some (j==3)).bind fun I=>some I else some false).bind fun J=>(bif J then some 0 else some 21))
def aPF (q:Int) (j:Int):Option Int:=(bif (q==2)then(bif (j==0)then some true else some (j==2)).bind fun u=>some u else some false).bind fun z=>(bif z then some 0 else some 21)
def aPy (q:AL) (u:AX) (j:Int):Option Int:=(aJx u).bind fun z=>(bif (q.Content.N==3)then(aPJ z.1 j).bind fun I=>some I else(bif (q.Content.N==2)then(aPF z.1 j).bind fun J=>some J else some 0))
def aPo (j:AL) (u:AX) (q:Int):Option Int:=(oJ u j.aQ).bind fun Z=>(bif (Z != 3)then some 18 else(uM u).bind fun z=>(VN z.1 j.aQ).bind fun I=>(VN z.1 j.Key).bind fun Y=>(bif (j.Content.N==1)then some (decide (I<z.1.fG))else some false).bind fun x6=>(bif x6 then some 20 else(bif (j.Content.N==0)then(bif (q==4)then some (decide (I<z.1.mZ))else some false).bind fun J=>(bif J then some true else some (decide (I<z.1.jR))).bind fun L=>(bif L then some true else some (decide (Y≥I))).bind fun M=>some M else some false).bind fun x9=>(bif x9 then some 20 else(bif (j.Content.N==4)then(bif decide (I<z.1.mZ)then some true else some (decide (Y≥I))).bind fun O=>some O else some false).bind fun U=>(bif U then some 20 else some 0))))
def aK6 (j:AL) (q:AX):Option Int:=(aMT j q).bind fun J=>(bif J then some 0 else(oJ q j.Key).bind fun u=>(bif (j.Key.toList==j.aQ.toList)then some (u==4)else some false).bind fun L=>(bif L then some 19 else(Zl u j.Content.N (j.Key.toList==j.aQ.toList)).bind fun M=>(bif (!M)then some 18 else(bif (j.Key.toList==j.aQ.toList)then(aPy j q u).bind fun z=>some z else(aPo j q u).bind fun I=>some I))))
def aOM (j:Bf) (q:Int) (k2:(Int→Option Int)):Int→Option Int:=fun u=>(bif decide (u<(j.Kinds.length:Int))then(Af j.Kinds u).bind fun z=>(bif (z.Kind==q)then(Af j.Kinds u).bind fun I=>some I.N else k2 (Ai (u+1)))else(TN q).bind fun J=>(bif J then some j.State else some j.Message))
def aYq (j:Bf) (q:Int):Int→Option Int:=bI (aOM j q) Ag
def y8 (j:Bf) (q:Int):Option Int:=aYq j q 0
def aMB (j:Bf):Option AB:=some [j.User,j.Message,j.State,j.fG,j.jR,j.mZ,j.gB]
def vJ (j:Int) (u:Int) (q:Int):Option Bool:=(bif (j==u)then some true else(bif decide (j≤q)then some (decide (u≤q))else some false).bind fun z=>some z).bind fun I=>some I
def qh (q:Bf) (z:Bf) (u:ByteArray) (j:ByteArray):Option Bool:=(VN q j).bind fun J=>(VN q u).bind fun I=>(VN z u).bind fun L=>(vJ I L J).bind fun M=>(bif M then(bif (I==L)then some true else some (u.toList==j.toList)).bind fun O=>(bif O then some true else some (decide (I<J))).bind fun U=>some U else some false).bind fun Y=>some Y
def aPR (j:Bf) (q:Bf) (O:Int) (z:(Int→Option Int)) (I:Int) (u:Int):Option Int:=(y8 j u).bind fun J=>(y8 q u).bind fun L=>(vJ J L O).bind fun M=>(bif (!M)then some 20 else z (Ai (I+1)))
def aLl (j:Bf) (u:Bf) (q:ByteArray) (I:(Int→Option Int)):Int→Option Int:=fun z=>(bif decide (z<(j.Users.length:Int))then(Af j.Users z).bind fun J=>(qh u j J.User q).bind fun L=>(bif (!L)then some 20 else I (Ai (z+1)))else some 0)
def aL9 (q:Bf) (u:Bf) (j:ByteArray):Int→Option Int:=bI (aLl q u j) Ag
def aH0 (j:Bf) (u:Bf) (q:ByteArray) (I:(Int→Option Int)):Int→Option Int:=fun z=>(bif decide (z<(j.Users.length:Int))then(Af j.Users z).bind fun J=>(qh j u J.User q).bind fun L=>(bif (!L)then some 20 else I (Ai (z+1)))else aL9 u j q 0)
def aIm (q:Bf) (u:Bf) (j:ByteArray):Int→Option Int:=bI (aH0 q u j) Ag
def aIn (j:Bf) (q:Bf) (M:Int) (z:ByteArray) (I:(Int→Option Int)):Int→Option Int:=fun u=>(bif decide (u<(Ai ((j.Kinds.length:Int)+(q.Kinds.length:Int))))then(bif decide (u<(j.Kinds.length:Int))then(Af j.Kinds u).bind fun J=>aPR j q M I u J.Kind else(Af q.Kinds (Ai (u-(j.Kinds.length:Int)))).bind fun L=>aPR j q M I u L.Kind)else aIm j q z 0)
def aEj (q:Bf) (u:Bf) (z:Int) (j:ByteArray):Int→Option Int:=bI (aIn q u z j) Ag
def aMX (I:AB) (L:AB) (J:Int) (q:Bf) (u:Bf) (j:ByteArray) (M:(Int→Option Int)):Int→Option Int:=fun z=>(bif decide (z<(I.length:Int))then(Af I z).bind fun O=>(Af L z).bind fun U=>(vJ O U J).bind fun Y=>(bif (!Y)then some 20 else M (Ai (z+1)))else aEj q u J j 0)
def aXk (z:AB) (I:AB) (J:Int) (q:Bf) (u:Bf) (j:ByteArray):Int→Option Int:=bI (aMX z I J q u j) Ag
def aPm (j:Bf) (u:Bf) (q:ByteArray):Option Int:=(VN j q).bind fun z=>(aMB j).bind fun I=>(aMB u).bind fun J=>aXk I J z j u q 0
def aKo (j:AL) (q:AX):Option Int:=(uM q).bind fun u=>(VN u.1 j.aQ).bind fun z=>(y8 u.1 j.Kind).bind fun I=>(bif decide (z<I)then some 20 else(bif (j.Kind==3)then(aPm u.1 j.Content.Levels j.aQ).bind fun J=>some J else some 0))
def aPw (j:Bool):Option Int:=(bif j then some 0 else some 17)
def dc (j:AL) (q:AX):Option Int:=(aEQ q).bind fun J=>(bif (j.Kind==1)then(bif (!J.2)then(iY j.aQ).bind fun L=>(iY j.Room).bind fun M=>aPw (L.toList==M.toList)else aPw false)else(bif (!J.2)then some 17 else(bif (j.Kind==2)then(aK6 j q).bind fun u=>some u else(oJ q j.aQ).bind fun z=>(bif (z != 3)then some 18 else(aKo j q).bind fun I=>some I))))
def aNZ (u:Int) (q:ByteArray) (z:Int) (j:ByteArray):Option Bool:=(bif decide (u<z)then some true else(bif (u==z)then some (Op.bytesLess (q.toList) (j.toList))else some false).bind fun I=>some I).bind fun J=>some J
def aKO (j:Aw) (u:Aw) (z:Int):Option Aw:=(He j z ((j).length)).bind fun I=>(C9 32 u I).bind fun q=>some q
def bf (k2:(Int→Option Aw)) (z:Int) (j:Aw) (u:Int) (q:ByteArray) (I:Int) (Y:Bool):Option Aw:=(bif Y then k2 (Ai (z+1))else(He j 0 z).bind fun Z=>(C9 32 [] Z).bind fun x6=>(C9 32 x6 [(⟨u,q,I⟩:Ah)]).bind fun U=>(bif decide (z<(j.length:Int))then(Af j z).bind fun J=>some (J.Kind==u)else some false).bind fun L=>(bif L then(Af j z).bind fun M=>some (M.Key.toList==q.toList)else some false).bind fun O=>(bif O then aKO j U (Ai (z+1))else aKO j U z))
def aLI (q:Aw) (u:Int) (j:ByteArray) (z:Int) (k2:(Int→Option Aw)):Int→Option Aw:=fun I=>(bif decide (I<(q.length:Int))then(Af q I).bind fun J=>(Af q I).bind fun L=>(aNZ J.Kind L.Key u j).bind fun M=>bf k2 I q u j z M else bf k2 I q u j z false)
def aWT (u:Aw) (z:Int) (j:ByteArray) (q:Int):Int→Option Aw:=bI (aLI u z j q) Ag
def iT (u:Aw) (z:Int) (j:ByteArray) (q:Int):Option Aw:=aWT u z j q 0
def aKx (j:(Aw→Int→Option Aw)) (q:Int) (u:Aw):Option Aw:=j u (Ai (q+1))
def aDO (z:Aw) (j:(AL×Bool)) (I:(Aw→Int→Option Aw)) (J:Int) (q:Bool):Option Aw:=(bif q then(iT z j.1.Kind j.1.Key j.1.Id).bind fun u=>aKx I J u else aKx I J z)
def aHr (j:AB) (q:AX) (J:(Aw→Int→Option Aw)):Aw→Int→Option Aw:=fun z I=>(bif decide (I<(j.length:Int))then(Af j I).bind fun U=>(Jk q U).bind fun u=>(bif u.2 then(TN u.1.Kind).bind fun L=>(bif L then(aNX q z u.1).bind fun M=>(dc u.1 M).bind fun O=>aDO z u J I (O==0)else aDO z u J I false)else aDO z u J I false)else some z)
def abA (j:AB) (q:AX):Aw→Int→Option Aw:=aV (aHr j q) Ag
def jl (q:AX) (u:Aw) (j:AB):Option Aw:=(C9 32 [] u).bind fun z=>abA j q z 0
def aKr (j:AL) (q:AX) (k2:(Int→Option (Int×Bool))):Int→Option (Int×Bool):=fun u=>(bif decide (u<(j.aZ.length:Int))then(Af j.aZ u).bind fun I=>(Jk q I).bind fun z=>(bif z.2 then some (z.1.Kind==3)else some false).bind fun J=>(bif J then(Af j.aZ u).bind fun L=>some (L,true)else k2 (Ai (u+1)))else some (0,false))
def aWI (j:AL) (q:AX):Int→Option (Int×Bool):=bI (aKr j q) Ag
def aN2 (j:AX) (q:AL):Option (Int×Bool):=aWI q j 0
def XW (j:AX) (M:(AB→Int→Int→Option AB)):AB→Int→Int→Option AB:=fun z I J=>(bif decide (J<(j.length:Int))then(Jk j I).bind fun L=>(bif (!L.2)then some true else(UC z I).bind fun O=>some O).bind fun U=>(bif U then some z else(C9 8 z [I]).bind fun q=>(aN2 j L.1).bind fun u=>(bif (!u.2)then some q else M q u.1 (Ai (J+1))))else some z)
def aa9 (j:AX):AB→Int→Int→Option AB:=ku (XW j) Ag
def aAo (q:AX) (j:Int):Option AB:=aa9 q [] j 0
def aHM (j:AB) (q:Int) (k2:(Int→Option Int)):Int→Option Int:=fun u=>(bif decide (u<(j.length:Int))then(Af j u).bind fun z=>(bif (z==q)then some u else k2 (Ai (u+1)))else some (j.length:Int))
def aT1 (j:AB) (q:Int):Int→Option Int:=bI (aHM j q) Ag
def aIb (j:AB) (q:Int):Option Int:=aT1 j q 0
def aH4 (u:AB) (j:AB) (z:(Int→Option Int)):Int→Option Int:=fun q=>(bif decide (q<(u.length:Int))then(Af u q).bind fun I=>(UC j I).bind fun J=>(bif J then(Af u q).bind fun L=>(aIb j L).bind fun M=>some M else z (Ai (q+1)))else some (j.length:Int))
def aa8 (q:AB) (j:AB):Int→Option Int:=bI (aH4 q j) Ag
def aCx (u:AX) (j:AB) (q:Int):Option Int:=(aAo u q).bind fun z=>aa8 z j 0
def aN8 (q:AX) (j:AB) (u:Int) (z:Int):Option Bool:=(aCx q j u).bind fun I=>(aCx q j z).bind fun J=>(bif (I != J)then some (decide (I>J))else(Jk q u).bind fun L=>(Jk q z).bind fun M=>(bif (L.1.Time != M.1.Time)then some (decide (L.1.Time<M.1.Time))else some (decide (u<z))))
def aBw (j:(AB→Int→Option AB)) (q:Int) (u:AB):Option AB:=j u (Ai (q+1))
def aEu (u:(Int→Option AB)) (q:Int) (z:AB) (j:AB) (Z:Int) (k3:(AB→Int→Option AB)) (I:Bool):Option AB:=(bif I then u (Ai (q+1))else(He z q ((z).length)).bind fun J=>(C9 8 [] J).bind fun L=>(He z 0 q).bind fun M=>(Af j Z).bind fun O=>(C9 8 M [O]).bind fun U=>(C9 8 U L).bind fun Y=>aBw k3 Z Y)
def aNA (J:AB) (j:AB) (L:Int) (z:AX) (q:AB) (Y:(AB→Int→Option AB)) (I:(Int→Option AB)):Int→Option AB:=fun u=>(bif decide (u<(J.length:Int))then(Af J u).bind fun M=>(Af j L).bind fun O=>(aN8 z q M O).bind fun U=>aEu I u J j L Y U else aEu I u J j L Y false)
def aai (z:AB) (q:AB) (I:Int) (u:AX) (j:AB) (J:(AB→Int→Option AB)):Int→Option AB:=bI (aNA z q I u j J) Ag
def aLJ (j:AB) (u:AX) (q:AB) (M:(AB→Int→Option AB)):AB→Int→Option AB:=fun I z=>(bif decide (z<(j.length:Int))then(Af j z).bind fun O=>(Jk u O).bind fun U=>(bif (!U.2)then some true else(Af j z).bind fun J=>(UC I J).bind fun L=>some L).bind fun Y=>(bif Y then aBw M z I else aai I j z u q M 0)else some I)
def aWL (q:AB) (u:AX) (j:AB):AB→Int→Option AB:=aV (aLJ q u j) Ag
def aOi (u:AX) (j:AB) (q:AB):Option AB:=aWL q u j [] 0
def aMh  (u:(Int→P9→Option P9)):Int→P9→Option P9:=fun q j=>(bif decide (q<(j.Same.length:Int))then(Af j.Same q).bind fun z=>(Af j.Same q).bind fun I=>(Af j.Same q).bind fun J=>(iT j.Last z.Kind I.Key J.Id).bind fun L=>u (Ai (q+1)) ({ j with Last:=L })else some j)
def aYa  :Int→P9→Option P9:=aV (aMh) Ag
def aED (J:AB) (L:AB) (j:AX) (q:(Aw×AB)) (u:AB) (z:Aw) (M:AB):Option P9:=(iG J L).bind fun O=>(aOi j M O).bind fun I=>(jl j (({ { { { kJ with Same:=q.1 }with Power:=u }with First:=z }with Others:=I }).First) (({ { { { kJ with Same:=q.1 }with Power:=u }with First:=z }with Others:=I }).Others)).bind fun U=>aYa 0 ({ Same:=q.1,Power:=u,First:=z,Others:=I,Last:=U }:P9)
def aJ5 (j:AX) (q:F8):Option P9:=(aCQ q).bind fun u=>(aMA j q).bind fun J=>(aPM j J).bind fun L=>(aOU j L).bind fun z=>(jl j (({ { kJ with Same:=u.1 }with Power:=z }).Same) (({ { kJ with Same:=u.1 }with Power:=z }).Power)).bind fun M=>(mO (({ { { kJ with Same:=u.1 }with Power:=z }with First:=M }).First) 3 BP).bind fun I=>(bif I.2 then(aAo j I.1).bind fun O=>aED J L j u z M O else aED J L j u z M [])
def aE3 (q:AX) (j:F8):Option Aw:=(bif ((j.length:Int)==0)then some []else(bif ((j.length:Int)==1)then(Af j 0).bind fun u=>some u else(aJ5 q j).bind fun z=>some z.Last))
def xO (j:Aw) (u:Int) (q:ByteArray) (k2:(Int→Option Bool)):Int→Option Bool:=fun z=>(bif decide (z<(j.length:Int))then(Af j z).bind fun I=>(bif (I.Kind==u)then(Af j z).bind fun J=>some (J.Key.toList==q.toList)else some false).bind fun L=>(bif L then some true else k2 (Ai (z+1)))else some false)
def aPk (q:Aw) (u:Int) (j:ByteArray):Int→Option Bool:=bI (xO q u j) Ag
def Zz (q:Aw) (u:Int) (j:ByteArray):Option Bool:=aPk q u j 0
def zk (M:AX) (j:Int) (q:Aw) (u:(Aw→Int→Option Int)) (z:Bool):Option Int:=(bif z then some 16 else(Af M j).bind fun I=>(Af M j).bind fun J=>(C9 32 q [(⟨I.Kind,J.Key,0⟩:Ah)]).bind fun L=>u L (Ai (j+1)))
def aOm (u:AX) (J:Aw) (z:AL) (I:(Aw→Int→Option Int)):Aw→Int→Option Int:=fun q j=>(bif decide (j<(u.length:Int))then(Af u j).bind fun L=>(Af u j).bind fun M=>(Zz J L.Kind M.Key).bind fun O=>(bif (!O)then zk u j q I true else(Af u j).bind fun U=>(Af u j).bind fun Y=>(Zz q U.Kind Y.Key).bind fun Z=>zk u j q I Z)else(bif (z.Kind != 1)then(Zz q 1 BP).bind fun x33=>some (!x33)else some false).bind fun x31=>(bif x31 then some 16 else some 0))
def aLb (u:AX) (q:Aw) (j:AL):Aw→Int→Option Int:=aV (aOm u q j) Ag
def aKE (q:AX) (j:AL) (J:(Int→Option Int)):Int→Option Int:=fun u=>(bif decide (u<(q.length:Int))then(Af q u).bind fun z=>(bif (!(z.Room.toList==j.Room.toList))then some 13 else J (Ai (u+1)))else(fA j).bind fun I=>aLb q I j [] 0)
def aMu (q:AX) (j:AL):Int→Option Int:=bI (aKE q j) Ag
def aLN (j:AL) (q:AX) (k2:(Int→Option Int)):Int→Option Int:=fun u=>(bif decide (u<(j.aZ.length:Int))then(Af j.aZ u).bind fun z=>(Jk q z).bind fun I=>(bif (!I.2)then some 14 else k2 (Ai (u+1)))else(vS q j.aZ).bind fun J=>aMu J j 0)
def aaS (j:AL) (q:AX):Int→Option Int:=bI (aLN j q) Ag
def aNq (j:AX) (q:AL):Option Int:=aaS q j 0
def aJ2 (j:(AX→Int→Option AX)) (q:Int) (u:AX):Option AX:=j u (Ai (q+1))
def aHD (j:Aw) (q:AX) (J:(AX→Int→Option AX)):AX→Int→Option AX:=fun z u=>(bif decide (u<(j.length:Int))then(Af j u).bind fun M=>(Jk q M.Id).bind fun L=>(bif L.2 then(C9 376 z [L.1]).bind fun I=>aJ2 J u I else aJ2 J u z)else some z)
def aQM (j:Aw) (q:AX):AX→Int→Option AX:=aV (aHD j q) Ag
def zL (j:AX) (q:Aw):Option AX:=aQM q j [] 0
def agW (j:Fq) (q:Int) (z:(Int→JU→Option (JU×Bool))):Int→JU→Option (JU×Bool):=fun u I=>(bif decide (u<(j.length:Int))then(Af j u).bind fun J=>(bif (J.Id==q)then(Af j u).bind fun L=>some (L,true)else z (Ai (u+1)) I)else some (fU,false))
def apN (q:Fq) (j:Int):Int→JU→Option (JU×Bool):=aV (agW q j) Ag
def aMC (q:Fq) (j:Int):Option (JU×Bool):=apN q j 0 fU
def aKq (j:(Int→Int→Option Int)) (q:Int) (u:Int):Option Int:=j u (Ai (q+1))
def aIJ (q:AL) (u:Fq) (z:AX) (j:Aw) (Y:(Int→Int→Option Int)):Int→Int→Option Int:=fun I J=>(bif decide (J<(q.aZ.length:Int))then(Af q.aZ J).bind fun Z=>(aMC u Z).bind fun L=>(bif (I==0)then some (L.1.Err != 0)else some false).bind fun M=>(bif M then aKq Y J 16 else aKq Y J I)else(bif (I != 0)then some I else(zL z j).bind fun O=>(dc q O).bind fun U=>some U))
def aUw (q:AL) (u:Fq) (z:AX) (j:Aw):Int→Int→Option Int:=aV (aIJ q u z j) Ag
def aBy (q:AL) (u:Fq) (z:AX) (j:Aw) (I:Int):Option Int:=aUw q u z j I 0
def aAW (u:AX) (z:Fq) (q:AL) (j:Aw):Option Int:=(aNq u q).bind fun L=>(bif (L==0)then(zW u q).bind fun I=>(dc q I).bind fun J=>aBy q z u j J else aBy q z u j L)
end Go.Proofs.YtkkdimcnpacjhaaGreat
end
section
namespace Go.Proofs.YtkkdimcnpacjhaaGreat
open Go.RowKit
set_option maxRecDepth 20000
set_option maxHeartbeats 4000000
def aEr (z:(Fq→Int→Option Fq)) (I:Int) (j:Fq) (q:JU):Option Fq:=(C9 64 j [q]).bind fun u=>z u (Ai (I+1))
def zZ (z:AX) (I:(AL×Bool)) (O:(Fq→Int→Option Fq)) (U:Int) (u:Fq) (j:JU):Option Fq:=(aAW z u I.1 j.Before).bind fun q=>(bif ((({ { j with Err:=q }with After:=({ j with Err:=q }).Before }).Err)==0)then(TN I.1.Kind).bind fun J=>some J else some false).bind fun L=>(bif L then(iT (({ { j with Err:=q }with After:=({ j with Err:=q }).Before }).Before) I.1.Kind I.1.Key I.1.Id).bind fun M=>aEr O U u ({ { { j with Err:=q }with After:=({ j with Err:=q }).Before }with After:=M })else aEr O U u ({ { j with Err:=q }with After:=({ j with Err:=q }).Before }))
def aLm (u:(AL×Bool)) (j:AX) (Y:(Fq→Int→Option Fq)) (Z:Int) (z:(F8→Int→Fq→Option Fq)):F8→Int→Fq→Option Fq:=fun I J q=>(bif decide (J<(u.1.aU.length:Int))then(Af u.1.aU J).bind fun L=>(aMC q L).bind fun M=>(C9 24 I [M.1.After]).bind fun O=>z O (Ai (J+1)) q else(bif decide ((I.length:Int)>0)then(aE3 j I).bind fun U=>zZ j u Y Z q ({ (⟨u.1.Id,[],[],0⟩:JU)with Before:=U })else zZ j u Y Z q (⟨u.1.Id,[],[],0⟩:JU)))
def aaW (q:(AL×Bool)) (j:AX) (u:(Fq→Int→Option Fq)) (z:Int):F8→Int→Fq→Option Fq:=ku (aLm q j u z) Ag
def aIV (u:AB) (j:AX) (I:(Fq→Int→Option Fq)):Fq→Int→Option Fq:=fun z q=>(bif decide (q<(u.length:Int))then(Af u q).bind fun J=>(Jk j J).bind fun L=>aaW L j I q [] 0 z else some z)
def aSc (q:AB) (j:AX):Fq→Int→Option Fq:=aV (aIV q j) Ag
def aHo (j:AX):Option Fq:=(aOS j).bind fun q=>aSc q j [] 0
def sN (j:AX):Option Fq:=(xF j).bind fun q=>(bif (!q)then some []else(aHo j).bind fun u=>some u)
def aL6 (j:(AB→Int→Option AB)) (q:Int) (u:AB):Option AB:=j u (Ai (q+1))
def aJa (j:AX) (q:Fq) (L:(AB→Int→Option AB)):AB→Int→Option AB:=fun z u=>(bif decide (u<(j.length:Int))then(Af j u).bind fun O=>(yC q O.Id).bind fun M=>(bif M.2 then some (M.1.Err==0)else some false).bind fun U=>(bif U then(Af j u).bind fun I=>(C9 8 z [I.Id]).bind fun J=>aL6 L u J else aL6 L u z)else some z)
def aR5 (j:AX) (q:Fq):AB→Int→Option AB:=aV (aJa j q) Ag
def aIM (j:AX) (q:Fq):Option AB:=aR5 j q [] 0
def aPh (j:(AB→Int→Option AB)) (q:Int) (u:AB):Option AB:=j u (Ai (q+1))
def aNm (j:(Bool→Int→AB→Option AB)) (z:Int) (q:Bool) (u:AB):Option AB:=j q (Ai (z+1)) u
def jG (j:(Bool→Int→AB→Option AB)) (z:Int) (q:AB) (I:Bool) (u:Bool):Option AB:=(bif u then aNm j z false q else aNm j z I q)
def aKF (L:AB) (z:AX) (I:Int) (k4:(AB→Int→Option AB)) (q:(Bool→Int→AB→Option AB)):Bool→Int→AB→Option AB:=fun M u j=>(bif decide (u<(L.length:Int))then(Af L u).bind fun O=>(Jk z O).bind fun J=>(bif J.2 then(bif (u != I)then(Af L I).bind fun U=>(UC J.1.aU U).bind fun Y=>jG q u j M Y else jG q u j M false)else jG q u j M false)else(bif M then(Af L I).bind fun Z=>(C9 8 j [Z]).bind fun x27=>aPh k4 I x27 else aPh k4 I j))
def aSL (q:AB) (j:AX) (u:Int) (z:(AB→Int→Option AB)):Bool→Int→AB→Option AB:=ku (aKF q j u z) Ag
def aLk (q:AB) (j:AX) (I:(AB→Int→Option AB)):AB→Int→Option AB:=fun u z=>(bif decide (z<(q.length:Int))then aSL q j z I true 0 u else some u)
def aVq (q:AB) (j:AX):AB→Int→Option AB:=aV (aLk q j) Ag
def aIc (q:AX) (j:AB):Option AB:=(rF j).bind fun u=>aVq u q [] 0
def aF4 (j:AX) (q:Fq):Option AB:=(aIM j q).bind fun u=>(aIc j u).bind fun z=>some z
def aLr (j:AX):Option AB:=(sN j).bind fun q=>(aF4 j q).bind fun u=>some u
def aIY (j:(AB→Int→Option AB)) (q:Int) (u:AB):Option AB:=j u (Ai (q+1))
def aBT (j:(Int→Int→AB→Option AB)) (q:Int) (u:Int) (z:AB):Option AB:=j u (Ai (q+1)) z
def aOe (j:AB) (I:AX) (L:(AL×Bool)) (M:Int) (k3:(AB→Int→Option AB)) (J:(Int→Int→AB→Option AB)):Int→Int→AB→Option AB:=fun O q u=>(bif decide (q<(j.length:Int))then(Af j q).bind fun U=>(Jk I U).bind fun z=>(bif decide (z.1.Depth>L.1.Depth)then some true else(bif (z.1.Depth==L.1.Depth)then some (decide (z.1.Id>L.1.Id))else some false).bind fun Y=>some Y).bind fun Z=>(bif Z then aBT J q (Ai (O+1)) u else aBT J q O u)else(bif decide (O<10)then(Af j M).bind fun x25=>(C9 8 u [x25]).bind fun WI=>aIY k3 M WI else aIY k3 M u))
def aTd (j:AB) (q:AX) (u:(AL×Bool)) (z:Int) (I:(AB→Int→Option AB)):Int→Int→AB→Option AB:=ku (aOe j q u z I) Ag
def aJd (j:AB) (q:AX) (I:(AB→Int→Option AB)):AB→Int→Option AB:=fun z u=>(bif decide (u<(j.length:Int))then(Af j u).bind fun J=>(Jk q J).bind fun L=>aTd j q L u I 0 0 z else some z)
def aV2 (j:AB) (q:AX):AB→Int→Option AB:=aV (aJd j q) Ag
def aHW (q:AX) (j:AB):Option AB:=aV2 j q [] 0
def aOw (J:AB) (j:Fq) (q:AX) (L:(F8→Int→Option Aw)):F8→Int→Option Aw:=fun u z=>(bif decide (z<(J.length:Int))then(Af J z).bind fun M=>(yC j M).bind fun O=>(C9 24 u [O.1.After]).bind fun U=>L U (Ai (z+1))else(bif ((u.length:Int)==0)then some []else(aE3 q u).bind fun I=>some I))
def aTR (u:AB) (j:Fq) (q:AX):F8→Int→Option Aw:=aV (aOw u j q) Ag
def aMl (j:AX) (q:Fq):Option Aw:=(aF4 j q).bind fun u=>aTR u q j [] 0
def Z9 (j:AX):Option Aw:=(sN j).bind fun q=>(aMl j q).bind fun u=>some u
def aHO (u:(AB→Bool→Int→Option AB)) (z:Int) (j:AB) (q:Bool):Option AB:=u j q (Ai (z+1))
def jo (j:Aw) (q:Int) (J:AB) (L:(AB→Bool→Int→Option AB)) (M:Bool) (u:Bool):Option AB:=(bif u then(Af j q).bind fun z=>(Wq J z.Id).bind fun I=>aHO L q I true else aHO L q J M)
def aOG (j:Aw) (Y:Aw) (u:Int) (k4:(AB→Int→Option AB)) (Z:(AB→Bool→Int→Option AB)):AB→Bool→Int→Option AB:=fun z I q=>(bif decide (q<(j.length:Int))then some (!I)else some false).bind fun J=>(bif J then(Af j q).bind fun L=>(Af Y u).bind fun M=>(bif (L.Kind==M.Kind)then(Af j q).bind fun O=>(Af Y u).bind fun U=>jo j q z Z I (O.Key.toList==U.Key.toList)else jo j q z Z I false)else k4 z (Ai (u+1)))
def aX8 (j:Aw) (q:Aw) (u:Int) (z:(AB→Int→Option AB)):AB→Bool→Int→Option AB:=ku (aOG j q u z) Ag
def aI3 (q:Aw) (j:Aw) (I:(AB→Int→Option AB)):AB→Int→Option AB:=fun u z=>(bif decide (z<(q.length:Int))then aX8 j q z I u false 0 else some u)
def aWp (q:Aw) (j:Aw):AB→Int→Option AB:=aV (aI3 q j) Ag
def aEi (j:AL) (q:Aw):Option AB:=(fA j).bind fun u=>aWp u q [] 0
def aA1 (q:AX) (I:(Int→AL→Option (AL×Int))):Int→AL→Option (AL×Int):=fun J j=>(bif decide (J<(j.aU.length:Int))then(Af j.aU J).bind fun L=>(Jk q L).bind fun M=>I (Ai (J+1)) ({ j with Depth:=QE j.Depth (Ai (M.1.Depth+1)) })else(Z9 q).bind fun O=>(aEi j O).bind fun u=>(bif decide ((({ j with aZ:=u }).Depth)>100000)then some (Bv,29)else(Oy ({ j with aZ:=u })).bind fun z=>(bif (z != 0)then some (Bv,z)else some ({ j with aZ:=u },0))))
def aQk (j:AX):Int→AL→Option (AL×Int):=aV (aA1 j) Ag
def Qh (j:AX) (q:AL):Option (AL×Int):=(aLr j).bind fun u=>(xF j).bind fun I=>(bif (!I)then some true else some ((u.length:Int)==0)).bind fun J=>(bif J then some (Bv,26)else(Af j 0).bind fun z=>(TN (({ q with Room:=z.Room }).Kind)).bind fun L=>(aHW j u).bind fun M=>aQk j 0 ({ { { q with Room:=z.Room }with State:=L }with aU:=M }))
def aBN (q:AL) (j:ByteArray):Option AL:=(aCD q).bind fun u=>(zV ({ q with Hash:=u })).bind fun z=>some ({ { { q with Hash:=u }with Id:=z }with ng:=(⟨j,({ { q with Hash:=u }with Id:=z }).Id⟩:Nu) })
def aRP (q:AX) (j:ByteArray) (I:Int) (z:ByteArray) (J:Bj) (u:Int):Option (AL×Int):=(Qh q ({ Bv with aQ:=j,Kind:=I,Key:=z,Time:=u,Content:=J })).bind fun L=>(bif (L.2 != 0)then some (Bv,L.2)else(Z9 q).bind fun O=>(zL q O).bind fun U=>(dc L.1 U).bind fun M=>(bif (M != 0)then some (Bv,M)else(iY j).bind fun Y=>(aBN L.1 Y).bind fun Z=>some (Z,0)))
def aMJ (j:AB) (q:AB) (z:(Int→Option Bool)):Int→Option Bool:=fun u=>(bif decide (u<(j.length:Int))then(Af j u).bind fun I=>(Af q u).bind fun J=>(bif (I != J)then some false else z (Ai (u+1)))else some true)
def aWH (j:AB) (q:AB):Int→Option Bool:=bI (aMJ j q) Ag
def oL (j:AB) (q:AB):Option Bool:=(bif ((j.length:Int) != (q.length:Int))then some false else aWH j q 0)
def aa1 (gK gY r) (h:oL gK gY=some r):BI 54 [CM gK,CM gY] [] (Ap r) []:=Ar.aN Tryz.func54 rfl<|AZ<|Ad<|AP<|.a 1<|.p (BR Ac gK CQ rfl)<|.a 1<|.p (BR Ac gY CQ rfl)<|.aW<|BN h CZ fun h=>Ad<|AZ<|AQ.block<|Fl (fun z=>⟨BM 26 [(0,CM gK),(1,CM gY),(5,AY z)],[],0⟩) _ _ _ (Ae 26 35 []) h<|fun I J j z h=>Ad<|AP<|.a 2<|.p (BR Ac gK CQ rfl)<|.aW<|CU h (fun h=>Ad<|AQ.block<|Df h fun L q M u h=>HY A8 A8 A8 (.a 2<|.p (Bc Ac q CQ Dt rfl)<|.a 3<|.p (Bc Ac u CQ Dt rfl)<|.a 2<|.nil _)<|BN h CZ fun h=>BJ<|.a 3<|.nil<|j _ _ (Ae 26 35 []) h) fun h=>I8
def yU (j:AL) (q:AL):Option Bool:=(bif (j.Id==q.Id)then some (j.Room.toList==q.Room.toList)else some false).bind fun x1=>(bif x1 then some (j.aQ.toList==q.aQ.toList)else some false).bind fun x3=>(bif x3 then some (j.Kind==q.Kind)else some false).bind fun x5=>(bif x5 then some (j.State==q.State)else some false).bind fun x7=>(bif x7 then some (j.Key.toList==q.Key.toList)else some false).bind fun x9=>(bif x9 then some (j.Time==q.Time)else some false).bind fun u=>(bif u then some (j.Depth==q.Depth)else some false).bind fun z=>(bif z then(oL j.aU q.aU).bind fun I=>some I else some false).bind fun J=>(bif J then(oL j.aZ q.aZ).bind fun L=>some L else some false).bind fun M=>(bif M then(U0 j.Content q.Content).bind fun O=>some O else some false).bind fun U=>(bif U then some (j.Hash==q.Hash)else some false).bind fun Y=>(bif Y then some (j.ng.Server.toList==q.ng.Server.toList)else some false).bind fun Z=>(bif Z then some (j.ng.Sum==q.ng.Sum)else some false).bind fun x28=>some x28
def aVJ (gK gY r) (h:yU gK gY=some r):BI 14 [DW gK,DW gY] [] (Ap r) []:=Ar.aN Tryz.func14 rfl<|AZ<|AP<|.a 5<|AU h fun x1 Z h=>.mg 10 6 (Ap x1) (.bi Z)<|.a 1<|AU h fun x3 hx3 h=>.mg 18 5 (Ap x3) (DX hx3)<|.a 1<|AU h fun x5 hx5 h=>.mg 25 5 (Ap x5) (DX hx5)<|.a 1<|AU h fun x7 hx7 h=>.mg 32 5 (Ap x7) (DX hx7)<|.a 1<|AU h fun x9 Aa h=>.mg 39 5 (Ap x9) (DX Aa)<|.a 1<|AU h fun x11 j h=>.mg 46 5 (Ap x11) (DX j)<|.a 1<|AU h fun GK q h=>.mg 53 5 (Ap GK) (DX q)<|.a 1<|AU h fun x15 u h=>.mg 60 5 (Ap x15) (DX u (fun e i=>by subst e;have h:=i;exact AU h fun x17 z h=>.a 4<|.ca (aa1 gK.aU gY.aU x17 z)<|.aW<|EK))<|.a 1<|AU h fun x18 I h=>.mg 67 5 (Ap x18) (DX I (fun e i=>by subst e;have h:=i;exact AU h fun La J h=>.a 4<|.ca (aa1 gK.aZ gY.aZ La J)<|.aW<|EK))<|.a 1<|AU h fun x21 L h=>.mg 74 5 (Ap x21) (DX L (fun e i=>by subst e;have h:=i;exact AU h fun x23 M h=>.a 4<|.ca (abk gK.Content gY.Content x23 M)<|.aW<|EK))<|.a 1<|AU h fun x24 O h=>.mg 81 5 (Ap x24) (DX O)<|.a 1<|AU h fun WI U h=>.mg 88 7 (Ap WI) (DX U)<|.a 1<|AU h fun x28 Y h=>.mg 97 7 (Ap x28) (DX Y)<|.aW<|Cm
def aM2 (z:AX) (j:ByteArray) (I:Int) (u:ByteArray) (q:Int):Option (AL×Int):=(Qj z ({ Bv with aQ:=j,Kind:=2,Key:=j,Time:=q,Content:={ EL with N:=I,Via:=u } })).bind fun J=>(bif (J.2.2 != 0)then some (Bv,J.2.2)else(QW J.1).bind fun L=>(bif (L != 0)then some (Bv,L)else some (J.1,0)))
def ahM (aA uJ aEN azk awl r) (h:aM2 aA uJ aEN azk awl=some r):BI 15 [BQ aA,Dl uJ,AY aEN,Dl azk,AY awl] [] (.eu [DW r.1,AY r.2]) []:=Ar.aN Tryz.func15 rfl<|AZ<|AU h fun j u h=>AP<|.a 8<|.ca (aUn aA _ j u)<|.aW<|Ad<|AZ<|BN h (fun h=>AZ<|AQ.ret<|by rw[←Cj h];exact⟨[DW Bv,AY j.2.2],[],⟨⟨0,BG (BH Bv),true,29,A8,A8,A8,Dy,FC A8,Xz,A8⟩,JI A8,trivial⟩,A8,A8,A8⟩) fun h=>Ad<|AU h fun I z h=>AP<|.a 1<|.ca (zD j.1 I z)<|.aW<|AZ<|BN h (fun h=>AZ<|AQ.ret<|by rw[←Cj h];exact⟨[DW Bv,AY I],[],⟨⟨0,BG (BH Bv),true,29,A8,A8,A8,Dy,FC A8,Xz,A8⟩,JI A8,trivial⟩,A8,A8,A8⟩) fun h=>AZ<|AQ.ret<|by rw[←Cj h];exact⟨[DW j.1,AY 0],[],⟨⟨0,BG (BH j.1),true,29,A8,A8,A8,Dy,FC A8,Xz,A8⟩,JI A8,trivial⟩,A8,A8,A8⟩
def apL (z:AX) (j:ByteArray) (I:Int) (u:ByteArray) (q:Int):Option (AL×Int):=(Qh z ({ Bv with aQ:=j,Kind:=2,Key:=j,Time:=q,Content:={ EL with N:=I,Via:=u } })).bind fun J=>some (J.1,J.2)
def Wh (q:AX) (j:Int):Option Int:=(aS q).bind fun z=>Xr z ((aPg j).bind fun I=>(bif (!I)then some 5 else none)) fun u=>(uX u.1 u.2.1 u.2.2 j).bind fun J=>(bif (!J)then some 5 else some ((CB u.2.2 j).getD 0))
def aWU (aA mX r) (h:Wh aA mX=some r):BI 32 [BQ aA,AY mX] [] (AY r) []:=by
 refine Ar.aN Tryz.func32 rfl ?_;unfold Wh at h;refine AP<|.aM 1 ?_;obtain⟨L,q,h⟩:=Dn h;cases L with
 |none=>
  replace h:=aJI h;refine AP<|.a 1<|.ca (jA aA none q)<|.aW<|Ad ?_;obtain⟨I,u,h⟩:=Dn h;refine AP<|.a 2<|.f (x:=(Ap I)) (EZ [] [.d (.lit (.pointer none)),AY mX] (am2 mX I u) rfl)<|.aW<|EC h (fun h=>?_) fun h=>?_
  ·refine AP<|.aM 1 ?_;rw[←Cj h];exact .ret (FW [])
  refine AQ.skip ?_;cases h
 |some j=>
  replace h:=aP5 h;refine AP<|.a 1<|.f (x:=.ptr 0 0) (EZ [] [BQ aA] (jA aA (some j) q) rfl)<|.aW<|Ad ?_;obtain⟨J,z,h⟩:=Dn h;refine AP<|.a 2<|.f (x:=(Ap J)) (EZ [.ent 0,.ent 1,.ent 2,.ent 3] [.ptr 0 0,AY mX] (amR j.1 j.2.1 j.2.2 mX J z) rfl (hE:=bJ))<|.aW<|EC h (fun h=>?_) fun h=>?_
  ·refine AP<|.aM 1 ?_;rw[←Cj h];exact .ret (FW [])
  refine AQ.skip<|AP<|.a 5<|.p (x:=(AY ((CB j.2.2 mX).getD 0))) (qm (k:=3) (key:=mX) (m:=j.2.2) Ac 0 tJ IZ jm A8 A8 A8 rfl)<|.aM 1 ?_;rw[←Cj h];exact .ret (FW [])
def TB (j:AX) (u:(AL×Int)) (z:Bool):Option Bool:=(bif z then some false else(Ll j u.1.Id).bind fun I=>(bif I.2 then some true else some (decide ((u.1.aU.length:Int)≥10))).bind fun J=>(bif J then(Ul).bind fun L=>some L else(bZ j u.1).bind fun q=>(bif (q.2==0)then(Wh q.1 u.1.Id).bind fun M=>some (M==0)else some false).bind fun O=>(bif O then(Ul).bind fun U=>some U else some false).bind fun Y=>some Y))
def aHI (j:AX) (q:Sz):Option Bool:=(xC j q).bind fun L=>(bif L then(Ul).bind fun M=>some M else(mD j q.User q.Kind q.Key q.Content q.Time).bind fun u=>(bif (u.2 != 0)then(yU u.1 Bv).bind fun O=>(bif O then(Ul).bind fun U=>some U else some false).bind fun Y=>some Y else(bif ((j.length:Int)==0)then TB j u true else(Ym u.1).bind fun z=>(bif (z != 0)then TB j u true else(bif (!(u.1.aQ.toList==q.User.toList))then TB j u true else(bif (u.1.Kind != q.Kind)then TB j u true else(bif (!(u.1.Key.toList==q.Key.toList))then TB j u true else(bif (u.1.Time != q.Time)then TB j u true else(VB q.User).bind fun I=>(bif (!(u.1.ng.Server.toList==I.toList))then TB j u true else(Af j 0).bind fun J=>TB j u (!(u.1.Room.toList==J.Room.toList)))))))))))
def aeO (aA oC r) (h:aHI aA oC=some r):BI 6 [BQ aA,.d (Wu oC)] [] (Ap r) []:=Ar.aN Tryz.func6 rfl<|AZ<|Ad<|AU h fun x1 hx1 h=>AP<|.a 2<|.ca (aXF aA oC x1 hx1)<|.bU<|BN h (fun h=>AU h fun x3 hx3 h=>AP<|.ca (Za  x3 hx3)<|.aW<|Cm) fun h=>AU h fun J hx4 h=>AP<|.a 11<|.ca (aJO aA oC.User oC.Kind oC.Key oC.Content oC.Time J hx4)<|.aW<|Ad<|AZ<|BN h (fun h=>AU h fun x6 hx6 h=>AP<|.a 2<|.ca (aVJ J.1 Bv x6 hx6)<|.a 1<|AU h fun x7 hx7 h=>.mg 35 1 (Ap x7) (DX hx7 (fun e i=>aTj))<|.aW<|Cm) fun h=>Ad<|Dv (fun s=>∃(v10:Bool),CX s ⟨BM 124 [(0,BQ aA),(5,.ptr 0 0),(90,Ap v10)],[.box (BG (BH J.1))],0⟩∧TB aA J v10=some r) (by rintro s ⟨v10,hs,h⟩;exact DI hs<|BN h CZ fun h=>Ad<|AU h fun x12 aBr h=>AP<|.a 3<|.ca (PG aA J.1.Id x12 aBr)<|.aW<|AP<|.a 1<|AU h fun GK aBo h=>.mg 99 5 (Ap GK) (.bi aBo (k2:=fun h=>.a 2<|.p (BR Ac J.1.aU CQ rfl)<|.aW<|EK))<|.bU<|BN h (fun h=>AU h fun x16 hx16 h=>AP<|.ca (Za  x16 hx16)<|.aW<|Cm) fun h=>AU h fun Z ae5 h=>AP<|.a 2<|.f (x:=.eu [.bn 2,AY Z.2]) (EZ [] [BQ aA,DW J.1] (aVW aA J.1 Z ae5) rfl)<|.a 2<|.conv _ (O1 (e:=39) (s:=29) 2 (xs:=List.map BH Z.1) A8)<|.aW<|AP<|.a 2<|AU h fun x18 afc h=>.mg 114 6 (Ap x18) (.bi afc (fun h=>AU h fun La RX h=>.a 3<|.ca (aWU Z.1 J.1.Id La RX)<|.aW<|EK))<|.a 1<|AU h fun x21 alQ h=>.mg 122 1 (Ap x21) (DX alQ (fun e i=>by subst e;have h:=i;exact AU h fun x23 ae3 h=>.ca (Za  x23 ae3)<|.aW<|EK))<|.aW<|Cm)<|fun L=>G6 h (fun j h=>AQ.draw A8 A8 A8 (.a 1<|.p (BR BH aA DL rfl)<|.a 1<|.c (Aq some j)<|.a 50<|.nil _)<|L _ ⟨true,Ae 124 1237940039285380274899124257 [(1,true)],h⟩) fun j h=>AU h fun O u h=>G6 h (fun q h=>AQ.draw A8 A8 A8 (.a 1<|.p (BR BH aA DL rfl)<|.a 1<|.c (Aq some j)<|.a 1<|.ca (Nc J.1 O u)<|.a 2<|.c (Aq some q)<|.a 45<|.nil _)<|L _ ⟨true,Ae 124 1237940039285380274899124257 [(1,true)],h⟩) fun q h=>G6 h (fun z h=>AQ.draw A8 A8 A8 (.a 1<|.p (BR BH aA DL rfl)<|.a 1<|.c (Aq some j)<|.a 1<|.ca (Nc J.1 O u)<|.a 2<|.c (Aq some q)<|.a 6<|.c (Aq some z)<|.a 38<|.nil _)<|L _ ⟨true,Ae 124 1237940039285380274899124257 [(1,true)],h⟩) fun z h=>G6 h (fun I h=>AQ.draw A8 A8 A8 (.a 1<|.p (BR BH aA DL rfl)<|.a 1<|.c (Aq some j)<|.a 1<|.ca (Nc J.1 O u)<|.a 2<|.c (Aq some q)<|.a 6<|.c (Aq some z)<|.a 6<|.c (Aq some I)<|.a 31<|.nil _)<|L _ ⟨true,Ae 124 1237940039285380274899124257 [(1,true)],h⟩) fun I h=>G6 h (fun M h=>AQ.draw A8 A8 A8 (.a 1<|.p (BR BH aA DL rfl)<|.a 1<|.c (Aq some j)<|.a 1<|.ca (Nc J.1 O u)<|.a 2<|.c (Aq some q)<|.a 6<|.c (Aq some z)<|.a 6<|.c (Aq some I)<|.a 6<|.c (Aq some M)<|.a 24<|.nil _)<|L _ ⟨true,Ae 124 1237940039285380274899124257 [(1,true)],h⟩) fun M h=>G6 h (fun U h=>AQ.draw A8 A8 A8 (.a 1<|.p (BR BH aA DL rfl)<|.a 1<|.c (Aq some j)<|.a 1<|.ca (Nc J.1 O u)<|.a 2<|.c (Aq some q)<|.a 6<|.c (Aq some z)<|.a 6<|.c (Aq some I)<|.a 6<|.c (Aq some M)<|.a 6<|.c (Aq some U)<|.a 17<|.nil _)<|L _ ⟨true,Ae 124 1237940039285380274899124257 [(1,true)],h⟩) fun U h=>AU h fun x32 hx32 h=>G6 h (fun Y h=>AQ.draw A8 A8 A8 (.a 1<|.p (BR BH aA DL rfl)<|.a 1<|.c (Aq some j)<|.a 1<|.ca (Nc J.1 O u)<|.a 2<|.c (Aq some q)<|.a 6<|.c (Aq some z)<|.a 6<|.c (Aq some I)<|.a 6<|.c (Aq some M)<|.a 6<|.c (Aq some U)<|.a 5<|.ca (ZT oC.User x32 hx32)<|.a 2<|.c (Aq some Y)<|.a 8<|.nil _)<|L _ ⟨true,Ae 124 1237940039285380274899124257 [(1,true)],h⟩) fun Y h=>AU h fun x34 hx34 h=>AQ.draw A8 A8 A8 (.a 1<|.p (BR BH aA DL rfl)<|.a 1<|.c (Aq some j)<|.a 1<|.ca (Nc J.1 O u)<|.a 2<|.c (Aq some q)<|.a 6<|.c (Aq some z)<|.a 6<|.c (Aq some I)<|.a 6<|.c (Aq some M)<|.a 6<|.c (Aq some U)<|.a 5<|.ca (ZT oC.User x32 hx32)<|.a 2<|.c (Aq some Y)<|.a 3<|.p (Bc BH hx34 DL Dy rfl)<|.a 4<|.nil _)<|L _ ⟨(!(J.1.Room.toList==x34.Room.toList)),Ae 124 1237940039285380274899124257 [(1,true)],h⟩
def aNh (q:AX) (j:Sz):Option Bool:=(xC q j).bind fun x1=>(bif x1 then(Ul).bind fun x3=>some x3 else(aM2 q j.User j.Content.N BP j.Time).bind fun u=>(bif (u.2 != 0)then(yU u.1 Bv).bind fun x6=>(bif x6 then(Ul).bind fun x9=>some x9 else some false).bind fun x7=>some x7 else(bif (u.1.Id != 0)then some true else some (u.1.Hash != 0)).bind fun J=>(bif J then some true else some (!(u.1.ng.Server.toList==BP.toList))).bind fun L=>(bif L then some true else some (!(u.1.Key.toList==j.User.toList))).bind fun M=>(bif M then some true else some (u.1.Content.N != j.Content.N)).bind fun O=>(bif O then some false else(XC q).bind fun U=>(cu q U).bind fun Y=>(TF u.1 Y).bind fun Z=>(VB j.User).bind fun Gz=>(jk u.1 Gz).bind fun z=>(Ll q z.Id).bind fun x24=>(bif x24.2 then some true else some (decide ((u.1.aU.length:Int)≥10))).bind fun x25=>(bif x25 then(Ul).bind fun x28=>some x28 else(bZ q z).bind fun I=>(bif (I.2==0)then(Wh I.1 z.Id).bind fun x32=>some ((x32==0)==(Z==0))else some false).bind fun x30=>(bif x30 then(Ul).bind fun x35=>some x35 else some false).bind fun x33=>some x33))))
def alh (aA oC r) (h:aNh aA oC=some r):BI 7 [BQ aA,.d (Wu oC)] [] (Ap r) []:=Ar.aN Tryz.func7 rfl<|AZ<|Ad<|AU h fun x1 hx1 h=>AP<|.a 2<|.ca (aXF aA oC x1 hx1)<|.bU<|BN h (fun h=>AU h fun x3 hx3 h=>AP<|.ca (Za  x3 hx3)<|.aW<|Cm) fun h=>AU h fun u hx4 h=>AP<|.a 8<|.ca (ahM aA oC.User oC.Content.N BP oC.Time u hx4)<|.aW<|Ad<|AZ<|BN h (fun h=>AU h fun x6 hx6 h=>AP<|.a 2<|.ca (aVJ u.1 Bv x6 hx6)<|.a 1<|AU h fun x7 hx7 h=>.mg 34 1 (Ap x7) (DX hx7 (fun e i=>aTj))<|.aW<|Cm) fun h=>Ad<|AP<|.a 3<|AU h fun x10 z h=>.mg 39 4 (Ap x10) (.bi z)<|.a 1<|AU h fun x12 I h=>.mg 45 4 (Ap x12) (DX I)<|.a 1<|AU h fun x14 J h=>.mg 51 5 (Ap x14) (DX J)<|.a 1<|AU h fun x16 L h=>.mg 58 7 (Ap x16) (DX L)<|.bU<|BN h CZ fun h=>iZ h fun M O U Y x21 Z h=>HY A8 A8 A8 (.a 3<|.ca (aR2 aA M O)<|.ca (aOz aA M U Y).view<|.ca (kK u.1 U x21 Z)<|.a 1<|.nil _)<|Df h fun Gz YF j ae3 h=>AQ.ayU [aFJ 3 (ZT oC.User Gz YF) abV,aFJ 4 (abR u.1 Gz j ae3) aq4] 32 0x2430110222010022280f020000e020180d020280c01e200c01c180b01a000b01c280a018000a01a100901a280801818080161007012000701628060141806010000601208050122804010100400e080300a000300e280200c1002008000200a28010080801006280000408000020000 18<|Ad<|AU h fun x24 hx24 h=>AP<|.a 3<|.ca (PG aA j.Id x24 hx24)<|.aW<|AP<|.a 1<|AU h fun x25 hx25 h=>.mg 85 5 (Ap x25) (.bi hx25 (k2:=fun h=>.a 2<|.p (BR Ac u.1.aU CQ rfl)<|.aW<|EK))<|.bU<|BN h (fun h=>AU h fun x28 hx28 h=>AP<|.ca (Za  x28 hx28)<|.aW<|Cm) fun h=>AU h fun q hx29 h=>AP<|.a 2<|.f (x:=.eu [.bn 4,AY q.2]) (EZ [] [BQ aA,DW j] (aVW aA j q hx29) rfl)<|.a 2<|.conv _ (O1 (e:=39) (s:=29) 4 (xs:=List.map BH q.1) A8)<|.aW<|AP<|.a 2<|AU h fun x30 al0 h=>.mg 100 9 (Ap x30) (.bi al0 (fun h=>AU h fun x32 hx32 h=>.a 3<|.ca (aWU q.1 j.Id x32 hx32)<|.aW<|EK))<|.a 1<|AU h fun x33 as3 h=>.mg 111 1 (Ap x33) (DX as3 (fun e i=>by subst e;have h:=i;exact AU h fun x35 aBq h=>.ca (Za  x35 aBq)<|.aW<|EK))<|.aW<|Cm
end Go.Proofs.YtkkdimcnpacjhaaGreat
end
section
namespace Go.Proofs.YtkkdimcnpacjhaaGreat
open Go.RowKit
def Xn (l:List Int) (h:l.length≤1099511627776):TT l=some (EG l):=by
 unfold TT aD4 Ls WM;rw[D6 Dh];have j:(Q8 l).length≤1099511627776:=by rw[(Ti l).length_eq];exact h
 simp[h,aNI,aID]
def KJ (l:List Int):(EG l).length≤l.length:=by
 rw[←aID];exact Ed (Lib.compact_length_le _) BF
def aN7 (a b:List Int):(Ob a b).length≤a.length:=by
 unfold Ob;exact Ed (JH _ _) (KJ a)
def aGH (a b:List Int):(Hr a b).length≤a.length+b.length:=by
 rw[vN];exact Ed (KJ _) BF
def acv (a b:Int):cmp_Less_int a b=some (decide (a<b)):=by
 simp[cmp_Less_int,cmp_isNaN_int]
def amQ (l:List Int) (x:Int) (hi:Inc l) (hn:l.length≤1099511627776):dL (aDA l x) (fun r=>r.2=D9 l x):=by
 unfold aDA aUy;refine Z8 (fun(m:Nat) (a b:Int)=>∃i j:Nat,a=i∧b=j∧i≤j∧j≤l.length∧m=j-i∧(∀q,(u:q<i)→(hl:q<l.length)→l[q]<x)∧(∀q,(u:j≤q)→(hl:q<l.length)→x≤l[q])) ?_ Ag l.length 0 (l.length:Int) eF ⟨0,l.length,rfl,rfl,Du _,Dq _,rfl,fun q u=>AA,fun q u hl=>AA⟩;rintro m a b k ⟨i,j,rfl,rfl,hij,hj,rfl,O,h2⟩ hk;unfold aTi;refine dL.bif (fun e=>?_) fun e=>?_
 ·have U:i<j:=RY
  have w1:Ai ((i:Int)+(j:Int))=((i+j:Nat):Int):=QH
  have w2:IntKind.u64.wrap ((i+j:Nat):Int)=((i+j:Nat):Int):=by rw[iF];omega
  have w3:Ox .shr .u64 ((i+j:Nat):Int) 1=some (((i+j)/2:Nat):Int):=by
   have e0:((i+j:Nat):Int).fdiv (2^(min (1:Int).toNat IntKind.u64.bits))=(((i+j)/2:Nat):Int):=by
    have :(2:Int)^(min (1:Int).toNat IntKind.u64.bits)=2:=rfl;rw[this,aT0 _ AA];omega
   unfold Ox;rw[CY AA];exact Aq some e0
  have w4:Ai (((i+j)/2:Nat):Int)=(((i+j)/2:Nat):Int):=QH
  have hm:(i+j)/2<l.length:=AA
  rw[w1,w2,w3];simp only[AO];rw[w4,Bd hm];simp only[AO];rw[acv,wrap_succ _ AA];simp only[AO];have mono:∀p q,(hp:p<l.length)→(u:q<l.length)→p<q→l[p]<l[q]:=fun p q hp u z=>IW.1 hi p q hp u z;refine dL.bif (fun Y=>?_) fun Y=>?_
  ·have I:l[(i+j)/2]<x:=Vl
   refine hk (j-((i+j)/2+1)) _ _ AA ⟨(i+j)/2+1,j,rfl,rfl,AA,hj,rfl,fun q u hl=>?_,h2⟩;by_cases eq:q=(i+j)/2
   ·subst eq;exact I
   have :=mono q ((i+j)/2) hl hm AA;omega
  have I:¬l[(i+j)/2]<x:=Vl
  refine hk ((i+j)/2-i) _ _ AA ⟨i,(i+j)/2,rfl,rfl,AA,AA,rfl,O,fun q u hl=>?_⟩;by_cases eq:q=(i+j)/2
  ·subst eq;omega
  have :=mono ((i+j)/2) q hm hl AA;omega
 have U:¬i<j:=RY
 have J:i=j:=AA
 subst J;have mono:∀p q,(hp:p<l.length)→(u:q<l.length)→p<q→l[p]<l[q]:=fun p q hp u z=>IW.1 hi p q hp u z;by_cases hl:i<l.length
 ·rw[show decide ((i:Int)<(l.length:Int))=true by simpa using hl,Bd hl];simp only[Az,AO];by_cases I:l[i]=x
  ·have M:(l[i]==x)=true:=SV
   rw[M];refine .ret ?_;exact(JY.2 (I▸EJ hl)).symm
  have M:(l[i]==x)=false:=SV
  rw[M]
  have Z:D9 l x=false:=OO.2 fun hm=>by
   obtain⟨q,u,e5⟩:=Fv hm;rcases jH q i with L|L|L
   ·have :=O q L u;omega
   ·subst L;exact I e5
   have :=mono i q hl u L;have :=h2 i (Dq _) hl;omega
  simp[aBV,Z,dL]
 rw[show decide ((i:Int)<(l.length:Int))=false by simpa using hl];refine .ret ?_;refine(OO.2 fun hm=>?_).symm;obtain⟨q,u,M⟩:=Fv hm;have :=O q AA u;omega
def apt {l b:List Int} {i:Nat} (h:i<l.length):(l.take (i+1)).filter (fun x=> !D9 b x)=(l.take i).filter (fun x=> !D9 b x)++(if D9 b l[i]then[]else[l[i]]):=by
 rw[Nw h,Ol];cases j:D9 b l[i]<;>simp[j]
def acM (a b:List Int) (h:a.length≤274877906944) (O:b.length≤274877906944):aFv a b=some (Ob a b):=by
 unfold aFv;rw[Xn b AA,Xn a AA];simp only[AO];have ha:=KJ a;have U:=KJ b;have q:=Jo b
 have J:Ob a b=((EG a).take (EG a).length).filter (fun x=> !D9 (EG b) x):=by
  rw[FV];unfold Ob;congr 1;funext x;congr 1;by_cases j:x∈b
  ·rw[JY.2 j,JY.2 (IQ.2 j)]
  rw[OO.2 j,OO.2 (fun h=>j (IQ.1 h))]
 rw[J];generalize EG a=S at *;generalize EG b=S2 at *;refine dL.eq ?_;unfold aXV;refine J5 S.length eF (fun i v=>v=(S.take i).filter (fun x=> !D9 S2 x)) BF ?_ ?_
 ·rintro i v k hi rfl u;have z:=wrap_succ i AA;have L:((S.take i).filter (fun x=> !D9 S2 x)).length≤i:=Ed (JH _ _) Dh;have hst:=apt (b:=S2) hi;unfold aGG aF7;rw[show decide ((i:Int)<(S.length:Int))=true by simpa using hi,Bd hi];simp only[Az,AO];refine(amQ S2 S[i] q AA).bind ?_;rintro r M;rw[M];cases I:D9 S2 S[i]with
  |true=>
   simp only[EF,Aj,z];exact u _ (by rw[hst];simp[I])
  |false=>
   simp only[Io,Az,z];rw[D6 Fa];exact u _ (by rw[hst];simp[I])
 rintro v k rfl;unfold aGG;rw[show decide ((S.length:Int)<(S.length:Int))=false by simp];exact .ret rfl
def Wv (l:List Int) (x:Int) (h:l.length≤1099511627776):UC l x=some (D9 l x):=by
 refine dL.eq ?_;unfold UC aU3;refine jF l.length eF (fun i=>∀j,(q:j<i)→(hl:j<l.length)→l[j]≠x) (fun j q=>AA) ?_ ?_
 ·intro i k hi u z;unfold aLH;rw[show decide ((i:Int)<(l.length:Int))=true by simpa using hi,Bd hi,wrap_succ i AA];simp only[Az,AO];refine dL.bif (fun e=>?_) fun e=>?_
  ·refine .ret ?_;have :l[i]=x:=RY
   rw[JY.2 (this▸EJ hi)]
  refine z fun j q hl=>?_;by_cases I:j=i
  ·subst I;simpa using e
  exact u j AA hl
 intro k u;unfold aLH;rw[show decide ((l.length:Int)<(l.length:Int))=false by simp];refine .ret ?_;rw[OO.2];intro hm;obtain⟨j,q,e⟩:=Fv hm;exact u j q q e
def aJp (p:Int→Bool):∀(l:List Int) (i:Nat),i≤l.length→(∀j,(h:j<i)→(hl:j<l.length)→p l[j]=true)→(∀h:i<l.length,p l[i]=false)→l.takeWhile p=l.take i∧l.dropWhile p=l.drop i
 | [],i,h,_,_=>by simp at h;subst h;simp
 |a::l,0,_,_,q=>by
  have :=q BF;simp at this;simp[this]
 |a::l,i+1,h,h1,q=>by
  have u:=h1 0 AA BF;simp at u;have :=aJp p l i JZ (fun j z hl=>by have :=h1 (j+1) AA Lc;simpa using this) (fun hl=>by have :=q Lc;simpa using this);simp[u,this.1,this.2]
def dQ (l:List Int) (x:Int) (h:l.length≤1099511627776):Wq l x=some (put l x):=by
 unfold Wq;rw[Wv l x h];simp only[AO];unfold put;cases hh:D9 l x with
 |true=>simp
 |false=>
  simp only[Aj,Qm,Jh];refine dL.eq ?_;unfold aTI
  have q:∀i,i≤l.length→(∀j,(u:j<i)→(hl:j<l.length)→l[j]<x)→(∀h:i<l.length,¬l[i]<x)→
   dL ((He l 0 (i:Int)).bind fun L=>(C9 8 [] L).bind fun M=>(C9 8 M [x]).bind fun O=>(He l (i:Int) ((l.length))).bind fun I=>(C9 8 O I).bind fun J=>some J) (· =l.takeWhile (decide<| · <x)++x::l.dropWhile (decide<| · <x)):=by
   intro i hi U Y;obtain⟨Z,e2⟩:=aJp (decide<| · <x) l i hi (fun j u hl=>by simpa using U j u hl) (fun hl=>by simpa using Y hl)
   have e3:He l 0 (i:Int)=some (l.take i):=by
    have :=jq (l:=l) (lo:=0) (hi:=i) AA hi;simpa using this
   have e4:He l (i:Int) (l.length:Int)=some (l.drop i):=by
    rw[jq (l:=l) (lo:=i) (hi:=l.length) hi AA];congr 1;exact QB BF
   rw[e3];simp only[AO];rw[D6 Dh];simp only[AO,II];rw[D6 Dh];simp only[AO];rw[e4];simp only[AO];rw[D6 Dh];refine .ret ?_;rw[Z,e2];simp
  refine jF l.length eF (fun i=>∀j,(u:j<i)→(hl:j<l.length)→l[j]<x) (fun j u=>AA) ?_ ?_
  ·intro i k hi z hk;unfold aMm;rw[show decide ((i:Int)<(l.length:Int))=true by simpa using hi,Bd hi,wrap_succ i AA];simp only[Az,AO];refine dL.bif (fun e=>?_) fun e=>?_
   ·refine hk fun j u hl=>?_;by_cases ej:j=i
    ·subst ej;simpa using e
    exact z j AA hl
   exact q i AA z (fun _=>RY)
  intro k z;unfold aMm;rw[show decide ((l.length:Int)<(l.length:Int))=false by simp];exact q l.length AA z (fun h=>AA)
def l7 (l:List Int) (x:Int):(put l x).length≤l.length+1:=by
 unfold put;split
 ·omega
 rw[EI,G7];have :=Aq List.length (nE (p:=(decide<| · <x)) (l:=l));rw[EI]at this;omega
def iw :∀(l a:List Int),(l.foldl put a).length≤a.length+l.length
 | [],a=>BF
 |x::l,a=>by
  have j:=iw l (put a x);have q:=l7 a x;simp only[F5,G7];omega
def aQ9 {l a:List Int} {i:Nat} (h:i<l.length):(l.take (i+1)).foldl put a=put ((l.take i).foldl put a) l[i]:=by
 rw[Nw h,TY];rfl
def aNM (l:List Int) (h:l.length≤274877906944):rF l=some (EG l):=by
 refine dL.eq ?_;unfold rF aTF;refine J5 l.length eF (fun i v=>v=(l.take i).foldl put []) BF ?_ ?_
 ·rintro i v k hi rfl j;have hl:=iw (l.take i) [];simp only[LY,FD]at hl;unfold aPT;rw[show decide ((i:Int)<(l.length:Int))=true by simpa using hi,Bd hi,wrap_succ i AA];simp only[Az,AO];rw[dQ _ _ AA];exact j _ (aQ9 hi).symm
 rintro v k rfl;unfold aPT;rw[show decide ((l.length:Int)<(l.length:Int))=false by simp];exact .ret (by rw[FV];rfl)
def aCN (a b:List Int) (h:a.length≤274877906944) (q:b.length≤274877906944):cZ a b=some (Hr a b):=by
 unfold cZ;rw[aNM a h];have hs:=KJ a;refine dL.eq ?_;simp only[AO];unfold aYE;refine J5 b.length eF (fun i v=>v=(b.take i).foldl put (EG a)) BF ?_ ?_
 ·rintro i v k hi rfl j;have hl:=iw (b.take i) (EG a);simp only[FD]at hl;unfold aLq;rw[show decide ((i:Int)<(b.length:Int))=true by simpa using hi,Bd hi,wrap_succ i AA];simp only[Az,AO];rw[dQ _ _ AA];exact j _ (aQ9 hi).symm
 rintro v k rfl;unfold aLq;rw[show decide ((b.length:Int)<(b.length:Int))=false by simp];exact .ret (by rw[FV];rfl)
end Go.Proofs.YtkkdimcnpacjhaaGreat
end
section
namespace Go.Proofs.YtkkdimcnpacjhaaGreat
open Go.RowKit
variable {α : Type}
def Jf {R:Type} (c:Bool) (x y:R):(bif c then some x else some y)=some (bif c then x else y):=by cases c<;>rfl
def aDH {A R:Type} (c:Bool) (x y:Option A) (f:A→Option R):(bif c then x else y).bind f=bif c then x.bind f else y.bind f:=by cases c<;>rfl
def dK (a b:Bool):(bif a then true else b)=(a||b):=by cases a<;>rfl
def Ty (a b:Bool):(bif a then b else false)=(a&&b):=by cases a<;>rfl
def VJ {s:ByteArray} {i:Nat} (h:i<(BX s).length):Hf s (i:Int)=some (BX s)[i]:=by
 unfold Hf;rw[CS (aMp i)];have h':i<s.size:=Vg
 have e:s[i]? =some s[i]:=by simp[h']
 simp only[Us,e,Ii,BX,Og];rfl
def acE {s:ByteArray} (h:0<(BX s).length):Hf s 0=some (BX s)[0]:=VJ (i:=0) h
def Gs {R α:Type} {body:(Int→Option R)→Int→Option R} (l:List α) (hl:l.length<Ag) (p:α→Bool) (bad:R) (rest:Option R)
 (u:∀k (i:Nat) (h:i<l.length),body k (i:Int)=bif p l[i]then some bad else k (Ai ((i:Int)+1))) (z:∀k,body k (l.length:Int)=rest):
 bI body Ag 0=bif l.any p then some bad else rest:=by
 have J:Ag=9223372036854775808:=rfl
 have key:∀n (i:Nat),i+n=l.length→∀m,n<m→bI body m (i:Int)=bif (l.drop i).any p then some bad else rest:=by
  intro n
  induction n with
  |zero=>
   intro i hi m hm;obtain⟨m,rfl⟩:∃q,m=q+1:=⟨m-1,AA⟩
   have :i=l.length:=AA
   subst this;show body (bI body m) _=_;rw[z,PU];rfl
  |succ n I=>
   intro i hi m hm;obtain⟨m,rfl⟩:∃q,m=q+1:=⟨m-1,AA⟩
   have j:i<l.length:=AA
   show body (bI body m) _=_;rw[u _ i j,wrap_succ i AA,I (i+1) AA m AA,Kw j,Ze];cases p l[i]<;>rfl
 have :=key l.length 0 AA Ag hl;simpa using this
def bytes_inj {s t:ByteArray} (h:BX s=BX t):s=t:=by
 have hd:s.data.toList=t.data.toList:=by
  unfold BX at h;refine List.map_inj_right (f:=fun c:UInt8=>(c.toNat:Int)) (fun a b j=>?_) |>.1 h;exact UInt8.toNat_inj.1 AA
 obtain⟨⟨a⟩⟩:=s;obtain⟨⟨b⟩⟩:=t;simp only at hd;rw[hd]
def toList_inj {s t:ByteArray} (h:s.toList=t.toList):s=t:=by
 rw[ByteArray.toList_eq,ByteArray.toList_eq]at h;obtain⟨⟨a⟩⟩:=s;obtain⟨⟨b⟩⟩:=t;simp only at h;rw[h]
def Ie {s t:ByteArray}:(s.toList==t.toList)=decide (s=t):=by
 by_cases h:s=t
 ·subst h;simp
 have :s.toList≠t.toList:=fun e=>h (toList_inj e);simp[h,this]
def Jc {R α:Type} {body:(Int→Option R)→Int→Option R} (l:List α) (hl:l.length<Ag) (q:α→Bool) (g:Nat→Option R) (rest:Option R)
 (z:∀k (i:Nat) (h:i<l.length),body k (i:Int)=bif q l[i]then g i else k (Ai ((i:Int)+1))) (I:∀k,body k (l.length:Int)=rest):
 bI body Ag 0=if l.findIdx q<l.length then g (l.findIdx q)else rest:=by
 have L:Ag=9223372036854775808:=rfl
 have key:∀n (i:Nat),i+n=l.length→∀m,n<m→bI body m (i:Int)=if(l.drop i).findIdx q+i<l.length then g ((l.drop i).findIdx q+i)else rest:=by
  intro n
  induction n with
  |zero=>
   intro i hi m hm;obtain⟨m,rfl⟩:∃u,m=u+1:=⟨m-1,AA⟩
   have :i=l.length:=AA
   subst this;show body (bI body m) _=_;rw[I,PU,CY AA]
  |succ n J=>
   intro i hi m hm;obtain⟨m,rfl⟩:∃u,m=u+1:=⟨m-1,AA⟩
   have j:i<l.length:=AA
   show body (bI body m) _=_;rw[z _ i j,wrap_succ i AA,J (i+1) AA m AA,Kw j,UF];cases q l[i]with
   |true=>simp[j]
   |false=>simp only[Aj];rw[show(l.drop (i+1)).findIdx q+(i+1)=(l.drop (i+1)).findIdx q+1+i by omega]
 have :=key l.length 0 AA Ag hl;simpa using this
def iy {s:ByteArray} {lo hi:Nat} (j:lo≤hi) (q:hi≤s.size):NW s (lo:Int) (hi:Int)=some (s.extract lo hi):=by
 unfold NW;rw[CS ⟨AA,AA,AA⟩];simp
def aX6 (s:ByteArray) (a b:Nat):BX (s.extract a b)=((BX s).take b).drop a:=by
 simp[BX,ByteArray.data_extract,aF,ZA,List.extract_eq_drop_take']
def qB (l:List α) (q:α→Bool):(bif l.any (fun c=> !q c)then false else true)=l.all q:=by
 have :l.any (fun c=> !q c)= !l.all q:=by simp[List.not_all_eq_any_not]
 rw[this];cases l.all q<;>rfl
def aPb :∀(l:List UInt8) (c:UInt8),Lib.indexByte l c=if l.findIdx (· ==c)<l.length then((l.findIdx (· ==c):Nat):Int)else -1
 | [],c=>rfl
 |b::l,c=>by
  unfold Lib.indexByte;rw[UF];cases h:b==c with
  |true=>simp
  |false=>
   rw[aPb l c];simp only[Qm,Jh,Aj,G7];by_cases hl:l.findIdx (· ==c)<l.length
   ·simp only[hl,Jg,show l.findIdx (· ==c)+1<l.length+1 by omega];have :(((l.findIdx (· ==c):Nat):Int)== -1)=false:=BF
    simp[this]
   simp[hl,show ¬l.findIdx (· ==c)+1<l.length+1 by omega]
end Go.Proofs.YtkkdimcnpacjhaaGreat
end
section
namespace Go.Proofs.YtkkdimcnpacjhaaGreat
open Go.RowKit
structure Ea (e:AL):Prop where
 prev:e.aU.length≤40
 auth:e.aZ.length≤40
 allow:e.Content.Allow.length≤100
 deny:e.Content.gJ.length≤100
 users:e.Content.Levels.Users.length≤100
 kinds:e.Content.Levels.Kinds.length≤100
 room:e.Room.size≤2000
 sender:e.aQ.size≤2000
 key:e.Key.size≤2000
 text:e.Content.Text.size≤2000
 via:e.Content.Via.size≤2000
 server:e.ng.Server.size≤2000
 allows:∀x∈e.Content.Allow,x.size≤2000
 denies:∀x∈e.Content.gJ,x.size≤2000
 names:∀x∈e.Content.Levels.Users,x.User.size≤2000
def PL {a b:Int} (h:decide (a>b)=false):a≤b:=by have :=Je h;omega
def aKp {α:Type} {l:List α} {P:α→Prop} (h:∀j,(hl:j<l.length)→P l[j]):∀x∈l,P x:=fun x q=>by
 obtain⟨j,u,rfl⟩:=Fv q;exact h j u
def aOK {α:Type} {body:(Int→Option Bool)→Int→Option Bool} (l:List α) (hl:l.length<Ag) (q:α→Bool) (rest:Option Bool) {P:Prop}
 (J:∀(k:Int→Option Bool) (i:Nat) (h:i<l.length),body k (i:Int)=bif q l[i]then some true else k (Ai ((i:Int)+1))) (L:∀k,body k (l.length:Int)=rest)
 (M:(∀x∈l,q x=false)→dL rest (fun b=>b=false→P)):dL (bI body Ag 0) (fun b=>b=false→P):=by
 refine jF l.length hl (fun i=>∀j,(u:j<i)→(hl:j<l.length)→q l[j]=false) (fun j u=>AA) ?_ ?_
 ·intro i k hi z O;have Y:Ag=9223372036854775808:=rfl;rw[J k i hi,wrap_succ i AA];refine dL.bif (fun _=>.ret (fun h=>Gy)) fun e=>O fun j u I=>?_;by_cases U:j=i
  ·subst U;exact e
  exact z j AA I
 intro k z;rw[L];exact M (aKp fun j u=>z j u u)
def Bo {α R:Type} {l:List α} {i:Nat} (h:i<l.length) (f:α→Option R) (z:Option R):(bif decide ((i:Int)<(l.length:Int))then(Af l (i:Int)).bind f else z)=f l[i]:=by
 rw[show decide ((i:Int)<(l.length:Int))=true by simpa using h,Bd h];rfl
def DC {α R:Type} {l:List α} (y z:Option R):(bif decide ((l.length:Int)<(l.length:Int))then y else z)=z:=by
 rw[show decide ((l.length:Int)<(l.length:Int))=false by simp];rfl
def ab5 (e:AL):dL (sU e) (fun b=>b=false→Ea e):=by
 have hf:Ag=9223372036854775808:=rfl;have q:∀{P:Prop},dL (some true) (fun b=>b=false→P):=.ret fun h=>Gy
 unfold sU;simp only[Jf,AO,dK];refine dL.bif (fun _=>q) fun a=>?_;refine dL.bif (fun _=>q) fun b=>?_;simp only[X4]at a b;obtain⟨⟨⟨⟨⟨u,z⟩,I⟩,J⟩,L⟩,M⟩:=a;obtain⟨⟨⟨⟨⟨O,U⟩,Y⟩,Z⟩,b5⟩,b6⟩:=b;have u:=PL u;have z:=PL z;have I:=PL I;have J:=PL J;have L:=PL L;have M:=PL M;have O:=PL O;have U:=PL U;have Y:=PL Y;have Z:=PL Z;have b5:=PL b5;have b6:=PL b6;unfold aUE;refine aOK e.Content.Allow AA (fun x=>decide ((x.size:Int)>2000)) (aIg e 0) (fun k i h=>?_) (fun k=>?_) fun c1=>?_
 ·unfold aGB;rw[Bo h]
 ·unfold aGB;rw[DC]
 unfold aIg;refine aOK e.Content.gJ AA (fun x=>decide ((x.size:Int)>2000)) (aJC e 0) (fun k i h=>?_) (fun k=>?_) fun c2=>?_
 ·unfold aMr;rw[Bo h]
 ·unfold aMr;rw[DC]
 unfold aJC;refine aOK e.Content.Levels.Users AA (fun x=>decide ((x.User.size:Int)>2000)) (some false) (fun k i h=>?_) (fun k=>?_) fun c3=>?_
 ·unfold aHE;rw[Bo h]
 ·unfold aHE;rw[DC]
 refine .ret fun _=>⟨AA,AA,AA,AA,AA,AA,AA,AA,AA,AA,AA,AA,fun x j=>?_,fun x j=>?_,fun x j=>?_⟩
 ·have :=PL (c1 x j);omega
 ·have :=PL (c2 x j);omega
 have :=PL (c3 x j);omega
def fuel_lt {n:Nat} (h:n≤1099511627776):n<Ag:=jO
def dec_lt {i n:Nat} (h:i<n):decide ((i:Int)<(n:Int))=true:=JZ
def Ce (n:Nat):decide ((n:Int)<(n:Int))=false:=BF
def Hu {R A α:Type} {body:(A→Int→Option R)→A→Int→Option R} (l:List α) (hl:l.length≤1099511627776) (step:A→α→A) (I:Nat→A→Prop) (j:A→Option R) {a0:A} (z:I 0 a0)
 (J:∀k a (i:Nat) (h:i<l.length),I i a→I (i+1) (step a l[i])∧body k a (i:Int)=k (step a l[i]) (Ai ((i:Int)+1)))
 (L:∀k a,I l.length a→body k a (l.length:Int)=j a):aV body Ag a0 0=j (l.foldl step a0):=by
 have key:∀n (i:Nat) (a:A),i+n=l.length→I i a→∀m,n<m→aV body m a (i:Int)=j ((l.drop i).foldl step a):=by
  intro n
  induction n with
  |zero=>
   intro i a hi ha m hm;obtain⟨m,rfl⟩:∃u,m=u+1:=⟨m-1,AA⟩
   have :i=l.length:=AA
   subst this;show body (aV body m) _ _=_;rw[L _ _ ha,PU];rfl
  |succ n M=>
   intro i a hi ha m hm;obtain⟨m,rfl⟩:∃u,m=u+1:=⟨m-1,AA⟩
   have q:i<l.length:=AA
   obtain⟨O,U⟩:=J (aV body m) a i q ha;show body (aV body m) _ _=_;rw[U,wrap_succ i AA,M (i+1) _ AA O m AA,Kw q,F5]
 have :=key l.length 0 a0 AA z Ag (fuel_lt hl);simpa using this
def gQ {R A α:Type} {body:(Int→A→Option R)→Int→A→Option R} (l:List α) (hl:l.length≤1099511627776) (step:A→α→A) (I:Nat→A→Prop) (j:A→Option R) {a0:A} (z:I 0 a0)
 (J:∀k a (i:Nat) (h:i<l.length),I i a→I (i+1) (step a l[i])∧body k (i:Int) a=k (Ai ((i:Int)+1)) (step a l[i]))
 (L:∀k a,I l.length a→body k (l.length:Int) a=j a):aV body Ag 0 a0=j (l.foldl step a0):=by
 have key:∀n (i:Nat) (a:A),i+n=l.length→I i a→∀m,n<m→aV body m (i:Int) a=j ((l.drop i).foldl step a):=by
  intro n
  induction n with
  |zero=>
   intro i a hi ha m hm;obtain⟨m,rfl⟩:∃u,m=u+1:=⟨m-1,AA⟩
   have :i=l.length:=AA
   subst this;show body (aV body m) _ _=_;rw[L _ _ ha,PU];rfl
  |succ n M=>
   intro i a hi ha m hm;obtain⟨m,rfl⟩:∃u,m=u+1:=⟨m-1,AA⟩
   have q:i<l.length:=AA
   obtain⟨O,U⟩:=J (aV body m) a i q ha;show body (aV body m) _ _=_;rw[U,wrap_succ i AA,M (i+1) _ AA O m AA,Kw q,F5]
 have :=key l.length 0 a0 AA z Ag (fuel_lt hl);simpa using this
def KN {α:Type} (p:α→Bool):∀l:List α,l.find? p=l[l.findIdx p]?
 | []=>rfl
 |x::l=>by
  rw[OL,UF];cases h:p x with
  |true=>rfl
  |false=>simp[KN p l]
def Dw (l:List AL) (id:Int):Option AL:=l.find? fun e=>e.Id==id
def Fz (l:List AL) (id:Int):AL×Bool:=match Dw l id with
 |some e=>(e,true)
 |none=>(Bv,false)
def zh {l:List AL} {id:Int} {e:AL} (h:Dw l id=some e):e.Id=id:=by
 have :=VP h;simpa using this
def I9 {l:List AL} {id:Int} {e:AL} (h:Dw l id=some e):e∈l:=O7 h
def NZ (l:List AL) (id:Int):(Fz l id).2=(Dw l id).isSome:=by
 unfold Fz;cases Dw l id<;>rfl
def Rep (l:List AL) (hl:l.length≤1099511627776) (f:AL→Option Bool) (p:AL→Bool) (j:∀e,f e=some (p e)):
 jV l f=some (if l.findIdx p<l.length then((l.findIdx p:Nat):Int)else -1):=by
 unfold jV aTa;rw[Jc l (fuel_lt hl) p (fun i=>some (i:Int)) (some (-1))]
 ·split<;>rfl
 ·intro k i h;unfold aOW;rw[Bo h,j];rfl
 intro k;unfold aOW;rw[DC]
def found_eq (l:List AL) (p:AL→Bool) {n:Int} (j:n=if l.findIdx p<l.length then((l.findIdx p:Nat):Int)else -1):
 (bif decide (n<0)then some (Bv,false)else(Af l n).bind fun q=>some (q,true))=some (match l.find? p with |some e=>(e,true)|none=>(Bv,false)):=by
 subst j;rw[KN];by_cases h:l.findIdx p<l.length
 ·rw[CS h,D8 h,show decide (((l.findIdx p:Nat):Int)<0)=false by simp,Bd h];rfl
 rw[CY h,Ib AA];rfl
def Np (l:List AL) (id:Int) (hl:l.length≤1099511627776):Ll l id=some (Fz l id):=by
 unfold Ll iP uj;rw[Rep l hl _ (fun e=>e.Id==id) fun _=>rfl];exact found_eq l _ rfl
def aSH (l:List AL) (id:Int) (hl:l.length≤1099511627776):aC1 l id=some (if l.findIdx (fun e=>e.Id==id)<l.length then((l.findIdx (fun e=>e.Id==id):Nat):Int)else -1):=by
 unfold aC1 aWQ;rw[Jc l (fuel_lt hl) (fun e=>e.Id==id) (fun i=>some (i:Int)) (some (-1))]
 ·split<;>rfl
 ·intro k i h;unfold aKZ;rw[Bo h]
 intro k;unfold aKZ;rw[DC]
def KR (l:List AL) (id:Int) (hl:l.length≤1099511627776):Jk l id=some (Fz l id):=by
 unfold Jk;rw[aSH l id hl];exact found_eq l _ rfl
def ofIds (l:List AL) (ids:List Int):List AL:=ids.filterMap (Dw l)
def foldl_append {α β:Type} (f:α→List β):∀(l:List α) (a:List β),l.foldl (fun r x=>r++f x) a=a++l.flatMap f
 | [],a=>BF
 |x::l,a=>by rw[F5,foldl_append f l,KO,Hw]
def aaF (l:List AL):∀ids,ofIds l ids=ids.flatMap fun id=>(Dw l id).toList
 | []=>rfl
 |id::ids=>by
  unfold ofIds;rw[MP,KO,←aaF l ids];cases Dw l id<;>rfl
def toList_le {α:Type} (o:Option α):o.toList.length≤1:=by cases o<;>simp
def Nl {l:List AL} {id:Int} {e:AL} (h:Dw l id=some e):Fz l id=(e,true):=by unfold Fz;rw[h]
def SN {l:List AL} {id:Int} (h:Dw l id=none):Fz l id=(Bv,false):=by unfold Fz;rw[h]
def Yw (l:List AL) (ids:List Int):(ofIds l ids).length≤ids.length:=aIA ..
def aQB (l:List AL) (ids:List Int):ids.foldl (fun r id=>r++(Dw l id).toList) []=ofIds l ids:=by
 rw[foldl_append (fun id=>(Dw l id).toList),aaF];rfl
def aX1 (l:List AL) (ids:List Int) (hl:l.length≤1000) (hi:ids.length≤1000000):tK l ids=some (ofIds l ids):=by
 unfold tK
 have hm:Ia 376 Bv 0 (ids.length:Int)=some []:=by
  unfold Ia;rw[CS aCv];rfl
 rw[hm];simp only[AO];unfold aX4;rw[Hu ids AA (fun r id=>r++(Dw l id).toList) (fun i r=>r.length≤i) (fun r=>some r) BF]
 ·rw[aQB]
 ·intro k a i h q;have ht:=toList_le (Dw l ids[i]);refine⟨KU,?_⟩;unfold aOl aDI;rw[Bo h,Np l _ AA];cases j:Dw l ids[i]with
  |none=>simp[SN j]
  |some e=>
   rw[Nl j];simp only[AO,Az,RH];rw[D6 Fa];rfl
 intro k a q;unfold aOl;rw[DC]
def aLG (l:List AL) (ids:List Int) (hl:l.length≤1000) (hi:ids.length≤1000000):vS l ids=some (ofIds l ids):=by
 unfold vS aQ8;rw[Hu ids AA (fun r id=>r++(Dw l id).toList) (fun i r=>r.length≤i) (fun r=>some r) BF]
 ·rw[aQB]
 ·intro k a i h q;have ht:=toList_le (Dw l ids[i]);refine⟨KU,?_⟩;unfold aHl aJc;rw[Bo h,KR l _ AA];cases j:Dw l ids[i]with
  |none=>simp[SN j]
  |some e=>
   rw[Nl j];simp only[AO,Az,RH];rw[D6 Fa];rfl
 intro k a q;unfold aHl;rw[DC]
def aVS {α:Type} (l:List α) (i:Nat) (x:α) (h:i<l.length):l.set i x=l.take i++x::l.drop (i+1):=aL0▸by simp[h]
def aQQ {α:Type} (A:List α) (g:α) (D:List α) {n:Nat} (h:A.length=n):(A++g::D).take n=A∧(A++g::D).drop (n+1)=D:=by
 subst h;simp
def aIS (l:List Int) (x:Int) (hi:Inc l) (hl:l.length≤1000000):wB l x=some (put l x):=by
 refine dL.eq ?_;unfold wB aQG
 have L:∀i,i≤l.length→(∀j,(Y:j<i)→(hl:j<l.length)→l[j]<x)→(∀h:i<l.length,x<l[i])→put l x=l.take i++x::l.drop i:=by
  intro i hi' h1 O;obtain⟨e1,U⟩:=aJp (decide<| · <x) l i hi' (fun j Y hl=>by simpa using h1 j Y hl) (fun hl=>by have :=O hl;simp;omega)
  have hno:D9 l x=false:=OO.2 fun hm=>by
   obtain⟨q,hq,e4⟩:=Fv hm;rcases XV q i with h5|h5
   ·have :=h1 q h5 hq;omega
   have h6:=O AA;rcases XV i q with h7|h7
   ·have :=IW.1 hi i q AA hq h7;omega
   have :q=i:=AA
   subst this;omega
  unfold put;rw[hno,e1,U];rfl
 have z:∀i,i≤l.length→∀d,d≤l.length-i→∀m,d<m→dL (aV (VK (i:Int) x) m ((i+d:Nat):Int) (l.take (i+d)++(l++[x]).getD (i+d) 0::l.drop (i+d))) (· =l.take i++x::l.drop i):=by
  intro i I d
  induction d with
  |zero=>
   intro _ m hm;obtain⟨m,rfl⟩:∃m',m=m'+1:=⟨m-1,AA⟩
   show dL (VK (i:Int) x (aV (VK (i:Int) x) m) _ _) _;generalize aV (VK (i:Int) x) m=k;unfold VK;rw[show decide (((i+0:Nat):Int)>(i:Int))=false by simp];simp only[Aj,Pq];have hlen:i<(l.take i++(l++[x]).getD i 0::l.drop i).length:=Dh
   rw[Bd hlen];refine .ret ?_;rw[Us,aVS _ _ _ hlen];simp[aNg,List.drop_append,vO I]
  |succ d ih=>
   intro hd m hm;obtain⟨m,rfl⟩:∃m',m=m'+1:=⟨m-1,AA⟩
   have Z:=ih AA m AA;show dL (VK (i:Int) x (aV (VK (i:Int) x) m) _ _) _;generalize aV (VK (i:Int) x) m=k at Z ⊢;unfold VK;rw[show decide (((i+(d+1):Nat):Int)>(i:Int))=true by simp;omega];simp only[Az];have w:Ai (((i+(d+1):Nat):Int)-1)=((i+d:Nat):Int):=QH
   have J:i+d<l.length:=AA
   have hL:(l.take (i+(d+1))++(l++[x]).getD (i+(d+1)) 0::l.drop (i+(d+1))).length=l.length+1:=Dh
   have h1:i+d<(l.take (i+(d+1))++(l++[x]).getD (i+(d+1)) 0::l.drop (i+(d+1))).length:=AA
   have O:i+(d+1)<(l.take (i+(d+1))++(l++[x]).getD (i+(d+1)) 0::l.drop (i+(d+1))).length:=AA
   rw[w,Bd h1];simp only[AO];rw[Bd O];simp only[AO]
   have hg:(l.take (i+(d+1))++(l++[x]).getD (i+(d+1)) 0::l.drop (i+(d+1)))[i+d]=l[i+d]:=by
    rw[aLF Dh];simp
   rw[hg,Us,aVS _ _ _ O]
   have e:(l.take (i+(d+1))++(l++[x]).getD (i+(d+1)) 0::l.drop (i+(d+1))).take (i+(d+1))++l[i+d]::(l.take (i+(d+1))++(l++[x]).getD (i+(d+1)) 0::l.drop (i+(d+1))).drop (i+(d+1)+1)=l.take (i+d)++(l++[x]).getD (i+d) 0::l.drop (i+d):=by
    have ht:(l.take (i+(d+1))).length=i+(d+1):=Dh
    rw[(aQQ _ _ _ ht).1,(aQQ _ _ _ ht).2];have h3:(l++[x]).getD (i+d) 0=l[i+d]:=by simp[List.getD,Gq J,J]
    rw[h3,show i+(d+1)=i+d+1 by omega,Nw J,Kw J,Hw];rfl
   rw[e];exact Z
 have u:l++[x]=l.take l.length++(l++[x]).getD l.length 0::l.drop l.length:=BF
 refine jF l.length (fuel_lt AA) (fun i=>∀j,(Y:j<i)→(hl:j<l.length)→l[j]<x) (fun j Y=>AA) ?_ ?_
 ·intro i k I hI hk;unfold aMK;rw[show decide ((i:Int)<(l.length:Int))=true by simpa using I,Bd I];simp only[Az,AO];refine dL.bif (fun e=>?_) fun e=>?_
  ·rw[wrap_succ i AA];refine hk fun j Y hl'=>?_;by_cases ej:j=i
   ·subst ej;simpa using e
   exact hI j AA hl'
  have hge:¬l[i]<x:=RY
  refine dL.bif (fun U=>?_) fun U=>?_
  ·have hx:l[i]=x:=Fin
   refine .ret ?_;unfold put;rw[JY.2 (hx▸EJ I)];rfl
  have hx:l[i]≠x:=Fin
  rw[D6 Fa];simp only[AO];rw[L i AA hI (fun _=>AA)];have w:Ai (((l++[x]).length:Int)-1)=((i+(l.length-i):Nat):Int):=aLd
  rw[w];have M:=z i AA (l.length-i) (Dq _) Ag (fuel_lt AA);rw[show i+(l.length-i)=l.length by omega]at M ⊢;rw[←u]at M;exact M
 intro k hI;unfold aMK;rw[show decide ((l.length:Int)<(l.length:Int))=false by simp];simp only[Aj,AO];rw[D6 Fa];simp only[AO];rw[L l.length (Dq _) hI (fun h=>AA)];have w:Ai (((l++[x]).length:Int)-1)=((l.length+0:Nat):Int):=aLd
 rw[w];have M:=z l.length (Dq _) 0 AA Ag (fuel_lt AA);rw[Pq]at M ⊢;rw[←u]at M;exact M
def bW (l:List AL) (id:Int):Bool:=(Dw l id).isSome
def YL (l:List AL) (ids:List Int):List Int:=ids.foldl (fun r id=>bif bW l id then r else put r id) []
def gG (l:List AL) (ids:List Int):List Int:=(EG ids).filter (bW l)
def Lp {l:List AL} {ids:List Int} {x:Int}:x∈gG l ids↔x∈ids∧bW l x=true:=by unfold gG;rw[FU,IQ]
def Zj (l:List AL) (ids:List Int):Inc (gG l ids):=(Jo ids).sublist Qp
def agI (l:List AL) (ids:List Int):(gG l ids).length≤ids.length:=Ed (JH _ _) (KJ ids)
def aJA (l:List AL):∀(ids r:List Int),Inc r→Inc (ids.foldl (fun r id=>bif bW l id then r else put r id) r)∧∀x,x∈ids.foldl (fun r id=>bif bW l id then r else put r id) r↔x∈r∨x∈ids∧bW l x=false
 | [],r,h=>⟨h,fun x=>BF⟩
 |id::ids,r,h=>by
  rw[F5];cases z:bW l id with
  |true=>
   obtain⟨q,u⟩:=aJA l ids r h;refine⟨q,fun x=>(u x).trans ⟨fun h=>?_,fun h=>?_⟩⟩
   ·rcases h with h|h
    ·exact .inl h
    exact .inr ⟨FB _ h.1,h.2⟩
   rcases h with h|⟨h,j⟩
   ·exact .inl h
   rcases EX.1 h with rfl|h
   ·rw[z]at j;cases j
   exact .inr ⟨h,j⟩
  |false=>
   obtain⟨q,u⟩:=aJA l ids (put r id) (Si h);refine⟨q,fun x=>(u x).trans ?_⟩;rw[VW,EX];constructor
   ·rintro((h|rfl)|h)
    ·exact .inl h
    ·exact .inr ⟨.inl rfl,z⟩
    exact .inr ⟨.inr h.1,h.2⟩
   rintro(h|⟨rfl|h,j⟩)
   ·exact .inl (.inl h)
   ·exact .inl (.inr rfl)
   exact .inr ⟨h,j⟩
def aMP {l:List AL} {ids:List Int} {x:Int}:x∈YL l ids↔x∈ids∧bW l x=false:=by
 unfold YL;rw[(aJA l ids [] .nil).2 x];simp
def aVz (l:List AL) (ids:List Int):(YL l ids).length≤ids.length:=by
 have key:∀(ids r:List Int),(ids.foldl (fun r id=>bif bW l id then r else put r id) r).length≤r.length+ids.length:=by
  intro ids
  induction ids with
  |nil=>intro r;simp
  |cons id ids j=>
   intro r;rw[F5];have q:=j (bif bW l id then r else put r id)
   have u:(bif bW l id then r else put r id).length≤r.length+1:=by
    cases bW l id with
    |true=>exact Nat.le_succ _
    |false=>exact l7 r id
   simp only[G7];omega
 have :=key ids [];simpa[YL]using this
def aLV (l:List AL) (ids:List Int) (hl:l.length≤1000) (hi:ids.length≤100000):o8 l ids=some (YL l ids):=by
 unfold o8 aRv;rw[Hu ids AA (fun r id=>bif bW l id then r else put r id) (fun i r=>Inc r∧r.length≤i) (fun r=>some r) ⟨.nil,Dq _⟩]
 ·rfl
 ·intro k a i h j;have hp:=aSH l ids[i] AA
  have u:bW l ids[i]=decide (l.findIdx (fun e=>e.Id==ids[i])<l.length):=by
   unfold bW Dw;rw[KN];by_cases h:l.findIdx (fun e=>e.Id==ids[i])<l.length
   ·rw[D8 h,Gi h];rfl
   rw[Ib AA,H7 h];rfl
  refine⟨?_,?_⟩
  ·cases bW l ids[i]with
   |true=>exact⟨j.1,by have :=j.2;show a.length≤i+1;omega⟩
   |false=>exact⟨Si j.1,by have :=l7 a ids[i];have :=j.2;show(put a ids[i]).length≤i+1;omega⟩
  unfold aOD aNL;rw[Bo h,hp];simp only[AO];by_cases q:l.findIdx (fun e=>e.Id==ids[i])<l.length
  ·rw[CS q,u,Gi q,show decide (((l.findIdx (fun e=>e.Id==ids[i]):Nat):Int)<0)=false by simp];rfl
  rw[CY q,u,H7 q,Bd h];simp only[show decide ((-1:Int)<0)=true by decide,Az,Aj,AO];rw[aIS a _ j.1 (by have :=j.2;omega)];rfl
 intro k a j;unfold aOD;rw[DC]
def zY (a b:List Int) (h:a.length≤274877906944) (z:b.length≤274877906944):iG a b=some (Ob a b):=by
 unfold iG;rw[aNM a h];simp only[AO];have ha:=KJ a;unfold aTO;rw[Hu (EG a) AA (fun r x=>bif D9 b x then r else r++[x]) (fun i r=>r.length≤i) (fun r=>some r) (Dq _)]
 ·congr 1;unfold Ob;generalize EG a=S
  have key:∀(S r:List Int),S.foldl (fun r x=>bif D9 b x then r else r++[x]) r=r++S.filter (fun x=> !D9 b x):=by
   intro S
   induction S with
   |nil=>intro r;simp
   |cons x S j=>
    intro r;rw[F5,j,Ri];cases D9 b x<;>simp
  simpa using key S []
 ·intro k r i h q;have u:=Wv b (EG a)[i] AA;refine⟨?_,?_⟩
  ·cases D9 b (EG a)[i]with
   |true=>show r.length≤i+1;omega
   |false=>show(r++[(EG a)[i]]).length≤i+1;simp;omega
  unfold aNx aJf;rw[Bo h,u];simp only[AO];cases D9 b (EG a)[i]with
  |true=>rfl
  |false=>
   simp only[Io,Az,Aj];rw[Bd h];simp only[AO];rw[D6 Fa];rfl
 intro k r q;unfold aNx;rw[DC]
def aSI (l:List AL) (ids:List Int):Ob ids (YL l ids)=gG l ids:=
 Ak (aIB _ _) (Zj _ _) fun x=>by
  rw[aLR,aMP,Lp];cases bW l x<;>simp
def aiD (l:List AL) (ids:List Int) (hl:l.length≤1000) (hi:ids.length≤100000):aOP l ids=some (gG l ids):=by
 unfold aOP;rw[aLV l ids hl hi];simp only[AO];have :=aVz l ids;rw[zY _ _ AA AA,aSI];rfl
def aas (l:List AL) (ids:List Int) (hl:l.length≤1000) (hi:ids.length≤100000):aEt l ids=some (gG l ids):=by
 unfold aEt;rw[aLV l ids hl hi];simp only[AO];have :=aVz l ids;rw[zY _ _ AA AA,aSI];rfl
def iL (l:List AL) (id:Int):List Int:=(Fz l id).1.aZ
def UH (l:List AL) (r:List Int) (x:Int):List Int:=bif bW l x then put r x else r
def JX (l:List AL) (ids:List Int):List Int:=ids.foldl (fun r id=>(iL l id).foldl (UH l) r) []
def aCZ (l:List AL):∀(xs r:List Int),Inc r→Inc (xs.foldl (UH l) r)∧(∀x,x∈xs.foldl (UH l) r↔x∈r∨x∈xs∧bW l x=true)∧(xs.foldl (UH l) r).length≤r.length+xs.length
 | [],r,h=>⟨h,fun x=>BF,BF⟩
 |y::xs,r,h=>by
  rw[F5];unfold UH;cases I:bW l y with
  |true=>
   obtain⟨u,z,j⟩:=aCZ l xs (put r y) (Si h);refine⟨u,fun x=>(z x).trans ?_,?_⟩
   ·rw[VW,EX];constructor
    ·rintro((h|rfl)|h)
     ·exact .inl h
     ·exact .inr ⟨.inl rfl,I⟩
     exact .inr ⟨.inr h.1,h.2⟩
    rintro(h|⟨rfl|h,q⟩)
    ·exact .inl (.inl h)
    ·exact .inl (.inr rfl)
    exact .inr ⟨h,q⟩
   have :=l7 r y;simp only[G7,Az]at j ⊢;exact Ed j AA
  |false=>
   obtain⟨u,z,j⟩:=aCZ l xs r h;refine⟨u,fun x=>(z x).trans ⟨fun h=>?_,fun h=>?_⟩,?_⟩
   ·rcases h with h|h
    ·exact .inl h
    exact .inr ⟨FB _ h.1,h.2⟩
   ·rcases h with h|⟨h,q⟩
    ·exact .inl h
    rcases EX.1 h with rfl|h
    ·rw[I]at q;cases q
    exact .inr ⟨h,q⟩
   simp only[G7,Aj]at j ⊢;exact Ed j AA
def aMc (l:List AL):∀(ids r:List Int),Inc r→Inc (ids.foldl (fun r id=>(iL l id).foldl (UH l) r) r)∧∀x,x∈ids.foldl (fun r id=>(iL l id).foldl (UH l) r) r↔x∈r∨bW l x=true∧∃id∈ids,x∈iL l id
 | [],r,h=>⟨h,fun x=>BF⟩
 |id::ids,r,h=>by
  rw[F5];obtain⟨q,u,_⟩:=aCZ l (iL l id) r h;obtain⟨z,I⟩:=aMc l ids _ q;refine⟨z,fun x=>(I x).trans ?_⟩;rw[u x];constructor
  ·rintro((h|h)|⟨h3,i,j,h5⟩)
   ·exact .inl h
   ·exact .inr ⟨h.2,id,EU ..,h.1⟩
   exact .inr ⟨h3,i,FB _ j,h5⟩
  rintro(h|⟨h3,i,j,h5⟩)
  ·exact .inl (.inl h)
  rcases EX.1 j with rfl|j
  ·exact .inl (.inr ⟨h5,h3⟩)
  exact .inr ⟨h3,i,j,h5⟩
def qW (l:List AL) (ids:List Int):Inc (JX l ids):=(aMc l ids [] .nil).1
def SS {l:List AL} {ids:List Int} {x:Int}:x∈JX l ids↔bW l x=true∧∃id∈ids,x∈iL l id:=by
 unfold JX;rw[(aMc l ids [] .nil).2 x];simp
def chainOf (l:List AL) (ids:List Int):List Int:=l.foldl (fun s _=>Hr s (JX l s)) (JX l (gG l ids))
inductive Jy (l:List AL) (ids:List Int):Int→Prop
 |one {i x:Int} (h:i∈ids) (hx:x∈iL l i) (hk:bW l x=true):Jy l ids x
 |more {y x:Int} (h:Jy l ids y) (hx:x∈iL l y) (hk:bW l x=true):Jy l ids x
def afD {l:List AL} {i x:Int} (h:x∈iL l i):bW l i=true:=by
 unfold iL at h;unfold bW;cases j:Dw l i with
 |none=>rw[SN j]at h;cases h
 |some e=>rfl
def uy {s t:List Int} (hs:Inc s) (ht:Inc t) (h:∀x∈s,x∈t):s.length≤t.length∧(t.length≤s.length→s=t):=by
 have e:s=t.filter (fun x=>D9 s x):=Ak hs (ht.sublist Qp) fun x=>by
  rw[FU,JY];exact⟨fun j=>⟨h x j,j⟩,fun j=>j.2⟩
 have hl:=JH (fun x=>D9 s x) t;refine⟨by rw[e];exact hl,fun q=>?_⟩;have u:(t.filter (fun x=>D9 s x)).length=t.length:=by have :=Aq List.length e;omega
 rw[e];exact dW.2 (aYi.1 u)
def Sl (l:List AL):List Int:=EG (l.map (·.Id))
def xq {l:List AL} {x:Int} (h:bW l x=true):x∈Sl l:=by
 unfold bW at h;obtain⟨e,j⟩:=SG.1 h;exact IQ.2 (E5.2 ⟨e,I9 j,zh j⟩)
def Fn1 (l:List AL):∀(l':List AL) (s:List Int),Inc s→(∀x∈s,bW l x=true)→
 Inc (l'.foldl (fun s _=>Hr s (JX l s)) s)∧(∀x∈l'.foldl (fun s _=>Hr s (JX l s)) s,bW l x=true)∧(∀x∈s,x∈l'.foldl (fun s _=>Hr s (JX l s)) s)∧
 ((Sl l).length≤s.length+l'.length→∀x∈JX l (l'.foldl (fun s _=>Hr s (JX l s)) s),x∈l'.foldl (fun s _=>Hr s (JX l s)) s)
 | [],s,hs,I=>⟨hs,I,fun _ h=>h,fun hlen x q=>by
     have J:=(uy hs (Jo _) (fun x q=>xq (I x q))).2 (by show(Sl l).length≤s.length;simpa using hlen);have u:=xq (SS.1 q).1;unfold Sl at u
     rw[←J]at u;exact u⟩
 |e::l',s,hs,I=>by
  rw[F5]
  have L:∀x∈Hr s (JX l s),bW l x=true:=fun x q=>by
   rcases UA.1 q with h|h
   ·exact I x h
   exact(SS.1 h).1
  obtain⟨J,u,M,O⟩:=Fn1 l l' (Hr s (JX l s)) (qo _ _) L;refine⟨J,u,fun x q=>M x (UA.2 (.inl q)),fun hlen=>?_⟩;have z:=uy hs (qo s (JX l s)) fun x q=>UA.2 (.inl q);by_cases j:s=Hr s (JX l s)
  ·
   have hst:∀(l':List AL),l'.foldl (fun s _=>Hr s (JX l s)) s=s:=by
    intro l'
    induction l' with
    |nil=>rfl
    |cons e l' U=>rw[F5,←j,U]
   rw[←j,hst];intro x q;rw[j];exact UA.2 (.inr q)
  ·refine O ?_
   have :s.length<(Hr s (JX l s)).length:=by
    rcases XV s.length (Hr s (JX l s)).length with h|h
    ·exact h
    exact absurd (z.2 h) j
   simp only[G7]at hlen;omega
def aDZ (l:List AL) (ids:List Int):Inc (chainOf l ids):=(Fn1 l l _ (qW _ _) fun _ j=>(SS.1 j).1).1
def aix {l:List AL} {ids:List Int} {x:Int} (h:x∈chainOf l ids):bW l x=true:=(Fn1 l l _ (qW _ _) fun _ j=>(SS.1 j).1).2.1 x h
def aXx (l:List AL) (ids:List Int):∀(l':List AL) (s:List Int),(∀x∈s,Jy l ids x)→∀x∈l'.foldl (fun s _=>Hr s (JX l s)) s,Jy l ids x
 | [],s,h=>h
 |e::l',s,h=>by
  rw[F5];refine aXx l ids l' _ fun x j=>?_;rcases UA.1 j with j|j
  ·exact h x j
  obtain⟨q,y,u,z⟩:=SS.1 j;exact .more (h y u) z q
def Zb {l:List AL} {ids:List Int} {x:Int}:x∈chainOf l ids↔Jy l ids x:=by
 constructor
 ·refine aXx l ids l _ (fun x j=>?_) x;obtain⟨z,y,I,q⟩:=SS.1 j;exact .one (Lp.1 I).1 q z
 obtain⟨z,I,q,J⟩:=Fn1 l l _ (qW l (gG l ids)) fun _ j=>(SS.1 j).1
 have hlen:(Sl l).length≤(JX l (gG l ids)).length+l.length:=by
  have :=KJ (l.map (·.Id));unfold Sl;simp only[CG]at this;omega
 have L:=J hlen;intro h
 induction h with
 |one h j u=>exact q _ (SS.2 ⟨u,_,Lp.2 ⟨h,afD j⟩,j⟩)
 |more h j u M=>exact L _ (SS.2 ⟨u,_,M,j⟩)
def Zr (l:List AL) (ids:List Int):(chainOf l ids).length≤l.length:=by
 have j:=(uy (t:=Sl l) (aDZ l ids) (Jo _) fun x q=>xq (aix q)).1;have u:=KJ (l.map fun e:AL=>e.Id);unfold Sl at j;simp only[CG]at u;omega
def Qy (l:List AL):Prop:=∀e∈l,e.aZ.length≤40
def aBR {l:List AL} (h:Qy l) (id:Int):(iL l id).length≤40:=by
 unfold iL;cases j:Dw l id with
 |none=>rw[SN j];exact Du _
 |some e=>rw[Nl j];exact h e (I9 j)
def aml (l:List AL) (ids:List Int):(JX l ids).length≤l.length:=by
 have j:=(uy (t:=Sl l) (qW l ids) (Jo _) fun x q=>xq (SS.1 q).1).1;have u:=KJ (l.map fun e:AL=>e.Id);unfold Sl at j;simp only[CG]at u;omega
def lq {l:List AL} {r:List Int} (hi:Inc r) (h:∀x∈r,bW l x=true):r.length≤l.length:=by
 have j:=(uy (t:=Sl l) hi (Jo _) fun x q=>xq (h x q)).1;have u:=KJ (l.map fun e:AL=>e.Id);unfold Sl at j;simp only[CG]at u;omega
def aUZ (l:List AL) (ids:List Int) (hl:l.length≤1000) (ha:Qy l) (hi:ids.length≤100000):aFb l ids true=some (JX l ids):=by
 unfold aFb aXH;rw[Hu ids AA (fun r id=>(iL l id).foldl (UH l) r) (fun i r=>Inc r∧∀x∈r,bW l x=true) (fun r=>some r) ⟨.nil,fun x u=>by cases u⟩]
 ·rfl
 ·intro k r i h z;obtain⟨L,M,_⟩:=aCZ l (iL l ids[i]) r z.1;refine⟨⟨L,fun x u=>?_⟩,?_⟩
  ·rcases(M x).1 u with h|h
   ·exact z.2 x h
   exact h.2
  unfold aPP aIe;rw[Bo h,KR l _ AA];simp only[AO,Az];show aJm (iL l ids[i]) l k (i:Int) r 0=_;have O:=aBR ha ids[i];unfold aJm;rw[Hu (iL l ids[i]) AA (UH l) (fun _ r=>Inc r∧∀x∈r,bW l x=true) (fun r=>k r (Ai ((i:Int)+1))) z]
  ·intro k2 U j I q;refine⟨?_,?_⟩
   ·unfold UH;cases J:bW l (iL l ids[i])[j]with
    |true=>exact⟨Si q.1,fun x u=>(VW.1 u).elim (q.2 x) fun e=>e▸J⟩
    |false=>exact q
   unfold aOp aND;rw[Bo I,KR l _ AA];simp only[AO,NZ];show(bif bW l (iL l ids[i])[j]then _ else _)=_;unfold UH;cases J:bW l (iL l ids[i])[j]with
   |true=>
    simp only[Az];rw[Bd I];simp only[AO];have :=lq q.1 q.2;rw[dQ _ _ AA];rfl
   |false=>rfl
  intro k2 U _;unfold aOp;rw[DC]
 intro k r z;unfold aPP;rw[DC]
def afT (l:List AL) (ids:List Int) (hl:l.length≤1000) (ha:Qy l) (q:Inc ids) (u:∀x∈ids,bW l x=true):aIr l ids true=some (l.foldl (fun s _=>Hr s (JX l s)) ids):=by
 unfold aIr aRl;rw[Hu l AA (fun s _=>Hr s (JX l s)) (fun _ r=>Inc r∧∀x∈r,bW l x=true) (fun r=>some r) ⟨q,u⟩]
 ·intro k r i h j;refine⟨⟨qo _ _,fun x z=>(UA.1 z).elim (j.2 x) fun h=>(SS.1 h).1⟩,?_⟩;have I:=lq j.1 j.2;have J:=aml l r;unfold aP9;rw[dec_lt h];simp only[Az];rw[aUZ l r hl ha AA];simp only[AO];rw[aCN _ _ AA AA];rfl
 intro k r j;unfold aP9;rw[Ce];rfl
def aOY (l:List AL) (ids:List Int) (hl:l.length≤1000) (ha:Qy l) (hi:ids.length≤100000):gu l ids=some (chainOf l ids):=by
 unfold gu;have q:=agI l ids;rw[aiD l ids hl hi];simp only[AO];rw[aUZ l _ hl ha AA];simp only[AO];rw[afT l _ hl ha (qW _ _) fun x j=>(SS.1 j).1];rfl
section
variable {R A B C D E F G : Type} {Q : R → Prop}
def QU {body:(A→B→C→Option R)→A→B→C→Option R} (I:Nat→A→B→C→Prop) (hs:∀m a b c k,I m a b c→(∀j a' q u,j<m→I j a' q u→dL (k a' q u) Q)→dL (body k a b c) Q):
 ∀n m a b c,m<n→I m a b c→dL (ku body n a b c) Q
 |0,m,_,_,_,h,_=>AA
 |n+1,m,a,b,c,h,hi=>hs m a b c _ hi fun j a' q u h' z=>QU I hs n j a' q u AA z
def aNQ {body:(A→B→C→D→E→Option R)→A→B→C→D→E→Option R} (I:Nat→A→B→C→D→E→Prop) (hs:∀m a b c d e k,I m a b c d e→(∀j a' q u z e',j<m→I j a' q u z e'→dL (k a' q u z e') Q)→dL (body k a b c d e) Q):
 ∀n m a b c d e,m<n→I m a b c d e→dL (E8 body n a b c d e) Q
 |0,m,_,_,_,_,_,h,_=>AA
 |n+1,m,a,b,c,d,e,h,hi=>hs m a b c d e _ hi fun j a' q u z e' h' J=>aNQ I hs n j a' q u z e' AA J
def aMZ {body:(A→B→C→D→E→F→Option R)→A→B→C→D→E→F→Option R} (I:Nat→A→B→C→D→E→F→Prop) (hs:∀m a b c d e f k,I m a b c d e f→(∀j a' q u z e' J,j<m→I j a' q u z e' J→dL (k a' q u z e' J) Q)→dL (body k a b c d e f) Q):
 ∀n m a b c d e f,m<n→I m a b c d e f→dL (E9 body n a b c d e f) Q
 |0,m,_,_,_,_,_,_,h,_=>AA
 |n+1,m,a,b,c,d,e,f,h,hi=>hs m a b c d e f _ hi fun j a' q u z e' J h' L=>aMZ I hs n j a' q u z e' J AA L
def aXi {body:(A→B→C→D→E→F→G→Option R)→A→B→C→D→E→F→G→Option R} (I:Nat→A→B→C→D→E→F→G→Prop) (hs:∀m a b c d e f g k,I m a b c d e f g→(∀j a' q u z e' J L,j<m→I j a' q u z e' J L→dL (k a' q u z e' J L) Q)→dL (body k a b c d e f g) Q):
 ∀n m a b c d e f g,m<n→I m a b c d e f g→dL (aaA body n a b c d e f g) Q
 |0,m,_,_,_,_,_,_,_,h,_=>AA
 |n+1,m,a,b,c,d,e,f,g,h,hi=>hs m a b c d e f g _ hi fun j a' q u z e' J L h' M=>aXi I hs n j a' q u z e' J L AA M
end
def Qw {V:Type}:∀(m:List (Int×V)) (k k':Int) (v:V),CB (Ec m k v) k'=bif k'==k then some v else CB m k'
 | [],k,k',v=>by
   unfold Ec CB;rfl
 |p::m,k,k',v=>by
  unfold Ec;cases h:k==p.1 with
  |true=>
   have j:k=p.1:=JZ
   subst j;simp only[Az,CB];cases k'==p.1<;>rfl
  |false=>
   have j:k≠p.1:=JZ
   simp only[Aj,CB,Qw m k k' v];cases q:k'==p.1 with
   |true=>
    have u:k'=p.1:=MV
    subst u;have :(p.1==k)=false:=by simpa using fun e:p.1=k=>j e.symm
    rw[this];rfl
   |false=>rfl
def ZE (l:List AL) (m:List (Int×Int)):Prop:=∀id,(CB m id=none∧Dw l id=none)∨∃(n:Nat) (e:AL),CB m id=some (n:Int)∧Dw l id=some e∧l[n]? =some e
def ZE.isSome {l:List AL} {m:List (Int×Int)} (h:ZE l m) (id:Int):(CB m id).isSome=bW l id:=by
 unfold bW;rcases h id with⟨j,q⟩|⟨n,e,j,q,_⟩<;>rw[j,q]<;>rfl
def ZE.get {l:List AL} {m:List (Int×Int)} (h:ZE l m) {id:Int} {e:AL} (q:Dw l id=some e):Af l ((CB m id).getD 0)=some e:=by
 rcases h id with⟨_,j⟩|⟨n,e',u,j,z⟩
 ·rw[q]at j;cases j
 rw[q]at j;cases j;rw[u];show Af l (n:Int)=_;rw[aDf,z]
def oq (l:List AL) (hl:l.length≤1000):dL (Xd l) (ZE l):=by
 unfold Xd aYn
 refine Z8 (fun m a b=>∃i:Nat,a=(i:Int)-1∧m=i∧i≤l.length∧∀id,(CB b id=none∧(l.drop i).find? (fun e=>e.Id==id)=none)∨∃(n:Nat) (e:AL),CB b id=some (n:Int)∧(l.drop i).find? (fun e=>e.Id==id)=some e∧l[n]? =some e) ?_ Ag l.length _ _ (fuel_lt AA)
  ⟨l.length,QH,rfl,Dq _,fun id=>.inl ⟨rfl,BF⟩⟩
 rintro m a b k ⟨i,rfl,hm,hi,h⟩ z;unfold aTr;refine dL.bif (fun e=>?_) fun e=>?_
 ·have u:0<i:=by have :=Rk e;omega
  have j:i-1<l.length:=AA
  have I:(i:Int)-1=((i-1:Nat):Int):=AA
  rw[I,Bd j];simp only[AO];refine z (i-1) _ _ AA ⟨i-1,QH,rfl,AA,fun id=>?_⟩;rw[Qw,Kw j,show i-1+1=i by omega,OL];cases q:l[i-1].Id==id with
  |true=>
   have :(id==l[i-1].Id)=true:=by have :l[i-1].Id=id:=MV
                                  simp[this]
   rw[this];exact .inr ⟨i-1,l[i-1],rfl,rfl,by simp[j]⟩
  |false=>
   have :(id==l[i-1].Id)=false:=by have :l[i-1].Id≠id:=MV
                                   simpa using fun e:id=l[i-1].Id=>this e.symm
   rw[this];exact h id
 have J:i=0:=by have :=Je e;omega
 subst J;refine .ret fun id=>?_;have :=h id;rw[gU]at this;exact this
inductive V8 (l:List AL) (from_:List Int):Int→Prop
 |one {x:Int} (h:x∈from_) (hk:bW l x=true):V8 l from_ x
 |more {y x:Int} (h:V8 l from_ y) (hx:x∈iL l y) (hk:bW l x=true):V8 l from_ x
def V8.bW {l:List AL} {f:List Int} {x:Int} (h:V8 l f x):bW l x=true:=by cases h<;>assumption
def apJ {r:List Int} {x:Int} (h:x∉r):(put r x).length=r.length+1:=by
 unfold put;rw[CY (by rw[JY];exact h),EI,G7];have :=Aq List.length (nE (p:=(decide<| · <x)) (l:=r));rw[EI]at this;omega
def aS7 (r:List Int) (x:Int):EG (r++[x])=put (EG r) x:=by unfold EG;rw[TY];rfl
structure ajz (l:List AL) (from_ next axu:List Int) (i:Nat) (out later:List Int) (found level:List (Int×Bool)):Prop where
 found:∀x,(CB found x).getD false=true↔x∈out
 level:∀x,(CB level x).getD false=true→x∈out
 nodup:(EG out).length=out.length
 rch:∀x∈out,V8 l from_ x
 seen:∀x∈next.take i,bW l x=true→x∈out
 sub:∀x∈axu,x∈out
 ref:∀y∈out,y∈axu∨∀x∈iL l y,x∈later
 back:∀x∈later,∃y∈out,x∈iL l y
 size:later.length+40*axu.length≤40*out.length
 same:out.length=axu.length→later=[]
def aHV {l:List AL} {j:List Int} (h:(EG j).length=j.length) (q:∀x∈j,bW l x=true):j.length≤l.length:=by
 rw[←h];exact lq (Jo j) fun x u=>q x (IQ.1 u)
def aen (l:List AL) {x:Int} {e:AL} (h:Dw l x=some e):Xh e=some (iL l x):=by
 unfold Xh iL;rw[Nl h]
def aeo (l:List AL) (q:List Int) (hl:l.length≤1000) (ha:Qy l) (hf:q.length≤10000000):
 dL (qp l q fun a0=>Xh a0) (fun r=>Inc r∧∀x,x∈r↔V8 l q x):=by
 unfold qp;refine(oq l hl).bind fun at_ Z=>?_;unfold aWR
 refine aNQ (fun m z next at' found level=>at'=at_∧m=2*(l.length-z.length)+(if next=[]then 0 else 1)∧next.length≤10000000∧(∀x,(CB found x).getD false=true↔x∈z)∧(EG z).length=z.length∧
  (∀x∈z,V8 l q x)∧(∀x∈next,bW l x=true→V8 l q x)∧(∀x∈q,bW l x=true→x∈z∨x∈next)∧(∀y∈z,∀x∈iL l y,bW l x=true→x∈z∨x∈next)) ?_ Ag (2*(l.length-([]:List Int).length)+(if q=[]then 0 else 1)) _ _ _ _ _ ?_ ?_
 ·rintro m z next at2 found level k ⟨aGT,rfl,hn,h1,h2,h3,h4,h5,h6⟩ M;subst aGT;unfold aUJ;have hol:=aHV h2 fun x j=>(h3 x j).bW;refine dL.bif (fun e=>?_) fun e=>?_
  ·have hne:next≠[]:=by
    rintro rfl;simp at e
   unfold aYH;refine aMZ (body:=aMd next l (fun a0=>Xh a0) k) (fun(m:Nat) (o la:List Int) (c:Int) (d:List (Int×Int)) (fo le:List (Int×Bool))=>∃i:Nat,c=i∧i+m=next.length∧d=at2∧ajz l q next z i o la fo le) ?_ Ag next.length _ _ _ _ _ _ jO ?_
   ·rintro m o la c d fo le k2 ⟨i,rfl,hm,rfl,u⟩ U;unfold aMd;refine dL.bif (fun e=>?_) fun e=>?_
    ·have hi:i<next.length:=RY
     have w:=wrap_succ i AA;have aGU:=aHV u.nodup fun x j=>(u.rch x j).bW;rw[Bd hi];simp only[AO];rw[Z.isSome];unfold aC8;have J:next.take (i+1)=next.take i++[next[i]]:=by rw[Nw hi]
     cases Y:bW l next[i]with
     |false=>
      simp only[Io,Az,AO,w];refine U (m-1) _ _ _ _ _ _ AA ⟨i+1,rfl,AA,rfl,{ u with seen:=fun x j M=>?_ }⟩;rw[J,Hd]at j;rcases j with j|j
      ·exact u.seen x j M
      rw[IY.1 j,Y]at M;cases M
     |true=>
      simp only[EF,Aj,AO];by_cases O:next[i]∈o
      ·rw[(u.found next[i]).2 O];simp only[Az,AO,w];refine U (m-1) _ _ _ _ _ _ AA ⟨i+1,rfl,AA,rfl,{ u with seen:=fun x j M=>?_ }⟩;rw[J,Hd]at j;rcases j with j|j
       ·exact u.seen x j M
       rw[IY.1 j];exact O
      have f1:(CB fo next[i]).getD false=false:=by
       cases h:(CB fo next[i]).getD false with
       |false=>rfl
       |true=>exact absurd ((u.found _).1 h) O
      have f2:(CB le next[i]).getD false=false:=by
       cases h:(CB le next[i]).getD false with
       |false=>rfl
       |true=>exact absurd (u.level _ h) O
      rw[f1,f2];simp only[Aj,AO];obtain⟨ev,hev⟩:=SG.1 (show(Dw l next[i]).isSome=true from Y);rw[D6 Fa];simp only[AO];rw[Z.get hev];simp only[AO];rw[aen l hev];simp only[AO];have hau:=aBR ha next[i];have hsz:=u.size;rw[D6 AA];simp only[AO,w];refine U (m-1) _ _ _ _ _ _ AA ⟨i+1,rfl,AA,rfl,?_⟩;have hnx:V8 l q next[i]:=h4 _ (EJ hi) Y;refine⟨fun x=>?_,fun x j=>?_,?_,fun x j=>?_,fun x j M=>?_,fun x j=>aj _ (u.sub x j),fun y L=>?_,fun x j=>?_,?_,fun h=>?_⟩
      ·rw[Qw,Hd,IY];cases j:x==next[i]with
       |true=>simp only[Az,MK,true_iff];exact .inr WS
       |false=>simp only[Aj];rw[u.found x];exact⟨.inl,fun h=>h.elim id fun h=>by simp[h]at j⟩
      ·rw[Qw]at j;rw[Hd,IY];cases hxe:x==next[i]with
       |true=>exact .inr (by simpa using hxe)
       |false=>rw[hxe]at j;exact .inl (u.level x j)
      ·rw[aS7,apJ (fun h=>O (IQ.1 h)),u.nodup];simp
      ·rcases Hd.1 j with j|j
       ·exact u.rch x j
       rw[IY.1 j];exact hnx
      ·rw[J,Hd]at j;rcases j with j|j
       ·exact aj _ (u.seen x j M)
       exact jJ _ j
      ·rcases Hd.1 L with L|L
       ·exact(u.ref y L).imp id fun h x j=>aj _ (h x j)
       rw[IY.1 L];exact .inr fun x j=>jJ _ j
      ·rcases Hd.1 j with j|j
       ·obtain⟨y,L,h⟩:=u.back x j;exact⟨y,aj _ L,h⟩
       exact⟨next[i],jJ _ (IY.2 rfl),j⟩
      ·simp only[EI,O6];omega
      have :=u.size;simp only[EI,O6]at h;omega
    have hi:i=next.length:=by have :¬i<next.length:=RY
                              omega
    subst hi;have aGU:=aHV u.nodup fun x j=>(u.rch x j).bW;have hsz:=u.size;refine M (2*(l.length-o.length)+(if la=[]then 0 else 1)) _ _ _ _ _ ?_ ⟨rfl,rfl,AA,u.found,u.nodup,u.rch,fun x j I=>?_,fun x j I=>?_,fun y L x j I=>?_⟩
    ·rw[CY hne];have hle:z.length≤o.length:=AA
     rcases XV z.length o.length with h|h
     ·split<;>omega
     have :=u.same AA;rw[CS this];omega
    ·obtain⟨y,L,h⟩:=u.back x j;exact .more (u.rch y L) h I
    ·rcases h5 x j I with h|h
     ·exact .inl (u.sub x h)
     exact .inl (u.seen x (by rw[FV];exact h) I)
    rcases u.ref y L with h|h
    ·rcases h6 y h x j I with h|h
     ·exact .inl (u.sub x h)
     exact .inl (u.seen x (by rw[FV];exact h) I)
    exact .inr (h x j)
   exact⟨0,rfl,AA,rfl,⟨h1,fun x j=>by simp[CB]at j,h2,h3,fun x j=>wE,fun _ h=>h,fun y L=>.inl L,fun x j=>(Ei j).elim,BF,fun _=>rfl⟩⟩
  have hz:next=[]:=by
   cases next with
   |nil=>rfl
   |cons a b=>simp at e
  subst hz;rw[Xn z AA];refine .ret ⟨Jo _,fun x=>?_⟩;rw[IQ];refine⟨h3 x,fun h=>?_⟩
  induction h with
  |one h I=>exact(h5 _ h I).elim id fun h=>(Ei h).elim
  |more h j I ih=>exact(h6 _ ih _ j I).elim id fun h=>(Ei h).elim
 ·have :Ag=9223372036854775808:=rfl;split<;>(simp only[LY];omega)
 exact⟨rfl,rfl,hf,fun x=>by simp[CB],rfl,fun x j=>(Ei j).elim,fun x j M=>.one j M,fun x j _=>.inr j,fun y L=>(Ei L).elim⟩
def aMe (l:List AL) (ids:List Int) (hl:l.length≤1000) (ha:Qy l) (hi:ids.length≤100000):Yx l ids=some (chainOf l ids):=by
 refine dL.eq ?_;unfold Yx;refine(oq l hl).bind fun at_ q=>?_;unfold aQu;rw[Hu ids AA (fun r id=>r++iL l id) (fun i r=>r.length≤40*i) (fun r=>(qp l r fun a0=>Xh a0).bind fun J=>some J) BF]
 ·rw[foldl_append (iL l),II]
  have hlen:(ids.flatMap (iL l)).length≤40*ids.length:=by
   have key:∀ids:List Int,(ids.flatMap (iL l)).length≤40*ids.length:=by
    intro ids
    induction ids with
    |nil=>simp
    |cons x ids I=>have :=aBR ha x;rw[KO,EI,G7];omega
   exact key ids
  refine(aeo l _ hl ha AA).bind fun r L=>.ret ?_;refine Ak L.1 (aDZ l ids) fun x=>(L.2 x).trans (Iff.trans ?_ Zb.symm);constructor
  ·intro h
   induction h with
   |one h j=>
    obtain⟨i,hi,h⟩:=SI.1 h;exact .one hi h j
   |more h u j I=>exact .more I u j
  intro h
  induction h with
  |one h u j=>exact .one (SI.2 ⟨_,h,u⟩) j
  |more h u j I=>exact .more I u j
 ·intro k r i h O;have M:=aBR ha ids[i];refine⟨by simp only[EI];omega,?_⟩;unfold aIE aCz;rw[Bo h,q.isSome];cases j:bW l ids[i]with
  |false=>
   have :iL l ids[i]=[]:=by
    unfold iL;rw[SN (by unfold bW at j;simpa using j)];rfl
   rw[this,Oe];rfl
  |true=>
   obtain⟨ev,z⟩:=SG.1 (show(Dw l ids[i]).isSome=true from j);simp only[Az];rw[q.get z];simp only[AO];have :iL l ids[i]=ev.aZ:=by unfold iL;rw[Nl z]
   rw[←this,D6 AA];rfl
 intro k r _;unfold aIE;rw[DC]
def aO1 :∀x:List UInt8,Op.bytesLess x x=false
 | []=>rfl
 |a::x=>by
  unfold Op.bytesLess;rw[aO1 x];simp
def aRK :∀{x y z:List UInt8},Op.bytesLess x y=true→Op.bytesLess y z=true→Op.bytesLess x z=true
 |_,_,[],_,h=>aE5
 | [],_,_::_,_,_=>rfl
 |_::_,[],_::_,h,_=>aE5
 |a::x,b::y,c::z,h,k=>by
  simp only[Op.bytesLess,XJ,CW,Gg,Lm]at h k ⊢;rcases h with h|⟨rfl,h⟩<;>rcases k with k|⟨rfl,k⟩
  ·exact .inl (UInt8.lt_trans h k)
  ·exact .inl h
  ·exact .inl k
  exact .inr ⟨rfl,aRK h k⟩
def aUd :∀{x y:List UInt8},Op.bytesLess x y=false→Op.bytesLess y x=false→x=y
 | [],[],_,_=>rfl
 | [],_::_,h,_=>aE5
 |_::_,[],_,h=>aE5
 |a::x,b::y,h,k=>by
  simp only[Op.bytesLess,X4,fP,P8,Oz]at h k;have e:a=b:=UInt8.le_antisymm (UInt8.not_lt.1 k.1) (UInt8.not_lt.1 h.1);subst e;have j:=h.2.resolve_left (fun h=>h rfl);have k2:=k.2.resolve_left (fun h=>h rfl);rw[aUd j k2]
def FH (a b:Ah):Bool:=decide (a.Kind<b.Kind)||(a.Kind==b.Kind&&Op.bytesLess a.Key.toList b.Key.toList)
def El (a b:Ah):Bool:=a.Kind==b.Kind&&decide (a.Key=b.Key)
def aiJ (a:Ah):FH a a=false:=by unfold FH;rw[aO1];simp
def aV7 {a b c:Ah} (h:FH a b=true) (k:FH b c=true):FH a c=true:=by
 unfold FH at *;simp only[XJ,CW,Gg,Lm]at *;rcases h with h|⟨q,j⟩<;>rcases k with k|⟨u,k2⟩
 ·exact .inl AA
 ·exact .inl AA
 ·exact .inl AA
 exact .inr ⟨AA,aRK j k2⟩
def NQ {a b:Ah}:El a b=true↔a.Kind=b.Kind∧a.Key=b.Key:=by unfold El;simp
def aQS {a b:Ah} (h:FH a b=false) (k:FH b a=false):El a b=true:=by
 unfold FH at *;simp only[X4,fP,P8,Oz]at *;have e:a.Kind=b.Kind:=AA
 rw[NQ];exact⟨e,toList_inj (aUd (h.2.resolve_left fun n=>n e) (k.2.resolve_left fun n=>n e.symm))⟩
def dn {a b:Ah} (h:El a b=true):FH a b=false:=by
 obtain⟨j,q⟩:=NQ.1 h;unfold FH;rw[j,q,aO1];simp
def nH {a b c:Ah} (h:El a b=true):FH a c=FH b c∧FH c a=FH c b:=by
 obtain⟨j,q⟩:=NQ.1 h;unfold FH;rw[j,q];exact⟨rfl,rfl⟩
def apg (a b:Ah):yM a b=some (FH a b):=by
 unfold yM FH;cases j:decide (a.Kind<b.Kind)<;>cases q:a.Kind==b.Kind<;>rfl
def ahE (k:Int) (key:ByteArray) (m:Int) (o:ByteArray) (i j:Int):aNZ k key m o=some (FH ⟨k,key,i⟩ ⟨m,o,j⟩):=by
 unfold aNZ FH;cases q:decide (k<m)<;>cases u:k==m<;>simp_all
def Eb (s:List Ah) (e:Ah):Nat:=s.findIdx fun x=> !FH x e
def JD (s:List Ah) (e:Ah):Bool:=match s[Eb s e]? with
 |some x=>El x e
 |none=>false
def gq (s:List Ah) (e:Ah):Eb s e≤s.length:=iQ
def aW5 {s:List Ah} {e:Ah} (h:Eb s e<s.length):FH s[Eb s e] e=false:=by
 have :=aEB (w:=h);unfold Eb;simpa using this
def aVO (s:List Ah) (k:Int) (key:ByteArray) (hs:s.length≤1000000):vV s k key=some (((Eb s ⟨k,key,0⟩:Nat):Int),JD s ⟨k,key,0⟩):=by
 unfold vV aHL aag;generalize z:(⟨k,key,0⟩:Ah)=e
 have hp:bI (aEe s (fun a0=>yg a0 e) (fun a0=>yI a0 e)) Ag 0=some (((Eb s e:Nat):Int),JD s e):=by
  rw[Jc s (fuel_lt AA) (fun x=> !FH x e) (fun i=>some (((i:Nat):Int),match s[i]? with |some x=> !FH e x|none=>false)) (some (((s.length:Nat):Int),false))]
  ·split
   ·rename_i h;congr 2;unfold JD Eb;rw[D8 h];have q:FH s[s.findIdx fun x=> !FH x e] e=false:=aW5 h;show(!FH e s[s.findIdx fun x=> !FH x e])=El s[s.findIdx fun x=> !FH x e] e;cases j:FH e s[s.findIdx fun x=> !FH x e]with
    |false=>rw[aQS q j];rfl
    |true=>
     cases u:El s[s.findIdx fun x=> !FH x e] e with
     |false=>rfl
     |true=>rw[(nH u).2,aiJ]at j;cases j
   rename_i h;have h':Eb s e=s.length:=by have :=gq s e;unfold Eb at *;omega
   have j:JD s e=false:=by unfold JD;rw[h',Ib (Dq _)]
   rw[h',j]
  ·intro k2 i h;unfold aEe;rw[Bo h,Bo h];simp only[yg,yI,apg,AO];rw[D8 h];cases FH s[i] e<;>rfl
  intro k2;unfold aEe;rw[DC,DC];rfl
 rw[hp];rfl
def JB (s:List Ah):Prop:=s.Pairwise fun a b=>FH a b=true
def G8 (s:List Ah) (k:Int) (key:ByteArray):Int×Bool:=match s.find? fun x=>El x ⟨k,key,0⟩with
 |some x=>(x.Id,true)
 |none=>(0,false)
def aLE (s:List Ah) (k:Int) (key:ByteArray) (hs:s.length≤1000000):mO s k key=some (G8 s k key):=by
 unfold mO aVp;rw[Jc s (fuel_lt AA) (fun x=>El x ⟨k,key,0⟩) (fun i=>(Af s (i:Int)).bind fun j=>some (j.Id,true)) (some (0,false))]
 ·unfold G8;rw[KN];split
  ·rename_i h;rw[Bd h,D8 h];rfl
  rename_i h;rw[Ib AA]
 ·intro k2 i h;unfold aHj;rw[Bo h,Bd h];simp only[AO];unfold El;rw[Ie];cases s[i].Kind==k<;>rfl
 intro k2;unfold aHj;rw[DC]
def afu {s:List Ah} (h:JB s) (e:Ah):s.find? (fun x=>El x e)=match s[Eb s e]? with |some x=>if El x e then some x else none|none=>none:=by
 induction s with
 |nil=>rfl
 |cons a s q=>
  have h':=OC.1 h;unfold Eb;rw[OL,UF];cases hp:FH a e with
  |true=>
   have hs:El a e=false:=by
    cases hs:El a e with
    |false=>rfl
    |true=>rw[dn hs]at hp;cases hp
   rw[hs];simp only[EF,Aj,qc];exact q h'.2
  |false=>
   simp only[Io,Az,aDC];cases hs:El a e with
   |true=>rfl
   |false=>
    simp only[Qm,Jh];refine VU.2 fun x u z=>?_;have j:=h'.1 x u;rw[(nH z).2,hp]at j;cases j
def aGp (s:List Ah) (k:Int) (key:ByteArray) (hs:s.length≤1000000) (h:JB s):jr s k key=some (G8 s k key):=by
 unfold jr;rw[aVO s k key hs];simp only[AO];unfold G8 JD;rw[afu h];by_cases hl:Eb s ⟨k,key,0⟩<s.length
 ·rw[D8 hl];simp only;cases j:El s[Eb s ⟨k,key,0⟩] ⟨k,key,0⟩with
  |true=>simp only[Az,Jg];rw[Bd hl];rfl
  |false=>rfl
 rw[Ib AA];rfl
def Ey (s:List Ah) (k:Int) (key:ByteArray) (id:Int):List Ah:=
 s.take (Eb s ⟨k,key,0⟩)++⟨k,key,id⟩::s.drop (Eb s ⟨k,key,0⟩+bif JD s ⟨k,key,0⟩then 1 else 0)
def afy {s:List Ah} {e:Ah} (h:JD s e=true):Eb s e<s.length:=by
 unfold JD at h;by_cases hl:Eb s e<s.length
 ·exact hl
 rw[Ib AA]at h;cases h
def tu {α:Type} {l:List α} {i:Nat} (hi:i≤l.length):He l 0 (i:Int)=some (l.take i):=by
 have :=jq (l:=l) (lo:=0) (hi:=i) AA hi;simpa using this
def VI {α:Type} {l:List α} {i:Nat} (hi:i≤l.length):He l (i:Int) (l.length:Int)=some (l.drop i):=by
 rw[jq (l:=l) (lo:=i) (hi:=l.length) hi AA];congr 1;exact QB BF
def YE (s:List Ah) (k:Int) (key:ByteArray) (id:Int) (hs:s.length≤1000000):RN s k key id=some (Ey s k key id):=by
 unfold RN;rw[aVO s k key hs];simp only[AO];have hp:=gq s ⟨k,key,0⟩;unfold zT Ey;rw[tu hp];simp only[AO];rw[D6 Dh];simp only[AO,II];rw[D6 Dh];simp only[AO];cases j:JD s ⟨k,key,0⟩with
 |true=>
  have hl:=afy j;simp only[Az];rw[wrap_succ _ AA,VI hl];simp only[AO];rw[D6 Dh];simp
 |false=>
  simp only[Aj];rw[VI hp];simp only[AO];rw[D6 Dh];simp
def aIq (s:List Ah) (k:Int) (key:ByteArray) (id:Int) (hs:s.length≤1000000):iT s k key id=some (Ey s k key id):=by
 unfold iT aWT
 have j:∀(k2:Int→Option (List Ah)),bf k2 ((Eb s ⟨k,key,0⟩:Nat):Int) s k key id false=some (Ey s k key id):=by
  intro k2;have hp:=gq s ⟨k,key,0⟩;unfold bf aKO Ey;simp only[Aj];rw[tu hp];simp only[AO];rw[D6 Dh];simp only[AO,II];rw[D6 Dh];simp only[AO];by_cases hl:Eb s ⟨k,key,0⟩<s.length
  ·rw[dec_lt hl,Bd hl];simp only[Az,AO]
   have u:JD s ⟨k,key,0⟩=(s[Eb s ⟨k,key,0⟩].Kind==k&&decide (s[Eb s ⟨k,key,0⟩].Key=key)):=by
    unfold JD;rw[D8 hl];rfl
   rw[u,Ie,←Ty];cases z:s[Eb s ⟨k,key,0⟩].Kind==k with
   |false=>
    simp only[Aj,AO];rw[VI hp];simp only[AO];rw[D6 Dh];simp
   |true=>
    simp only[Az,AO];cases decide (s[Eb s ⟨k,key,0⟩].Key=key)with
    |true=>
     simp only[Az];rw[wrap_succ _ AA,VI hl];simp only[AO];rw[D6 Dh];simp
    |false=>
     simp only[Aj];rw[VI hp];simp only[AO];rw[D6 Dh];simp
  have q:Eb s ⟨k,key,0⟩=s.length:=AA
  have u:JD s ⟨k,key,0⟩=false:=by unfold JD;rw[q,Ib (Dq _)]
  rw[u,q,Ce];simp only[Aj,AO];rw[VI (Dq _)];simp only[AO];rw[D6 Dh];simp
 rw[Jc s (fuel_lt AA) (fun x=> !FH x ⟨k,key,0⟩) (fun i=>bf (fun _=>none) (i:Int) s k key id false) (bf (fun _=>none) (s.length:Int) s k key id false)]
 ·split
  ·exact j _
  rename_i h;have q:Eb s ⟨k,key,0⟩=s.length:=aRx
  have :=j fun _=>none;rw[q]at this;exact this
 ·intro k2 i h;unfold aLI;rw[dec_lt h,Bd h];simp only[Az,AO];rw[ahE _ _ _ _ s[i].Id 0];simp only[AO];show bf k2 _ s k key id (FH s[i] ⟨k,key,0⟩)=_;cases FH s[i] ⟨k,key,0⟩<;>rfl
 intro k2;unfold aLI;rw[Ce];rfl
def Pj (s:List Ah) (k:Int) (key:ByteArray) (id:Int):(Ey s k key id).length≤s.length+1:=by
 unfold Ey;have :=gq s ⟨k,key,0⟩;simp only[EI,G7,FD,IV];omega
def alZ {s:List Ah} {e x:Ah} (h:x∈s.take (Eb s e)):FH x e=true:=by
 obtain⟨i,hi,rfl⟩:=Fv h;have j:i<Eb s e:=by simp at hi;omega
 have :=aP7 j;rw[WJ];simpa using this
def aVA {s:List Ah} (hs:JB s) {e x:Ah} (h:x∈s.drop (Eb s e+bif JD s e then 1 else 0)):FH e x=true:=by
 generalize q:(Eb s e+bif JD s e then 1 else 0)=n at h;obtain⟨i,hi,rfl⟩:=Fv h;rw[Xv];rw[IV]at hi;by_cases hl:Eb s e<s.length
 ·have J:=aW5 hl;cases j:JD s e with
  |true=>
   rw[j]at q;simp only[Az]at q;have u:El s[Eb s e] e=true:=aV4
   rw[←(nH u).1];exact IW.1 hs _ _ hl AA AA
  |false=>
   rw[j]at q;simp only[Aj,Pq]at q;subst q;have u:El s[Eb s e] e=false:=aV4
   have z:FH e s[Eb s e]=true:=by
    cases h:FH e s[Eb s e]with
    |true=>rfl
    |false=>rw[aQS J h]at u;cases u
   rcases WT i with I|I
   ·subst I;simpa using z
   exact aV7 z (IW.1 hs _ _ hl AA AA)
 omega
def WA {s:List Ah} (h:JB s) (k:Int) (key:ByteArray) (id:Int):JB (Ey s k key id):=by
 have u:El ⟨k,key,id⟩ ⟨k,key,0⟩=true:=NQ.2 ⟨rfl,rfl⟩;unfold Ey JB;refine Ur.2 ⟨h.sublist (aOO ..),OC.2 ⟨fun x j=>?_,h.sublist (nN ..)⟩,fun x j y q=>?_⟩
 ·rw[(nH u).1];exact aVA h j
 have z:FH x ⟨k,key,0⟩=true:=alZ j;rcases EX.1 q with rfl|q
 ·rw[(nH u).2];exact z
 exact aV7 z (aVA h q)
structure O4 (l:List (List Ah)):Prop where
 len:l.length≤100
 each:∀s∈l,s.length≤100∧JB s
def J6 (l:List (List Ah)) (x:Ah):Bool:=l.all fun s=>(G8 s x.Kind x.Key).2&&(G8 s x.Kind x.Key).1==x.Id
def anN (l:List (List Ah)) (x:Ah) (h:O4 l):aDP l x=some (J6 l x):=by
 unfold aDP abO;rw[Gs l (fuel_lt aMn) (fun s=> !((G8 s x.Kind x.Key).2&&(G8 s x.Kind x.Key).1==x.Id)) false (some true)]
 ·unfold J6;rw[Jf,qB]
 ·intro k i hi;obtain⟨q,j⟩:=h.each l[i] (EJ hi);unfold aMS;rw[Bo hi,aGp _ _ _ AA j];simp only[AO];cases(G8 l[i] x.Kind x.Key).2<;>simp[bne]
 intro k;unfold aMS;rw[DC]
def agK (l:List (List Ah)) (x:Ah) (h:O4 l):aLZ l x=some (J6 l x):=by
 unfold aLZ aQ7;rw[Gs l (fuel_lt aMn) (fun s=> !((G8 s x.Kind x.Key).2&&(G8 s x.Kind x.Key).1==x.Id)) false (some true)]
 ·unfold J6;rw[Jf,qB]
 ·intro k i hi;obtain⟨j,q⟩:=h.each l[i] (EJ hi);unfold aLh;rw[Bo hi,aLE _ _ _ AA];simp only[AO];cases(G8 l[i] x.Kind x.Key).2<;>simp[bne]
 intro k;unfold aLh;rw[DC]
def Ho (l:List (List Ah)):List Ah:=match l with
 | []=>[]
 |s::_=>s.filter (J6 l)
def Pg (l:List (List Ah)):List Int:=(l.flatMap fun s=>s.filter fun x=> !J6 l x).map (·.Id)
def QZ (l:List (List Ah)) (i:Nat):List Ah:=if i=0 then[]else Ho l
def Ns (l:List (List Ah)) (i:Nat):List Int:=((l.take i).flatMap fun s=>s.filter fun x=> !J6 l x).map (·.Id)
def aUR {l:List (List Ah)} {i:Nat} (h:i<l.length):QZ l (i+1)=QZ l i++(if i=0 then l[i].filter (J6 l)else[]):=by
 unfold QZ Ho;cases l with
 |nil=>simp at h
 |cons s l=>cases i<;>simp
def aLu {l:List (List Ah)} {i:Nat} (h:i<l.length):Ns l (i+1)=Ns l i++(l[i].filter fun x=> !J6 l x).map (·.Id):=by
 unfold Ns;rw[Nw h,List.flatMap_append,KL];simp
def aGC (l:List (List Ah)):Ns l l.length=Pg l:=by unfold Ns Pg;rw[FV]
def aVo (l:List (List Ah)):QZ l l.length=Ho l:=by
 unfold QZ;cases l with
 |nil=>rfl
 |cons s l=>simp
def aMf {l:List (List Ah)} (h:O4 l) (i:Nat):(Ns l i).length≤100*i:=by
 induction i with
 |zero=>simp[Ns]
 |succ i j=>
  by_cases hi:i<l.length
  ·rw[aLu hi,EI,CG];have :=(h.each _ (EJ hi)).1;have :=JH (fun x=> !J6 l x) l[i];omega
  have :Ns l (i+1)=Ns l i:=by unfold Ns;rw[QB AA,QB AA]
  rw[this];omega
def aA6 {l:List (List Ah)} (h:O4 l):(Pg l).length≤10000:=by
 have :=aMf h l.length;rw[aGC]at this;have :=h.len;omega
def dZ {l:List (List Ah)} (h:O4 l):(Ho l).length≤100:=by
 unfold Ho;cases l with
 |nil=>exact Du _
 |cons s l=>exact Ed (JH _ _) (h.each s (EU ..)).1
def aQw {l:List (List Ah)} (h:O4 l):JB (Ho l):=by
 unfold Ho;cases l with
 |nil=>exact .nil
 |cons s l=>exact(h.each s (EU ..)).2.sublist Qp
def ab9 (l:List (List Ah)) (h:O4 l):uU l=some (Ho l,EG (Pg l)):=by
 have hlen:=h.len;refine dL.eq ?_;unfold uU aVi;refine aMZ (body:=aJ1 l) (fun(m:Nat) (a:List Ah) (b:List Int) (c:Int) (d:List (List Ah)) (_:List Ah) (_:List Int)=>∃i:Nat,c=i∧i+m=l.length∧d=l∧a=QZ l i∧b=Ns l i) ?_ Ag l.length [] [] 0 l [] [] (fuel_lt AA) ⟨0,rfl,AA,rfl,rfl,by simp[Ns]⟩;rintro m a b c d e f k ⟨i,rfl,hm,rfl,rfl,rfl⟩ U;unfold aJ1;refine dL.bif (fun hi=>?_) fun hi=>?_
 ·have hi:i<d.length:=G9
  have hs:=(h.each d[i] (EJ hi)).1;have Y:=aMf h i;rw[Bd hi];simp only[AO,vg];unfold aRz
  refine aXi (body:=aKH d[i] k (i:Int)) (fun(J:Nat) (a:List Ah) (b:List Int) (c:Int) (u:List (List Ah)) (_:List Ah) (_:List Int) (g:Int)=>
   ∃j:Nat,c=j∧j+J=d[i].length∧u=d∧g=i∧a=QZ d i++(if i=0 then(d[i].take j).filter (J6 d)else[])∧b=Ns d i++((d[i].take j).filter fun x=> !J6 d x).map (·.Id)) ?_ Ag d[i].length _ _ _ _ _ _ _ (fuel_lt AA) ⟨0,rfl,AA,rfl,rfl,BF,BF⟩
  rintro J a b c u e2 f2 g k2 ⟨j,rfl,Z,rfl,rfl,rfl,rfl⟩ I;unfold aKH;refine dL.bif (fun z=>?_) fun z=>?_
  ·have z:j<u[i].length:=Me
   have q:u[i].take (j+1)=u[i].take j++[u[i][j]]:=by rw[Nw z]
   rw[Bd z];simp only[AO];rw[anN u _ h];simp only[AO];have w:=wrap_succ j AA;have L:=JH (fun x=> !J6 u x) (u[i].take j);have M:=JH (J6 u) (u[i].take j)
   have hst:(QZ u i).length≤100:=by unfold QZ;split; ·exact Du _
                                    ·exact dZ h
   rw[FD]at L M;cases ha:J6 u u[i][j]with
   |false=>
    simp only[Io,Az];rw[D6 (by simp only[EI,CG,O6];omega)];simp only[AO,w];refine I (J-1) _ _ _ _ _ _ _ AA ⟨j+1,rfl,AA,rfl,rfl,?_,?_⟩
    ·rw[q,Ol];simp[ha]
    rw[q,Ol];simp[ha]
   |true=>
    simp only[EF,Aj];by_cases O:i=0
    ·subst O;simp only[show(((0:Nat):Int)==0)=true from rfl,Az,Jg];rw[D6 VF];simp only[AO,w];refine I (J-1) _ _ _ _ _ _ _ AA ⟨j+1,rfl,AA,rfl,rfl,?_,?_⟩
     ·rw[q,Ol];simp[ha]
     rw[q,Ol];simp[ha]
    have :((i:Int)==0)=false:=zO
    rw[this];simp only[Aj,w];refine I (J-1) _ _ _ _ _ _ _ AA ⟨j+1,rfl,AA,rfl,rfl,?_,?_⟩
    ·simp[O]
    rw[q,Ol];simp[ha]
  have z:j=u[i].length:=by have :¬j<u[i].length:=Me
                           omega
  subst z;rw[wrap_succ i AA,FV];exact U (m-1) _ _ _ _ _ _ AA ⟨i+1,rfl,AA,rfl,(aUR hi).symm,(aLu hi).symm⟩
 have hi:i=d.length:=by have :¬i<d.length:=G9
                        omega
 subst hi;have :=aA6 h;rw[aGC,aVo,Xn _ AA];exact .ret rfl
def aR7 (l:List (List Ah)) (h:O4 l):aCQ l=some (Ho l,EG (Pg l)):=by
 have hlen:=h.len;refine dL.eq ?_;unfold aCQ aac;refine QU (body:=aOL l) (fun(m:Nat) (a:List Ah) (b:List Int) (c:Int)=>∃i:Nat,c=i∧i+m=l.length∧a=QZ l i∧b=EG (Ns l i)) ?_ Ag l.length [] [] 0 (fuel_lt AA) ⟨0,rfl,AA,rfl,by simp[Ns,EG]⟩;rintro m a b c k ⟨i,rfl,hm,rfl,rfl⟩ U;unfold aOL;refine dL.bif (fun hi=>?_) fun hi=>?_
 ·have hi:i<l.length:=G9
  have hs:=(h.each l[i] (EJ hi)).1;have Y:=aMf h i;unfold aYB
  refine QU (body:=aHh l (i:Int) k) (fun(I:Nat) (a:List Ah) (b:List Int) (c:Int)=>
   ∃j:Nat,c=j∧j+I=l[i].length∧a=QZ l i++(if i=0 then(l[i].take j).filter (J6 l)else[])∧b=EG (Ns l i++((l[i].take j).filter fun x=> !J6 l x).map (·.Id))) ?_ Ag l[i].length _ _ _ (fuel_lt AA) ⟨0,rfl,AA,BF,BF⟩
  rintro I a b c k2 ⟨j,rfl,Z,rfl,rfl⟩ z;unfold aHh;rw[Bd hi];simp only[AO];refine dL.bif (fun u=>?_) fun u=>?_
  ·have u:j<l[i].length:=TP
   have q:l[i].take (j+1)=l[i].take j++[l[i][j]]:=by rw[Nw u]
   rw[Bd u];simp only[AO];rw[agK l _ h];simp only[AO];have w:=wrap_succ j AA;have J:=JH (fun x=> !J6 l x) (l[i].take j);have L:=JH (J6 l) (l[i].take j)
   have hst:(QZ l i).length≤100:=by unfold QZ;split; ·exact Du _
                                    ·exact dZ h
   have M:=KJ (Ns l i++((l[i].take j).filter fun x=> !J6 l x).map fun e:Ah=>e.Id);rw[EI,CG]at M;rw[FD]at J L;cases ha:J6 l l[i][j]with
   |false=>
    simp only[Io,Az];rw[dQ _ _ AA];unfold ug;simp only[AO,w];refine z (I-1) _ _ _ AA ⟨j+1,rfl,AA,?_,?_⟩
    ·rw[q,Ol];simp[ha]
    rw[q,Ol,KL,←Hw];simp only[ha,Ri,Io,Jg,List.filter_nil,Ip,List.map_nil];rw[aS7]
   |true=>
    simp only[EF,Aj];unfold ug;by_cases O:i=0
    ·subst O;simp only[show(((0:Nat):Int)==0)=true from rfl,Az,Jg,AO];rw[D6 VF];simp only[AO,w];refine z (I-1) _ _ _ AA ⟨j+1,rfl,AA,?_,?_⟩
     ·rw[q,Ol];simp[ha]
     rw[q,Ol];simp[ha]
    have :((i:Int)==0)=false:=zO
    rw[this];simp only[Aj,w];refine z (I-1) _ _ _ AA ⟨j+1,rfl,AA,?_,?_⟩
    ·simp[O]
    rw[q,Ol];simp[ha]
  have u:j=l[i].length:=by have :¬j<l[i].length:=TP
                           omega
  subst u;rw[wrap_succ i AA,FV];exact U (m-1) _ _ _ AA ⟨i+1,rfl,AA,(aUR hi).symm,by rw[←aLu hi]⟩
 have hi:i=l.length:=by have :¬i<l.length:=G9
                        omega
 subst hi;rw[aGC,aVo];exact .ret rfl
def Rq (s:List Ah):List Int:=s.map (·.Id)
def Ej (l:List AL) (s:List Ah):List Int:=Hr (Rq s) (chainOf l (Rq s))
def allOf (l:List AL) (aJ:List (List Ah)):List Int:=aJ.foldl (fun a s=>Hr a (Ej l s)) []
def Iu (l:List AL) (aJ:List (List Ah)) (x:Int):Nat:=aJ.countP fun s=>D9 (Ej l s) x
def OE (l:List AL) (aJ:List (List Ah)):List Int:=(allOf l aJ).filter fun x=>decide (Iu l aJ x<aJ.length)
def Iq (l:List AL) (aJ:List (List Ah)):List Int:=Hr (EG (Pg aJ)) (OE l aJ)
def aQf (l:List AL) (s:List Ah):Inc (Ej l s):=qo _ _
def aK5 (s:List Ah):(Rq s).length=s.length:=CG _
def pO (l:List AL) (s:List Ah):(Ej l s).length≤s.length+l.length:=by
 have j:=aGH (Rq s) (chainOf l (Rq s));have q:=Zr l (Rq s);rw[aK5]at j;unfold Ej;omega
def aKG (l:List AL):∀(aJ:List (List Ah)) (a:List Int),Inc a→Inc (aJ.foldl (fun a s=>Hr a (Ej l s)) a)∧∀x,x∈aJ.foldl (fun a s=>Hr a (Ej l s)) a↔x∈a∨∃s∈aJ,x∈Ej l s
 | [],a,h=>⟨h,fun x=>BF⟩
 |s::aJ,a,h=>by
  rw[F5];obtain⟨q,u⟩:=aKG l aJ (Hr a (Ej l s)) (qo _ _);refine⟨q,fun x=>(u x).trans ?_⟩;rw[UA];constructor
  ·rintro((h|h)|⟨t,j,h4⟩)
   ·exact .inl h
   ·exact .inr ⟨s,EU ..,h⟩
   exact .inr ⟨t,FB _ j,h4⟩
  rintro(h|⟨t,j,h4⟩)
  ·exact .inl (.inl h)
  rcases EX.1 j with rfl|j
  ·exact .inl (.inr h4)
  exact .inr ⟨t,j,h4⟩
def ai4 (l:List AL) (aJ:List (List Ah)):Inc (allOf l aJ):=(aKG l aJ [] .nil).1
def aaU {l:List AL} {aJ:List (List Ah)} {x:Int}:x∈allOf l aJ↔∃s∈aJ,x∈Ej l s:=by
 unfold allOf;rw[(aKG l aJ [] .nil).2 x];simp
def aod (l:List AL) (aJ:List (List Ah)):Inc (OE l aJ):=(ai4 l aJ).sublist Qp
def cnt_lt {l:List AL} {aJ:List (List Ah)} {x:Int}:Iu l aJ x<aJ.length↔∃s∈aJ,x∉Ej l s:=by
 unfold Iu;have h:=List.countP_le_length (p:=fun s=>D9 (Ej l s) x) (l:=aJ);have u:=List.countP_eq_length (p:=fun s=>D9 (Ej l s) x) (l:=aJ);constructor
 ·intro I;by_cases j:∀s∈aJ,D9 (Ej l s) x=true
  ·have :=u.2 j;omega
  simp only[Classical.not_forall]at j;obtain⟨s,hs,q⟩:=j;exact⟨s,hs,fun hm=>q (JY.2 hm)⟩
 rintro⟨s,hs,q⟩;rcases XV (aJ.countP fun s=>D9 (Ej l s) x) aJ.length with z|z
 ·exact z
 exact absurd (JY.1 (u.1 AA s hs)) q
def aWB {l:List AL} {aJ:List (List Ah)} {x:Int}:x∈OE l aJ↔(∃s∈aJ,x∈Ej l s)∧∃s∈aJ,x∉Ej l s:=by
 unfold OE;rw[FU,aaU,Gg,cnt_lt]
def aR8 {aJ:List (List Ah)} {x:Ah}:J6 aJ x=true↔∀s∈aJ,(G8 s x.Kind x.Key).2=true∧(G8 s x.Kind x.Key).1=x.Id:=by
 unfold J6;rw[DY];simp
def aF5 (l:List AL):∀(aJ:List (List Ah)) (a:List Int),(∀s∈aJ,s.length≤100)→(aJ.foldl (fun a s=>Hr a (Ej l s)) a).length≤a.length+aJ.length*(100+l.length)
 | [],a,_=>BF
 |s::aJ,a,h=>by
  rw[F5];have j:=aF5 l aJ (Hr a (Ej l s)) fun t ht=>h t (FB _ ht);have q:=aGH a (Ej l s);have u:=pO l s;have z:=h s (EU ..);rw[G7,VR];omega
def aQe {l:List AL} {aJ:List (List Ah)} (hs:O4 aJ) (hl:l.length≤1000):(OE l aJ).length≤110000:=by
 have j:=aF5 l aJ [] fun s h=>(hs.2 s h).1;have q:=hs.1;have u:=JH (fun x=>decide (Iu l aJ x<aJ.length)) (allOf l aJ);have z:aJ.length*(100+l.length)≤100*1100:=zC q AA;unfold OE;unfold allOf at u ⊢;simp only[LY]at j;omega
def ae0 {s:List Ah} (h:JB s) {x:Ah} (I:x∈s):G8 s x.Kind x.Key=(x.Id,true):=by
 unfold G8;cases z:s.find? (fun y=>El y ⟨x.Kind,x.Key,0⟩)with
 |none=>
  have :=VU.1 z x I;unfold El at this;simp at this
 |some y=>
  have J:=VP z;have O:=O7 z;have L:El y x=true:=by unfold El at J ⊢;exact J
  have :y=x:=by
   obtain⟨i,hi,rfl⟩:=Fv I;obtain⟨j,M,rfl⟩:=Fv O;rcases jH i j with q|q|q
   ·have u:=IW.1 h i j hi M q;have U:El s[i] s[j]=true:=by obtain⟨a,b⟩:=NQ.1 L;exact NQ.2 ⟨a.symm,b.symm⟩
    rw[dn U]at u;cases u
   ·subst q;rfl
   have u:=IW.1 h j i M hi q;rw[dn L]at u;cases u
  rw[this]
def aIo {s:List Ah} {k:Int} {key:ByteArray} {n:Int} (h:G8 s k key=(n,true)):(⟨k,key,n⟩:Ah)∈s:=by
 unfold G8 at h;cases j:s.find? (fun y=>El y ⟨k,key,0⟩)with
 |none=>rw[j]at h;cases h
 |some y=>
  rw[j]at h;have u:El y ⟨k,key,0⟩=true:=by have :=VP j;exact this
  have q:=NQ.1 u;have z:=O7 j;obtain⟨a,b,c⟩:=y;cases h;simp only at q;rw[←q.1,←q.2];exact z
def afX {aJ:List (List Ah)} {x:Ah} (j:J6 aJ x=true) {s:List Ah} (hs:s∈aJ):x∈s:=by
 obtain⟨q,u⟩:=aR8.1 j s hs;exact aIo (s:=s) (k:=x.Kind) (key:=x.Key) (n:=x.Id) (by rw[←q,←u])
def akw {aJ:List (List Ah)} (h:O4 aJ) {x:Ah} (j:∀s∈aJ,x∈s):J6 aJ x=true:=
 aR8.2 fun s hs=>by rw[ae0 (h.2 s hs).2 (j s hs)];exact⟨rfl,rfl⟩
def aUC {aJ:List (List Ah)} (h:O4 aJ) (q:aJ≠[]) {x:Ah}:x∈Ho aJ↔∀s∈aJ,x∈s:=by
 cases aJ with
 |nil=>exact absurd rfl q
 |cons s aJ=>
  show x∈s.filter (J6 (s::aJ))↔_;rw[FU];exact⟨fun j t ht=>afX j.2 ht,fun j=>⟨j s (EU ..),akw h j⟩⟩
def aXz (l:List Int) (h:l.length≤1099511627776):((Ls l).bind fun x=>(WM x).bind fun y=>some y)=some (EG l):=by
 unfold Ls WM;have j:(Q8 l).length≤1099511627776:=by rw[(Ti l).length_eq];exact h
 simp[h,aNI,aID]
def aYK (s:List Ah):s.foldl (fun r x=>r++[x.Id]) []=Rq s:=by
 rw[foldl_append (fun x:Ah=>[x.Id])];unfold Rq;rw[II]
 induction s with
 |nil=>rfl
 |cons x s j=>rw[KO,j];rfl
def acN (l:List AL) (s:List Ah) (hl:l.length≤1000) (ha:Qy l) (hs:s.length≤100):aAz l s=some (Ej l s):=by
 unfold aAz
 have hm:Ia 8 (0:Int) 0 (s.length:Int)=some []:=by
  unfold Ia;rw[CS aCv];rfl
 rw[hm];simp only[AO];unfold aQd;rw[Hu s AA (fun r x=>r++[x.Id]) (fun i r=>r.length≤i) (fun r=>(Yx l r).bind fun u=>(C9 8 r u).bind fun z=>(Ls z).bind fun j=>(WM j).bind fun q=>some q) BF]
 ·have J:=Zr l (Rq s);have L:=aK5 s;rw[aYK,aMe l _ hl ha AA];simp only[AO];rw[D6 AA];simp only[AO];rw[aXz _ KU];unfold Ej;rw[vN]
 ·intro k a i h I;refine⟨aEd,?_⟩;unfold aLp;rw[Bo h,D6 Fa];rfl
 intro k a I;unfold aLp;rw[DC]
def ap4 (l:List AL) (s:List Ah) (hl:l.length≤1000) (ha:Qy l) (hs:s.length≤100):aP6 l s=some (Ej l s):=by
 unfold aP6 aVB;rw[Hu s AA (fun r x=>r++[x.Id]) (fun i r=>r.length≤i) (fun r=>(gu l r).bind fun j=>(cZ r j).bind fun q=>some q) BF]
 ·have z:=Zr l (Rq s);have I:=aK5 s;rw[aYK,aOY l _ hl ha AA];simp only[AO];rw[aCN _ _ AA AA];rfl
 ·intro k a i h u;refine⟨aEd,?_⟩;unfold aKn;rw[dec_lt h,Bd h];simp only[Az,AO];rw[D6 Fa];rfl
 intro k a u;unfold aKn;rw[Ce];rfl
def stepM (m:List (Int×Int)) (x:Int):List (Int×Int):=Ec m x (Ai (((CB m x).getD 0)+1))
structure Lr (m:List (Int×Int)) (f:Int→Nat):Prop where
 nodup:(m.map (·.1)).Nodup
 find:∀x,CB m x=if f x=0 then none else some (f x:Int)
def ak1 {m:List (Int×Int)} {k v y:Int}:y∈(Ec m k v).map (·.1)↔y=k∨y∈m.map (·.1):=by
 induction m with
 |nil=>simp[Ec]
 |cons p m j=>
  unfold Ec;cases h:k==p.1 with
  |true=>
   have q:k=p.1:=JZ
   simp only[Az,Ip,EX];rw[q];simp
  |false=>
   simp only[Aj,Ip,EX,j];exact⟨fun h=>h.elim (fun e=>.inr (.inl e)) fun h=>h.elim .inl fun h=>.inr (.inr h),fun h=>h.elim (fun e=>.inr (.inl e)) fun h=>h.elim .inl fun h=>.inr (.inr h)⟩
def adp {m:List (Int×Int)} {k v:Int} (h:(m.map (·.1)).Nodup):((Ec m k v).map (·.1)).Nodup:=by
 induction m with
 |nil=>simp[Ec]
 |cons p m u=>
  have h':=Kr.1 h;unfold Ec;cases q:k==p.1 with
  |true=>
   have j:k=p.1:=MV
   simp only[Az,Ip];rw[j];exact h
  |false=>
   have j:k≠p.1:=MV
   simp only[Aj,Ip];refine Kr.2 ⟨fun hm=>?_,u h'.2⟩;rcases ak1.1 hm with e|hm
   ·exact j e.symm
   exact h'.1 hm
def acf (m:List (Int×Int)) (k v:Int):(Ec m k v).length≤m.length+1:=by
 induction m with
 |nil=>simp[Ec]
 |cons p m j=>
  unfold Ec;cases k==p.1 with
  |true=>simp
  |false=>simp only[Aj,G7];omega
def Lr.step {m:List (Int×Int)} {f:Int→Nat} (h:Lr m f) (x:Int) (u:f x≤1000000):Lr (stepM m x) (fun y=>f y+if y=x then 1 else 0):=by
 refine⟨adp h.nodup,fun y=>?_⟩;unfold stepM;rw[Qw,h.find x]
 have e:Ai (((if f x=0 then none else some (f x:Int)).getD 0)+1)=((f x+1:Nat):Int):=by
  by_cases j:f x=0
  ·rw[CS j,j];rfl
  rw[CY j];show Ai ((f x:Int)+1)=_;exact wrap_succ _ AA
 by_cases q:y=x
 ·subst q;simp only[KI,Az,Jg];rw[e,CY AA]
 have :(y==x)=false:=MV
 rw[this];simp only[Aj,CY q,Pq];exact h.find y
def Lr.fold:∀(c:List Int) {m:List (Int×Int)} {f:Int→Nat},c.Nodup→Lr m f→(∀x,f x≤1000)→Lr (c.foldl stepM m) (fun y=>f y+if y∈c then 1 else 0)
 | [],m,f,_,h,_=>by
   refine⟨h.nodup,fun x=>?_⟩;simp only[List.foldl_nil,Ei,Jh,Pq];exact h.find x
 |x::c,m,f,q,h,M=>by
  have j:=Kr.1 q
  have key:∀(c:List Int) (m:List (Int×Int)) (g:Int→Nat),c.Nodup→Lr m g→(∀x∈c,g x≤1000)→Lr (c.foldl stepM m) (fun y=>g y+if y∈c then 1 else 0):=by
   intro c
   induction c with
   |nil=>intro m g _ h _;refine⟨h.nodup,fun x=>?_⟩;simp only[List.foldl_nil,Ei,Jh,Pq];exact h.find x
   |cons z c O=>
    intro m g q h I;have j:=Kr.1 q
    have J:=O (stepM m z) (fun y=>g y+if y=z then 1 else 0) j.2 (h.step z (by have :=I z (EU ..);omega)) fun y L=>by
     have u:y≠z:=fun e=>j.1 (e▸L);simp only[CY u,Pq];exact I y (FB _ L)
    refine⟨J.nodup,fun y=>?_⟩;rw[F5,J.find y]
    have :(g y+if y=z then 1 else 0)+(if y∈c then 1 else 0)=g y+if y∈z::c then 1 else 0:=by
     by_cases e:y=z
     ·subst e;simp[j.1]
     simp[e]
    simp only[this]
  exact key (x::c) m f q h fun y _=>M y
def aPf :∀(c:List Int) (m:List (Int×Int)),(c.foldl stepM m).length≤m.length+c.length
 | [],m=>BF
 |x::c,m=>by
  have j:=aPf c (stepM m x);have q:=acf m x (Ai (((CB m x).getD 0)+1));rw[F5,G7];unfold stepM at j ⊢;omega
def Tn {l:List Int} (h:Inc l):l.Nodup:=h.imp fun h=>AA
def Lr.mem {m:List (Int×Int)} {f:Int→Nat} (h:Lr m f) {x n:Int}:(x,n)∈m↔f x≠0∧n=f x:=by
 have key:∀m:List (Int×Int),(m.map (·.1)).Nodup→((x,n)∈m↔CB m x=some n):=by
  intro m
  induction m with
  |nil=>intro _;simp[CB]
  |cons p m I=>
   intro J;have j:=Kr.1 J;unfold CB;rw[EX];cases z:x==p.1 with
   |true=>
    have q:x=p.1:=Me
    simp only[Az,LQ];constructor
    ·rintro(e|hm)
     ·rw[←e]
     exact absurd (E5.2 ⟨_,hm,q⟩) j.1
    intro e;left;rw[q,←e]
   |false=>
    have q:x≠p.1:=Me
    simp only[Aj];rw[←I j.2];exact⟨fun h=>h.elim (fun e=>absurd (by rw[←e]) q) id,.inr⟩
 rw[key m h.nodup,h.find x];by_cases u:f x=0
 ·simp[u]
 rw[CY u];simp only[LQ,ne_eq,u,not_false_eq_true,true_and];exact eq_comm
def aYy {l:List Int} (h:l.Nodup):Q8 l=EG l:=by
 refine Ak ?_ (Jo l) fun x=>by rw[IQ];exact(Ti l).mem_iff
 have j:=yJ l;have q:(Q8 l).Nodup:=(Ti l).nodup_iff.2 h;exact(j.and q).imp fun h=>AA
def aOI (n:Int):∀(m:List (Int×Int)) (r:List Int) (aJ:List (List Ah)),(aJ.length:Int)=n→r.length+m.length≤1000000→List.foldlM (XK aJ) r m=some (r++(m.filter fun p=>decide (p.2<n)).map (·.1))
 | [],r,aJ,_,_=>BF
 |p::m,r,aJ,hs,q=>by
  simp only[G7]at q;have e:XK aJ r p=(bif decide (p.2<n)then(C9 8 r [p.1]).bind fun j=>some j else some r):=by unfold XK;rw[hs]
  rw[V3,e];cases hd:decide (p.2<n)with
  |true=>
   simp only[Az];rw[D6 Fa];simp only[AO];show List.foldlM (XK aJ) (r++[p.1]) m=_;rw[aOI n m (r++[p.1]) aJ hs VF,Ri,CS hd];simp
  |false=>
   simp only[Aj];show List.foldlM (XK aJ) r m=_;rw[aOI n m r aJ hs AA,Ri,CY (by simp[hd])]
def aXL (l:List AL) (aJ:List (List Ah)) (x:Int):Iu l aJ x≤aJ.length:=List.countP_le_length
def Lr.of_eq {m:List (Int×Int)} {f g:Int→Nat} (h:Lr m f) (e:∀x,f x=g x):Lr m g:=⟨h.nodup,fun x=>by rw[h.find,e]⟩
def aoG (l:List AL) (aJ:List (List Ah)) (hl:l.length≤1000) (ha:Qy l) (hs:O4 aJ):qx l aJ=some (OE l aJ):=by
 unfold qx aSt;have hsl:=hs.len;rw[gQ (a0:=[]) aJ AA (fun m s=>(Ej l s).foldl stepM m) (fun i m=>Lr m (Iu l (aJ.take i))∧m.length≤1100*i) (fun v2=>(Ia 8 (0:Int) 0 (v2.length:Int)).bind fun L=>(List.foldlM (XK aJ) L v2).bind lK) ⟨⟨aP,fun x=>rfl⟩,Du _⟩]
 ·obtain⟨J,hlen⟩:Lr (aJ.foldl (fun m s=>(Ej l s).foldl stepM m) []) (Iu l aJ)∧(aJ.foldl (fun m s=>(Ej l s).foldl stepM m) []).length≤1100*aJ.length:=by
   have key:∀(b a:List (List Ah)) (m:List (Int×Int)),(∀s∈b,s.length≤100)→a.length+b.length≤100→Lr m (Iu l a)→m.length≤1100*a.length→Lr (b.foldl (fun m s=>(Ej l s).foldl stepM m) m) (Iu l (a++b))∧(b.foldl (fun m s=>(Ej l s).foldl stepM m) m).length≤1100*(a.length+b.length):=by
    intro b
    induction b with
    |nil=>intro a m _ _ z I;simpa using⟨z,I⟩
    |cons s b ih=>
     intro a m hb M z I;rw[F5,List.append_cons];have hc:=pO l s;have q:=hb s (EU ..);have O:=aPf (Ej l s) m;simp only[G7]at M ⊢;have :=ih (a++[s]) ((Ej l s).foldl stepM m) (fun t ht=>hb t (FB _ ht)) VF ?_ VF
     ·simpa[Rx,VO 1]using this
     refine(Lr.fold (Ej l s) (Tn (aQf l s)) z fun x=>by have :=aXL l a x;omega).of_eq fun x=>?_;unfold Iu;rw[List.countP_append,List.countP_singleton];by_cases u:x∈Ej l s
     ·rw[CS u,CS (JY.2 u)]
     rw[CY u,CY (by rw[OO.2 u];simp)]
   have :=key aJ [] [] (fun s h=>(hs.each s h).1) (by simpa using hs.len) ⟨aP,fun x=>rfl⟩ (Du _);simpa using this
  generalize aJ.foldl (fun m s=>(Ej l s).foldl stepM m) []=m at J hlen
  have hm:Ia 8 (0:Int) 0 (m.length:Int)=some []:=by
   unfold Ia;rw[CS aCv];rfl
  rw[hm];simp only[AO];rw[aOI (aJ.length:Int) m [] aJ rfl UE];simp only[AO,II];have U:((m.filter fun p=>decide (p.2<(aJ.length:Int))).map (·.1)).Nodup:=J.nodup.sublist (Qp.map _);have hle:((m.filter fun p=>decide (p.2<(aJ.length:Int))).map (·.1)).length≤m.length:=by rw[CG];exact JH _ _
  unfold lK Ls;rw[CS AA];simp only[AO];congr 1;rw[aYy U];refine Ak (Jo _) (aod _ _) fun x=>?_;rw[IQ,E5];unfold OE;rw[FU,aaU];constructor
  ·rintro⟨⟨y,n⟩,hp,rfl⟩;rw[FU]at hp;obtain⟨z,I⟩:=J.mem.1 hp.1;have O:n<(aJ.length:Int):=by simpa using hp.2
   subst I;refine⟨?_,Dh⟩;have :0<Iu l aJ y:=AA
   obtain⟨s,Y,Z⟩:=List.countP_pos_iff.1 this;exact⟨s,Y,JY.1 Z⟩
  rintro⟨⟨s,z,I⟩,O⟩;have h4:0<Iu l aJ x:=List.countP_pos_iff.2 ⟨s,z,JY.2 I⟩;refine⟨(x,(Iu l aJ x:Int)),FU.2 ⟨J.mem.2 ⟨AA,rfl⟩,?_⟩,rfl⟩;have h5:Iu l aJ x<aJ.length:=zO
  simp;omega
 ·intro k m i h hI;have hc:=pO l aJ[i];have q:=(hs.each aJ[i] (EJ h)).1;refine⟨⟨?_,?_⟩,?_⟩
  ·refine(Lr.fold (Ej l aJ[i]) (Tn (aQf l aJ[i])) hI.1 fun x=>by have :=aXL l (aJ.take i) x;rw[FD]at this;omega).of_eq fun x=>?_;rw[Nw h];unfold Iu;rw[List.countP_append,List.countP_singleton];by_cases u:x∈Ej l aJ[i]
   ·rw[CS u,CS (JY.2 u)]
   rw[CY u,CY (by rw[OO.2 u];simp)]
  ·have :=aPf (Ej l aJ[i]) m;have :=hI.2;omega
  unfold aDo;rw[Bo h,acN l _ hl ha q];simp only[AO];unfold aSY;rw[gQ (Ej l aJ[i]) AA stepM (fun _ _=>True) (fun v8=>k (Ai ((i:Int)+1)) v8) trivial]
  ·intro k2 a j hj _;refine⟨trivial,?_⟩;unfold aBe;rw[Bo hj];rfl
  intro k2 a _;unfold aBe;rw[DC]
 intro k m hI;unfold aDo;rw[DC]
def adi {R A B α:Type} {body:(A→B→Int→Option R)→A→B→Int→Option R} (l:List α) (hl:l.length≤1099511627776) (f:A→B→α→A) (g:A→B→α→B) (I:Nat→A→B→Prop) (j:A→B→Option R) {Q:R→Prop} {a0:A} {q:B} (u:I 0 a0 q)
 (z:∀k a b (i:Nat) (h:i<l.length),I i a b→I (i+1) (f a b l[i]) (g a b l[i])∧body k a b (i:Int)=k (f a b l[i]) (g a b l[i]) (Ai ((i:Int)+1)))
 (J:∀k a b,I l.length a b→body k a b (l.length:Int)=j a b) (L:∀a b,I l.length a b→dL (j a b) Q):dL (ku body Ag a0 q 0) Q:=by
 refine QU (body:=body) (Q:=Q) (fun m a b c=>∃i:Nat,c=i∧i+m=l.length∧I i a b) ?_ Ag l.length a0 q 0 (fuel_lt hl) ⟨0,rfl,AA,u⟩;rintro m a b c k ⟨i,rfl,hm,hi⟩ M;by_cases e:i<l.length
 ·obtain⟨O,U⟩:=z k a b i e hi;rw[U,wrap_succ i AA];exact M (m-1) _ _ _ AA ⟨i+1,rfl,AA,O⟩
 have :i=l.length:=AA
 subst this;rw[J _ _ _ hi];exact L a b hi
def aI2 (x:Int):∀(cs:List (List Int)) (n:Nat),n+cs.length≤1000000→cs.foldl (fun(n:Int) c=>bif D9 c x then Ai (n+1)else n) (n:Int)=((n+cs.countP (fun c=>D9 c x):Nat):Int)
 | [],n,_=>BF
 |c::cs,n,h=>by
  rw[G7]at h;rw[F5,List.countP_cons];cases j:D9 c x with
  |true=>
   simp only[Az,Jg];rw[wrap_succ n AA,aI2 x cs (n+1) AA];congr 1;omega
  |false=>
   simp only[Aj,Qm,Jh,Pq];exact aI2 x cs n AA
def amc (l:List AL) (aJ:List (List Ah)) (hl:l.length≤1000) (ha:Qy l) (hs:O4 aJ):aKQ l aJ=some (OE l aJ):=by
 refine dL.eq ?_;unfold aKQ aRX;have M:=hs.len
 have z:∀i,(allOf l (aJ.take i)).length≤1100*i:=by
  intro i;have O:=aF5 l (aJ.take i) [] fun s h=>(hs.each s (YC h)).1;rw[FD,LY]at O;have h2:min i aJ.length*(100+l.length)≤i*1100:=zC (aKV _ _) AA;unfold allOf;omega
 refine adi aJ AA (fun a _ s=>a++[Ej l s]) (fun _ b s=>Hr b (Ej l s)) (fun i a b=>a=(aJ.take i).map (Ej l)∧b=allOf l (aJ.take i)) (fun a b=>aMi b a [] 0) ⟨rfl,rfl⟩ ?_ ?_ ?_
 ·rintro k a b i h ⟨rfl,rfl⟩;have U:=pO l aJ[i];have q:=(hs.each aJ[i] (EJ h)).1;have u:aJ.take (i+1)=aJ.take i++[aJ[i]]:=Nw h;refine⟨⟨by rw[u,KL];rfl,by rw[u];unfold allOf;rw[TY];rfl⟩,?_⟩;unfold aIG;rw[dec_lt h,Bd h];simp only[Az,AO];rw[ap4 l _ hl ha q];simp only[AO];rw[D6 (by simp only[CG,FD,O6];omega)];simp only[AO];have :=z i;rw[aCN _ _ AA AA];rfl
 ·rintro k a b ⟨rfl,rfl⟩;unfold aIG;rw[Ce];rfl
 rintro a b ⟨rfl,rfl⟩;rw[FV];refine dL.of ?_;have Y:=z aJ.length;rw[FV]at Y;unfold aMi;rw[Hu (allOf l aJ) AA (fun r x=>bif decide (Iu l aJ x<aJ.length)then r++[x]else r) (fun i r=>r.length≤i) (fun r=>some r) (Dq _)]
 ·congr 1;unfold OE
  have key:∀(S r:List Int),S.foldl (fun r x=>bif decide (Iu l aJ x<aJ.length)then r++[x]else r) r=r++S.filter (fun x=>decide (Iu l aJ x<aJ.length)):=by
   intro S
   induction S with
   |nil=>intro r;simp
   |cons x S Z=>
    intro r;rw[F5,Z,Ri];cases decide (Iu l aJ x<aJ.length)<;>simp
  simpa using key (allOf l aJ) []
 ·intro k r i h hI;refine⟨?_,?_⟩
  ·cases decide (Iu l aJ (allOf l aJ)[i]<aJ.length)with
   |false=>show r.length≤i+1;omega
   |true=>show(r++[(allOf l aJ)[i]]).length≤i+1;simp;omega
  unfold aIi;rw[dec_lt h];simp only[Az];unfold aWK
  rw[Hu (aJ.map (Ej l)) VT (fun(n:Int) c=>bif D9 c (allOf l aJ)[i]then Ai (n+1)else n) (fun _ _=>True)
   (fun n=>bif decide (n<((aJ.map (Ej l)).length:Int))then k (r++[(allOf l aJ)[i]]) (Ai ((i:Int)+1))else k r (Ai ((i:Int)+1))) trivial]
  ·have I:=aI2 (allOf l aJ)[i] (aJ.map (Ej l)) 0 VT;rw[show((0:Nat):Int)=0 from rfl]at I;rw[I,List.countP_map,CG,JJ]
   have e:decide (((aJ.countP ((fun c=>D9 c (allOf l aJ)[i])∘Ej l):Nat):Int)<(aJ.length:Int))=decide (Iu l aJ (allOf l aJ)[i]<aJ.length):=by
    unfold Iu;rw[jf];exact Int.ofNat_lt
   rw[e];cases decide (Iu l aJ (allOf l aJ)[i]<aJ.length)<;>rfl
  ·intro k2 n j J _;refine⟨trivial,?_⟩;have L:j<aJ.length:=by rw[CG]at J;exact J
   have U:=pO l aJ[j];have q:=(hs.each aJ[j] (EJ L)).1;unfold aMb;rw[dec_lt J,Bd J,Bd h];simp only[Az,AO];rw[Wv _ _ (by rw[Og];omega)];simp only[AO];cases D9 (aJ.map (Ej l))[j] (allOf l aJ)[i]<;>rfl
  intro k2 n _;unfold aMb;rw[Ce];simp only[Aj];rw[Bd h];simp only[AO];rw[D6 Fa];cases decide (n<((aJ.map (Ej l)).length:Int))<;>rfl
 intro k r _;unfold aIi;rw[Ce];rfl
def ajI (l:List AL) (aJ:List (List Ah)) (hl:l.length≤1000) (ha:Qy l) (hs:O4 aJ):aBF l aJ=some (Iq l aJ):=by
 have j:=aA6 hs;have q:=KJ (Pg aJ);have u:=aQe hs hl;unfold aBF;rw[ab9 aJ hs,aoG l aJ hl ha hs];simp only[AO];rw[D6 AA];simp only[AO];rw[aXz _ KU];unfold Iq;rw[vN]
def abZ (l:List AL) (aJ:List (List Ah)) (hl:l.length≤1000) (ha:Qy l) (hs:O4 aJ):aMA l aJ=some (Iq l aJ):=by
 have j:=aA6 hs;have q:=KJ (Pg aJ);have u:=aQe hs hl;unfold aMA;rw[aR7 aJ hs,amc l aJ hl ha hs];simp only[AO];rw[aCN _ _ AA AA];rfl
def D5 (l:List AL):Prop:=∀e∈l,Ea e
def D5.ajT {l:List AL} (h:D5 l):Qy l:=fun e j=>(h e j).auth
def aOX {R A α:Type} {body:(A→Int→Option R)→A→Int→Option R} (l:List α) (hl:l.length<Ag) (p:α→Bool) (g:Nat→Option R) (rest:Option R) (a0:A)
 (u:∀k (i:Nat) (h:i<l.length),body k a0 (i:Int)=bif p l[i]then g i else k a0 (Ai ((i:Int)+1))) (z:∀k,body k a0 (l.length:Int)=rest):
 aV body Ag a0 0=if l.findIdx p<l.length then g (l.findIdx p)else rest:=by
 have J:Ag=9223372036854775808:=rfl
 have key:∀n (i:Nat),i+n=l.length→∀m,n<m→aV body m a0 (i:Int)=if(l.drop i).findIdx p+i<l.length then g ((l.drop i).findIdx p+i)else rest:=by
  intro n
  induction n with
  |zero=>
   intro i hi m hm;obtain⟨m,rfl⟩:∃q,m=q+1:=⟨m-1,AA⟩
   have :i=l.length:=AA
   subst this;show body (aV body m) _ _=_;rw[z,PU,CY BF]
  |succ n I=>
   intro i hi m hm;obtain⟨m,rfl⟩:∃q,m=q+1:=⟨m-1,AA⟩
   have j:i<l.length:=AA
   show body (aV body m) _ _=_;rw[u _ i j,wrap_succ i AA,I (i+1) AA m AA,Kw j,UF];cases p l[i]with
   |true=>simp only[Az,JJ];rw[CS j]
   |false=>
    simp only[Aj];rw[show(l.drop (i+1)).findIdx p+(i+1)=(l.drop (i+1)).findIdx p+1+i by omega]
 have :=key l.length 0 AA Ag hl;simpa using this
def QM {s:List Ah} {k:Int} {key:ByteArray} {id:Int} {x:Ah} (h:x∈Ey s k key id):x=⟨k,key,id⟩∨x∈s:=by
 unfold Ey at h;rcases Hd.1 h with h|h
 ·exact .inr (YC h)
 rcases EX.1 h with h|h
 ·exact .inl h
 exact .inr (dh h)
def oz (s:List Ah):Prop:=∀x∈s,x.Id=0
def bK {s:List Ah} {k:Int} {key:ByteArray} (h:oz s):oz (Ey s k key 0):=fun x j=>by
 rcases QM j with rfl|j
 ·rfl
 exact h x j
def o9 (l:List Ah) (k:Int) (key:ByteArray) (j:Int):Option Aw:=
 (bif decide (j<(l.length:Int))then(Af l j).bind fun q=>some (q.Kind==k)else some false).bind fun u=>(bif u then(Af l j).bind fun z=>some (z.Key.toList==key.toList)else some false).bind fun I=>(bif I then some l else(He l 0 j).bind fun J=>(C9 32 [] J).bind fun L=>(C9 32 L [(⟨k,key,0⟩:Ah)]).bind fun M=>(He l j ((l).length)).bind fun O=>(C9 32 M O).bind fun U=>some U)
def yL (s:List Ah) (k:Int) (key:ByteArray) (hs:s.length≤1000000) (u:oz s):Yq s k key=some (Ey s k key 0):=by
 unfold Yq aSb
 have j:o9 s k key ((Eb s ⟨k,key,0⟩:Nat):Int)=some (Ey s k key 0):=by
  have hp:=gq s ⟨k,key,0⟩;unfold o9 Ey
  have q:((He s 0 ((Eb s ⟨k,key,0⟩:Nat):Int)).bind fun z=>(C9 32 [] z).bind fun I=>(C9 32 I [(⟨k,key,0⟩:Ah)]).bind fun J=>(He s ((Eb s ⟨k,key,0⟩:Nat):Int) ((s).length)).bind fun L=>(C9 32 J L).bind fun M=>some M)=some (s.take (Eb s ⟨k,key,0⟩)++⟨k,key,0⟩::s.drop (Eb s ⟨k,key,0⟩)):=by
   rw[tu hp];simp only[AO];rw[D6 Dh];simp only[AO,II];rw[D6 Dh];simp only[AO];rw[VI hp];simp only[AO];rw[D6 Dh];simp
  rw[q];by_cases hl:Eb s ⟨k,key,0⟩<s.length
  ·rw[dec_lt hl,Bd hl];simp only[Az,AO]
   have O:JD s ⟨k,key,0⟩=(s[Eb s ⟨k,key,0⟩].Kind==k&&decide (s[Eb s ⟨k,key,0⟩].Key=key)):=by
    unfold JD;rw[D8 hl];rfl
   rw[O,Ie];cases Y:s[Eb s ⟨k,key,0⟩].Kind==k with
   |false=>rfl
   |true=>
    simp only[Az,AO,GL];cases hd:decide (s[Eb s ⟨k,key,0⟩].Key=key)with
    |true=>
     simp only[Az];have Z:s[Eb s ⟨k,key,0⟩].Kind=k:=Vl
     have h2:s[Eb s ⟨k,key,0⟩].Key=key:=by simpa using hd
     have h3:=u _ (EJ hl)
     have h4:(⟨k,key,0⟩:Ah)=s[Eb s ⟨k,key,0⟩]:=by
      have :∀(y:Ah),y.Kind=k→y.Key=key→y.Id=0→(⟨k,key,0⟩:Ah)=y:=fun y a b c=>by cases y;simp only at a b c;rw[a,b,c]
      exact this _ Z h2 h3
     congr 1
     conv=>rhs;arg 2;arg 1;rw[h4]
     rw[←Kw hl,Qb]
    |false=>rfl
  have u:Eb s ⟨k,key,0⟩=s.length:=AA
  have O:JD s ⟨k,key,0⟩=false:=by unfold JD;rw[u,Ib (Dq _)]
  rw[O,u,Ce];rfl
 rw[Jc s (fuel_lt AA) (fun x=> !FH x ⟨k,key,0⟩) (fun i=>o9 s k key (i:Int)) (o9 s k key (s.length:Int))]
 ·split
  ·exact j
  rename_i h;have u:Eb s ⟨k,key,0⟩=s.length:=aRx
  rw[u]at j;exact j
 ·intro k2 i h;unfold aIL
  have e:(bif decide ((i:Int)<(s.length:Int))then(Af s (i:Int)).bind fun x5=>(bif decide (x5.Kind<k)then some true else(Af s (i:Int)).bind fun x8=>(bif (x8.Kind==k)then(Af s (i:Int)).bind fun U=>some (Op.bytesLess (U.Key.toList) (key.toList))else some false).bind fun x9=>some x9).bind fun x6=>some x6 else some false)=some (FH s[i] ⟨k,key,0⟩):=by
   rw[dec_lt h,Bd h];simp only[Az,AO];unfold FH;cases decide (s[i].Kind<k)<;>cases s[i].Kind==k<;>rfl
  rw[e];simp only[AO];cases FH s[i] ⟨k,key,0⟩<;>rfl
 intro k2;unfold aIL;rw[Ce];simp only[Aj,AO];unfold o9;rw[Ce];rfl
def JK (e:AL):List Ah:=Ey (Ey (Ey [] 1 BP 0) 3 BP 0) 2 e.aQ 0
def keysOf (e:AL):List Ah:=
 bif e.Kind==1 then[]else bif e.Kind==2 then(bif e.Content.N==3||e.Content.N==1||e.Content.N==2 then Ey (Ey (JK e) 2 e.Key 0) 4 BP 0 else Ey (JK e) 2 e.Key 0)else JK e
def aNP (e:AL):(JK e).length≤3:=by
 have j:=Pj [] 1 BP 0;have q:=Pj (Ey [] 1 BP 0) 3 BP 0;have u:=Pj (Ey (Ey [] 1 BP 0) 3 BP 0) 2 e.aQ 0;unfold JK;simp only[LY]at j;omega
def aMg (e:AL):oz (JK e):=bK (bK (bK fun x j=>absurd j Ei))
def QI (e:AL):(keysOf e).length≤5:=by
 have j:=aNP e;have q:=Pj (JK e) 2 e.Key 0;have u:=Pj (Ey (JK e) 2 e.Key 0) 4 BP 0;unfold keysOf;cases e.Kind==1<;>cases e.Kind==2<;>cases(e.Content.N==3||e.Content.N==1||e.Content.N==2)<;>simp only[Az,Aj,LY]<;>omega
def aar (e:AL):pX e=some (keysOf e):=by
 have q:=aNP e;have u:=Pj (JK e) 2 e.Key 0;have j:=Pj [] 1 BP 0;have z:=Pj (Ey [] 1 BP 0) 3 BP 0;simp only[LY]at j;unfold pX keysOf;rw[YE [] 1 BP 0 BF];simp only[AO];rw[YE _ 3 BP 0 AA];simp only[AO];rw[YE _ 2 e.aQ 0 AA];simp only[AO];show(bif e.Kind==1 then some []else bif e.Kind==2 then(RN (JK e) 2 e.Key 0).bind _ else fM (JK e))=_;rw[YE (JK e) 2 e.Key 0 AA];simp only[AO];rw[YE _ 4 BP 0 AA];unfold fM;cases e.Kind==1<;>cases e.Kind==2<;>cases e.Content.N==3<;>cases e.Content.N==1<;>cases e.Content.N==2<;>rfl
def aFf (e:AL):fA e=some (keysOf e):=by
 have z:=aNP e;have I:=Pj (JK e) 2 e.Key 0;have q:=Pj [] 1 BP 0;have J:=Pj (Ey [] 1 BP 0) 3 BP 0;have z0:oz []:=fun x u=>absurd u Ei;simp only[LY]at q;unfold fA keysOf;rw[yL [] 1 BP BF z0];simp only[AO];rw[yL _ 3 BP AA (bK z0)];simp only[AO];rw[yL _ 2 e.aQ AA (bK (bK z0))];simp only[AO];show(bif e.Kind==1 then some []else bif e.Kind != 2 then some (JK e)else(Yq (JK e) 2 e.Key).bind _)=_;rw[yL (JK e) 2 e.Key AA (aMg e)];simp only[AO];rw[yL _ 4 BP AA (bK (aMg e))];unfold aOV;have j:(e.Kind != 2)= !(e.Kind==2):=rfl;rw[j];cases e.Kind==1<;>cases e.Kind==2<;>cases e.Content.N==3<;>cases e.Content.N==1<;>cases e.Content.N==2<;>rfl
def DJ (k:Ah) (x:AL):Bool:=x.Kind==k.Kind&&decide (x.Key=k.Key)
def LG (l:List AL) (e:AL):List AL:=(keysOf e).flatMap fun k=>((ofIds l e.aZ).find? (DJ k)).toList
def flat_length {α β:Type} {f:α→List β} {n:Nat} (h:∀x,(f x).length≤n):∀l:List α,(l.flatMap f).length≤n*l.length
 | []=>BF
 |x::l=>by
  have j:=h x;have q:=flat_length h l;rw[KO,EI,G7,Nat.mul_succ];omega
def zI (l:List AL) (e:AL):(LG l e).length≤5:=by
 have j:=flat_length (f:=fun k=>((ofIds l e.aZ).find? (DJ k)).toList) (n:=1) (fun k=>toList_le _) (keysOf e);have q:=QI e;unfold LG;omega
def aFA {l:List AL} {ids:List Int} {x:AL} (h:x∈ofIds l ids):x∈l:=by
 obtain⟨i,_,h⟩:=Tj.1 h;exact I9 h
def ahq {l:List AL} {e x:AL} (h:x∈LG l e):x∈l:=by
 obtain⟨k,_,h⟩:=SI.1 h;have :(ofIds l e.aZ).find? (DJ k)=some x:=JZ
 exact aFA (O7 this)
def IU (x:Ah):Q5:=⟨x.Kind,x.Key⟩
def aKC (e:AL):lS e=some ((keysOf e).map IU):=by
 unfold lS;rw[aar];simp only[AO];have q:=QI e;unfold aSJ;rw[Hu (keysOf e) AA (fun r x=>r++[IU x]) (fun i r=>r.length≤i) (fun r=>some r) (Dq _)]
 ·rw[foldl_append (fun x=>[IU x]),II];congr 1
  induction keysOf e with
  |nil=>rfl
  |cons x s j=>rw[KO,j];rfl
 ·intro k r i h u;refine⟨aEd,?_⟩;unfold aOk;rw[Bo h,D6 Fa];rfl
 intro k r _;unfold aOk;rw[DC]
def aSn (l:List AL) (p:AL→Bool):∀ids:List Int,(ofIds l ids).find? p=(ids.find? fun i=>match Dw l i with |some x=>p x|none=>false).bind (Dw l)
 | []=>rfl
 |i::ids=>by
  have j:=aSn l p ids;unfold ofIds at j ⊢;rw[MP,OL];cases q:Dw l i with
  |none=>exact j
  |some x=>
   simp only;rw[OL];cases p x with
   |true=>exact q.symm
   |false=>exact j
def aYr (l:List AL) (e:AL) (hl:l.length≤1000) (I:e.aZ.length≤40):nO l e=some (LG l e):=by
 unfold nO;rw[aKC];simp only[AO];have J:=QI e;unfold aUc;rw[Hu (a0:=[]) ((keysOf e).map IU) VT (fun r k=>r++((ofIds l e.aZ).find? fun x=>x.Kind==k.XA&&decide (x.Key=k.XB)).toList) (fun i r=>r.length≤i) (fun r=>some r) (Dq _)]
 ·congr 1;rw[foldl_append (fun k:Q5=>((ofIds l e.aZ).find? fun x=>x.Kind==k.XA&&decide (x.Key=k.XB)).toList),II,aJF];rfl
 ·intro k r i h L;have ht:=toList_le ((ofIds l e.aZ).find? fun x=>x.Kind==((keysOf e).map IU)[i].XA&&decide (x.Key=((keysOf e).map IU)[i].XB));refine⟨KU,?_⟩;have hi:i<5:=by rw[CG]at h;omega
  unfold aPD;rw[Bo h];generalize((keysOf e).map IU)[i]=K;unfold aao
  rw[aOX e.aZ (fuel_lt AA) (fun id=>match Dw l id with |some x=>x.Kind==K.XA&&decide (x.Key=K.XB)|none=>false)
   (fun j=>o7 k (i:Int) (r++(match e.aZ[j]? with |some id=>(Dw l id).toList|none=>[]))) (o7 k (i:Int) r)]
  ·rw[aSn,KN];by_cases q:e.aZ.findIdx (fun id=>match Dw l id with |some x=>x.Kind==K.XA&&decide (x.Key=K.XB)|none=>false)<e.aZ.length
   ·rw[CS q,D8 q];rfl
   rw[CY q,Ib AA];simp only[Option.bind_none,aI7,Oe];rfl
  ·intro k2 j u;unfold aPl;rw[Bo u,Np l _ AA,D8 u];simp only[AO];cases z:Dw l e.aZ[j]with
   |none=>rw[SN z];rfl
   |some x=>
    rw[Nl z];simp only[Az,RH];unfold VZ;rw[Ie];rw[D6 Fa];cases x.Kind==K.XA<;>cases decide (x.Key=K.XB)<;>rfl
  intro k2;unfold aPl;rw[DC]
 intro k r _;unfold aPD;rw[DC]
def aVN (l:List AL) (e:AL) (hl:l.length≤1000) (Y:e.aZ.length≤40):zW l e=some (LG l e):=by
 unfold zW;rw[aFf,aLG l _ hl AA];simp only[AO];have Z:=QI e;have L:=Yw l e.aZ;unfold aSF;rw[Hu (a0:=[]) (keysOf e) AA (fun r k=>r++((ofIds l e.aZ).find? (DJ k)).toList) (fun i r=>r.length≤i) (fun r=>some r) (Dq _)]
 ·rw[foldl_append (fun k:Ah=>((ofIds l e.aZ).find? (DJ k)).toList),II];rfl
 ·intro k r i h hI;have ht:=toList_le ((ofIds l e.aZ).find? (DJ (keysOf e)[i]));refine⟨KU,?_⟩;have hi:i<5:=AA
  unfold aMo;rw[dec_lt h];simp only[Az];generalize ofIds l e.aZ=O at L ht;unfold aQP
  have u:∀m (a:List AL) (j:Int),0<m→ku (Qa O (keysOf e) (i:Int) k) m a true j=k a (Ai ((i:Int)+1)):=by
   intro m a j hm;obtain⟨m,rfl⟩:∃I,m=I+1:=⟨m-1,AA⟩
   show Qa O (keysOf e) (i:Int) k (ku (Qa O (keysOf e) (i:Int) k) m) a true j=_;unfold Qa;cases decide (j<(O.length:Int))<;>rfl
  have key:∀n (j:Nat),j+n=O.length→∀m,n+1<m→ku (Qa O (keysOf e) (i:Int) k) m r false (j:Int)=k (r++((O.drop j).find? (DJ (keysOf e)[i])).toList) (Ai ((i:Int)+1)):=by
   intro n
   induction n with
   |zero=>
    intro j M m hm;obtain⟨m,rfl⟩:∃I,m=I+1:=⟨m-1,AA⟩
    have :j=O.length:=AA
    subst this;show Qa O (keysOf e) (i:Int) k (ku (Qa O (keysOf e) (i:Int) k) m) r false _=_;unfold Qa;rw[Ce,PU];simp
   |succ n U=>
    intro j M m hm;obtain⟨m,rfl⟩:∃I,m=I+1:=⟨m-1,AA⟩
    have z:j<O.length:=AA
    have J:=U (j+1) AA m AA;show Qa O (keysOf e) (i:Int) k (ku (Qa O (keysOf e) (i:Int) k) m) r false _=_;have q:=u m;generalize ku (Qa O (keysOf e) (i:Int) k) m=K at J q;unfold Qa aMk aPq;rw[dec_lt z,Bd z,Bd h];simp only[Az,Io,AO];rw[Ie,wrap_succ j AA,Kw z,OL,J];rw[D6 Fa];simp only[AO];rw[q _ _ AA];unfold DJ;cases O[j].Kind==(keysOf e)[i].Kind<;>cases decide (O[j].Key=(keysOf e)[i].Key)<;>rfl
  have :=key O.length 0 AA Ag jO;exact this
 intro k r _;unfold aMo;rw[Ce];rfl
def WR (c:ByteArray):Bf:=bif !(c.toList==BP.toList)then{ W9 with Users:=[⟨c,100⟩] }else W9
def Ro (l:List AL):ByteArray:=match l.find? fun x=>x.Kind==1 with |some x=>x.aQ|none=>BP
def FK (l:List AL):Bf:=match l.find? fun x=>x.Kind==3 with |some x=>x.Content.Levels|none=>WR (Ro l)
def abW (c:ByteArray):aB4 c=some (WR c):=by
 unfold aB4 WR Src;cases c.toList==BP.toList<;>rfl
def an3 (c:ByteArray):aLD c=some (WR c):=by
 unfold aLD WR aLQ;cases c.toList==BP.toList<;>rfl
def aRs (l:List AL) (k:Int) (hl:l.length≤1000):uf l k=some (if l.findIdx (fun e=>e.Kind==k)<l.length then((l.findIdx (fun e=>e.Kind==k):Nat):Int)else -1):=by
 unfold uf;rw[Rep l AA (fun a0=>aEg a0 k) (fun e=>e.Kind==k) fun _=>rfl];rfl
def aHy (l:List AL) (hl:l.length≤1000) (hs:D5 l):eS l=some (FK l,Ro l):=by
 have q:∀c,jC l c=some (match l.find? fun x=>x.Kind==3 with |some x=>x.Content.Levels|none=>WR c,c):=by
  intro c;unfold jC;rw[aRs l 3 hl,KN];simp only[AO];by_cases h:l.findIdx (fun e=>e.Kind==3)<l.length
  ·rw[CS h,show decide (((l.findIdx (fun e=>e.Kind==3):Nat):Int)≥0)=true by simp,Bd h,D8 h];simp only[Az,AO];have u:=hs _ (EJ h);have z:=u.users;have I:=u.kinds;unfold aAU aEs;rw[D6 UE,D6 UE];rfl
  rw[CY h,Ib AA,abW];rfl
 unfold eS;rw[aRs l 1 hl];simp only[AO];by_cases h:l.findIdx (fun e=>e.Kind==1)<l.length
 ·have j:Ro l=l[l.findIdx (fun e=>e.Kind==1)].aQ:=by unfold Ro;rw[KN,D8 h]
  rw[CS h,show decide (((l.findIdx (fun e=>e.Kind==1):Nat):Int)≥0)=true by simp,Bd h];simp only[Az,AO];rw[q,←j];rfl
 have j:Ro l=BP:=by unfold Ro;rw[KN,Ib AA]
 rw[CY h];show jC l BP=_;rw[q,←j];rfl
def aKd (l:List AL) (hl:l.length≤1000):uM l=some (FK l,Ro l):=by
 have I:∀c,aCK l c 0 KX=some (match l.find? fun x=>x.Kind==3 with |some x=>x.Content.Levels|none=>WR c,c):=by
  intro c;unfold aCK
  have O:∀{R:Type} {body:(Int→Bf→Option R)→Int→Bf→Option R} (p:AL→Bool) (g:Nat→Option R) (rest:Option R) (a0:Bf)
   (Y:∀k (i:Nat) (h:i<l.length),body k (i:Int) a0=bif p l[i]then g i else k (Ai ((i:Int)+1)) a0) (Z:∀k,body k (l.length:Int) a0=rest),
   aV body Ag 0 a0=if l.findIdx p<l.length then g (l.findIdx p)else rest:=by
   intro R body p g rest a0 Y Z;have hf:Ag=9223372036854775808:=rfl
   have key:∀n (i:Nat),i+n=l.length→∀m,n<m→aV body m (i:Int) a0=if(l.drop i).findIdx p+i<l.length then g ((l.drop i).findIdx p+i)else rest:=by
    intro n
    induction n with
    |zero=>
     intro i hi m hm;obtain⟨m,rfl⟩:∃z,m=z+1:=⟨m-1,AA⟩
     have :i=l.length:=AA
     subst this;show body (aV body m) _ _=_;rw[Z,PU,CY BF]
    |succ n U=>
     intro i hi m hm;obtain⟨m,rfl⟩:∃z,m=z+1:=⟨m-1,AA⟩
     have q:i<l.length:=AA
     show body (aV body m) _ _=_;rw[Y _ i q,wrap_succ i AA,U (i+1) AA m AA,Kw q,UF];cases p l[i]with
     |true=>simp only[Az,JJ];rw[CS q]
     |false=>
      simp only[Aj];rw[show(l.drop (i+1)).findIdx p+(i+1)=(l.drop (i+1)).findIdx p+1+i by omega]
   have :=key l.length 0 AA Ag AA;simpa using this
  rw[O (fun x=>x.Kind==3) (fun i=>some ((match l[i]? with |some x=>x.Content.Levels|none=>KX),c)) (some (WR c,c))]
  ·rw[KN];by_cases h:l.findIdx (fun e=>e.Kind==3)<l.length
   ·rw[CS h,D8 h]
   rw[CY h,Ib AA]
  ·intro k i h;unfold aMU;rw[Bo h,Bd h,D8 h];rfl
  intro k;unfold aMU;rw[DC,an3];rfl
 unfold uM aRb;obtain⟨F,M⟩:∃F:ByteArray→Option (Bf×ByteArray),∀c,aCK l c 0 KX=F c:=⟨_,fun _=>rfl⟩
 simp only[M]at I
 have J:∀m (c:ByteArray) (j:Int),0<m→ku (Qo l) m c true j=F c:=by
  intro m c j hm;obtain⟨m,rfl⟩:∃z,m=z+1:=⟨m-1,AA⟩
  show Qo l (ku (Qo l) m) c true j=_;unfold Qo;simp only[M];cases decide (j<(l.length:Int))<;>rfl
 have key:∀n (j:Nat),j+n=l.length→∀m,n+1<m→ku (Qo l) m BP false (j:Int)=F (match(l.drop j).find? fun x=>x.Kind==1 with |some x=>x.aQ|none=>BP):=by
  intro n
  induction n with
  |zero=>
   intro j hj m hm;obtain⟨m,rfl⟩:∃z,m=z+1:=⟨m-1,AA⟩
   have :j=l.length:=AA
   subst this;show Qo l (ku (Qo l) m) BP false _=_;unfold Qo;simp only[M];rw[Ce,PU];rfl
  |succ n U=>
   intro j hj m hm;obtain⟨m,rfl⟩:∃z,m=z+1:=⟨m-1,AA⟩
   have q:j<l.length:=AA
   have L:=U (j+1) AA m AA;show Qo l (ku (Qo l) m) BP false _=_;have u:=J m;generalize ku (Qo l) m=K at L u;unfold Qo aKh;simp only[M];rw[dec_lt q,Bd q];simp only[Az,Io,AO];rw[wrap_succ j AA,Kw q,OL,L,u _ _ AA];cases l[j].Kind==1<;>rfl
 have :=key l.length 0 AA Ag jO;rw[show((0:Nat):Int)=0 from rfl]at this;rw[this,I];rfl
def EH (v:Bf) (u:ByteArray):Int:=match v.Users.find? fun x=>decide (x.User=u)with |some x=>x.N|none=>v.User
def dO (v:Bf) (u:ByteArray) (h:v.Users.length≤1000):TA v u=some (EH v u):=by
 unfold TA aVX EH;rw[Jc v.Users (fuel_lt AA) (fun x=>decide (x.User=u)) (fun i=>some (match v.Users[i]? with |some x=>x.N|none=>0)) (some v.User)]
 ·rw[KN];by_cases h:v.Users.findIdx (fun x=>decide (x.User=u))<v.Users.length
  ·rw[CS h,D8 h]
  rw[CY h,Ib AA]
 ·intro k i h;unfold aMG;rw[Bo h,Ie,D8 h]
 intro k;unfold aMG;rw[DC]
def Y8 (v:Bf) (u:ByteArray) (h:v.Users.length≤1000):VN v u=some (EH v u):=by
 unfold VN aVP EH;rw[Jc v.Users (fuel_lt AA) (fun x=>decide (x.User=u)) (fun i=>some (match v.Users[i]? with |some x=>x.N|none=>0)) (some v.User)]
 ·rw[KN];by_cases h:v.Users.findIdx (fun x=>decide (x.User=u))<v.Users.length
  ·rw[CS h,D8 h]
  rw[CY h,Ib AA]
 ·intro k i h;unfold aM4;rw[Bo h,Ie,D8 h,Bd h];rfl
 intro k;unfold aM4;rw[DC]
def gI {l:List AL} (h:D5 l):(FK l).Users.length≤100∧(FK l).Kinds.length≤100:=by
 unfold FK;cases j:l.find? fun x=>x.Kind==3 with
 |some x=>
  have :=h x (O7 j);exact⟨this.users,this.kinds⟩
 |none=>
  simp only;unfold WR;cases(Ro l).toList==BP.toList with
  |true=>
   show W9.Users.length≤100∧W9.Kinds.length≤100;exact⟨BK,BK⟩
  |false=>
   show 1≤100∧W9.Kinds.length≤100;exact⟨BK,BK⟩
def fJ (l:List AL) (e:AL):Int:=EH (FK (LG l e)) e.aQ
def D5.from {l:List AL} (h:D5 l) (e:AL):D5 (LG l e):=fun x j=>h x (ahq j)
def abT (l:List AL) (e:AL) (hl:l.length≤1000) (hs:D5 l) (j:e.aZ.length≤40):aAh l e=some (fJ l e):=by
 have q:=zI l e;have u:=(gI (hs.from e)).1;unfold aAh;rw[aYr l e hl j];simp only[AO];rw[aHy _ AA (hs.from e)];simp only[AO];rw[dO _ _ AA];rfl
def aQ6 (l:List AL) (e:AL) (hl:l.length≤1000) (hs:D5 l) (j:e.aZ.length≤40):aBz l e=some (fJ l e):=by
 have q:=zI l e;have u:=(gI (hs.from e)).1;unfold aBz;rw[aVN l e hl j];simp only[AO];rw[aKd _ AA];simp only[AO];rw[Y8 _ _ AA];rfl
def Oi (e:AL):Bool:=bif e.Kind==2 then(e.Content.N==0||e.Content.N==4)&& !(decide (e.Key=e.aQ))else e.Kind==3||e.Kind==4
def afL (e:AL):aAq e=some (Oi e):=by
 unfold aAq aDt Oi;rw[Ie];by_cases q:e.Kind=2
 ·simp[q];cases e.Content.N==0<;>cases e.Content.N==4<;>rfl
 have j:(e.Kind==2)=false:=MV
 rw[j];cases e.Kind==3<;>cases e.Kind==4<;>rfl
def ad6 (e:AL):aOq e=some (Oi e):=by
 unfold aOq Oi;rw[Ie];cases e.Kind==2<;>cases e.Content.N==0<;>cases e.Content.N==4<;>cases e.Kind==3<;>cases e.Kind==4<;>rfl
def aXW (l:List Int) (x:Int) (h:l.length≤1099511627776):rH l x=some (if l.findIdx (· ==x)<l.length then((l.findIdx (· ==x):Nat):Int)else -1):=by
 unfold rH aX7;rw[Jc l (fuel_lt h) (· ==x) (fun i=>some (i:Int)) (some (-1))]
 ·split<;>rfl
 ·intro k i hi;unfold aKw;rw[Bo hi];have :(x==l[i])=(l[i]==x):=by rw[Jq];simp only[Lm];exact eq_comm
  rw[this]
 intro k;unfold aKw;rw[DC]
def aau (l:List Int) (x:Int):decide (l.findIdx (· ==x)<l.length)=D9 l x:=by
 rw[Jq,JY,Gg,gW];exact⟨fun⟨y,j,q⟩=>by rw[←(by simpa using q:y=x)];exact j,fun h=>⟨x,h,BF⟩⟩
def um (l:List Int) (x:Int) (h:l.length≤1099511627776):jw l x=some (D9 l x):=by
 unfold jw;rw[aXW l x h,←aau];by_cases hl:l.findIdx (· ==x)<l.length
 ·rw[CS hl,Gi hl];simp
 rw[CY hl,H7 hl];rfl
def aVC (l:List Int) (x:Int) (h:l.length≤1099511627776):kF l x=some (D9 l x):=by
 unfold kF;rw[um l x h];rfl
def ev (l:List AL) (id:Int):AL:=(Fz l id).1
def WB (l:List AL) (id:Int):Bool:=bW l id&&Oi (ev l id)
def Dp (l:List AL) (full:List Int):List Int:=full.filter (WB l)
def TD (l:List AL) (full:List Int):List Int:=EG (Dp l full++full.filter (D9 (chainOf l (Dp l full))))
def aFN {l:List AL} {full:List Int} {x:Int}:x∈TD l full↔x∈full∧(WB l x=true∨Jy l (Dp l full) x):=by
 unfold TD;rw[IQ,Hd,FU,JY,Zb];unfold Dp;rw[FU];exact⟨fun h=>h.elim (fun h=>⟨h.1,.inl h.2⟩) fun h=>⟨h.1,.inr h.2⟩,fun⟨h,k⟩=>k.elim (fun k=>.inl ⟨h,k⟩) fun k=>.inr ⟨h,k⟩⟩
def aVM (l:List AL) (full:List Int):Inc (TD l full):=Jo _
def aKz (p:Int→Bool):∀(S r:List Int),S.foldl (fun r x=>bif p x then r++[x]else r) r=r++S.filter p
 | [],r=>BF
 |x::S,r=>by
  rw[F5,aKz p S,Ri];cases p x<;>simp
def ajd (l:List AL) (full:List Int) (hl:l.length≤1000) (hs:D5 l) (I:full.length≤120000) (j:(Dp l full).length≤100000):aAC l full=some (TD l full):=by
 unfold aAC aTS;rw[Hu (a0:=[]) full AA (fun r x=>bif WB l x then r++[x]else r) (fun i r=>r.length≤i) (fun r=>(Yx l r).bind fun q=>aJr full q r 0) (Dq _)]
 ·have z:full.foldl (fun r x=>bif WB l x then r++[x]else r) []=Dp l full:=by rw[aKz];rfl
  have J:=Zr l (Dp l full);rw[z,aMe l _ hl hs.ajT j];simp only[AO];unfold aJr;rw[Hu full AA (fun r x=>bif D9 (chainOf l (Dp l full)) x then r++[x]else r) (fun i r=>r.length≤(Dp l full).length+i) (fun r=>some (EG r)) (Dq _)]
  ·rw[aKz];rfl
  ·intro k r i h u;refine⟨?_,?_⟩
   ·cases D9 (chainOf l (Dp l full)) full[i]with
    |false=>show r.length≤(Dp l full).length+(i+1);omega
    |true=>show(r++[full[i]]).length≤(Dp l full).length+(i+1);simp;omega
   unfold aHR aAY;rw[Bo h,aVC _ _ AA];simp only[AO];rw[D6 Fa];cases D9 (chainOf l (Dp l full)) full[i]<;>rfl
  intro k r u;unfold aHR;rw[DC,Xn _ AA];rfl
 ·intro k r i h u;refine⟨?_,?_⟩
  ·cases WB l full[i]with
   |false=>show r.length≤i+1;omega
   |true=>show(r++[full[i]]).length≤i+1;simp;omega
  unfold aMw aAQ;rw[Bo h,Np l _ AA];simp only[AO];rw[D6 Fa];unfold WB bW ev;rw[afL,NZ];cases(Dw l full[i]).isSome<;>cases Oi (Fz l full[i]).1<;>rfl
 intro k r _;unfold aMw;rw[DC]
def Jy.aEO {l:List AL} {ids:List Int} {i x:Int} (hi:i∈ids) (h:Jy l [i] x):Jy l ids x:=by
 induction h with
 |one h j q=>rw[IY.1 h]at j;exact .one hi j q
 |more h j q u=>exact .more u j q
def Jy.split {l:List AL} {ids:List Int} {x:Int}:Jy l ids x↔∃i∈ids,Jy l [i] x:=by
 constructor
 ·intro h
  induction h with
  |one h j q=>exact⟨_,h,.one (IY.2 rfl) j q⟩
  |more h j q I=>obtain⟨i,u,z⟩:=I;exact⟨i,u,.more z j q⟩
 rintro⟨i,u,z⟩;exact .aEO u z
def Jy.bW {l:List AL} {ids:List Int} {x:Int} (h:Jy l ids x):bW l x=true:=by cases h<;>assumption
def bC (h r:List Int) (y:Int):List Int:=bif D9 h y then put r y else r
def aEh (h:List Int):∀(c r:List Int),Inc r→Inc (c.foldl (bC h) r)∧∀x,x∈c.foldl (bC h) r↔x∈r∨x∈c∧x∈h
 | [],r,q=>⟨q,fun x=>BF⟩
 |y::c,r,q=>by
  rw[F5];unfold bC;cases J:D9 h y with
  |true=>
   obtain⟨u,z⟩:=aEh h c (put r y) (Si q);refine⟨u,fun x=>(z x).trans ?_⟩;rw[VW,EX];constructor
   ·rintro((j|rfl)|j)
    ·exact .inl j
    ·exact .inr ⟨.inl rfl,JY.1 J⟩
    exact .inr ⟨.inr j.1,j.2⟩
   rintro(j|⟨rfl|j,I⟩)
   ·exact .inl (.inl j)
   ·exact .inl (.inr rfl)
   exact .inr ⟨j,I⟩
  |false=>
   obtain⟨u,z⟩:=aEh h c r q;refine⟨u,fun x=>(z x).trans ⟨fun j=>j.imp id fun j=>⟨FB _ j.1,j.2⟩,fun j=>j.imp id fun j=>⟨?_,j.2⟩⟩⟩;rcases EX.1 j.1 with rfl|I
   ·exact absurd j.2 (OO.1 J)
   exact I
def dB (l:List AL) (h r:List Int) (x:Int):List Int:=bif Oi (ev l x)then(chainOf l [x]).foldl (bC h) (put r x)else r
def aIw (l:List AL) (h:List Int):∀(c r:List Int),Inc r→Inc (c.foldl (dB l h) r)∧∀x,x∈c.foldl (dB l h) r↔x∈r∨∃i∈c,Oi (ev l i)=true∧(x=i∨Jy l [i] x∧x∈h)
 | [],r,z=>⟨z,fun x=>BF⟩
 |y::c,r,z=>by
  rw[F5];unfold dB;cases I:Oi (ev l y)with
  |true=>
   obtain⟨M,O⟩:=aEh h (chainOf l [y]) (put r y) (Si z);obtain⟨J,L⟩:=aIw l h c _ M;refine⟨J,fun x=>(L x).trans ?_⟩;rw[O x,VW,Zb];constructor
   ·rintro(((j|rfl)|j)|⟨i,j,u⟩)
    ·exact .inl j
    ·exact .inr ⟨x,EU ..,I,.inl rfl⟩
    ·exact .inr ⟨y,EU ..,I,.inr j⟩
    exact .inr ⟨i,FB _ j,u⟩
   rintro(j|⟨i,j,u,q⟩)
   ·exact .inl (.inl (.inl j))
   rcases EX.1 j with rfl|j
   ·rcases q with rfl|q
    ·exact .inl (.inl (.inr rfl))
    exact .inl (.inr q)
   exact .inr ⟨i,j,u,q⟩
  |false=>
   obtain⟨J,L⟩:=aIw l h c r z;refine⟨J,fun x=>(L x).trans ⟨fun j=>j.imp id fun⟨i,u,q⟩=>⟨i,FB _ u,q⟩,fun j=>j.imp id fun⟨i,u,q,U⟩=>⟨i,?_,q,U⟩⟩⟩;rcases EX.1 u with rfl|u
   ·rw[I]at q;cases q
   exact u
def aeP (l:List AL) (full:List Int):(gG l full).foldl (dB l (gG l full)) []=TD l full:=by
 obtain⟨I,J⟩:=aIw l (gG l full) (gG l full) [] .nil;refine Ak I (aVM _ _) fun x=>(J x).trans ?_;rw[aFN,Lp,Jy.split];unfold Dp WB;constructor
 ·rintro(z|⟨i,z,j,u⟩)
  ·exact absurd z Ei
  have q:=Lp.1 z;rcases u with rfl|u
  ·exact⟨q.1,.inl (by rw[q.2,j];rfl)⟩
  exact⟨u.2.1,.inr ⟨i,FU.2 ⟨q.1,by rw[q.2,j];rfl⟩,u.1⟩⟩
 rintro⟨z,j|⟨i,j,u⟩⟩
 ·rw[CW]at j;exact .inr ⟨x,Lp.2 ⟨z,j.1⟩,j.2,.inl rfl⟩
 rw[FU,CW]at j;exact .inr ⟨i,Lp.2 ⟨j.1,j.2.1⟩,j.2.2,.inr ⟨u,z,u.bW⟩⟩
def acw (l:List AL) (full:List Int) (hl:l.length≤1000) (hs:D5 l) (M:full.length≤100000):aPM l full=some (TD l full):=by
 unfold aPM;rw[aas l full hl M];simp only[AO];have O:(gG l full).length≤l.length:=lq (Zj l full) fun x q=>(Lp.1 q).2;unfold aTM;rw[Hu (a0:=[]) (gG l full) AA (dB l (gG l full)) (fun _ r=>Inc r∧∀x∈r,bW l x=true) (fun r=>some r) ⟨.nil,fun x q=>absurd q Ei⟩]
 ·rw[aeP]
 ·intro k r i h z;have I:bW l (gG l full)[i]=true:=(Lp.1 (EJ h)).2;have U:=lq z.1 z.2;have g:=aEh (gG l full) (chainOf l [(gG l full)[i]]) (put r (gG l full)[i]) (Si z.1);refine⟨?_,?_⟩
  ·unfold dB;cases Oi (ev l (gG l full)[i])with
   |false=>exact z
   |true=>
    refine⟨g.1,fun x q=>?_⟩;rcases(g.2 x).1 q with u|u
    ·rcases VW.1 u with u|rfl
     ·exact z.2 x u
     exact I
    exact(Lp.1 u.2).2
  unfold aJt aCg;rw[Bo h,KR l _ AA];simp only[AO];rw[ad6,Bd h];simp only[AO];rw[dQ _ _ AA];simp only[AO];rw[aOY l _ hl hs.ajT BF];simp only[AO];unfold dB;show(bif Oi (ev l (gG l full)[i])then _ else _)=_;cases Oi (ev l (gG l full)[i])with
  |false=>rfl
  |true=>
   simp only[Az];have hc:=Zr l [(gG l full)[i]];unfold aRW
   rw[Hu (chainOf l [(gG l full)[i]]) AA (bC (gG l full)) (fun _ r=>Inc r∧∀x∈r,bW l x=true) (fun r=>k r (Ai ((i:Int)+1))) ⟨Si z.1,fun x q=>by
    rcases VW.1 q with u|rfl
    ·exact z.2 x u
    exact I⟩]
   ·intro k2 Y j L J;have Z:=lq J.1 J.2;refine⟨?_,?_⟩
    ·unfold bC;cases hh:D9 (gG l full) (chainOf l [(gG l full)[i]])[j]with
     |false=>exact J
     |true=>
      refine⟨Si J.1,fun x q=>?_⟩;rcases VW.1 q with u|rfl
      ·exact J.2 x u
      exact(Lp.1 (JY.1 hh)).2
    unfold aM9 aPL;rw[Bo L,Wv _ _ AA,Bd L];simp only[AO];rw[dQ _ _ AA];unfold bC;cases D9 (gG l full) (chainOf l [(gG l full)[i]])[j]<;>rfl
   intro k2 Y _;unfold aM9 aCg;rw[DC]
 intro k r _;unfold aJt;rw[DC]
def aFO (l:List AL) (full:List Int):(TD l full).length≤l.length:=
 lq (aVM l full) fun x j=>by
  rcases(aFN.1 j).2 with h|h
  ·unfold WB at h;rw[CW]at h;exact h.1
  exact h.bW
def Eu (l:List AL) (id:Int):Qu:=⟨id,fJ l (ev l id),(ev l id).Time,chainOf l [id]⟩
def Wy (l:List AL) (left:List Int) (x:Int):Bool:= !left.any fun y=>D9 (chainOf l [x]) y
def YB (a b:Qu):Bool:=bif a.IL != b.IL then decide (a.IL>b.IL)else decide (a.Bh<b.Bh)
def Gp (l:List AL) (left:List Int) (b:Option Int) (x:Int):Option Int:=bif Wy l left x&&(match b with |none=>true|some y=>YB (Eu l x) (Eu l y))then some x else b
def U2 (l:List AL) (left:List Int):Option Int:=left.foldl (Gp l left) none
def rY (l:List AL):Nat→List Int→List Int
 |0,_=>[]
 |n+1,left=>match U2 l left with
  |none=>[]
  |some b=>b::rY l n (left.filter (· != b))
def aTP (l:List AL):∀ids:List Int,ids.flatMap (fun id=>bif bW l id then[Eu l id]else[])=(ids.filter (bW l)).map (Eu l)
 | []=>rfl
 |i::ids=>by
  rw[KO,aTP l ids,Ri];cases bW l i<;>simp
def ahX (l:List AL) (ids:List Int) (hl:l.length≤1000) (hs:D5 l) (hi:ids.length≤100000):aDg l ids=some ((gG l ids).map (Eu l)):=by
 unfold aDg;rw[Xn ids AA];simp only[AO];have u:=KJ ids;unfold aWl;rw[Hu (a0:=[]) (EG ids) AA (fun r id=>r++bif bW l id then[Eu l id]else[]) (fun i r=>r.length≤i) (fun r=>some r) (Dq _)]
 ·rw[foldl_append (fun id=>bif bW l id then[Eu l id]else[]),II,aTP];rfl
 ·intro k r i h I;refine⟨?_,?_⟩
  ·cases bW l (EG ids)[i]<;>simp <;>omega
  unfold aH8 Rch;rw[Bo h,Np l _ AA];simp only[AO];unfold bW;cases j:Dw l (EG ids)[i]with
  |none=>rw[SN j];simp
  |some e=>
   have z:=hs e (I9 j);have q:ev l (EG ids)[i]=e:=by unfold ev;rw[Nl j]
   rw[Nl j];simp only[Az,Option.isSome_some];rw[abT l e hl hs z.auth,aMe l _ hl hs.ajT BF];simp only[AO];rw[D6 Fa];unfold Eu;rw[q];rfl
 intro k r _;unfold aH8;rw[DC]
def aWh (l:List AL) (left:List Int):∀(c:List Int) (b:Option Int) {x:Int},c.foldl (Gp l left) b=some x→b=some x∨x∈c
 | [],b,x,h=>.inl h
 |y::c,b,x,h=>by
  rw[F5]at h;rcases aWh l left c _ h with j|j
  ·have key:∀c:Bool,(bif c then some y else b)=some x→b=some x∨x=y:=fun c q=>by
    cases c with
    |true=>simp only[Az,LQ]at q;exact .inr q.symm
    |false=>exact .inl q
   rcases key _ j with u|u
   ·exact .inl u
   exact .inr (u▸EU ..)
  exact .inr (FB _ j)
def af2 {l:List AL} {left:List Int} {x:Int} (h:U2 l left=some x):x∈left:=by
 rcases aWh l left left none h with h|h
 ·cases h
 exact h
def aSD {left:List Int} (I:left.Nodup) {j:Nat} (J:j<left.length):left.take j++left.drop (j+1)=left.filter (· != left[j]):=by
 have e:left=left.take j++left[j]::left.drop (j+1):=by rw[←Kw J,Qb]
 have q:(left.take j++left[j]::left.drop (j+1)).Nodup:=by rw[←e];exact I
 have z:=s0.1 q;have L:=Kr.1 z.2.1
 have M:(left.take j).filter (· != left[j])=left.take j:=dW.2 fun x u=>by
  have :=z.2.2 x u left[j] (EU ..);simpa using this
 have O:(left.drop (j+1)).filter (· != left[j])=left.drop (j+1):=dW.2 fun x u=>by
  have :x≠left[j]:=fun e=>L.1 (e▸u);simpa using this
 have :(left.take j++left[j]::left.drop (j+1)).filter (· != left[j])=left.take j++left.drop (j+1):=by
  rw[Ol,Ri,M,O];simp
 rw[←e]at this;exact this.symm
def aX9 {left:List Int} (q:left.Nodup) {b:Int} (u:b∈left):(left.filter (· != b)).length+1=left.length:=by
 obtain⟨j,z,rfl⟩:=Fv u;rw[←aSD q z,EI,FD,IV];omega
def ai5 {left:List Int} (h:Inc left) (b:Int):Ob left [b]=left.filter (· != b):=by
 unfold Ob;rw[ak8 h];congr 1;funext x;by_cases e:x=b
 ·subst e;simp[D9]
 simp[D9,e]
def aiP (l:List AL) (hl:l.length≤1000):∀(m:Nat) (left acc:List Int) (N:Nat),left.length=m→Inc left→(∀x∈left,bW l x=true)→acc.length+left.length≤1000000→m<N→aV YQ N (left.map (Eu l)) acc=some (acc++rY l m left):=by
 intro m
 induction m with
 |zero=>
  intro left acc N hm hi hk hacc hN;obtain⟨N,rfl⟩:∃N',N=N'+1:=⟨N-1,AA⟩
  have :left=[]:=Gf hm;subst this;show YQ _ _ _=_;unfold YQ rY;simp
 |succ m ih=>
  intro left acc N hm hi hk hacc hN;obtain⟨N,rfl⟩:∃N',N=N'+1:=⟨N-1,AA⟩
  have hll:=lq hi hk;refine dL.eq ?_;show dL (YQ (aV YQ N) _ _) _;have ih':=fun Z acc' h1 h2 h3 h4=>ih Z acc' N h1 h2 h3 h4 AA;generalize aV YQ N=K at ih';unfold YQ;rw[show decide (((left.map (Eu l)).length:Int)>0)=true by rw[CG];simp;omega];simp only[Az];unfold aVs;refine QU (body:=aJo (left.map (Eu l)) K) (fun m2 a b c=>∃i:Nat,b=i∧i+m2=left.length∧c=acc∧((a= -1∧(left.take i).foldl (Gp l left) none=none)∨∃(j:Nat) (z:j<left.length),a=(j:Int)∧(left.take i).foldl (Gp l left) none=some left[j])) ?_ Ag left.length (-1) 0 acc (fuel_lt AA) ⟨0,rfl,AA,rfl,.inl ⟨rfl,rfl⟩⟩;rintro m2 a b c k ⟨i,rfl,hm2,rfl,hI⟩ I;unfold aJo;by_cases J:i<left.length
  ·have O:i<(left.map (Eu l)).length:=by rw[CG];exact J
   rw[dec_lt O,Bd O,Og];simp only[Az,AO]
   have hst:(left.take (i+1)).foldl (Gp l left) none=Gp l left ((left.take i).foldl (Gp l left) none) left[i]:=by
    rw[Nw J,TY];rfl
   unfold ab2;have hc:=Zr l [left[i]]
   have hin:∀(k2:Int→Int→List Int→Option (List Int)),aV (Yu (left.map (Eu l)) (Eu l left[i]) k2 (i:Int) a) Ag 0 c=bif Wy l left left[i]then(bif decide (a<0)then YM k2 (i:Int) a true c else(Af (left.map (Eu l)) a).bind fun x27=>(bY (Eu l left[i]) x27).bind fun x28=>YM k2 (i:Int) a x28 c)else dU k2 (i:Int) a c:=by
    intro k2
    have key:∀n (j:Nat),j+n=left.length→∀m,n<m→aV (Yu (left.map (Eu l)) (Eu l left[i]) k2 (i:Int) a) m (j:Int) c=bif !(left.drop j).any (fun y=>D9 (chainOf l [left[i]]) y)then(bif decide (a<0)then YM k2 (i:Int) a true c else(Af (left.map (Eu l)) a).bind fun x27=>(bY (Eu l left[i]) x27).bind fun x28=>YM k2 (i:Int) a x28 c)else dU k2 (i:Int) a c:=by
     intro n
     induction n with
     |zero=>
      intro j z m hm;obtain⟨m,rfl⟩:∃m',m=m'+1:=⟨m-1,AA⟩
      have :j=left.length:=AA
      subst this;show Yu _ _ _ _ _ _ _ _=_;unfold Yu;rw[show decide ((left.length:Int)<((left.map (Eu l)).length:Int))=false by rw[CG];exact Ce _,PU];rfl
     |succ n ihn=>
      intro j z m hm;obtain⟨m,rfl⟩:∃m',m=m'+1:=⟨m-1,AA⟩
      have hjl:j<left.length:=AA
      have aGV:j<(left.map (Eu l)).length:=by rw[CG];exact hjl
      have U:=ihn (j+1) AA m AA;show Yu _ _ _ _ _ (aV _ m) _ _=_;generalize aV (Yu (left.map (Eu l)) (Eu l left[i]) k2 (i:Int) a) m=L at U;unfold Yu;rw[Bo aGV,Og];show((kF (chainOf l [left[i]]) left[j]).bind _)=_;rw[aVC _ _ AA,wrap_succ j AA,Kw hjl,Ze];simp only[AO];cases D9 (chainOf l [left[i]]) left[j]with
      |true=>rfl
      |false=>
       simp only[Aj,NJ];exact U
    exact key left.length 0 AA Ag (fuel_lt AA)
   rw[hin];have hw:=wrap_succ i AA;unfold YM dU;rw[hw];cases M:Wy l left left[i]with
   |false=>
    simp only[Aj];refine I (m2-1) _ _ _ AA ⟨i+1,rfl,AA,rfl,?_⟩;have e:Gp l left ((left.take i).foldl (Gp l left) none) left[i]=(left.take i).foldl (Gp l left) none:=by unfold Gp;rw[M];rfl
    rw[hst,e];exact hI
   |true=>
    simp only[Az];rcases hI with⟨rfl,Y⟩|⟨j,z,rfl,Y⟩
    ·rw[show decide ((-1:Int)<0)=true by decide];simp only[Az];refine I (m2-1) _ _ _ AA ⟨i+1,rfl,AA,rfl,.inr ⟨i,J,rfl,?_⟩⟩;rw[hst,Y];unfold Gp;rw[M];rfl
    have q:j<(left.map (Eu l)).length:=by rw[CG];exact z
    rw[show decide ((j:Int)<0)=false by simp,Bd q,Og];simp only[Aj,AO]
    have e1:bY (Eu l left[i]) (Eu l left[j])=some (YB (Eu l left[i]) (Eu l left[j])):=by
     unfold bY YB;cases(Eu l left[i]).IL != (Eu l left[j]).IL<;>rfl
    rw[e1];simp only[AO];cases ha:YB (Eu l left[i]) (Eu l left[j])with
    |true=>
     simp only[Az];refine I (m2-1) _ _ _ AA ⟨i+1,rfl,AA,rfl,.inr ⟨i,J,rfl,?_⟩⟩;rw[hst,Y];unfold Gp;rw[M];simp only[ha];rfl
    |false=>
     simp only[Aj];refine I (m2-1) _ _ _ AA ⟨i+1,rfl,AA,rfl,.inr ⟨j,z,rfl,?_⟩⟩;rw[hst,Y];unfold Gp;rw[M];simp only[ha];rfl
  have hie:i=left.length:=AA
  subst hie;rw[show decide ((left.length:Int)<((left.map (Eu l)).length:Int))=false by rw[CG];exact Ce _];simp only[Aj];rw[FV]at hI;have u:rY l (m+1) left=match U2 l left with |none=>[]|some b=>b::rY l m (left.filter (· != b)):=rfl
  rcases hI with⟨rfl,Y⟩|⟨j,z,rfl,Y⟩
  ·rw[show decide ((-1:Int)<0)=true by decide];refine .ret ?_;have h1:U2 l left=none:=Y;rw[u,h1];simp
  have q:j<(left.map (Eu l)).length:=by rw[CG];exact z
  rw[show decide ((j:Int)<0)=false by simp,Bd q,Og];simp only[Aj,AO];have h1:U2 l left=some left[j]:=Y;rw[D6 Fa];simp only[AO];rw[tu (Nat.le_of_lt q),wrap_succ j AA,VI q];simp only[AO];rw[D6 (by rw[FD,IV,CG];omega)];simp only[AO]
  have e2:(left.map (Eu l)).take j++(left.map (Eu l)).drop (j+1)=(left.filter (· != left[j])).map (Eu l):=by
   rw[←aSD (Tn hi) z,KL,ZA,aF]
  rw[e2];have hwl:=aX9 (Tn hi) (EJ z);rw[ih' (left.filter (· != left[j])) (c++[(Eu l left[j]).ni]) AA (hi.sublist Qp) (fun x hx=>hk x ((FU.1 hx).1)) VF];refine .ret ?_;rw[u,h1,Hw];rfl
def aco (l:List AL) (ids:List Int) (hl:l.length≤1000) (hs:D5 l) (hi:ids.length≤100000):aAR l ids=some (rY l (gG l ids).length (gG l ids)):=by
 have q:(gG l ids).length≤l.length:=lq (Zj l ids) fun x j=>(Lp.1 j).2;unfold aAR;rw[ahX l ids hl hs hi];simp only[AO];unfold aU5;rw[aiP l hl _ (gG l ids) [] Ag rfl (Zj l ids) (fun x j=>(Lp.1 j).2) UE (fuel_lt AA)];rfl
def agY (l:List AL) (left:List Int) (x:Int) (hl:l.length≤1000) (hs:D5 l) (j:left.length≤100000):aIa l left x=some (Wy l left x):=by
 unfold aIa;rw[aOY l _ hl hs.ajT BF];simp only[AO];have q:=Zr l [x];unfold aU1;rw[Gs (chainOf l [x]) (fuel_lt AA) (fun y=>D9 left y) false (some true)]
 ·unfold Wy
  have e:(chainOf l [x]).any (fun y=>D9 left y)=left.any fun y=>D9 (chainOf l [x]) y:=by
   rw[Jq,Gn,Gn];simp only[JY];exact⟨fun⟨y,a,b⟩=>⟨y,b,a⟩,fun⟨y,a,b⟩=>⟨y,b,a⟩⟩
  rw[e];cases left.any fun y=>D9 (chainOf l [x]) y<;>rfl
 ·intro k i h;unfold aJk;rw[Bo h,Wv _ _ AA];simp only[AO]
 intro k;unfold aJk;rw[DC]
def aHX {R A B C D:Type} {Q:R→Prop} {body:(A→B→C→D→Option R)→A→B→C→D→Option R} (I:Nat→A→B→C→D→Prop) (hs:∀m a b c d k,I m a b c d→(∀j a' q u z,j<m→I j a' q u z→dL (k a' q u z) Q)→dL (body k a b c d) Q):
 ∀n m a b c d,m<n→I m a b c d→dL (Xq body n a b c d) Q
 |0,m,_,_,_,_,h,_=>AA
 |n+1,m,a,b,c,d,h,hi=>hs m a b c d _ hi fun j a' q u z h' J=>aHX I hs n j a' q u z AA J
def GH {l:List AL} {x:Int} (h:bW l x=true):Dw l x=some (ev l x)∧(ev l x).Id=x:=by
 unfold bW at h;obtain⟨e,j⟩:=SG.1 h;have :ev l x=e:=by unfold ev;rw[Nl j]
 rw[this];exact⟨j,zh j⟩
def amJ (l:List AL) (x y:Int) (hl:l.length≤1000) (hs:D5 l) (j:bW l x=true) (q:bW l y=true) (u:y<x):aPp l (ev l x) (ev l y)=some (YB (Eu l x) (Eu l y)):=by
 obtain⟨z,I⟩:=GH j;obtain⟨J,L⟩:=GH q;unfold aPp;rw[aQ6 l _ hl hs (hs _ (I9 z)).auth,aQ6 l _ hl hs (hs _ (I9 J)).auth];simp only[AO];unfold YB Eu;simp only;cases fJ l (ev l x) != fJ l (ev l y)with
 |true=>rfl
 |false=>
  simp only[Aj];rw[I,L];by_cases ht:(ev l x).Time=(ev l y).Time
  ·rw[ht];simp;omega
  have :((ev l x).Time != (ev l y).Time)=true:=aCu
  rw[this];rfl
def adh (l:List AL) (hl:l.length≤1000) (hs:D5 l):∀(m:Nat) (left acc:List Int) (N:Nat),left.length=m→Inc left→(∀x∈left,bW l x=true)→acc.length+left.length≤1000000→m<N→aV (XM l) N left acc=some (acc++rY l m left):=by
 intro m
 induction m with
 |zero=>
  intro left acc N hm hi U Z hN;obtain⟨N,rfl⟩:∃N',N=N'+1:=⟨N-1,AA⟩
  have :left=[]:=Gf hm;subst this;show XM _ _ _ _=_;unfold XM rY;simp
 |succ m ih=>
  intro left acc N hm hi U Z hN;obtain⟨N,rfl⟩:∃N',N=N'+1:=⟨N-1,AA⟩
  have hll:=lq hi U;refine dL.eq ?_;show dL (XM l (aV (XM l) N) _ _) _;have ih':=fun M acc' h1 h2 h3 h4=>ih M acc' N h1 h2 h3 h4 AA;generalize aV (XM l) N=K at ih';unfold XM;rw[show decide ((left.length:Int)>0)=true by simp;omega];simp only[Az];unfold aUU;refine aHX (body:=aP2 left l K) (fun Y a b c d=>∃i:Nat,b=i∧i+Y=left.length∧c=acc∧((a=false∧(left.take i).foldl (Gp l left) none=none)∨∃(j:Nat) (I:j<left.length),j<i∧a=true∧d=ev l left[j]∧(left.take i).foldl (Gp l left) none=some left[j])) ?_ Ag left.length false 0 acc Bv (fuel_lt AA) ⟨0,rfl,AA,rfl,.inl ⟨rfl,rfl⟩⟩;rintro Y a b c d k ⟨i,rfl,hm2,rfl,hI⟩ J;unfold aP2;by_cases q:i<left.length
  ·rw[dec_lt q,Bd q];simp only[Az,AO];rw[KR l _ AA];simp only[AO];rw[agY l left _ hl hs AA];simp only[AO]
   have hst:(left.take (i+1)).foldl (Gp l left) none=Gp l left ((left.take i).foldl (Gp l left) none) left[i]:=by
    rw[Nw q,TY];rfl
   unfold aJJ;rw[wrap_succ i AA];cases L:Wy l left left[i]with
   |false=>
    simp only[Aj,AO];refine J (Y-1) _ _ _ _ AA ⟨i+1,rfl,AA,rfl,?_⟩;have e:Gp l left ((left.take i).foldl (Gp l left) none) left[i]=(left.take i).foldl (Gp l left) none:=by unfold Gp;rw[L];rfl
    rw[hst,e];rcases hI with u|⟨j,I,O,u⟩
    ·exact .inl u
    exact .inr ⟨j,I,AA,u⟩
   |true=>
    simp only[Az];rcases hI with⟨rfl,u⟩|⟨j,I,O,rfl,rfl,u⟩
    ·simp only[Io,Az,AO];refine J (Y-1) _ _ _ _ AA ⟨i+1,rfl,AA,rfl,.inr ⟨i,q,AA,rfl,rfl,?_⟩⟩;rw[hst,u];unfold Gp;rw[L];rfl
    simp only[EF,Aj];have hlt2:left[j]<left[i]:=IW.1 hi j i I q O;have e1:=amJ l left[i] left[j] hl hs (U _ (EJ q)) (U _ (EJ I)) hlt2;rw[show(Fz l left[i]).1=ev l left[i]from rfl,e1];simp only[AO];cases ha:YB (Eu l left[i]) (Eu l left[j])with
    |true=>
     simp only[Az];refine J (Y-1) _ _ _ _ AA ⟨i+1,rfl,AA,rfl,.inr ⟨i,q,AA,rfl,rfl,?_⟩⟩;rw[hst,u];unfold Gp;rw[L];simp only[ha];rfl
    |false=>
     simp only[Aj];refine J (Y-1) _ _ _ _ AA ⟨i+1,rfl,AA,rfl,.inr ⟨j,I,AA,rfl,rfl,?_⟩⟩;rw[hst,u];unfold Gp;rw[L];simp only[ha];rfl
  have hie:i=left.length:=AA
  subst hie;rw[Ce];simp only[Aj];rw[FV]at hI;have z:rY l (m+1) left=match U2 l left with |none=>[]|some b=>b::rY l m (left.filter (· != b)):=rfl
  rcases hI with⟨rfl,u⟩|⟨j,I,O,rfl,rfl,u⟩
  ·refine .ret ?_;have h1:U2 l left=none:=u;rw[z,h1];simp
  simp only[EF,Aj];have h1:U2 l left=some left[j]:=u;have hid:=(GH (U _ (EJ I))).2;rw[hid,D6 Fa];simp only[AO];rw[zY _ _ AA BF,ai5 hi];simp only[AO];have hwl:=aX9 (Tn hi) (EJ I);rw[ih' (left.filter (· != left[j])) (c++[left[j]]) AA (hi.sublist Qp) (fun x hx=>U x ((FU.1 hx).1)) VF];refine .ret ?_;rw[z,h1,Hw];rfl
def acF (l:List AL) (ids:List Int) (hl:l.length≤1000) (hs:D5 l) (hi:ids.length≤100000):aOU l ids=some (rY l (gG l ids).length (gG l ids)):=by
 have q:(gG l ids).length≤l.length:=lq (Zj l ids) fun x j=>(Lp.1 j).2;unfold aOU;rw[aas l ids hl hi];simp only[AO];unfold aaH;rw[adh l hl hs _ (gG l ids) [] Ag rfl (Zj l ids) (fun x j=>(Lp.1 j).2) UE (fuel_lt AA)];rfl
def aNE (l:List AL):∀(n:Nat) (left:List Int) {x:Int},x∈rY l n left→x∈left
 |0,_,_,h=>absurd h Ei
 |n+1,left,x,h=>by
  unfold rY at h;cases j:U2 l left with
  |none=>rw[j]at h;exact absurd h Ei
  |some b=>
   rw[j]at h;rcases EX.1 h with rfl|h
   ·exact af2 j
   exact(FU.1 (aNE l n _ h)).1
def aTE (l:List AL):∀(n:Nat) (left:List Int),(rY l n left).length≤n
 |0,_=>Dq _
 |n+1,left=>by
  unfold rY;cases U2 l left with
  |none=>exact Du _
  |some b=>have :=aTE l n (left.filter (· != b));simp only[G7];omega
def OI (l:List AL) (e:AL):Option Int:=e.aZ.find? fun id=>bW l id&&(ev l id).Kind==3
def bV (l:List AL) (e:AL):Int×Bool:=match OI l e with |some x=>(x,true)|none=>(0,false)
def aUO (l:List AL) (e:AL) (hl:l.length≤1000) (j:e.aZ.length≤40):nG l e=some (bV l e):=by
 unfold nG aUM;rw[Jc e.aZ (fuel_lt AA) (fun id=>bW l id&&(ev l id).Kind==3) (fun i=>some (match e.aZ[i]? with |some x=>(x,true)|none=>(0,false))) (some (0,false))]
 ·unfold bV OI;rw[KN];by_cases h:e.aZ.findIdx (fun id=>bW l id&&(ev l id).Kind==3)<e.aZ.length
  ·rw[CS h]
  rw[CY h,Ib AA]
 ·intro k i h;unfold aHY;rw[Bo h,Np l _ AA,D8 h];simp only[AO];unfold bW ev;rw[NZ];cases(Dw l e.aZ[i]).isSome<;>rfl
 intro k;unfold aHY;rw[DC]
def adw (l:List AL) (e:AL) (hl:l.length≤1000) (j:e.aZ.length≤40):aN2 l e=some (bV l e):=by
 unfold aN2 aWI;rw[Jc e.aZ (fuel_lt AA) (fun id=>bW l id&&(ev l id).Kind==3) (fun i=>some (match e.aZ[i]? with |some x=>(x,true)|none=>(0,false))) (some (0,false))]
 ·unfold bV OI;rw[KN];by_cases h:e.aZ.findIdx (fun id=>bW l id&&(ev l id).Kind==3)<e.aZ.length
  ·rw[CS h]
  rw[CY h,Ib AA]
 ·intro k i h;unfold aKr;rw[Bo h,KR l _ AA,D8 h,Bd h];simp only[AO];unfold bW ev;rw[NZ];cases(Dw l e.aZ[i]).isSome<;>rfl
 intro k;unfold aKr;rw[DC]
def Ba (l:List AL):Nat→List Int→Int→List Int
 |0,seen,_=>seen
 |n+1,seen,id=>bif D9 seen id|| !bW l id then seen else match OI l (ev l id)with
  |none=>seen++[id]
  |some x=>Ba l n (seen++[id]) x
def YR (l:List AL) (id:Int):List Int:=Ba l l.length [] id
structure UY (l:List AL) (seen:List Int):Prop where
 nodup:seen.Nodup
 known:∀x∈seen,bW l x=true
def UY.length {l:List AL} {seen:List Int} (h:UY l seen):seen.length≤l.length:=by
 rw[←(Ti seen).length_eq,aYy h.nodup];exact lq (Jo _) fun x j=>h.known x (IQ.1 j)
def UY.snoc {l:List AL} {seen:List Int} (h:UY l seen) {id:Int} (q:id∉seen) (u:bW l id=true):UY l (seen++[id]):=by
 refine⟨s0.2 ⟨h.nodup,BF,fun a ha b z=>?_⟩,fun x j=>?_⟩
 ·rw[IY.1 z];exact fun e=>q (e▸ha)
 rcases Hd.1 j with j|j
 ·exact h.known x j
 rw[IY.1 j];exact u
def aS6 (l:List AL):∀(n:Nat) (seen:List Int) (id:Int),UY l seen→UY l (Ba l n seen id)
 |0,_,_,h=>h
 |n+1,seen,id,h=>by
  unfold Ba;cases j:D9 seen id|| !bW l id with
  |true=>exact h
  |false=>
   rw[X4,OO]at j;have q:=h.snoc j.1 (by simpa using j.2);simp only[Aj];cases OI l (ev l id)with
   |none=>exact q
   |some x=>exact aS6 l n _ x q
def aW0 (l:List AL):∀(n:Nat) (seen:List Int) (id:Int),∃t,Ba l n seen id=seen++t
 |0,seen,_=>⟨[],by simp[Ba]⟩
 |n+1,seen,id=>by
  unfold Ba;cases D9 seen id|| !bW l id with
  |true=>exact⟨[],BF⟩
  |false=>
   simp only[Aj];cases OI l (ev l id)with
   |none=>exact⟨[id],rfl⟩
   |some x=>
    obtain⟨t,ht⟩:=aW0 l n (seen++[id]) x;exact⟨id::t,by simp only[ht,Hw];rfl⟩
def aQx (l:List AL) (id:Int):(YR l id).length≤l.length:=(aS6 l _ [] id ⟨aP,fun x j=>absurd j Ei⟩).length
def acD (l:List AL) (hl:l.length≤1000) (hs:D5 l) (Z v9:List Int):∀(m:Nat) (seen:List Int) (id:Int) (N:Nat),seen.length+m=l.length→UY l seen→m<N→E9 Yd N seen seen Z v9 id l=some (Ba l m seen id):=by
 intro m
 induction m with
 |zero=>
  intro seen id N hm u hN;obtain⟨N,rfl⟩:∃N',N=N'+1:=⟨N-1,AA⟩
  have I:=u.length;show Yd _ _ _ _ _ _ _=_;unfold Yd;rw[um _ _ AA,Np l _ AA];simp only[AO];rw[NZ];cases J:D9 seen id with
  |true=>rfl
  |false=>
   cases q:(Dw l id).isSome with
   |false=>rfl
   |true=>
    have L:=(u.snoc (OO.1 J) q).length;simp only[EI,O6]at L;omega
 |succ m ih=>
  intro seen id N hm u hN;obtain⟨N,rfl⟩:∃N',N=N'+1:=⟨N-1,AA⟩
  have I:=u.length;show Yd (E9 Yd N) _ _ _ _ _ _=_;have z:=fun j M h1 L=>ih j M N h1 L AA;generalize E9 Yd N=K at z;unfold Yd Ba;rw[um _ _ AA,Np l _ AA];simp only[AO];rw[NZ];cases J:D9 seen id with
  |true=>rfl
  |false=>
   cases q:(Dw l id).isSome with
   |false=>rw[show bW l id=false from q];rfl
   |true=>
    obtain⟨e,Y⟩:=SG.1 q;rw[show bW l id=true from q];simp only[Io,EF,LC,Az,Aj];rw[D6 Fa];simp only[AO];unfold aF2;simp only[Aj];rw[D6 Fa];simp only[AO];have O:(Fz l id).1=ev l id:=rfl
    have U:(ev l id).aZ.length≤40:=by
     have :ev l id=e:=by unfold ev;rw[Nl Y]
     rw[this];exact(hs e (I9 Y)).auth
    rw[O,aUO l _ hl U];simp only[AO];unfold bV;cases OI l (ev l id)with
    |none=>rfl
    |some x=>exact z (seen++[id]) x VF (u.snoc (OO.1 J) q)
def aij (l:List AL) (id:Int) (hl:l.length≤1000) (hs:D5 l):aDy l id=some (YR l id):=by
 unfold aDy qU aSX;exact acD l hl hs [] [] l.length [] id Ag BF ⟨aP,fun x j=>absurd j Ei⟩ (fuel_lt AA)
def am0 (l:List AL) (hl:l.length≤1000) (hs:D5 l):∀(m:Nat) (seen:List Int) (id:Int) (i N:Nat),i+m=l.length→seen.length≤i→m<N→ku (XW l) N seen id (i:Int)=some (Ba l m seen id):=by
 intro m
 induction m with
 |zero=>
  intro seen id i N hm M O;obtain⟨N,rfl⟩:∃N',N=N'+1:=⟨N-1,AA⟩
  have :i=l.length:=AA
  subst this;show XW _ _ _ _ _=_;unfold XW;rw[Ce];rfl
 |succ m U=>
  intro seen id i N hm M O;obtain⟨N,rfl⟩:∃N',N=N'+1:=⟨N-1,AA⟩
  show XW _ (ku (XW l) N) _ _ _=_;have q:=fun j u Y Z h2=>U j u Y N Z h2 AA;generalize ku (XW l) N=K at q;unfold XW Ba;rw[dec_lt AA,KR l _ AA,Wv _ _ AA];simp only[Az,AO];rw[NZ];cases z:(Dw l id).isSome with
  |false=>rw[show bW l id=false from z];cases D9 seen id<;>rfl
  |true=>
   rw[show bW l id=true from z];cases hh:D9 seen id with
   |true=>rfl
   |false=>
    obtain⟨e,L⟩:=SG.1 z;simp only[EF,LC,Aj,AO];rw[D6 Fa];simp only[AO];have I:(Fz l id).1=ev l id:=rfl
    have J:(ev l id).aZ.length≤40:=by
     have :ev l id=e:=by unfold ev;rw[Nl L]
     rw[this];exact(hs e (I9 L)).auth
    rw[I,adw l _ hl J,wrap_succ i AA];simp only[AO];unfold bV;cases OI l (ev l id)with
    |none=>rfl
    |some x=>exact q (seen++[id]) x (i+1) AA VF
def aaL (l:List AL) (id:Int) (hl:l.length≤1000) (hs:D5 l):aAo l id=some (YR l id):=by
 unfold aAo aa9;exact am0 l hl hs l.length [] id 0 Ag BF (Dq _) (fuel_lt AA)
def dF (j way:List Int):Int:=match way.find? (D9 j)with |some x=>((j.findIdx (· ==x):Nat):Int)|none=>(j.length:Int)
def Lu (l:List AL) (j:List Int) (id:Int):Int:=dF j (YR l id)
def aoT (l:List AL) (j:List Int) (hl:l.length≤1000) (hs:D5 l) (hm:j.length≤100000):∀(m:Nat) (seen:List Int) (z id:Int) (N:Nat),seen.length+m=l.length→UY l seen→seen.find? (D9 j)=none→m<N→E8 XR N seen j z id l=some (dF j (Ba l m seen id)):=by
 have q:∀seen:List Int,seen.find? (D9 j)=none→dF j seen=(j.length:Int):=fun seen h=>by unfold dF;rw[h]
 intro m
 induction m with
 |zero=>
  intro seen z id N hm Y M hN;obtain⟨N,rfl⟩:∃N',N=N'+1:=⟨N-1,AA⟩
  have hwl:=Y.length;show XR _ _ _ _ _ _=_;unfold XR;rw[um _ _ AA,Np l _ AA];simp only[AO];rw[NZ];have he:dF j (Ba l 0 seen id)=(j.length:Int):=q seen M;rw[he];cases O:D9 seen id with
  |true=>rfl
  |false=>
   cases U:(Dw l id).isSome with
   |false=>rfl
   |true=>
    have h2:=(Y.snoc (OO.1 O) U).length;simp only[EI,O6]at h2;omega
 |succ m ih=>
  intro seen z id N hm Y M hN;obtain⟨N,rfl⟩:∃N',N=N'+1:=⟨N-1,AA⟩
  have hwl:=Y.length;show XR (E8 XR N) _ _ _ _ _=_;have Z:=fun J z' id' h1 h2 h3=>ih J z' id' N h1 h2 h3 AA;generalize E8 XR N=K at Z;unfold XR qF;rw[um _ _ AA,Np l _ AA,aXW _ _ AA];simp only[AO];rw[NZ];have L:Ba l (m+1) seen id=bif D9 seen id|| !bW l id then seen else match OI l (ev l id)with |none=>seen++[id]|some x=>Ba l m (seen++[id]) x:=rfl
  cases O:D9 seen id with
  |true=>rw[L,O];simp only[Bool.true_or,Az,EF,Aj];rw[q seen M]
  |false=>
   cases U:(Dw l id).isSome with
   |false=>rw[L,O,show bW l id=false from U];simp only[NJ,Io,Az];rw[q seen M]
   |true=>
    obtain⟨e,he⟩:=SG.1 U;rw[L,O,show bW l id=true from U];simp only[Io,EF,LC,Az,Aj];have u:=aau j id;by_cases I:j.findIdx (· ==id)<j.length
    ·rw[CS I,show decide (((j.findIdx (· ==id):Nat):Int)≥0)=true by simp];simp only[Az];rw[Gi I]at u
     have hex:∃t,(match OI l (ev l id)with |none=>seen++[id]|some x=>Ba l m (seen++[id]) x)=seen++[id]++t:=by
      cases OI l (ev l id)with
      |none=>exact⟨[],BF⟩
      |some x=>exact aW0 l m (seen++[id]) x
     obtain⟨t,ht⟩:=hex;rw[ht];unfold dF;rw[YI,YI,M];simp[←u]
    rw[CY I,show decide ((-1:Int)≥0)=false by decide];simp only[Aj];rw[H7 I]at u;rw[D6 Fa];simp only[AO];have hev:(Fz l id).1=ev l id:=rfl
    have hea:(ev l id).aZ.length≤40:=by
     have :ev l id=e:=by unfold ev;rw[Nl he]
     rw[this];exact(hs e (I9 he)).auth
    have hf2:(seen++[id]).find? (D9 j)=none:=by rw[YI,M];simp[←u]
    rw[hev,aUO l _ hl hea];simp only[AO];unfold bV;cases OI l (ev l id)with
    |none=>simp only[Io,Az];rw[q _ hf2]
    |some x=>exact Z (seen++[id]) z x VF (Y.snoc (OO.1 O) U) hf2
def an1 (l:List AL) (j:List Int) (id:Int) (hl:l.length≤1000) (hs:D5 l) (hm:j.length≤100000):aCX l j id=some (Lu l j id):=by
 unfold aCX qU aYg;exact aoT l j hl hs hm l.length [] 0 id Ag BF ⟨aP,fun x q=>absurd q Ei⟩ rfl (fuel_lt AA)
def aob (l:List Int) (x:Int) (h:l.length≤100000):aIb l x=some ((l.findIdx (· ==x):Nat):Int):=by
 unfold aIb aT1;rw[Jc l (fuel_lt AA) (· ==x) (fun i=>some (i:Int)) (some (l.length:Int))]
 ·split
  ·rfl
  rename_i h;have :l.findIdx (· ==x)≤l.length:=iQ;congr 2;omega
 ·intro k i hi;unfold aHM;rw[Bo hi]
 intro k;unfold aHM;rw[DC]
def aUm (l:List AL) (j:List Int) (id:Int) (hl:l.length≤1000) (hs:D5 l) (hm:j.length≤100000):aCx l j id=some (Lu l j id):=by
 unfold aCx;rw[aaL l id hl hs];simp only[AO];have q:=aQx l id;unfold aa8 Lu dF;generalize YR l id=W at q;rw[Jc W (fuel_lt AA) (D9 j) (fun i=>some (match W[i]? with |some x=>((j.findIdx (· ==x):Nat):Int)|none=>0)) (some (j.length:Int))]
 ·rw[KN];by_cases h:W.findIdx (D9 j)<W.length
  ·rw[CS h,D8 h]
  rw[CY h,Ib AA]
 ·intro k i h;unfold aH4;rw[Bo h,Wv _ _ AA,Bd h,D8 h];simp only[AO];rw[aob _ _ hm];rfl
 intro k;unfold aH4;rw[DC]
def EY (l:List AL) (j:List Int) (id:Int):KQ:=⟨id,Lu l j id,(ev l id).Time⟩
def xJ (x:KQ):Int×Int×Int:=(x.ni,x.zn,x.Bh)
def H9 (x y:KQ):Bool:=KP (xJ x) (xJ y)
def zK (l:List AL) (j ids:List Int):List Int:=(LM H9 ((ids.filter (bW l)).map (EY l j))).map (·.ni)
def aQb (l:List AL) (j:List Int):∀ids:List Int,ids.flatMap (fun id=>bif bW l id then[EY l j id]else[])=(ids.filter (bW l)).map (EY l j)
 | []=>rfl
 |i::ids=>by
  rw[KO,aQb l j ids,Ri];cases bW l i<;>simp
def ap3 (s:List KQ) (hs:s.length≤1000000) (z:(s.map (·.ni)).Nodup):lI s=some s:=by
 unfold lI;by_cases L:s.length<2
 ·rw[show decide ((s.length:Int)<2)=true by simp;omega];rfl
 rw[show decide ((s.length:Int)<2)=false by simp;omega];simp only[Aj];unfold aRg;refine dL.eq ?_;refine Z8 (body:=zM) (fun m a b=>∃i:Nat,a=i∧i+m=s.length∧0<i∧b=s) ?_ Ag (s.length-1) 1 s (fuel_lt AA) ⟨1,rfl,AA,AA,rfl⟩;rintro m a b k ⟨i,rfl,hm,hi,rfl⟩ I;unfold zM;by_cases j:i<b.length
 ·rw[dec_lt j,Bd j];simp only[Az,AO];have w:Ai ((i:Int)-1)=((i-1:Nat):Int):=QH
  have q:i-1<b.length:=AA
  rw[w,Bd q];simp only[AO]
  have u:b[i].ni≠b[i-1].ni:=by
   have :=IW.1 z (i-1) i VT VT AA;simp only[Og]at this;exact fun e=>this e.symm
  have J:yT b[i] b[i-1]=false:=by
   unfold yT;rw[show(b[i].ni==b[i-1].ni)=false by simpa using u];rfl
  rw[J,wrap_succ i AA];exact I (m-1) _ _ AA ⟨i+1,rfl,AA,AA,rfl⟩
 have :i=b.length:=AA
 subst this;rw[Ce];exact .ret rfl
def aP1 (l:List AL) (j:List Int) (ids:List Int):(ids.map (EY l j)).map (·.ni)=ids:=by
 rw[Uh];exact List.map_id' ids
def apG (l:List AL) (j ids:List Int) (hl:l.length≤1000) (hs:D5 l) (hm:j.length≤100000) (hi:ids.length≤100000) (L:ids.Nodup):aFL l j ids=some (zK l j ids):=by
 unfold aFL aUI;rw[Hu (a0:=[]) ids AA (fun r id=>r++bif bW l id then[EY l j id]else[]) (fun i r=>r.length≤i) (fun M=>(yu M).bind fun z=>(lI z).bind fun I=>aOT I [] 0) (Dq _)]
 ·rw[foldl_append (fun id=>bif bW l id then[EY l j id]else[]),II,aQb];have O:=JH (bW l) ids;have J:((ids.filter (bW l)).map (EY l j)).length≤100000:=VT
  unfold yu aCy;rw[CS AA];simp only[AO];have e:(LM (fun x y:KQ=>KP (x.ni,x.zn,x.Bh) (y.ni,y.zn,y.Bh)) ((ids.filter (bW l)).map (EY l j)))=LM H9 ((ids.filter (bW l)).map (EY l j)):=rfl;rw[e];unfold zK;have hp:=TM H9 ((ids.filter (bW l)).map (EY l j))
  have q:((LM H9 ((ids.filter (bW l)).map (EY l j))).map (·.ni)).Nodup:=by
   rw[(hp.map (·.ni)).nodup_iff,aP1];exact L.sublist Qp
  have u:(LM H9 ((ids.filter (bW l)).map (EY l j))).length≤100000:=by rw[hp.length_eq];exact J
  generalize LM H9 ((ids.filter (bW l)).map (EY l j))=S at q u;rw[ap3 S AA q];simp only[AO];unfold aOT;rw[Hu (a0:=[]) S AA (fun r x=>r++[x.ni]) (fun i r=>r.length≤i) (fun r=>some r) (Dq _)]
  ·rw[foldl_append (fun x:KQ=>[x.ni]),II];congr 1;clear q u
   induction S with
   |nil=>rfl
   |cons x S U=>rw[KO,U];rfl
  ·intro k r i h Y;refine⟨aEd,?_⟩;unfold aHa;rw[Bo h,D6 Fa];rfl
  intro k r _;unfold aHa;rw[DC]
 ·intro k r i h Y;refine⟨?_,?_⟩
  ·cases bW l ids[i]<;>simp <;>omega
  unfold aM6 aD3;rw[Bo h,Np l _ AA];simp only[AO];rw[NZ,an1 l j _ hl hs hm];simp only[AO];rw[D6 Fa];unfold bW;cases(Dw l ids[i]).isSome with
  |true=>rfl
  |false=>simp
 intro k r _;unfold aM6;rw[DC]
def apd (l:List AL) (j:List Int) (a b:Int) (hl:l.length≤1000) (hs:D5 l) (hm:j.length≤100000):aN8 l j a b=some (!H9 (EY l j b) (EY l j a)):=by
 unfold aN8;rw[aUm l j a hl hs hm,aUm l j b hl hs hm,KR l a AA,KR l b AA];simp only[AO]
 have q:(!H9 (EY l j b) (EY l j a))=decide (Lu l j b<Lu l j a∨Lu l j a=Lu l j b∧((ev l a).Time<(ev l b).Time∨(ev l a).Time=(ev l b).Time∧a<b)):=by
  rw[Jq,MF,Gg];exact aTv (xJ (EY l j b)) (xJ (EY l j a))
 rw[q];show(bif Lu l j a != Lu l j b then some (decide (Lu l j a>Lu l j b))else bif (ev l a).Time != (ev l b).Time then some (decide ((ev l a).Time<(ev l b).Time))else some (decide (a<b)))=_;by_cases u:Lu l j a=Lu l j b
 ·rw[show(Lu l j a != Lu l j b)=false by simp[u]];simp only[Aj];by_cases z:(ev l a).Time=(ev l b).Time
  ·rw[show((ev l a).Time != (ev l b).Time)=false by simp[z]];simp only[Aj];congr 1;rw[jf];constructor
   ·intro h;exact .inr ⟨u,.inr ⟨z,h⟩⟩
   rintro(h|⟨_,h|⟨_,h⟩⟩)
   ·omega
   ·omega
   exact h
  rw[show((ev l a).Time != (ev l b).Time)=true by simp[z]];simp only[Az];congr 1;rw[jf];constructor
  ·intro h;exact .inr ⟨u,.inl h⟩
  rintro(h|⟨_,h|⟨h,_⟩⟩)
  ·omega
  ·exact h
  exact absurd h z
 rw[show(Lu l j a != Lu l j b)=true by simp[u]];simp only[Az];congr 1;rw[jf];constructor
 ·intro h;exact .inl h
 rintro(h|⟨h,_⟩)
 ·exact h
 exact absurd h u
def aH3 (x y z:KQ) (h:H9 x y=true) (k:H9 y z=true):H9 x z=true:=aMj _ _ _ h k
def aQK (x y:KQ) (h:H9 x y=false):H9 y x=true:=aa0 _ _ h
def aej (x y:KQ) (h:H9 x y=true) (k:H9 y x=true):x=y:=by
 have :=aUg _ _ h k;unfold xJ at this;cases x;cases y;simp only[QL]at this;obtain⟨a,b,c⟩:=this;subst a b c;rfl
def Y6 (l:List AL) (j:List Int) (q:List Int) (x:Int):List Int:=q.take (q.findIdx fun a=>H9 (EY l j x) (EY l j a))++x::q.drop (q.findIdx fun a=>H9 (EY l j x) (EY l j a))
def aUV (l:List AL) (j q:List Int) (x:Int):(Y6 l j q x).Perm (x::q):=by
 unfold Y6;refine aA4.trans ?_;rw[Qb]
def aft (l:List AL) (j q:List Int) (x:Int) (h:q.Pairwise fun a b=>H9 (EY l j a) (EY l j b)=true):(Y6 l j q x).Pairwise fun a b=>H9 (EY l j a) (EY l j b)=true:=by
 unfold Y6
 have J:∀a∈q.take (q.findIdx fun a=>H9 (EY l j x) (EY l j a)),H9 (EY l j a) (EY l j x)=true:=by
  intro a ha;obtain⟨i,hi,rfl⟩:=Fv ha;have z:i<q.findIdx fun a=>H9 (EY l j x) (EY l j a):=by simp at hi;omega
  have :=aP7 z;rw[WJ];exact aQK _ _ aPE
 have ha:∀d∈q.drop (q.findIdx fun a=>H9 (EY l j x) (EY l j a)),H9 (EY l j x) (EY l j d)=true:=by
  intro d hd;obtain⟨i,hi,rfl⟩:=Fv hd;rw[IV]at hi;have u:(q.findIdx fun a=>H9 (EY l j x) (EY l j a))<q.length:=AA
  have L:=aEB (w:=u);rw[Xv];rcases WT i with rfl|hp
  ·simpa using L
  exact aH3 _ _ _ L (IW.1 h _ _ u AA AA)
 refine Ur.2 ⟨h.sublist (aOO _ _),OC.2 ⟨ha,h.sublist (nN _ _)⟩,fun a M b I=>?_⟩;rcases EX.1 I with rfl|I
 ·exact J a M
 exact aH3 _ _ _ (J a M) (ha b I)
def Ya (l:List AL) (j:List Int) (q:List Int) (x:Int):List Int:=bif bW l x then Y6 l j q x else q
def ahG (l:List AL) (j ids:List Int):ids.foldl (Ya l j) []=zK l j ids:=by
 have key:∀(ids q:List Int),q.Pairwise (fun a b=>H9 (EY l j a) (EY l j b)=true)→(ids.foldl (Ya l j) q).Pairwise (fun a b=>H9 (EY l j a) (EY l j b)=true)∧(ids.foldl (Ya l j) q).Perm (ids.filter (bW l)++q):=by
  intro ids
  induction ids with
  |nil=>intro q h;exact⟨h,.refl _⟩
  |cons x ids I=>
   intro q h;rw[F5,Ri];unfold Ya;cases bW l x with
   |false=>exact I q h
   |true=>
    obtain⟨z,u⟩:=I (Y6 l j q x) (aft l j q x h);refine⟨z,u.trans ?_⟩;simp only[Jg,Yj];exact((aUV l j q x).append_left _).trans aA4
 obtain⟨z,u⟩:=key ids [] .nil;rw[Oe]at u;unfold zK
 have J:(ids.foldl (Ya l j) []).map (EY l j)=LM H9 ((ids.filter (bW l)).map (EY l j)):=
  aVH aH3 aQK aej (u.map _) (Yp.2 z)
 rw[←J,aP1]
def ahR (l:List AL) (q ids:List Int) (hl:l.length≤1000) (hs:D5 l) (hm:q.length≤100000) (hi:ids.length≤100000) (O:ids.Nodup):aOi l q ids=some (zK l q ids):=by
 unfold aOi aWL;rw[Hu (a0:=[]) ids AA (Ya l q) (fun i r=>r.length≤i∧∀x∈r,x∈ids.take i) (fun r=>some r) ⟨Dq _,fun x J=>absurd J Ei⟩]
 ·rw[ahG]
 ·intro k r i h ⟨U,L⟩;have u:ids.take (i+1)=ids.take i++[ids[i]]:=Nw h
  have M:D9 r ids[i]=false:=OO.2 fun hm=>by
   obtain⟨j,z,e⟩:=Fv (L _ hm);rw[WJ]at e;rw[FD]at z;exact IW.1 O j i AA h AA e
  refine⟨?_,?_⟩
  ·unfold Ya;cases bW l ids[i]with
   |false=>exact⟨by show r.length≤i+1;omega,fun x J=>by rw[u];exact aj _ (L x J)⟩
   |true=>
    have hp:=aUV l q r ids[i];refine⟨?_,fun x J=>?_⟩
    ·show(Y6 l q r ids[i]).length≤i+1;rw[hp.length_eq,G7];omega
    rw[u];rcases EX.1 (hp.mem_iff.1 J)with rfl|J
    ·exact jJ _ (IY.2 rfl)
    exact aj _ (L x J)
  unfold aLJ aBw;rw[Bo h,KR l _ AA,Bd h];simp only[AO];rw[Wv _ _ AA,M,NZ];unfold Ya bW;cases(Dw l ids[i]).isSome with
  |false=>rfl
  |true=>
   simp only[EF,Aj,AO,Az];unfold aai
   have I:∀(k2:Int→Option (List Int)) (j:Nat),j≤r.length→aEu k2 (j:Int) r ids (i:Int) k false=k (r.take j++ids[i]::r.drop j) (Ai ((i:Int)+1)):=by
    intro k2 j z;unfold aEu aBw;simp only[Aj];rw[VI z];simp only[AO];rw[D6 Dh];simp only[AO,II];rw[tu z,Bd h];simp only[AO];rw[D6 Dh];simp only[AO];rw[D6 Dh];simp
   rw[Jc r (fuel_lt AA) (fun a=>H9 (EY l q ids[i]) (EY l q a)) (fun j=>k (r.take j++ids[i]::r.drop j) (Ai ((i:Int)+1))) (k (r.take r.length++ids[i]::r.drop r.length) (Ai ((i:Int)+1)))]
   ·unfold Y6;split
    ·rfl
    rename_i Y
    have :(r.findIdx fun a=>H9 (EY l q ids[i]) (EY l q a))=r.length:=by
     have :=iQ (p:=fun a=>H9 (EY l q ids[i]) (EY l q a)) (xs:=r);omega
    rw[this]
   ·intro k2 j z;unfold aNA;rw[dec_lt z,Bd z,Bd h];simp only[Az,AO];rw[apd l q _ _ hl hs hm];simp only[AO];cases H9 (EY l q ids[i]) (EY l q r[j])with
    |true=>simp only[EF,Az];rw[I k2 j (Nat.le_of_lt z)]
    |false=>rfl
   intro k2;unfold aNA;rw[Ce];simp only[Aj];rw[I k2 r.length (Dq _)]
 intro k r _;unfold aLJ;rw[DC]
def amK {l:List AL} {j ids:List Int} {x:Int}:x∈zK l j ids↔x∈ids∧bW l x=true:=by
 unfold zK;rw[((TM H9 ((ids.filter (bW l)).map (EY l j))).map (·.ni)).mem_iff,aP1,FU]
def apq (l:List AL) (j ids:List Int):(zK l j ids).length≤ids.length:=by
 unfold zK;rw[CG,(TM _ _).length_eq,CG];exact JH _ _
def KW (c:Int):Bool:=(decide (c≥97)&&decide (c≤122))||(decide (c≥48)&&decide (c≤57))
def aRw (c:Int):fE c=some (KW c):=by
 unfold fE KW;cases decide (c≥97)<;>cases decide (c≤122)<;>cases decide (c≥48)<;>cases decide (c≤57)<;>rfl
def aNv (c:Int):jP c=some (KW c):=by
 unfold jP KW;cases decide (c≥97)<;>cases decide (c≤122)<;>cases decide (c≥48)<;>cases decide (c≤57)<;>rfl
def QK (l:List Int) (p:Int→Bool):Bool:=decide ((l.length:Int)≥1)&&decide ((l.length:Int)≤32)&&l.all fun c=>KW c||p c
def isLocal (c:Int):Bool:=c==95||c==46||c==45||c==61
def Uk (c:Int):Bool:=c==46||c==45
def XF (l:List Int):Bool:=QK l isLocal
def YT (l:List Int):Bool:=QK l Uk&&KW (l.getD 0 0)&&KW (l.getD (l.length-1) 0)
def aI5 {n:Nat} (h:n≤9223372036854775807):n<Ag:=jO
def aXp {s:ByteArray} (hs:s.size≤9223372036854775807) (f:Int→Option Bool) (p:Int→Bool) (j:∀c,f c=some (p c)):ZL s f=some (QK (BX s) p):=by
 have hl:aHc s f 0=some ((BX s).all fun c=>KW c||p c):=by
  unfold aHc;rw[Gs (BX s) Y3 (fun c=> !(KW c||p c)) false (some true) ?_ ?_,Jf,qB]
  ·intro k i h;have h':i<s.size:=Vg
   simp only[aLs,dec_lt h',Az,VJ h,aRw,j,AO];cases KW (BX s)[i]<;>cases p (BX s)[i]<;>rfl
  intro k;simp only[aLs,Ic,Ce,Aj]
 unfold ZL QK;rw[hl,Ic];have q:decide ((s.size:Int)≥1)= !decide ((s.size:Int)<1):=aJ7
 have u:decide ((s.size:Int)≤32)= !decide ((s.size:Int)>32):=aL5
 rw[q,u];cases decide ((s.size:Int)<1)<;>cases decide ((s.size:Int)>32)<;>rfl
def aek {s:ByteArray} (hs:s.size≤9223372036854775807):ZL s (fun a0=>oU a0)=some (QK (BX s) isLocal):=aXp hs _ isLocal (fun c=>by unfold oU isLocal;cases c==95<;>cases c==46<;>cases c==45<;>cases c==61<;>rfl)
def aeF {s:ByteArray} (hs:s.size≤9223372036854775807):ZL s (fun a0=>nV a0)=some (QK (BX s) Uk):=aXp hs _ Uk (fun c=>by unfold nV Uk;cases c==46<;>cases c==45<;>rfl)
def aj7 {s:ByteArray} (hs:s.size≤9223372036854775807):aAN s=some (XF (BX s)):=by
 unfold aAN XF;rw[aek hs];rfl
def aCO {s:ByteArray} (h:0<s.size):Hf s 0=some ((BX s).getD 0 0):=by
 have h':0<(BX s).length:=aCh
 rw[acE h'];simp[List.getD,h']
def aW3 {s:ByteArray} (h:0<s.size) (hs:s.size≤9223372036854775807):Hf s (Ai ((s.size:Int)-1))=some ((BX s).getD ((BX s).length-1) 0):=by
 have h':s.size-1<(BX s).length:=by rw[Ic];omega
 rw[NG AA AA,show(s.size:Int)-1=((s.size-1:Nat):Int) by omega,VJ h'];have j:(BX s).length-1=s.size-1:=by rw[Ic]
 rw[j];simp[List.getD,h']
def aQ4 {l:List Int} {p:Int→Bool} (h:QK l p=true):0<l.length∧l.length≤32:=by
 unfold QK at h;simp only[CW,Gg]at h;omega
def afI {s:ByteArray} (hs:s.size≤9223372036854775807):aAE s=some (YT (BX s)):=by
 unfold aAE YT;rw[aeF hs];simp only[AO];cases j:QK (BX s) Uk with
 |false=>rfl
 |true=>
  have hp:0<s.size:=by have :=(aQ4 j).1;rwa [Ic]at this
  simp only[Az,aCO hp,aW3 hp hs,aRw,AO];cases KW ((BX s).getD 0 0)<;>simp
def acS {s:ByteArray} (hs:s.size≤9223372036854775807):aHm s=some (bif YT (BX s)then 0 else 3):=by
 have hl:aO9 s 0=some (bif (BX s).all fun c=>KW c||Uk c then 0 else 3):=by
  unfold aO9;rw[Gs (BX s) Y3 (fun c=> !(KW c||Uk c)) 3 (some 0) ?_ ?_,Jf,←qB]
  ·cases((BX s).any fun c=> !(KW c||Uk c))<;>rfl
  ·intro k i h;have h':i<s.size:=Vg
   simp only[aMQ,dec_lt h',Az,VJ h,aNv,AO,Uk,bne];cases KW (BX s)[i]<;>cases(BX s)[i]==46<;>cases(BX s)[i]==45<;>rfl
  intro k;simp only[aMQ,Ic,Ce,Aj]
 have j:decide ((s.size:Int)≥1)= !decide ((s.size:Int)<1):=aJ7
 have q:decide ((s.size:Int)≤32)= !decide ((s.size:Int)>32):=aL5
 unfold aHm YT QK;rw[hl];rw[show((BX s).length:Int)=(s.size:Int) by rw[Ic],j,q];by_cases u:(s.size:Int)<1
 ·simp[u]
 have hp:0<s.size:=AA
 simp only[aCO hp,aW3 hp hs,aNv,AO];cases decide ((s.size:Int)<1)<;>cases decide ((s.size:Int)>32)<;>cases KW ((BX s).getD 0 0)<;>cases KW ((BX s).getD ((BX s).length-1) 0)<;>cases((BX s).all fun c=>KW c||Uk c)<;>rfl
def afe {s:ByteArray} (hs:s.size≤9223372036854775807):aN5 s=some (XF (BX s)):=by
 unfold aN5 aVh;rw[Gs (BX s) Y3 (fun c=> !(KW c||isLocal c)) false (some (decide ((s.size:Int)≥1)&&decide ((s.size:Int)≤32))) ?_ ?_]
 ·unfold XF QK;rw[←qB,Ic];cases((BX s).any fun c=> !(KW c||isLocal c))<;>cases decide ((s.size:Int)≥1)<;>cases decide ((s.size:Int)≤32)<;>rfl
 ·intro k i h;have h':i<s.size:=Vg
  simp only[aJw,dec_lt h',Az,VJ h,aNv,AO,isLocal,bne];cases KW (BX s)[i]<;>cases(BX s)[i]==95<;>cases(BX s)[i]==46<;>cases(BX s)[i]==45<;>cases(BX s)[i]==61<;>rfl
 intro k;simp only[aJw,Ic,Ce,Aj];cases decide ((s.size:Int)≥1)<;>cases decide ((s.size:Int)≤32)<;>rfl
def aW8 (s:ByteArray):(BX s).length=s.data.toList.length:=by simp[BX]
def Fg (s:ByteArray):Nat:=(BX s).findIdx (· ==58)
def aIU (s:ByteArray):Fg s≤s.size:=by unfold Fg;rw[←Ic];exact iQ
def aTk {s:ByteArray} (hs:s.size≤9223372036854775807):aBa s=some (Fg s:Int):=by
 unfold aBa aSU;rw[Jc (BX s) Y3 (· ==58) (fun i=>some (i:Int)) (some (s.size:Int)) ?_ ?_]
 ·have :=aIU s;by_cases h:(BX s).findIdx (· ==58)<(BX s).length
  ·rw[CS h];rfl
  rw[CY h];congr 2;unfold Fg at this ⊢;rw[Ic]at h;omega
 ·intro k i h;have h':i<s.size:=Vg
  simp only[aKA,dec_lt h',Az,VJ h,AO,bne];cases(BX s)[i]==58<;>rfl
 intro k;simp only[aKA,Ic,Ce,Aj,AO]
def Ue (s:ByteArray):ByteArray:=s.extract 1 (Fg s)
def PV (s:ByteArray):ByteArray:=s.extract (Fg s+1) s.size
def TR (s:ByteArray):Bool:=decide (Fg s<s.size)&&XF (BX (Ue s))&&YT (BX (PV s))
def Gv (s:ByteArray) (m:Int):Bool:=decide (0<s.size)&&(BX s).getD 0 0==m&&TR s
def extract_size (s:ByteArray) (a b:Nat):(s.extract a b).size≤s.size:=by rw[aBD];omega
def aUF {s:ByteArray} (h:0<s.size) (hm:(BX s).getD 0 0≠58):1≤Fg s:=by
 unfold Fg;have hl:0<(BX s).length:=aCh
 match j:BX s with
 | []=>rw[j]at hl;simp at hl
 |c::l=>
  rw[j]at hm;simp only[List.getD_cons_zero]at hm;rw[UF,show(c==58)=false from by simpa using hm];simp
def aFP {s:ByteArray} (hs:s.size≤9223372036854775807) {m:Int} (hm:m≠58):jS s m=some (Gv s m):=by
 unfold jS Gv;by_cases j:0<s.size
 ·rw[show decide ((s.size:Int)<1)=false from by simp;omega,show decide (0<s.size)=true by simpa using j];simp only[Aj,aCO j,AO,bne];cases z:(BX s).getD 0 0==m with
  |false=>rfl
  |true=>
   have u:(BX s).getD 0 0=m:=Me
   have I:=aUF j (by rw[u];exact hm);have J:=aIU s;simp only[EF,Aj,aTk hs,AO,GL];unfold TR;by_cases q:Fg s<s.size
   ·have L:NW s 1 (Fg s:Int)=some (Ue s):=iy (lo:=1) I J
    have M:NW s (Ai ((Fg s:Int)+1)) (s.size:Int)=some (PV s):=by
     rw[NG AA AA,show(Fg s:Int)+1=((Fg s+1:Nat):Int) by omega];exact iy AA (Dq _)
    rw[show decide ((Fg s:Int)<(s.size:Int))=true from by simpa using q,show decide (Fg s<s.size)=true by simpa using q];have O:(Ue s).size≤9223372036854775807:=Ed (extract_size _ _ _) hs;have U:(PV s).size≤9223372036854775807:=Ed (extract_size _ _ _) hs;simp only[Az,L,M,afe O,acS U,AO];cases XF (BX (Ue s))<;>cases YT (BX (PV s))<;>rfl
   rw[show decide ((Fg s:Int)<(s.size:Int))=false from by simpa using q,show decide (Fg s<s.size)=false by simpa using q];rfl
 rw[show decide ((s.size:Int)<1)=true from by simp;omega,show decide (0<s.size)=false by simpa using j];rfl
def splitB (s:ByteArray) (b:Bool):ByteArray×ByteArray×Bool:=bif b then(Ue s,PV s,true)else(BP,BP,false)
def ao0 (b c:UInt8):(b==c)=(((b.toNat:Nat):Int)==((c.toNat:Nat):Int)):=by
 by_cases h:b=c
 ·subst h;simp
 have :¬b.toNat=c.toNat:=fun e=>h (UInt8.toNat_inj.1 e);have j:(b==c)=false:=JZ
 rw[j];symm;simp;omega
def aRr (s:ByteArray) (c:UInt8):s.data.toList.findIdx (· ==c)=(BX s).findIdx (· ==((c.toNat:Nat):Int)):=by
 unfold BX;rw[List.findIdx_map];congr 1;funext b;exact ao0 b c
def agZ (s:ByteArray):∀x∈BX s,0≤x∧x<256:=by
 intro x j;unfold BX at j;rw[E5]at j;obtain⟨c,_,rfl⟩:=j;have :=c.toNat_lt;omega
def getD_mem {s:ByteArray} (h:0<s.size):(BX s).getD 0 0∈BX s:=by
 have hl:0<(BX s).length:=aCh
 have e:(BX s).getD 0 0=(BX s)[0]:=by simp[List.getD,hl]
 rw[e];exact EJ hl
def ao5 (marks:ByteArray) {c:Int} (u:0≤c) (z:c<256):decide (Lib.indexByte marks.data.toList c.toNat.toUInt8<0)= !(BX marks).contains c:=by
 have e:(((c.toNat.toUInt8).toNat:Nat):Int)=c:=by
  rw[Nat.toUInt8,UInt8.toNat_ofNat'];omega
 rw[aPb,aRr,e,←aW8 marks];by_cases hm:c∈BX marks
 ·have j:(BX marks).findIdx (· ==c)<(BX marks).length:=List.findIdx_lt_length_of_exists ⟨c,hm,BF⟩;rw[CS j,show(BX marks).contains c=true by simpa using hm];simp
 have q:¬(BX marks).findIdx (· ==c)<(BX marks).length:=fun h=>by
  have :=aEB (w:=h);simp only[Lm]at this;exact hm (this▸EJ h)
 rw[CY q,show(BX marks).contains c=false by simpa using hm];rfl
def aVR (s:ByteArray) (a b:Nat):(s.extract 1 s.size).extract a b=s.extract (1+a) (min (1+b) s.size):=by
 refine bytes_inj ?_;simp only[aX6];have :(BX s).take s.size=BX s:=QB (by rw[Ic];omega);rw[this,List.take_drop,aOj];congr 1;have :min (1+b) s.size=min (1+b) (BX s).length:=by rw[Ic]
 rw[this,List.take_eq_take_min]
def aeR {s:ByteArray} (h:0<s.size) (hm:(BX s).getD 0 0≠58):(BX (s.extract 1 s.size)).findIdx (· ==58)+1=Fg s:=by
 unfold Fg;rw[aX6];have :(BX s).take s.size=BX s:=QB (by rw[Ic];omega);rw[this];have hl:0<(BX s).length:=aCh
 match j:BX s with
 | []=>rw[j]at hl;simp at hl
 |c::l=>
  rw[j]at hm;simp only[List.getD_cons_zero]at hm;rw[UF,show(c==58)=false from by simpa using hm];rfl
def alf {s:ByteArray} (hs:s.size≤9223372036854775807) (h:0<s.size) (hm:(BX s).getD 0 0≠58):∃a b,strings_Cut (s.extract 1 s.size) lZ=some (a,b,decide (Fg s<s.size))∧(Fg s<s.size→a=Ue s∧b=PV s):=by
 have J:=aUF h hm;have L:=aIU s;have M:=aeR h hm;have q:(s.extract 1 s.size).size=s.size-1:=by rw[aBD];omega
 have u:zN (s.extract 1 s.size) lZ=some (if Fg s<s.size then((Fg s-1:Nat):Int)else -1):=by
  show some (Lib.indexByte (s.extract 1 s.size).data.toList 58)=_;rw[aPb,aRr,←aW8 (s.extract 1 s.size)];show some (if(BX (s.extract 1 s.size)).findIdx (· ==58)<_ then(((BX (s.extract 1 s.size)).findIdx (· ==58):Nat):Int)else -1)=_;rw[Ic,q];have e:(BX (s.extract 1 s.size)).findIdx (· ==58)=Fg s-1:=AA
  rw[e];congr 1;by_cases j:Fg s<s.size
  ·rw[CS j,CS AA]
  rw[CY j,CY AA]
 unfold strings_Cut aNF;rw[u,AO];by_cases j:Fg s<s.size
 ·rw[CS j,show decide (((Fg s-1:Nat):Int)≥0)=true from by simp,show decide (Fg s<s.size)=true by simpa using j];have z:NW (s.extract 1 s.size) 0 ((Fg s-1:Nat):Int)=some ((s.extract 1 s.size).extract 0 (Fg s-1)):=iy (lo:=0) AA AA
  have I:NW (s.extract 1 s.size) (Ai (((Fg s-1:Nat):Int)+(lZ.size:Int))) ((s.extract 1 s.size).size:Int)=some ((s.extract 1 s.size).extract (Fg s) (s.size-1)):=by
   rw[show(lZ.size:Int)=1 from rfl,NG AA AA,show((Fg s-1:Nat):Int)+1=((Fg s:Nat):Int) by omega,q];exact iy AA AA
  simp only[Az,z,I,AO];refine⟨_,_,rfl,fun _=>⟨?_,?_⟩⟩
  ·rw[aVR];unfold Ue;congr 1;omega
  rw[aVR];unfold PV;rw[VO 1 (Fg s)];congr 1;omega
 rw[CY j,show decide ((-1:Int)≥0)=false from rfl,show decide (Fg s<s.size)=false by simpa using j];exact⟨_,_,rfl,fun h=>absurd h j⟩
def aNH {s:ByteArray} (hs:s.size≤9223372036854775807) {marks:ByteArray} (u:∀m∈BX marks,m≠58):dz s marks=some (splitB s ((BX marks).any fun m=>Gv s m)):=by
 unfold dz;by_cases q:0<s.size
 ·have z:(s.toList==BP.toList)=false:=by
   rw[Ie];simp only[P8];intro e;rw[e]at q;exact absurd q BK
  have I:=agZ s _ (getD_mem q)
  have j:((BX marks).any fun m=>Gv s m)=((BX marks).contains ((BX s).getD 0 0)&&TR s):=by
   unfold Gv;rw[show decide (0<s.size)=true by simpa using q]
   induction BX marks with
   |nil=>rfl
   |cons m l J=>rw[Ze,J,List.contains_cons];cases(BX s).getD 0 0==m<;>cases TR s<;>simp
  rw[z,j];simp only[Aj,aCO q,AO,strings_IndexByte,ao5 marks I.1 I.2];cases L:(BX marks).contains ((BX s).getD 0 0)with
  |false=>rfl
  |true=>
   have hm:(BX s).getD 0 0≠58:=u _ Vm;obtain⟨a,b,M,O⟩:=alf hs q hm;have U:NW s 1 (s.size:Int)=some (s.extract 1 s.size):=iy (lo:=1) AA (Dq _);simp only[EF,Aj,U,M,AO,GL];unfold TR;cases Y:decide (Fg s<s.size)with
   |false=>rfl
   |true=>
    obtain⟨rfl,rfl⟩:=O (Rk Y);have Z:(Ue s).size≤9223372036854775807:=Ed (extract_size _ _ _) hs;have g2:(PV s).size≤9223372036854775807:=Ed (extract_size _ _ _) hs;simp only[EF,Aj,aj7 Z,afI g2,AO];cases XF (BX (Ue s))<;>cases YT (BX (PV s))<;>rfl
 have hz:s.size=0:=AA
 have he:s=BP:=bytes_inj (by
  have h1:BX s=[]:=Gf (by rw[Ic];exact hz)
  rw[h1];rfl)
 have j:((BX marks).any fun m=>Gv s m)=false:=by
  rw[lU];intro m _;unfold Gv;rw[show decide (0<s.size)=false by simpa using q];simp
 rw[j,he,show(BP.toList==BP.toList)=true from by simp];rfl
def J7 (s:ByteArray):Bool:=Gv s 64||(Gv s 33||false)
def akY {s:ByteArray} (hs:s.size≤9223372036854775807):dz s nJ=some (splitB s (J7 s)):=
 aNH hs (marks:=nJ) (by rw[show BX nJ=[64,33]from rfl];intro m hm;simp only[EX,Ei,iU]at hm;omega)
def aXm {s:ByteArray} (h:TR s=true):Fg s<s.size:=by unfold TR at h;simp only[CW,Gg]at h;exact h.1.1
def UM {s:ByteArray} (hs:s.size≤9223372036854775807):VB s=some (splitB s (J7 s)).2.1∧iY s=some (splitB s (J7 s)).2.1:=by
 have z:Fg s<s.size→NW s (Ai ((Fg s:Int)+1)) (s.size:Int)=some (PV s):=fun I=>by
  rw[NG AA AA,show(Fg s:Int)+1=((Fg s+1:Nat):Int) by omega];exact iy AA (Dq _)
 unfold VB iY;rw[akY hs,aFP hs BK,aFP hs BK,aTk hs];refine⟨rfl,?_⟩;unfold J7;cases j:Gv s 64 with
 |true=>
  have u:=aXm (s:=s) (by unfold Gv at j;simp only[CW]at j;exact j.2);simp only[AO,EF,Aj,z u,Bool.true_or];rfl
 |false=>
  cases q:Gv s 33 with
  |true=>
   have u:=aXm (s:=s) (by unfold Gv at q;simp only[CW]at q;exact q.2);simp only[AO,EF,Io,Aj,Az,z u,NJ,Bool.true_or];rfl
  |false=>rfl
end Go.Proofs.YtkkdimcnpacjhaaGreat
end
