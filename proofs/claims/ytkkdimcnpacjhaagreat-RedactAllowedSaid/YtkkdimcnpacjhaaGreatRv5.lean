/- Part 5 of what the laws' proofs lean on: states of the walk, typed functions of the program and their laws (short forms written by wip/shrink.py; no condition). -/
import Derived.Test.YtkkdimcnpacjhaaGreatRv4
set_option linter.defProp false
set_option linter.unnecessarySimpa false
set_option linter.unusedVariables false
set_option linter.unusedSimpArgs false
section
namespace Go.Proofs.YtkkdimcnpacjhaaGreat
open Go.RowKit
set_option maxRecDepth 20000
set_option maxHeartbeats 4000000
def aMX (j:(AB→Int→Option AB)) (q:Int) (m:AB):Option AB:=j m (Ah (q+1))
def aH1 (u:AB) (j:AY) (O:(AB→Int→Option AB)) (U:Int) (m:(AB→Int→Option AB)):AB→Int→Option AB:=fun z q=>(bif decide (q<(u.length:Int))then(Af u q).bind fun I=>(KO j I).bind fun J=>(bif J.2 then(Af u q).bind fun L=>(X3 z L).bind fun M=>aMX m q M else aMX m q z)else O z (Ah (U+1)))
def aIB (m:AB) (j:AY) (q:(AB→Int→Option AB)) (u:Int):AB→Int→Option AB:=aP (aH1 m j q u) Ag
def aI1 (j:AY) (m:(AB→Int→Option AB)) (q:Int) (u:AB) (z:AB):Option AB:=aIB z j m q u 0
def aGH (j:AB) (m:AY) (q:Bool) (I:(AB→Int→Option AB)):AB→Int→Option AB:=fun z u=>(bif decide (u<(j.length:Int))then(Af j u).bind fun L=>(KO m L).bind fun J=>(bif q then aI1 m I u z J.1.bf else aI1 m I u z J.1.bF)else some z)
def aNk (m:AB) (q:AY) (j:Bool):AB→Int→Option AB:=aP (aGH m q j) Ag
def aEI (q:AY) (m:AB) (j:Bool):Option AB:=aNk m q j [] 0
def aFw (j:AB) (u:(AB→Int→Option AB)):AB→Int→Option AB:=fun q m=>(bif decide (m<(j.length:Int))then(Af j m).bind fun z=>(X3 q z).bind fun I=>u I (Ah (m+1))else some q)
def aaE (j:AB):AB→Int→Option AB:=aP (aFw j) Ag
def ZC (j:AB) (m:AB):Option AB:=(Opn j).bind fun q=>aaE m q 0
def aM8 (m:AY) (j:Bool) (z:(AB→Int→Option AB)):AB→Int→Option AB:=fun q u=>(bif decide (u<(m.length:Int))then(aEI m q j).bind fun I=>(ZC q I).bind fun J=>z J (Ah (u+1))else some q)
def aQv (m:AY) (j:Bool):AB→Int→Option AB:=aP (aM8 m j) Ag
def aJ1 (q:AY) (m:AB) (j:Bool):Option AB:=aQv q j m 0
def gU (j:AY) (m:AB):Option AB:=(aKw j m).bind fun q=>(aEI j q true).bind fun u=>(aJ1 j u true).bind fun z=>some z
def aJr (j:Au) (m:AY) (z:(AB→Int→Option AB)):AB→Int→Option AB:=fun q u=>(bif decide (u<(j.length:Int))then(Af j u).bind fun I=>(Bq 8 q [I.Id]).bind fun J=>z J (Ah (u+1))else(gU m q).bind fun L=>(ZC q L).bind fun M=>some M)
def abz (j:Au) (m:AY):AB→Int→Option AB:=aP (aJr j m) Ag
def aKX (j:AY) (m:Au):Option AB:=abz m j [] 0
def aeY (j:(AB→Int→Option AB)) (m:Int) (q:AB):Option AB:=j q (Ah (m+1))
def aaX (j:(Int→Int→Option AB)) (m:Int) (q:Int):Option AB:=j q (Ah (m+1))
def aJT (J:TA) (Z:AB) (j:Int) (u:AB) (z:(AB→Int→Option AB)) (I:(Int→Int→Option AB)):Int→Int→Option AB:=fun q m=>(bif decide (m<(J.length:Int))then(Af J m).bind fun L=>(Af Z j).bind fun M=>(Sv L M).bind fun O=>(bif O then aaX I m (Ah (q+1))else aaX I m q)else(bif decide (q<(J.length:Int))then(Af Z j).bind fun U=>(Bq 8 u [U]).bind fun Y=>aeY z j Y else aeY z j u))
def aQ8 (u:TA) (z:AB) (j:Int) (m:AB) (q:(AB→Int→Option AB)):Int→Int→Option AB:=aP (aJT u z j m q) Ag
def aM5 (u:AB) (z:TA) (q:(AB→Int→Option AB)):AB→Int→Option AB:=fun j m=>(bif decide (m<(u.length:Int))then aQ8 z u m j q 0 0 else some j)
def aIJ (j:AB) (m:TA):AB→Int→Option AB:=aP (aM5 j m) Ag
def aJ2 (j:FD) (m:AY) (J:(TA→AB→Int→Option AB)):TA→AB→Int→Option AB:=fun u z q=>(bif decide (q<(j.length:Int))then(Af j q).bind fun L=>(aKX m L).bind fun I=>(Bq 24 u [I]).bind fun M=>(ZC z I).bind fun O=>J M O (Ah (q+1))else aIJ z u [] 0)
def aRm (j:FD) (m:AY):TA→AB→Int→Option AB:=kN (aJ2 j m) Ag
def aHP (m:AY) (j:FD):Option AB:=aRm j m [] [] 0
def aKQ (m:AY) (j:FD):Option AB:=(aBK j).bind fun q=>(aHP m j).bind fun u=>(ZC q.2 u).bind fun z=>some z
def aBn (m:AY) (j:AB):Option AB:=(qR m j).bind fun q=>(bQ j q).bind fun u=>some u
def aLI (j:AL):Option Bool:=(bif (j.Kind==2)then(bif (j.Content.N==0)then some true else some (j.Content.N==4)).bind fun m=>(bif m then some (!(j.Key.toList==j.aN.toList))else some false).bind fun q=>some q else(bif (j.Kind==3)then some true else some (j.Kind==4)).bind fun u=>some u)
def aCY (j:(AB→Int→Option AB)) (m:Int) (q:AB):Option AB:=j q (Ah (m+1))
def aF9 (j:(AB→Int→Option AB)) (m:Int) (q:AB):Option AB:=j q (Ah (m+1))
def aKD (m:AB) (M:AB) (O:(AB→Int→Option AB)) (U:Int) (u:(AB→Int→Option AB)):AB→Int→Option AB:=fun q j=>(bif decide (j<(m.length:Int))then(Af m j).bind fun z=>(Sv M z).bind fun I=>(bif I then(Af m j).bind fun J=>(X3 q J).bind fun L=>aF9 u j L else aF9 u j q)else aCY O U q)
def aPl (j:AB) (m:AB) (q:(AB→Int→Option AB)) (u:Int):AB→Int→Option AB:=aP (aKD j m q u) Ag
def aHf (q:AB) (j:AY) (O:(AB→Int→Option AB)):AB→Int→Option AB:=fun u m=>(bif decide (m<(q.length:Int))then(Af q m).bind fun U=>(KO j U).bind fun Y=>(aLI Y.1).bind fun z=>(bif z then(Af q m).bind fun I=>(X3 u I).bind fun J=>(Af q m).bind fun L=>(gU j [L]).bind fun M=>aPl M q O m J 0 else aCY O m u)else some u)
def ad9 (m:AB) (j:AY):AB→Int→Option AB:=aP (aHf m j) Ag
def aFS (m:AY) (j:AB):Option AB:=(aBn m j).bind fun q=>ad9 q m [] 0
def aIv (q:AB) (j:AB) (u:(Int→Option Bool)):Int→Option Bool:=fun m=>(bif decide (m<(q.length:Int))then(Af q m).bind fun z=>(Sv j z).bind fun I=>(bif I then some false else u (Ah (m+1)))else some true)
def aQH (m:AB) (j:AB):Int→Option Bool:=bn (aIv m j) Ag
def aGv (q:AY) (j:AB) (m:Int):Option Bool:=(gU q [m]).bind fun u=>aQH u j 0
def aIe (j:Au) (q:Int) (m:ByteArray) (k2:(Int→Option Au)):Int→Option Au:=fun u=>(bif decide (u<(j.length:Int))then(Af j u).bind fun x5=>(bif decide (x5.Kind<q)then some true else(Af j u).bind fun x8=>(bif (x8.Kind==q)then(Af j u).bind fun z=>some (Op.bytesLess (z.Key.toList) (m.toList))else some false).bind fun x9=>some x9).bind fun x6=>some x6 else some false).bind fun x3=>(bif x3 then k2 (Ah (u+1))else(bif decide (u<(j.length:Int))then(Af j u).bind fun I=>some (I.Kind==q)else some false).bind fun J=>(bif J then(Af j u).bind fun L=>some (L.Key.toList==m.toList)else some false).bind fun M=>(bif M then some j else(Gh j 0 u).bind fun O=>(Bq 32 [] O).bind fun U=>(Bq 32 U [(⟨q,m,0⟩:Ai)]).bind fun Y=>(Gh j u ((j).length)).bind fun Z=>(Bq 32 Y Z).bind fun x24=>some x24))
def aPb (m:Au) (q:Int) (j:ByteArray):Int→Option Au:=bn (aIe m q j) Ag
def Wh (m:Au) (q:Int) (j:ByteArray):Option Au:=aPb m q j 0
def aIr (j:Au):Option Au:=some j
def kn (j:AL):Option Au:=(bif (j.Kind==1)then some []else(Wh [] 1 BU).bind fun I=>(Wh I 3 BU).bind fun J=>(Wh J 2 j.aN).bind fun u=>(bif (j.Kind != 2)then some u else(Wh u 2 j.Key).bind fun z=>(bif (j.Content.N==3)then some true else some (j.Content.N==1)).bind fun L=>(bif L then some true else some (j.Content.N==2)).bind fun m=>(bif m then(Wh z 4 BU).bind fun q=>aIr q else aIr z)))
def aKc (j:(AY→Int→Option AY)) (m:Int) (q:AY):Option AY:=j q (Ah (m+1))
def aGE (j:AB) (m:AY) (I:(AY→Int→Option AY)):AY→Int→Option AY:=fun u q=>(bif decide (q<(j.length:Int))then(Af j q).bind fun L=>(KO m L).bind fun J=>(bif J.2 then(Bq 376 u [J.1]).bind fun z=>aKc I q z else aKc I q u)else some u)
def abM (j:AB) (m:AY):AY→Int→Option AY:=aP (aGE j m) Ag
def uT (m:AY) (j:AB):Option AY:=abM j m [] 0
def aKO (j:(AY→Bool→Int→Option AY)) (u:Int) (m:AY) (q:Bool):Option AY:=j m q (Ah (u+1))
def aMF (J:AY) (m:Int) (I:AY) (j:(AY→Bool→Int→Option AY)) (L:Bool) (q:Bool):Option AY:=(bif q then(Af J m).bind fun u=>(Bq 376 I [u]).bind fun z=>aKO j m z true else aKO j m I L)
def Px (j:AY) (Y:Au) (u:Int) (Z:(AY→Int→Option AY)) (m:(AY→Bool→Int→Option AY)):AY→Bool→Int→Option AY:=fun z I q=>(bif decide (q<(j.length:Int))then some (!I)else some false).bind fun J=>(bif J then(Af j q).bind fun L=>(Af Y u).bind fun M=>(bif (L.Kind==M.Kind)then(Af j q).bind fun O=>(Af Y u).bind fun U=>aMF j q z m I (O.Key.toList==U.Key.toList)else aMF j q z m I false)else Z z (Ah (u+1)))
def aai (j:AY) (m:Au) (q:Int) (u:(AY→Int→Option AY)):AY→Bool→Int→Option AY:=kN (Px j m q u) Ag
def aFb (j:Au) (u:AY) (z:(AY→Int→Option AY)):AY→Int→Option AY:=fun m q=>(bif decide (q<(j.length:Int))then aai u j q z m false 0 else some m)
def aQs (j:Au) (m:AY):AY→Int→Option AY:=aP (aFb j m) Ag
def yI (m:AY) (j:AL):Option AY:=(kn j).bind fun q=>(uT m j.bf).bind fun u=>aQs q u [] 0
def abk :Ba:={ Jq with jI:=50,mW:=50,eU:=50 }
def aME (j:Ba):Option Ba:=some j
def aHs (j:ByteArray):Option Ba:=(bif (!(j.toList==BU.toList))then aME ({ abk with Users:=[(⟨j,100⟩:H7)] })else aME abk)
def aGB (j:(ByteArray→Bool→Int→Option (Ba×ByteArray))) (m:Int) (q:ByteArray) (u:Bool):Option (Ba×ByteArray):=j q u (Ah (m+1))
def aIU (j:AY) (q:ByteArray) (u:(Int→Ba→Option (Ba×ByteArray))):Int→Ba→Option (Ba×ByteArray):=fun m z=>(bif decide (m<(j.length:Int))then(Af j m).bind fun I=>(bif (I.Kind==3)then(Af j m).bind fun J=>some (J.Content.Levels,q)else u (Ah (m+1)) z)else(aHs q).bind fun L=>some (L,q))
def aEX (j:AY) (m:ByteArray):Int→Ba→Option (Ba×ByteArray):=aP (aIU j m) Ag
def Pz (j:AY) (z:(ByteArray→Bool→Int→Option (Ba×ByteArray))):ByteArray→Bool→Int→Option (Ba×ByteArray):=fun I J m=>(bif decide (m<(j.length:Int))then some (!J)else some false).bind fun L=>(bif L then(Af j m).bind fun q=>(bif (q.Kind==1)then(Af j m).bind fun u=>aGB z m u.aN true else aGB z m I J)else aEX j I 0 Jq)
def aap (j:AY):ByteArray→Bool→Int→Option (Ba×ByteArray):=kN (Pz j) Ag
def jG (j:AY):Option (Ba×ByteArray):=aap j BU false 0
def aFo (j:Ba) (m:ByteArray) (k2:(Int→Option Int)):Int→Option Int:=fun q=>(bif decide (q<(j.Users.length:Int))then(Af j.Users q).bind fun u=>(bif (u.User.toList==m.toList)then(Af j.Users q).bind fun z=>some z.N else k2 (Ah (q+1)))else some j.User)
def ac7 (m:Ba) (j:ByteArray):Int→Option Int:=bn (aFo m j) Ag
def TM (m:Ba) (j:ByteArray):Option Int:=ac7 m j 0
def xg (m:AY) (j:AL):Option Int:=(yI m j).bind fun q=>(jG q).bind fun u=>(TM u.1 j.aN).bind fun z=>some z
def aFx (q:AY) (j:AL) (m:AL):Option Bool:=(xg q j).bind fun u=>(xg q m).bind fun z=>(bif (u != z)then some (decide (u>z))else(bif (j.Time != m.Time)then some (decide (j.Time<m.Time))else some (decide (j.Id<m.Id))))
def aM0 (j:(Bool→Int→AB→AL→Option AB)) (z:Int) (m:Bool) (q:AB) (u:AL):Option AB:=j m (Ah (z+1)) q u
def aJ0 (m:AB) (j:AY) (k4:(AB→AB→Option AB)) (q:(Bool→Int→AB→AL→Option AB)):Bool→Int→AB→AL→Option AB:=fun L u I J=>(bif decide (u<(m.length:Int))then(Af m u).bind fun M=>(KO j M).bind fun z=>(Af m u).bind fun O=>(aGv j m O).bind fun U=>(bif U then(bif (!L)then some true else(aFx j z.1 J).bind fun Y=>some Y).bind fun Z=>some Z else some false).bind fun Vd=>(bif Vd then aM0 q u true I z.1 else aM0 q u L I J)else(bif (!L)then some I else(Bq 8 I [J.Id]).bind fun x27=>(bQ m [J.Id]).bind fun x28=>k4 x28 x27))
def aeZ (m:AB) (j:AY) (q:(AB→AB→Option AB)):Bool→Int→AB→AL→Option AB:=VI (aJ0 m j q) Ag
def Vt (j:AY) (u:(AB→AB→Option AB)):AB→AB→Option AB:=fun m q=>(bif decide ((m.length:Int)>0)then aeZ m j u false 0 q Ej else some q)
def aNy (j:AY):AB→AB→Option AB:=aP (Vt j) Ag
def aHt (m:AY) (j:AB):Option AB:=(aBn m j).bind fun q=>aNy m q []
def aF4 (j:AY) (q:Int) (m:ByteArray) (I:(Int→AL→Option (AL×Bool))):Int→AL→Option (AL×Bool):=fun u J=>(bif decide (u<(j.length:Int))then(Af j u).bind fun L=>(bif (L.Kind==q)then(Af j u).bind fun M=>some (M.Key.toList==m.toList)else some false).bind fun O=>(bif O then(Af j u).bind fun z=>some (z,true)else I (Ah (u+1)) J)else some (Ej,false))
def abr (m:AY) (q:Int) (j:ByteArray):Int→AL→Option (AL×Bool):=aP (aF4 m q j) Ag
def aGg (m:AY) (q:Int) (j:ByteArray):Option (AL×Bool):=abr m q j 0 Ej
def aLx (j:(AY→Int→Option AY)) (m:Int) (q:AY):Option AY:=j q (Ah (m+1))
def aHq (z:(AY→Int→Option AY)) (I:Int) (m:Bool) (j:AY) (q:AL):Option AY:=(bif m then(Bq 376 j [q]).bind fun u=>aLx z I u else aLx z I j)
def aG9 (m:Au) (q:Au) (Z:AY) (u:AY) (Y:(AY→Int→Option AY)):AY→Int→Option AY:=fun L j=>(bif decide (j<(m.length:Int))then(Af m j).bind fun x9=>(Af m j).bind fun M=>(qX q x9.Kind M.Key).bind fun z=>(Af m j).bind fun O=>(Af m j).bind fun U=>(aGg Z O.Kind U.Key).bind fun I=>(bif z.2 then(KO u z.1).bind fun J=>aHq Y j J.2 L J.1 else aHq Y j I.2 L I.1)else some L)
def aeU (q:Au) (j:Au) (u:AY) (m:AY):AY→Int→Option AY:=aP (aG9 q j u m) Ag
def aIj (j:AY) (q:Au) (m:AL):Option AY:=(kn m).bind fun u=>(uT j m.bf).bind fun z=>aeU u q z j [] 0
def aMx (j:AY) (q:(Int→AL→Option (AL×Bool))):Int→AL→Option (AL×Bool):=fun m u=>(bif decide (m<(j.length:Int))then(Af j m).bind fun z=>(bif (z.Kind==1)then(Af j m).bind fun I=>some (I,true)else q (Ah (m+1)) u)else some (Ej,false))
def aNo (j:AY):Int→AL→Option (AL×Bool):=aP (aMx j) Ag
def aBt (j:AY):Option (AL×Bool):=aNo j 0 Ej
def aLa (j:AY) (m:ByteArray) (k2:(Int→Option Bool)):Int→Option Bool:=fun q=>(bif decide (q<(j.length:Int))then(Af j q).bind fun u=>(bif (u.Kind==2)then(Af j q).bind fun z=>some (z.Key.toList==m.toList)else some false).bind fun I=>(bif I then some true else k2 (Ah (q+1)))else some false)
def aPw (m:AY) (j:ByteArray):Int→Option Bool:=bn (aLa m j) Ag
def aFC (m:AY) (j:ByteArray):Option Bool:=aPw m j 0
def Wn (j:Bool):Option Bool:=some j
def aJZ (j:AL) (m:AY):Option Bool:=(aBt m).bind fun q=>(bif q.2 then(bif ((j.bF.length:Int)==1)then(Af j.bF 0).bind fun z=>(bif (z==q.1.Id)then(bif (j.aN.toList==q.1.aN.toList)then(bif (j.Key.toList==q.1.aN.toList)then(bif (j.Content.N==3)then(aFC m j.Key).bind fun u=>Wn (!u)else Wn false)else Wn false)else Wn false)else Wn false)else Wn false)else Wn false)
def aFX (j:AY) (m:ByteArray) (k2:(Int→Option Int)):Int→Option Int:=fun q=>(bif decide (q<(j.length:Int))then(Af j q).bind fun u=>(bif (u.Kind==2)then(Af j q).bind fun z=>some (z.Key.toList==m.toList)else some false).bind fun I=>(bif I then(Af j q).bind fun J=>some J.Content.N else k2 (Ah (q+1)))else some 0)
def aOZ (m:AY) (j:ByteArray):Int→Option Int:=bn (aFX m j) Ag
def lF (m:AY) (j:ByteArray):Option Int:=aOZ m j 0
def YE (j:Int) (q:Int) (m:Bool):Option Bool:=(bif decide (j<0)then some true else some (decide (j>4))).bind fun Y=>(bif Y then some false else(bif (q==3)then(bif m then some (j != 4)else some false).bind fun Z=>some Z else(bif (q==0)then(bif (j==1)then some true else some (j==2)).bind fun x8=>(bif x8 then some true else some (j==3)).bind fun u=>(bif u then some true else(bif (j==4)then some (!m)else some false).bind fun z=>some z).bind fun I=>some I else(bif (q==2)then(bif m then(bif (j==0)then some true else some (j==2)).bind fun J=>some J else some false).bind fun L=>some L else(bif (q==1)then(bif (!m)then(bif (j==0)then some true else some (j==2)).bind fun M=>(bif M then some true else some (j==1)).bind fun O=>some O else some false).bind fun U=>some U else(bif (q==4)then some (!m)else some false))))))
def aJK (j:AY) (k2:(Int→Option (Int×F6))):Int→Option (Int×F6):=fun m=>(bif decide (m<(j.length:Int))then(Af j m).bind fun q=>(bif (q.Kind==4)then(Af j m).bind fun u=>(Af j m).bind fun z=>(Bq 16 [] z.Content.Allow).bind fun I=>some (u.Content.N,I)else k2 (Ah (m+1)))else some (0,[]))
def aQJ (j:AY):Int→Option (Int×F6):=bn (aJK j) Ag
def aI2 (j:AY):Option (Int×F6):=aQJ j 0
def aLu (j:Int) (m:Int):Option Int:=(bif (m==3)then some true else some (j==1)).bind fun q=>(bif q then some 0 else(bif (m==1)then(bif (j==0)then some true else some (j==2)).bind fun u=>(bif u then some true else some (j==3)).bind fun z=>some z else some false).bind fun I=>(bif I then some 0 else some 21))
def aM3 (m:Int) (j:Int):Option Int:=(bif (m==2)then(bif (j==0)then some true else some (j==2)).bind fun q=>some q else some false).bind fun u=>(bif u then some 0 else some 21)
def aFs (m:AL) (q:AY) (j:Int):Option Int:=(aI2 q).bind fun u=>(bif (m.Content.N==3)then(aLu u.1 j).bind fun z=>some z else(bif (m.Content.N==2)then(aM3 u.1 j).bind fun I=>some I else some 0))
def aIx (j:AL) (q:AY) (m:Int):Option Int:=(lF q j.aN).bind fun Y=>(bif (Y != 3)then some 18 else(jG q).bind fun u=>(TM u.1 j.aN).bind fun z=>(TM u.1 j.Key).bind fun U=>(bif (j.Content.N==1)then some (decide (z<u.1.fH))else some false).bind fun Z=>(bif Z then some 20 else(bif (j.Content.N==0)then(bif (m==4)then some (decide (z<u.1.mW))else some false).bind fun I=>(bif I then some true else some (decide (z<u.1.jI))).bind fun J=>(bif J then some true else some (decide (U≥z))).bind fun L=>some L else some false).bind fun x9=>(bif x9 then some 20 else(bif (j.Content.N==4)then(bif decide (z<u.1.mW)then some true else some (decide (U≥z))).bind fun M=>some M else some false).bind fun O=>(bif O then some 20 else some 0))))
def aGs (j:AL) (m:AY):Option Int:=(aJZ j m).bind fun I=>(bif I then some 0 else(lF m j.Key).bind fun q=>(bif (j.Key.toList==j.aN.toList)then some (q==4)else some false).bind fun J=>(bif J then some 19 else(YE q j.Content.N (j.Key.toList==j.aN.toList)).bind fun L=>(bif (!L)then some 18 else(bif (j.Key.toList==j.aN.toList)then(aFs j m q).bind fun u=>some u else(aIx j m q).bind fun z=>some z))))
def aEp (j:Ba) (m:Int) (k2:(Int→Option Int)):Int→Option Int:=fun q=>(bif decide (q<(j.Kinds.length:Int))then(Af j.Kinds q).bind fun u=>(bif (u.Kind==m)then(Af j.Kinds q).bind fun z=>some z.N else k2 (Ah (q+1)))else(TU m).bind fun I=>(bif I then some j.State else some j.Message))
def aQE (j:Ba) (m:Int):Int→Option Int:=bn (aEp j m) Ag
def sO (j:Ba) (m:Int):Option Int:=aQE j m 0
def aH6 (j:Ba):Option AB:=some [j.User,j.Message,j.State,j.fH,j.jI,j.mW,j.eU]
def lZ (j:Int) (q:Int) (m:Int):Option Bool:=(bif (j==q)then some true else(bif decide (j≤m)then some (decide (q≤m))else some false).bind fun u=>some u).bind fun z=>some z
def sB (m:Ba) (u:Ba) (q:ByteArray) (j:ByteArray):Option Bool:=(TM m j).bind fun I=>(TM m q).bind fun z=>(TM u q).bind fun J=>(lZ z J I).bind fun L=>(bif L then(bif (z==J)then some true else some (q.toList==j.toList)).bind fun M=>(bif M then some true else some (decide (z<I))).bind fun O=>some O else some false).bind fun U=>some U
def aGS (j:Ba) (m:Ba) (M:Int) (u:(Int→Option Int)) (z:Int) (q:Int):Option Int:=(sO j q).bind fun I=>(sO m q).bind fun J=>(lZ I J M).bind fun L=>(bif (!L)then some 20 else u (Ah (z+1)))
def aKN (j:Ba) (q:Ba) (m:ByteArray) (z:(Int→Option Int)):Int→Option Int:=fun u=>(bif decide (u<(j.Users.length:Int))then(Af j.Users u).bind fun I=>(sB q j I.User m).bind fun J=>(bif (!J)then some 20 else z (Ah (u+1)))else some 0)
def aGi (m:Ba) (q:Ba) (j:ByteArray):Int→Option Int:=bn (aKN m q j) Ag
def aGf (j:Ba) (q:Ba) (m:ByteArray) (z:(Int→Option Int)):Int→Option Int:=fun u=>(bif decide (u<(j.Users.length:Int))then(Af j.Users u).bind fun I=>(sB j q I.User m).bind fun J=>(bif (!J)then some 20 else z (Ah (u+1)))else aGi q j m 0)
def aIc (m:Ba) (q:Ba) (j:ByteArray):Int→Option Int:=bn (aGf m q j) Ag
def aHB (j:Ba) (m:Ba) (L:Int) (u:ByteArray) (z:(Int→Option Int)):Int→Option Int:=fun q=>(bif decide (q<(Ah ((j.Kinds.length:Int)+(m.Kinds.length:Int))))then(bif decide (q<(j.Kinds.length:Int))then(Af j.Kinds q).bind fun I=>aGS j m L z q I.Kind else(Af m.Kinds (Ah (q-(j.Kinds.length:Int)))).bind fun J=>aGS j m L z q J.Kind)else aIc j m u 0)
def aDX (m:Ba) (q:Ba) (u:Int) (j:ByteArray):Int→Option Int:=bn (aHB m q u j) Ag
def aKr (z:AB) (J:AB) (I:Int) (m:Ba) (q:Ba) (j:ByteArray) (L:(Int→Option Int)):Int→Option Int:=fun u=>(bif decide (u<(z.length:Int))then(Af z u).bind fun M=>(Af J u).bind fun O=>(lZ M O I).bind fun U=>(bif (!U)then some 20 else L (Ah (u+1)))else aDX m q I j 0)
def aRJ (u:AB) (z:AB) (I:Int) (m:Ba) (q:Ba) (j:ByteArray):Int→Option Int:=bn (aKr u z I m q j) Ag
def aFj (j:Ba) (q:Ba) (m:ByteArray):Option Int:=(TM j m).bind fun u=>(aH6 j).bind fun z=>(aH6 q).bind fun I=>aRJ z I u j q m 0
def aIO (j:AL) (m:AY):Option Int:=(jG m).bind fun q=>(TM q.1 j.aN).bind fun u=>(sO q.1 j.Kind).bind fun z=>(bif decide (u<z)then some 20 else(bif (j.Kind==3)then(aFj q.1 j.Content.Levels j.aN).bind fun I=>some I else some 0))
def aJe (j:Bool):Option Int:=(bif j then some 0 else some 17)
def pF (j:AL) (m:AY):Option Int:=(aBt m).bind fun I=>(bif (j.Kind==1)then(bif (!I.2)then(ni j.aN).bind fun J=>(ni j.Room).bind fun L=>aJe (J.toList==L.toList)else aJe false)else(bif (!I.2)then some 17 else(bif (j.Kind==2)then(aGs j m).bind fun q=>some q else(lF m j.aN).bind fun u=>(bif (u != 3)then some 18 else(aIO j m).bind fun z=>some z))))
def aKe (q:Int) (m:ByteArray) (u:Int) (j:ByteArray):Option Bool:=(bif decide (q<u)then some true else(bif (q==u)then some (Op.bytesLess (m.toList) (j.toList))else some false).bind fun z=>some z).bind fun I=>some I
def aKH (j:Au) (q:Au) (u:Int):Option Au:=(Gh j u ((j).length)).bind fun z=>(Bq 32 q z).bind fun m=>some m
def Za (k2:(Int→Option Au)) (u:Int) (j:Au) (q:Int) (m:ByteArray) (z:Int) (U:Bool):Option Au:=(bif U then k2 (Ah (u+1))else(Gh j 0 u).bind fun Y=>(Bq 32 [] Y).bind fun Z=>(Bq 32 Z [(⟨q,m,z⟩:Ai)]).bind fun O=>(bif decide (u<(j.length:Int))then(Af j u).bind fun I=>some (I.Kind==q)else some false).bind fun J=>(bif J then(Af j u).bind fun L=>some (L.Key.toList==m.toList)else some false).bind fun M=>(bif M then aKH j O (Ah (u+1))else aKH j O u))
def aJ8 (m:Au) (q:Int) (j:ByteArray) (u:Int) (k2:(Int→Option Au)):Int→Option Au:=fun z=>(bif decide (z<(m.length:Int))then(Af m z).bind fun I=>(Af m z).bind fun J=>(aKe I.Kind J.Key q j).bind fun L=>Za k2 z m q j u L else Za k2 z m q j u false)
def adQ (q:Au) (u:Int) (j:ByteArray) (m:Int):Int→Option Au:=bn (aJ8 q u j m) Ag
def fQ (q:Au) (u:Int) (j:ByteArray) (m:Int):Option Au:=adQ q u j m 0
def aF3 (j:(Au→Int→Option Au)) (m:Int) (q:Au):Option Au:=j q (Ah (m+1))
def yA (u:Au) (j:(AL×Bool)) (z:(Au→Int→Option Au)) (I:Int) (m:Bool):Option Au:=(bif m then(fQ u j.1.Kind j.1.Key j.1.Id).bind fun q=>aF3 z I q else aF3 z I u)
def aGe (j:AB) (m:AY) (I:(Au→Int→Option Au)):Au→Int→Option Au:=fun u z=>(bif decide (z<(j.length:Int))then(Af j z).bind fun O=>(KO m O).bind fun q=>(bif q.2 then(TU q.1.Kind).bind fun J=>(bif J then(aIj m u q.1).bind fun L=>(pF q.1 L).bind fun M=>yA u q I z (M==0)else yA u q I z false)else yA u q I z false)else some u)
def aRe (j:AB) (m:AY):Au→Int→Option Au:=aP (aGe j m) Ag
def bU (m:AY) (q:Au) (j:AB):Option Au:=(Bq 32 [] q).bind fun u=>aRe j m u 0
def aFf (j:AL) (m:AY) (k2:(Int→Option (Int×Bool))):Int→Option (Int×Bool):=fun q=>(bif decide (q<(j.bf.length:Int))then(Af j.bf q).bind fun z=>(KO m z).bind fun u=>(bif u.2 then some (u.1.Kind==3)else some false).bind fun I=>(bif I then(Af j.bf q).bind fun J=>some (J,true)else k2 (Ah (q+1)))else some (0,false))
def aa9 (j:AL) (m:AY):Int→Option (Int×Bool):=bn (aFf j m) Ag
def aLL (j:AY) (m:AL):Option (Int×Bool):=aa9 m j 0
def WJ (j:AY) (L:(AB→Int→Int→Option AB)):AB→Int→Int→Option AB:=fun u z I=>(bif decide (I<(j.length:Int))then(KO j z).bind fun J=>(bif (!J.2)then some true else(Sv u z).bind fun M=>some M).bind fun O=>(bif O then some u else(Bq 8 u [z]).bind fun m=>(aLL j J.1).bind fun q=>(bif (!q.2)then some m else L m q.1 (Ah (I+1))))else some u)
def aQd (j:AY):AB→Int→Int→Option AB:=kN (WJ j) Ag
def wY (m:AY) (j:Int):Option AB:=aQd m [] j 0
def aFZ (j:AB) (m:Int) (k2:(Int→Option Int)):Int→Option Int:=fun q=>(bif decide (q<(j.length:Int))then(Af j q).bind fun u=>(bif (u==m)then some q else k2 (Ah (q+1)))else some (j.length:Int))
def adv (j:AB) (m:Int):Int→Option Int:=bn (aFZ j m) Ag
def aGL (j:AB) (m:Int):Option Int:=adv j m 0
def aJU (q:AB) (j:AB) (u:(Int→Option Int)):Int→Option Int:=fun m=>(bif decide (m<(q.length:Int))then(Af q m).bind fun z=>(Sv j z).bind fun I=>(bif I then(Af q m).bind fun J=>(aGL j J).bind fun L=>some L else u (Ah (m+1)))else some (j.length:Int))
def aRl (m:AB) (j:AB):Int→Option Int:=bn (aJU m j) Ag
def aBo (q:AY) (j:AB) (m:Int):Option Int:=(wY q m).bind fun u=>aRl u j 0
def aFa (m:AY) (j:AB) (q:Int) (u:Int):Option Bool:=(aBo m j q).bind fun z=>(aBo m j u).bind fun I=>(bif (z != I)then some (decide (z>I))else(KO m q).bind fun J=>(KO m u).bind fun L=>(bif (J.1.Time != L.1.Time)then some (decide (J.1.Time<L.1.Time))else some (decide (q<u))))
def aDe (j:(AB→Int→Option AB)) (m:Int) (q:AB):Option AB:=j q (Ah (m+1))
def vK (q:(Int→Option AB)) (m:Int) (u:AB) (j:AB) (Y:Int) (Z:(AB→Int→Option AB)) (z:Bool):Option AB:=(bif z then q (Ah (m+1))else(Gh u m ((u).length)).bind fun I=>(Bq 8 [] I).bind fun J=>(Gh u 0 m).bind fun L=>(Af j Y).bind fun M=>(Bq 8 L [M]).bind fun O=>(Bq 8 O J).bind fun U=>aDe Z Y U)
def aFV (I:AB) (j:AB) (J:Int) (u:AY) (m:AB) (U:(AB→Int→Option AB)) (z:(Int→Option AB)):Int→Option AB:=fun q=>(bif decide (q<(I.length:Int))then(Af I q).bind fun L=>(Af j J).bind fun M=>(aFa u m L M).bind fun O=>vK z q I j J U O else vK z q I j J U false)
def af5 (u:AB) (m:AB) (z:Int) (q:AY) (j:AB) (I:(AB→Int→Option AB)):Int→Option AB:=bn (aFV u m z q j I) Ag
def aK6 (j:AB) (q:AY) (m:AB) (L:(AB→Int→Option AB)):AB→Int→Option AB:=fun z u=>(bif decide (u<(j.length:Int))then(Af j u).bind fun M=>(KO q M).bind fun O=>(bif (!O.2)then some true else(Af j u).bind fun I=>(Sv z I).bind fun J=>some J).bind fun U=>(bif U then aDe L u z else af5 z j u q m L 0)else some z)
def aP4 (m:AB) (q:AY) (j:AB):AB→Int→Option AB:=aP (aK6 m q j) Ag
def aJD (q:AY) (j:AB) (m:AB):Option AB:=aP4 m q j [] 0
def aLV  (q:(Int→Nh→Option Nh)):Int→Nh→Option Nh:=fun m j=>(bif decide (m<(j.Same.length:Int))then(Af j.Same m).bind fun u=>(Af j.Same m).bind fun z=>(Af j.Same m).bind fun I=>(fQ j.Last u.Kind z.Key I.Id).bind fun J=>q (Ah (m+1)) ({ j with Last:=J })else some j)
def aeD  :Int→Nh→Option Nh:=aP (aLV) Ag
def wC (I:AB) (J:AB) (j:AY) (m:(Au×AB)) (q:AB) (u:Au) (L:AB):Option Nh:=(bQ I J).bind fun M=>(aJD j L M).bind fun z=>(bU j (({ { { { aG with Same:=m.1 }with Power:=q }with First:=u }with Others:=z }).First) (({ { { { aG with Same:=m.1 }with Power:=q }with First:=u }with Others:=z }).Others)).bind fun O=>aeD 0 ({ Same:=m.1,Power:=q,First:=u,Others:=z,Last:=O }:Nh)
def aLd (j:AY) (m:FD):Option Nh:=(aBK m).bind fun q=>(aKQ j m).bind fun I=>(aFS j I).bind fun J=>(aHt j J).bind fun u=>(bU j (({ { aG with Same:=q.1 }with Power:=u }).Same) (({ { aG with Same:=q.1 }with Power:=u }).Power)).bind fun L=>(qX (({ { { aG with Same:=q.1 }with Power:=u }with First:=L }).First) 3 BU).bind fun z=>(bif z.2 then(wY j z.1).bind fun M=>wC I J j q u L M else wC I J j q u L [])
def aGO (m:AY) (j:FD):Option Au:=(bif ((j.length:Int)==0)then some []else(bif ((j.length:Int)==1)then(Af j 0).bind fun q=>some q else(aLd m j).bind fun u=>some u.Last))
def sW (j:Au) (q:Int) (m:ByteArray) (k2:(Int→Option Bool)):Int→Option Bool:=fun u=>(bif decide (u<(j.length:Int))then(Af j u).bind fun z=>(bif (z.Kind==q)then(Af j u).bind fun I=>some (I.Key.toList==m.toList)else some false).bind fun J=>(bif J then some true else k2 (Ah (u+1)))else some false)
def aHI (m:Au) (q:Int) (j:ByteArray):Int→Option Bool:=bn (sW m q j) Ag
def ZT (m:Au) (q:Int) (j:ByteArray):Option Bool:=aHI m q j 0
def zN (L:AY) (j:Int) (m:Au) (q:(Au→Int→Option Int)) (u:Bool):Option Int:=(bif u then some 16 else(Af L j).bind fun z=>(Af L j).bind fun I=>(Bq 32 m [(⟨z.Kind,I.Key,0⟩:Ai)]).bind fun J=>q J (Ah (j+1)))
def aIS (q:AY) (I:Au) (u:AL) (z:(Au→Int→Option Int)):Au→Int→Option Int:=fun m j=>(bif decide (j<(q.length:Int))then(Af q j).bind fun J=>(Af q j).bind fun L=>(ZT I J.Kind L.Key).bind fun M=>(bif (!M)then zN q j m z true else(Af q j).bind fun O=>(Af q j).bind fun U=>(ZT m O.Kind U.Key).bind fun Y=>zN q j m z Y)else(bif (u.Kind != 1)then(ZT m 1 BU).bind fun Z=>some (!Z)else some false).bind fun x31=>(bif x31 then some 16 else some 0))
def aN9 (q:AY) (m:Au) (j:AL):Au→Int→Option Int:=aP (aIS q m j) Ag
def aMK (m:AY) (j:AL) (I:(Int→Option Int)):Int→Option Int:=fun q=>(bif decide (q<(m.length:Int))then(Af m q).bind fun u=>(bif (!(u.Room.toList==j.Room.toList))then some 13 else I (Ah (q+1)))else(kn j).bind fun z=>aN9 m z j [] 0)
def aK2 (m:AY) (j:AL):Int→Option Int:=bn (aMK m j) Ag
def aK8 (j:AL) (m:AY) (k2:(Int→Option Int)):Int→Option Int:=fun q=>(bif decide (q<(j.bf.length:Int))then(Af j.bf q).bind fun u=>(KO m u).bind fun z=>(bif (!z.2)then some 14 else k2 (Ah (q+1)))else(uT m j.bf).bind fun I=>aK2 I j 0)
def aQn (j:AL) (m:AY):Int→Option Int:=bn (aK8 j m) Ag
def aJG (j:AY) (m:AL):Option Int:=aQn m j 0
def aFk (j:(AY→Int→Option AY)) (m:Int) (q:AY):Option AY:=j q (Ah (m+1))
def aKl (j:Au) (m:AY) (I:(AY→Int→Option AY)):AY→Int→Option AY:=fun u q=>(bif decide (q<(j.length:Int))then(Af j q).bind fun L=>(KO m L.Id).bind fun J=>(bif J.2 then(Bq 376 u [J.1]).bind fun z=>aFk I q z else aFk I q u)else some u)
def aQw (j:Au) (m:AY):AY→Int→Option AY:=aP (aKl j m) Ag
def aEh (j:AY) (m:Au):Option AY:=aQw m j [] 0
def arW (j:Fj) (m:Int) (u:(Int→IZ→Option (IZ×Bool))):Int→IZ→Option (IZ×Bool):=fun q z=>(bif decide (q<(j.length:Int))then(Af j q).bind fun I=>(bif (I.Id==m)then(Af j q).bind fun J=>some (J,true)else u (Ah (q+1)) z)else some (iG,false))
def apC (m:Fj) (j:Int):Int→IZ→Option (IZ×Bool):=aP (arW m j) Ag
def aMg (m:Fj) (j:Int):Option (IZ×Bool):=apC m j 0 iG
def aGp (j:(Int→Int→Option Int)) (m:Int) (q:Int):Option Int:=j q (Ah (m+1))
def aIg (m:AL) (q:Fj) (u:AY) (j:Au) (U:(Int→Int→Option Int)):Int→Int→Option Int:=fun z I=>(bif decide (I<(m.bf.length:Int))then(Af m.bf I).bind fun Y=>(aMg q Y).bind fun J=>(bif (z==0)then some (J.1.Err != 0)else some false).bind fun L=>(bif L then aGp U I 16 else aGp U I z)else(bif (z != 0)then some z else(aEh u j).bind fun M=>(pF m M).bind fun O=>some O))
def aRw (m:AL) (q:Fj) (u:AY) (j:Au):Int→Int→Option Int:=aP (aIg m q u j) Ag
def aD2 (m:AL) (q:Fj) (u:AY) (j:Au) (z:Int):Option Int:=aRw m q u j z 0
def aAB (q:AY) (u:Fj) (m:AL) (j:Au):Option Int:=(aJG q m).bind fun J=>(bif (J==0)then(yI q m).bind fun z=>(pF m z).bind fun I=>aD2 m u q j I else aD2 m u q j J)
end Go.Proofs.YtkkdimcnpacjhaaGreat
end
section
namespace Go.Proofs.YtkkdimcnpacjhaaGreat
open Go.RowKit
set_option maxRecDepth 20000
set_option maxHeartbeats 4000000
def aAX (u:(Fj→Int→Option Fj)) (z:Int) (j:Fj) (m:IZ):Option Fj:=(Bq 64 j [m]).bind fun q=>u q (Ah (z+1))
def aAj (u:AY) (z:(AL×Bool)) (M:(Fj→Int→Option Fj)) (O:Int) (q:Fj) (j:IZ):Option Fj:=(aAB u q z.1 j.Before).bind fun m=>(bif ((({ { j with Err:=m }with After:=({ j with Err:=m }).Before }).Err)==0)then(TU z.1.Kind).bind fun I=>some I else some false).bind fun J=>(bif J then(fQ (({ { j with Err:=m }with After:=({ j with Err:=m }).Before }).Before) z.1.Kind z.1.Key z.1.Id).bind fun L=>aAX M O q ({ { { j with Err:=m }with After:=({ j with Err:=m }).Before }with After:=L })else aAX M O q ({ { j with Err:=m }with After:=({ j with Err:=m }).Before }))
def aLg (q:(AL×Bool)) (j:AY) (U:(Fj→Int→Option Fj)) (Y:Int) (u:(FD→Int→Fj→Option Fj)):FD→Int→Fj→Option Fj:=fun z I m=>(bif decide (I<(q.1.bF.length:Int))then(Af q.1.bF I).bind fun J=>(aMg m J).bind fun L=>(Bq 24 z [L.1.After]).bind fun M=>u M (Ah (I+1)) m else(bif decide ((z.length:Int)>0)then(aGO j z).bind fun O=>aAj j q U Y m ({ (⟨q.1.Id,[],[],0⟩:IZ)with Before:=O })else aAj j q U Y m (⟨q.1.Id,[],[],0⟩:IZ)))
def aaz (m:(AL×Bool)) (j:AY) (q:(Fj→Int→Option Fj)) (u:Int):FD→Int→Fj→Option Fj:=kN (aLg m j q u) Ag
def aHl (q:AB) (j:AY) (z:(Fj→Int→Option Fj)):Fj→Int→Option Fj:=fun u m=>(bif decide (m<(q.length:Int))then(Af q m).bind fun I=>(KO j I).bind fun J=>aaz J j z m [] 0 u else some u)
def aO2 (m:AB) (j:AY):Fj→Int→Option Fj:=aP (aHl m j) Ag
def aJz (j:AY):Option Fj:=(aJ5 j).bind fun m=>aO2 m j [] 0
def aJW (j:AY):Option Fj:=(aP1 j).bind fun m=>(bif (!m)then some []else(aJz j).bind fun q=>some q)
end Go.Proofs.YtkkdimcnpacjhaaGreat
end
section
namespace Go.Proofs.YtkkdimcnpacjhaaGreat
open Go.RowKit
def aj (l:List Int) (h:l.length≤1099511627776):VH l=some (EX l):=by
 unfold VH aC9 MJ Si;rw[D5 DK];have j:(Pj l).length≤1099511627776:=by rw[(UE l).length_eq];exact h
 simp[h,aD8,aA9]
def MF (l:List Int):(EX l).length≤l.length:=by
 rw[←aA9];exact EZ (Lib.compact_length_le _) Am
def aGN (a b:List Int):(NP a b).length≤a.length:=by
 unfold NP;exact EZ (JD _ _) (MF a)
def aLt (a b:List Int):(Gm a b).length≤a.length+b.length:=by
 rw[qE];exact EZ (MF _) Am
def anS (a b:Int):cmp_Less_int a b=some (decide (a<b)):=by
 simp[cmp_Less_int,cmp_isNaN_int]
def aRh (l:List Int) (x:Int) (hi:Inc l) (hn:l.length≤1099511627776):dQ (lH l x) (fun r=>r.2=CY l x):=by
 unfold lH acD;refine Xh (fun(m:Nat) (a b:Int)=>∃i j:Nat,a=i∧b=j∧i≤j∧j≤l.length∧m=j-i∧(∀q,(u:q<i)→(hl:q<l.length)→l[q]<x)∧(∀q,(u:j≤q)→(hl:q<l.length)→x≤l[q])) ?_ Ag l.length 0 (l.length:Int) dD ⟨0,l.length,rfl,rfl,EK _,Dc _,rfl,fun q u=>A8,fun q u hl=>A8⟩;rintro m a b k ⟨i,j,rfl,rfl,hij,hj,rfl,Y,h2⟩ hk;unfold aQR;refine dQ.bif (fun e=>?_) fun e=>?_
 ·have Z:i<j:=QK
  have w1:Ah ((i:Int)+(j:Int))=((i+j:Nat):Int):=PI
  have w2:IntKind.u64.wrap ((i+j:Nat):Int)=((i+j:Nat):Int):=by rw[ig];omega
  have w3:NZ .shr .u64 ((i+j:Nat):Int) 1=some (((i+j)/2:Nat):Int):=by
   have e0:((i+j:Nat):Int).fdiv (2^(min (1:Int).toNat IntKind.u64.bits))=(((i+j)/2:Nat):Int):=by
    have :(2:Int)^(min (1:Int).toNat IntKind.u64.bits)=2:=rfl;rw[this,adB _ A8];omega
   unfold NZ;rw[CU A8];exact BH some e0
  have w4:Ah (((i+j)/2:Nat):Int)=(((i+j)/2:Nat):Int):=PI
  have z:(i+j)/2<l.length:=A8
  rw[w1,w2,w3];simp only[AQ];rw[w4,Bf z];simp only[AQ];rw[anS,wrap_succ _ A8];simp only[AQ];have mono:∀p q,(L:p<l.length)→(u:q<l.length)→p<q→l[p]<l[q]:=fun p q L u I=>KH.1 hi p q L u I;refine dQ.bif (fun e2=>?_) fun e2=>?_
  ·have J:l[(i+j)/2]<x:=by simpa using e2
   refine hk (j-((i+j)/2+1)) _ _ A8 ⟨(i+j)/2+1,j,rfl,rfl,A8,hj,rfl,fun q u hl=>?_,h2⟩;by_cases eq:q=(i+j)/2
   ·subst eq;exact J
   have :=mono q ((i+j)/2) hl z A8;omega
  have J:¬l[(i+j)/2]<x:=by simpa using e2
  refine hk ((i+j)/2-i) _ _ A8 ⟨i,(i+j)/2,rfl,rfl,A8,A8,rfl,Y,fun q u hl=>?_⟩;by_cases eq:q=(i+j)/2
  ·subst eq;omega
  have :=mono ((i+j)/2) q z hl A8;omega
 have Z:¬i<j:=QK
 have M:i=j:=A8
 subst M;have mono:∀p q,(L:p<l.length)→(u:q<l.length)→p<q→l[p]<l[q]:=fun p q L u I=>KH.1 hi p q L u I;by_cases hl:i<l.length
 ·rw[show decide ((i:Int)<(l.length:Int))=true by simpa using hl,Bf hl];simp only[BA,AQ];by_cases J:l[i]=x
  ·have U:(l[i]==x)=true:=TJ
   rw[U];refine .ret ?_;exact(Ii.2 (J▸E8 hl)).symm
  have U:(l[i]==x)=false:=TJ
  rw[U]
  have hno:CY l x=false:=NR.2 fun z=>by
   obtain⟨q,u,e5⟩:=Hf z;rcases aAf q i with O|O|O
   ·have :=Y q O u;omega
   ·subst O;exact J e5
   have :=mono i q hl u O;have :=h2 i (Dc _) hl;omega
  simp[xk,hno,dQ]
 rw[show decide ((i:Int)<(l.length:Int))=false by simpa using hl];refine .ret ?_;refine(NR.2 fun z=>?_).symm;obtain⟨q,u,U⟩:=Hf z;have :=Y q A8 u;omega
def agV {l b:List Int} {i:Nat} (h:i<l.length):(l.take (i+1)).filter (fun x=> !CY b x)=(l.take i).filter (fun x=> !CY b x)++(if CY b l[i]then[]else[l[i]]):=by
 rw[Oj h,Ot];cases j:CY b l[i]<;>simp[j]
def agE (a b:List Int) (h:a.length≤274877906944) (M:b.length≤274877906944):aDx a b=some (NP a b):=by
 unfold aDx;rw[aj b A8,aj a A8];simp only[AQ];have ha:=MF a;have O:=MF b;have m:=LM b
 have I:NP a b=((EX a).take (EX a).length).filter (fun x=> !CY (EX b) x):=by
  rw[GY];unfold NP;congr 1;funext x;congr 1;by_cases j:x∈b
  ·rw[Ii.2 j,Ii.2 (Jh.2 j)]
  rw[NR.2 j,NR.2 (fun h=>j (Jh.1 h))]
 rw[I];generalize EX a=S at *;generalize EX b=S2 at *;refine dQ.eq ?_;unfold aRO;refine KX S.length dD (fun i v=>v=(S.take i).filter (fun x=> !CY S2 x)) Am ?_ ?_
 ·rintro i v k hi rfl q;have u:=wrap_succ i A8;have J:((S.take i).filter (fun x=> !CY S2 x)).length≤i:=EZ (JD _ _) DK;have hst:=agV (b:=S2) hi;unfold aIZ aDI;rw[show decide ((i:Int)<(S.length:Int))=true by simpa using hi,Bf hi];simp only[BA,AQ];refine(aRh S2 S[i] m A8).bind ?_;rintro r L;rw[L];cases z:CY S2 S[i]with
  |true=>
   simp only[Dv,Ar,u];exact q _ (by rw[hst];simp[z])
  |false=>
   simp only[I4,BA,u];rw[D5 FW];exact q _ (by rw[hst];simp[z])
 rintro v k rfl;unfold aIZ;rw[show decide ((S.length:Int)<(S.length:Int))=false by simp];exact .ret rfl
def XH (l:List Int) (x:Int) (h:l.length≤1099511627776):Sv l x=some (CY l x):=by
 refine dQ.eq ?_;unfold Sv abx;refine aX l.length dD (fun i=>∀j,(m:j<i)→(hl:j<l.length)→l[j]≠x) (fun j m=>A8) ?_ ?_
 ·intro i k hi q u;unfold aN0;rw[show decide ((i:Int)<(l.length:Int))=true by simpa using hi,Bf hi,wrap_succ i A8];simp only[BA,AQ];refine dQ.bif (fun e=>?_) fun e=>?_
  ·refine .ret ?_;have :l[i]=x:=QK
   rw[Ii.2 (this▸E8 hi)]
  refine u fun j m hl=>?_;by_cases z:j=i
  ·subst z;simpa using e
  exact q j A8 hl
 intro k q;unfold aN0;rw[show decide ((l.length:Int)<(l.length:Int))=false by simp];refine .ret ?_;rw[NR.2];intro I;obtain⟨j,m,e⟩:=Hf I;exact q j m m e
def aIp (p:Int→Bool):∀(l:List Int) (i:Nat),i≤l.length→(∀j,(h:j<i)→(hl:j<l.length)→p l[j]=true)→(∀h:i<l.length,p l[i]=false)→l.takeWhile p=l.take i∧l.dropWhile p=l.drop i
 | [],i,h,_,_=>by simp at h;subst h;simp
 |a::l,0,_,_,m=>by
  have :=m Am;simp at this;simp[this]
 |a::l,i+1,h,h1,m=>by
  have q:=h1 0 A8 Am;simp at q;have :=aIp p l i JU (fun j u hl=>by have :=h1 (j+1) A8 Ko;simpa using this) (fun hl=>by have :=m Ko;simpa using this);simp[q,this.1,this.2]
def cV (l:List Int) (x:Int) (h:l.length≤1099511627776):X3 l x=some (put l x):=by
 unfold X3;rw[XH l x h];simp only[AQ];unfold put;cases hh:CY l x with
 |true=>simp
 |false=>
  simp only[Ar,Qb,JC];refine dQ.eq ?_;unfold aQZ
  have m:∀i,i≤l.length→(∀j,(q:j<i)→(hl:j<l.length)→l[j]<x)→(∀h:i<l.length,¬l[i]<x)→
   dQ ((Gh l 0 (i:Int)).bind fun J=>(Bq 8 [] J).bind fun L=>(Bq 8 L [x]).bind fun M=>(Gh l (i:Int) ((l.length))).bind fun z=>(Bq 8 M z).bind fun I=>some I) (· =l.takeWhile (decide<| · <x)++x::l.dropWhile (decide<| · <x)):=by
   intro i hi O U;obtain⟨Y,Z⟩:=aIp (decide<| · <x) l i hi (fun j q hl=>by simpa using O j q hl) (fun hl=>by simpa using U hl)
   have e3:Gh l 0 (i:Int)=some (l.take i):=by
    have :=iZ (l:=l) (lo:=0) (hi:=i) A8 hi;simpa using this
   have e4:Gh l (i:Int) (l.length:Int)=some (l.drop i):=by
    rw[iZ (l:=l) (lo:=i) (hi:=l.length) hi A8];congr 1;exact PE Am
   rw[e3];simp only[AQ];rw[D5 DK];simp only[AQ,Hd];rw[D5 DK];simp only[AQ];rw[e4];simp only[AQ];rw[D5 DK];refine .ret ?_;rw[Y,Z];simp
  refine aX l.length dD (fun i=>∀j,(q:j<i)→(hl:j<l.length)→l[j]<x) (fun j q=>A8) ?_ ?_
  ·intro i k hi u hk;unfold aKK;rw[show decide ((i:Int)<(l.length:Int))=true by simpa using hi,Bf hi,wrap_succ i A8];simp only[BA,AQ];refine dQ.bif (fun e=>?_) fun e=>?_
   ·refine hk fun j q hl=>?_;by_cases ej:j=i
    ·subst ej;simpa using e
    exact u j A8 hl
   exact m i A8 u (fun _=>QK)
  intro k u;unfold aKK;rw[show decide ((l.length:Int)<(l.length:Int))=false by simp];exact m l.length A8 u (fun h=>A8)
def bZ (l:List Int) (x:Int):(put l x).length≤l.length+1:=by
 unfold put;split
 ·omega
 rw[Dk,FC];have :=BH List.length (jm (p:=(decide<| · <x)) (l:=l));rw[Dk]at this;omega
def gQ :∀(l a:List Int),(l.foldl put a).length≤a.length+l.length
 | [],a=>Am
 |x::l,a=>by
  have j:=gQ l (put a x);have m:=bZ a x;simp only[El,FC];omega
def acF {l a:List Int} {i:Nat} (h:i<l.length):(l.take (i+1)).foldl put a=put ((l.take i).foldl put a) l[i]:=by
 rw[Oj h,Uy];rfl
def aNU (l:List Int) (h:l.length≤274877906944):Opn l=some (EX l):=by
 refine dQ.eq ?_;unfold Opn aPi;refine KX l.length dD (fun i v=>v=(l.take i).foldl put []) Am ?_ ?_
 ·rintro i v k hi rfl j;have hl:=gQ (l.take i) [];simp only[Kr,FI]at hl;unfold aKC;rw[show decide ((i:Int)<(l.length:Int))=true by simpa using hi,Bf hi,wrap_succ i A8];simp only[BA,AQ];rw[cV _ _ A8];exact j _ (acF hi).symm
 rintro v k rfl;unfold aKC;rw[show decide ((l.length:Int)<(l.length:Int))=false by simp];exact .ret (by rw[GY];rfl)
def aAH (a b:List Int) (h:a.length≤274877906944) (m:b.length≤274877906944):ZC a b=some (Gm a b):=by
 unfold ZC;rw[aNU a h];have hs:=MF a;refine dQ.eq ?_;simp only[AQ];unfold aaE;refine KX b.length dD (fun i v=>v=(b.take i).foldl put (EX a)) Am ?_ ?_
 ·rintro i v k hi rfl j;have hl:=gQ (b.take i) (EX a);simp only[FI]at hl;unfold aFw;rw[show decide ((i:Int)<(b.length:Int))=true by simpa using hi,Bf hi,wrap_succ i A8];simp only[BA,AQ];rw[cV _ _ A8];exact j _ (acF hi).symm
 rintro v k rfl;unfold aFw;rw[show decide ((b.length:Int)<(b.length:Int))=false by simp];exact .ret (by rw[GY];rfl)
end Go.Proofs.YtkkdimcnpacjhaaGreat
end
section
namespace Go.Proofs.YtkkdimcnpacjhaaGreat
open Go.RowKit
variable {α : Type}
def Iq {R:Type} (c:Bool) (x y:R):(bif c then some x else some y)=some (bif c then x else y):=by cases c<;>rfl
def aCt {A R:Type} (c:Bool) (x y:Option A) (f:A→Option R):(bif c then x else y).bind f=bif c then x.bind f else y.bind f:=by cases c<;>rfl
def Zd (a b:Bool):(bif a then true else b)=(a||b):=by cases a<;>rfl
def Ri (a b:Bool):(bif a then b else false)=(a&&b):=by cases a<;>rfl
def TV {s:ByteArray} {i:Nat} (h:i<(BO s).length):GL s (i:Int)=some (BO s)[i]:=by
 unfold GL;rw[CJ (aIu i)];have h':i<s.size:=VL
 have e:s[i]? =some s[i]:=by simp[h']
 simp only[Ws,e,Ho,BO,Po];rfl
def anL {s:ByteArray} (h:0<(BO s).length):GL s 0=some (BO s)[0]:=TV (i:=0) h
def GK {R α:Type} {body:(Int→Option R)→Int→Option R} (l:List α) (hl:l.length<Ag) (p:α→Bool) (bad:R) (rest:Option R)
 (u:∀k (i:Nat) (h:i<l.length),body k (i:Int)=bif p l[i]then some bad else k (Ah ((i:Int)+1))) (z:∀k,body k (l.length:Int)=rest):
 bn body Ag 0=bif l.any p then some bad else rest:=by
 have L:Ag=9223372036854775808:=rfl
 have key:∀n (i:Nat),i+n=l.length→∀m,n<m→bn body m (i:Int)=bif (l.drop i).any p then some bad else rest:=by
  intro n
  induction n with
  |zero=>
   intro i hi m I;obtain⟨m,rfl⟩:∃q,m=q+1:=⟨m-1,A8⟩
   have :i=l.length:=A8
   subst this;show body (bn body m) _=_;rw[z,Na];rfl
  |succ n J=>
   intro i hi m I;obtain⟨m,rfl⟩:∃q,m=q+1:=⟨m-1,A8⟩
   have j:i<l.length:=A8
   show body (bn body m) _=_;rw[u _ i j,wrap_succ i A8,J (i+1) A8 m A8,Jp j,Y7];cases p l[i]<;>rfl
 have :=key l.length 0 A8 Ag hl;simpa using this
def bytes_inj {s t:ByteArray} (h:BO s=BO t):s=t:=by
 have hd:s.data.toList=t.data.toList:=by
  unfold BO at h;refine List.map_inj_right (f:=fun c:UInt8=>(c.toNat:Int)) (fun a b j=>?_) |>.1 h;exact UInt8.toNat_inj.1 A8
 obtain⟨⟨a⟩⟩:=s;obtain⟨⟨b⟩⟩:=t;simp only at hd;rw[hd]
def toList_inj {s t:ByteArray} (h:s.toList=t.toList):s=t:=by
 rw[ByteArray.toList_eq,ByteArray.toList_eq]at h;obtain⟨⟨a⟩⟩:=s;obtain⟨⟨b⟩⟩:=t;simp only at h;rw[h]
def HY {s t:ByteArray}:(s.toList==t.toList)=decide (s=t):=by
 by_cases h:s=t
 ·subst h;simp
 have :s.toList≠t.toList:=fun e=>h (toList_inj e);simp[h,this]
def Ie {R α:Type} {body:(Int→Option R)→Int→Option R} (l:List α) (hl:l.length<Ag) (q:α→Bool) (g:Nat→Option R) (rest:Option R)
 (z:∀k (i:Nat) (h:i<l.length),body k (i:Int)=bif q l[i]then g i else k (Ah ((i:Int)+1))) (I:∀k,body k (l.length:Int)=rest):
 bn body Ag 0=if l.findIdx q<l.length then g (l.findIdx q)else rest:=by
 have M:Ag=9223372036854775808:=rfl
 have key:∀n (i:Nat),i+n=l.length→∀m,n<m→bn body m (i:Int)=if(l.drop i).findIdx q+i<l.length then g ((l.drop i).findIdx q+i)else rest:=by
  intro n
  induction n with
  |zero=>
   intro i hi m J;obtain⟨m,rfl⟩:∃u,m=u+1:=⟨m-1,A8⟩
   have :i=l.length:=A8
   subst this;show body (bn body m) _=_;rw[I,Na,CU A8]
  |succ n L=>
   intro i hi m J;obtain⟨m,rfl⟩:∃u,m=u+1:=⟨m-1,A8⟩
   have j:i<l.length:=A8
   show body (bn body m) _=_;rw[z _ i j,wrap_succ i A8,L (i+1) A8 m A8,Jp j,SP];cases q l[i]with
   |true=>simp[j]
   |false=>simp only[Ar];rw[show(l.drop (i+1)).findIdx q+(i+1)=(l.drop (i+1)).findIdx q+1+i by omega]
 have :=key l.length 0 A8 Ag hl;simpa using this
def iY {s:ByteArray} {lo hi:Nat} (j:lo≤hi) (m:hi≤s.size):MI s (lo:Int) (hi:Int)=some (s.extract lo hi):=by
 unfold MI;rw[CJ ⟨A8,A8,A8⟩];simp
def aOS (s:ByteArray) (a b:Nat):BO (s.extract a b)=((BO s).take b).drop a:=by
 simp[BO,ByteArray.data_extract,Yv,XY,List.extract_eq_drop_take']
def qm (l:List α) (q:α→Bool):(bif l.any (fun c=> !q c)then false else true)=l.all q:=by
 have :l.any (fun c=> !q c)= !l.all q:=by simp[List.not_all_eq_any_not]
 rw[this];cases l.all q<;>rfl
def aNH :∀(l:List UInt8) (c:UInt8),Lib.indexByte l c=if l.findIdx (· ==c)<l.length then((l.findIdx (· ==c):Nat):Int)else -1
 | [],c=>rfl
 |b::l,c=>by
  unfold Lib.indexByte;rw[SP];cases h:b==c with
  |true=>simp
  |false=>
   rw[aNH l c];simp only[Qb,JC,Ar,FC];by_cases hl:l.findIdx (· ==c)<l.length
   ·simp only[hl,J5,show l.findIdx (· ==c)+1<l.length+1 by omega];have :(((l.findIdx (· ==c):Nat):Int)== -1)=false:=Am
    simp[this]
   simp[hl,show ¬l.findIdx (· ==c)+1<l.length+1 by omega]
end Go.Proofs.YtkkdimcnpacjhaaGreat
end
section
namespace Go.Proofs.YtkkdimcnpacjhaaGreat
open Go.RowKit
structure GV (e:AL):Prop where
 prev:e.bF.length≤40
 auth:e.bf.length≤40
 allow:e.Content.Allow.length≤100
 deny:e.Content.gB.length≤100
 users:e.Content.Levels.Users.length≤100
 kinds:e.Content.Levels.Kinds.length≤100
 room:e.Room.size≤2000
 sender:e.aN.size≤2000
 key:e.Key.size≤2000
 text:e.Content.Text.size≤2000
 via:e.Content.Via.size≤2000
 server:e.rP.Server.size≤2000
 allows:∀x∈e.Content.Allow,x.size≤2000
 denies:∀x∈e.Content.gB,x.size≤2000
 names:∀x∈e.Content.Levels.Users,x.User.size≤2000
def Nr {a b:Int} (h:decide (a>b)=false):a≤b:=by have :=Ir h;omega
def aNE {α:Type} {l:List α} {P:α→Prop} (h:∀j,(hl:j<l.length)→P l[j]):∀x∈l,P x:=fun x m=>by
 obtain⟨j,q,rfl⟩:=Hf m;exact h j q
def aJc {α:Type} {body:(Int→Option Bool)→Int→Option Bool} (l:List α) (hl:l.length<Ag) (m:α→Bool) (rest:Option Bool) {P:Prop}
 (I:∀(k:Int→Option Bool) (i:Nat) (h:i<l.length),body k (i:Int)=bif m l[i]then some true else k (Ah ((i:Int)+1))) (J:∀k,body k (l.length:Int)=rest)
 (L:(∀x∈l,m x=false)→dQ rest (fun b=>b=false→P)):dQ (bn body Ag 0) (fun b=>b=false→P):=by
 refine aX l.length hl (fun i=>∀j,(q:j<i)→(hl:j<l.length)→m l[j]=false) (fun j q=>A8) ?_ ?_
 ·intro i k hi u M;have U:Ag=9223372036854775808:=rfl;rw[I k i hi,wrap_succ i A8];refine dQ.bif (fun _=>.ret (fun h=>Fr)) fun e=>M fun j q z=>?_;by_cases O:j=i
  ·subst O;exact e
  exact u j A8 z
 intro k u;rw[J];exact L (aNE fun j q=>u j q q)
def Bl {α R:Type} {l:List α} {i:Nat} (h:i<l.length) (f:α→Option R) (z:Option R):(bif decide ((i:Int)<(l.length:Int))then(Af l (i:Int)).bind f else z)=f l[i]:=by
 rw[show decide ((i:Int)<(l.length:Int))=true by simpa using h,Bf h];rfl
def D7 {α R:Type} {l:List α} (y z:Option R):(bif decide ((l.length:Int)<(l.length:Int))then y else z)=z:=by
 rw[show decide ((l.length:Int)<(l.length:Int))=false by simp];rfl
def ajG (e:AL):dQ (aAw e) (fun b=>b=false→GV e):=by
 have hf:Ag=9223372036854775808:=rfl;have m:∀{P:Prop},dQ (some true) (fun b=>b=false→P):=.ret fun h=>Fr
 unfold aAw;simp only[Iq,AQ,Zd];refine dQ.bif (fun _=>m) fun a=>?_;refine dQ.bif (fun _=>m) fun b=>?_;simp only[aI]at a b;obtain⟨⟨⟨⟨⟨q,u⟩,z⟩,I⟩,J⟩,L⟩:=a;obtain⟨⟨⟨⟨⟨M,O⟩,U⟩,Y⟩,Z⟩,b6⟩:=b;have q:=Nr q;have u:=Nr u;have z:=Nr z;have I:=Nr I;have J:=Nr J;have L:=Nr L;have M:=Nr M;have O:=Nr O;have U:=Nr U;have Y:=Nr Y;have Z:=Nr Z;have b6:=Nr b6;unfold acP;refine aJc e.Content.Allow A8 (fun x=>decide ((x.size:Int)>2000)) (aHo e 0) (fun k i h=>?_) (fun k=>?_) fun c1=>?_
 ·unfold aG1;rw[Bl h]
 ·unfold aG1;rw[D7]
 unfold aHo;refine aJc e.Content.gB A8 (fun x=>decide ((x.size:Int)>2000)) (aMr e 0) (fun k i h=>?_) (fun k=>?_) fun c2=>?_
 ·unfold aJV;rw[Bl h]
 ·unfold aJV;rw[D7]
 unfold aMr;refine aJc e.Content.Levels.Users A8 (fun x=>decide ((x.User.size:Int)>2000)) (some false) (fun k i h=>?_) (fun k=>?_) fun c3=>?_
 ·unfold aG7;rw[Bl h]
 ·unfold aG7;rw[D7]
 refine .ret fun _=>⟨A8,A8,A8,A8,A8,A8,A8,A8,A8,A8,A8,A8,fun x j=>?_,fun x j=>?_,fun x j=>?_⟩
 ·have :=Nr (c1 x j);omega
 ·have :=Nr (c2 x j);omega
 have :=Nr (c3 x j);omega
def fuel_lt {n:Nat} (h:n≤1099511627776):n<Ag:=bg
def dec_lt {i n:Nat} (h:i<n):decide ((i:Int)<(n:Int))=true:=JU
def CZ (n:Nat):decide ((n:Int)<(n:Int))=false:=Am
def Gi {R A α:Type} {body:(A→Int→Option R)→A→Int→Option R} (l:List α) (hl:l.length≤1099511627776) (step:A→α→A) (I:Nat→A→Prop) (j:A→Option R) {a0:A} (z:I 0 a0)
 (J:∀k a (i:Nat) (h:i<l.length),I i a→I (i+1) (step a l[i])∧body k a (i:Int)=k (step a l[i]) (Ah ((i:Int)+1)))
 (L:∀k a,I l.length a→body k a (l.length:Int)=j a):aP body Ag a0 0=j (l.foldl step a0):=by
 have key:∀n (i:Nat) (a:A),i+n=l.length→I i a→∀m,n<m→aP body m a (i:Int)=j ((l.drop i).foldl step a):=by
  intro n
  induction n with
  |zero=>
   intro i a hi ha m M;obtain⟨m,rfl⟩:∃u,m=u+1:=⟨m-1,A8⟩
   have :i=l.length:=A8
   subst this;show body (aP body m) _ _=_;rw[L _ _ ha,Na];rfl
  |succ n O=>
   intro i a hi ha m M;obtain⟨m,rfl⟩:∃u,m=u+1:=⟨m-1,A8⟩
   have q:i<l.length:=A8
   obtain⟨U,Y⟩:=J (aP body m) a i q ha;show body (aP body m) _ _=_;rw[Y,wrap_succ i A8,O (i+1) _ A8 U m A8,Jp q,El]
 have :=key l.length 0 a0 A8 z Ag (fuel_lt hl);simpa using this
def dh {R A α:Type} {body:(Int→A→Option R)→Int→A→Option R} (l:List α) (hl:l.length≤1099511627776) (step:A→α→A) (I:Nat→A→Prop) (j:A→Option R) {a0:A} (z:I 0 a0)
 (J:∀k a (i:Nat) (h:i<l.length),I i a→I (i+1) (step a l[i])∧body k (i:Int) a=k (Ah ((i:Int)+1)) (step a l[i]))
 (L:∀k a,I l.length a→body k (l.length:Int) a=j a):aP body Ag 0 a0=j (l.foldl step a0):=by
 have key:∀n (i:Nat) (a:A),i+n=l.length→I i a→∀m,n<m→aP body m (i:Int) a=j ((l.drop i).foldl step a):=by
  intro n
  induction n with
  |zero=>
   intro i a hi ha m M;obtain⟨m,rfl⟩:∃u,m=u+1:=⟨m-1,A8⟩
   have :i=l.length:=A8
   subst this;show body (aP body m) _ _=_;rw[L _ _ ha,Na];rfl
  |succ n O=>
   intro i a hi ha m M;obtain⟨m,rfl⟩:∃u,m=u+1:=⟨m-1,A8⟩
   have q:i<l.length:=A8
   obtain⟨U,Y⟩:=J (aP body m) a i q ha;show body (aP body m) _ _=_;rw[Y,wrap_succ i A8,O (i+1) _ A8 U m A8,Jp q,El]
 have :=key l.length 0 a0 A8 z Ag (fuel_lt hl);simpa using this
def Ih {α:Type} (p:α→Bool):∀l:List α,l.find? p=l[l.findIdx p]?
 | []=>rfl
 |x::l=>by
  rw[Qz,SP];cases h:p x with
  |true=>rfl
  |false=>simp[Ih p l]
def DT (l:List AL) (id:Int):Option AL:=l.find? fun e=>e.Id==id
def GH (l:List AL) (id:Int):AL×Bool:=match DT l id with
 |some e=>(e,true)
 |none=>(Ej,false)
def afC {l:List AL} {id:Int} {e:AL} (h:DT l id=some e):e.Id=id:=by
 have :=aH h;simpa using this
def OC {l:List AL} {id:Int} {e:AL} (h:DT l id=some e):e∈l:=Qh h
def Nq (l:List AL) (id:Int):(GH l id).2=(DT l id).isSome:=by
 unfold GH;cases DT l id<;>rfl
def aEi (l:List AL) (hl:l.length≤1099511627776) (f:AL→Option Bool) (p:AL→Bool) (j:∀e,f e=some (p e)):
 aF l f=some (if l.findIdx p<l.length then((l.findIdx p:Nat):Int)else -1):=by
 unfold aF aa4;rw[Ie l (fuel_lt hl) p (fun i=>some (i:Int)) (some (-1))]
 ·split<;>rfl
 ·intro k i h;unfold aIt;rw[Bl h,j];rfl
 intro k;unfold aIt;rw[D7]
def found_eq (l:List AL) (p:AL→Bool) {n:Int} (j:n=if l.findIdx p<l.length then((l.findIdx p:Nat):Int)else -1):
 (bif decide (n<0)then some (Ej,false)else(Af l n).bind fun m=>some (m,true))=some (match l.find? p with |some e=>(e,true)|none=>(Ej,false)):=by
 subst j;rw[Ih];by_cases h:l.findIdx p<l.length
 ·rw[CJ h,Ce h,show decide (((l.findIdx p:Nat):Int)<0)=false by simp,Bf h];rfl
 rw[CU h,Gu A8];rfl
def L8 (l:List AL) (id:Int) (hl:l.length≤1099511627776):JL l id=some (GH l id):=by
 unfold JL aBA yO;rw[aEi l hl _ (fun e=>e.Id==id) fun _=>rfl];exact found_eq l _ rfl
def adn (l:List AL) (id:Int) (hl:l.length≤1099511627776):zx l id=some (if l.findIdx (fun e=>e.Id==id)<l.length then((l.findIdx (fun e=>e.Id==id):Nat):Int)else -1):=by
 unfold zx afF;rw[Ie l (fuel_lt hl) (fun e=>e.Id==id) (fun i=>some (i:Int)) (some (-1))]
 ·split<;>rfl
 ·intro k i h;unfold aJq;rw[Bl h]
 intro k;unfold aJq;rw[D7]
def Le (l:List AL) (id:Int) (hl:l.length≤1099511627776):KO l id=some (GH l id):=by
 unfold KO;rw[adn l id hl];exact found_eq l _ rfl
def ofIds (l:List AL) (ids:List Int):List AL:=ids.filterMap (DT l)
def foldl_append {α β:Type} (f:α→List β):∀(l:List α) (a:List β),l.foldl (fun r x=>r++f x) a=a++l.flatMap f
 | [],a=>Am
 |x::l,a=>by rw[El,foldl_append f l,Lj,Gq]
def aeH (l:List AL):∀ids,ofIds l ids=ids.flatMap fun id=>(DT l id).toList
 | []=>rfl
 |id::ids=>by
  unfold ofIds;rw[Ny,Lj,←aeH l ids];cases DT l id<;>rfl
def toList_le {α:Type} (o:Option α):o.toList.length≤1:=by cases o<;>simp
def KT {l:List AL} {id:Int} {e:AL} (h:DT l id=some e):GH l id=(e,true):=by unfold GH;rw[h]
def QN {l:List AL} {id:Int} (h:DT l id=none):GH l id=(Ej,false):=by unfold GH;rw[h]
def Yu (l:List AL) (ids:List Int):(ofIds l ids).length≤ids.length:=List.length_filterMap_le ..
def aQh (l:List AL) (ids:List Int):ids.foldl (fun r id=>r++(DT l id).toList) []=ofIds l ids:=by
 rw[foldl_append (fun id=>(DT l id).toList),aeH];rfl
def aaM (l:List AL) (ids:List Int) (hl:l.length≤1000) (hi:ids.length≤1000000):fA l ids=some (ofIds l ids):=by
 unfold fA
 have m:IK 376 Ej 0 (ids.length:Int)=some []:=by
  unfold IK;rw[CJ zU];rfl
 rw[m];simp only[AQ];unfold ad8;rw[Gi ids A8 (fun r id=>r++(DT l id).toList) (fun i r=>r.length≤i) (fun r=>some r) Am]
 ·rw[aQh]
 ·intro k a i h q;have u:=toList_le (DT l ids[i]);refine⟨JZ,?_⟩;unfold aKA aC2;rw[Bl h,L8 l _ A8];cases j:DT l ids[i]with
  |none=>simp[QN j]
  |some e=>
   rw[KT j];simp only[AQ,BA,Qo];rw[D5 FW];rfl
 intro k a q;unfold aKA;rw[D7]
def aKE (l:List AL) (ids:List Int) (hl:l.length≤1000) (hi:ids.length≤1000000):uT l ids=some (ofIds l ids):=by
 unfold uT abM;rw[Gi ids A8 (fun r id=>r++(DT l id).toList) (fun i r=>r.length≤i) (fun r=>some r) Am]
 ·rw[aQh]
 ·intro k a i h m;have q:=toList_le (DT l ids[i]);refine⟨JZ,?_⟩;unfold aGE aKc;rw[Bl h,Le l _ A8];cases j:DT l ids[i]with
  |none=>simp[QN j]
  |some e=>
   rw[KT j];simp only[AQ,BA,Qo];rw[D5 FW];rfl
 intro k a m;unfold aGE;rw[D7]
def aQt {α:Type} (l:List α) (i:Nat) (x:α) (h:i<l.length):l.set i x=l.take i++x::l.drop (i+1):=aGa▸by simp[h]
def aNm {α:Type} (A:List α) (g:α) (D:List α) {n:Nat} (h:A.length=n):(A++g::D).take n=A∧(A++g::D).drop (n+1)=D:=by
 subst h;simp
def aMD (l:List Int) (x:Int) (hi:Inc l) (hl:l.length≤1000000):uj l x=some (put l x):=by
 refine dQ.eq ?_;unfold uj aNV
 have L:∀i,i≤l.length→(∀j,(Y:j<i)→(hl:j<l.length)→l[j]<x)→(∀h:i<l.length,x<l[i])→put l x=l.take i++x::l.drop i:=by
  intro i hi' h1 O;obtain⟨e1,U⟩:=aIp (decide<| · <x) l i hi' (fun j Y hl=>by simpa using h1 j Y hl) (fun hl=>by have :=O hl;simp;omega)
  have hno:CY l x=false:=NR.2 fun hm=>by
   obtain⟨q,hq,e4⟩:=Hf hm;rcases YQ q i with h5|h5
   ·have :=h1 q h5 hq;omega
   have h6:=O A8;rcases YQ i q with h7|h7
   ·have :=KH.1 hi i q A8 hq h7;omega
   have :q=i:=A8
   subst this;omega
  unfold put;rw[hno,e1,U];rfl
 have z:∀i,i≤l.length→∀d,d≤l.length-i→∀m,d<m→dQ (aP (St (i:Int) x) m ((i+d:Nat):Int) (l.take (i+d)++(l++[x]).getD (i+d) 0::l.drop (i+d))) (· =l.take i++x::l.drop i):=by
  intro i I d
  induction d with
  |zero=>
   intro _ m hm;obtain⟨m,rfl⟩:∃m',m=m'+1:=⟨m-1,A8⟩
   show dQ (St (i:Int) x (aP (St (i:Int) x) m) _ _) _;generalize aP (St (i:Int) x) m=k;unfold St;rw[show decide (((i+0:Nat):Int)>(i:Int))=false by simp];simp only[Ar,OY];have hlen:i<(l.take i++(l++[x]).getD i 0::l.drop i).length:=DK
   rw[Bf hlen];refine .ret ?_;rw[Ws,aQt _ _ _ hlen];simp[aGP,List.drop_append,mM I]
  |succ d ih=>
   intro hd m hm;obtain⟨m,rfl⟩:∃m',m=m'+1:=⟨m-1,A8⟩
   have Z:=ih A8 m A8;show dQ (St (i:Int) x (aP (St (i:Int) x) m) _ _) _;generalize aP (St (i:Int) x) m=k at Z ⊢;unfold St;rw[show decide (((i+(d+1):Nat):Int)>(i:Int))=true by simp;omega];simp only[BA];have w:Ah (((i+(d+1):Nat):Int)-1)=((i+d:Nat):Int):=PI
   have J:i+d<l.length:=A8
   have hL:(l.take (i+(d+1))++(l++[x]).getD (i+(d+1)) 0::l.drop (i+(d+1))).length=l.length+1:=DK
   have h1:i+d<(l.take (i+(d+1))++(l++[x]).getD (i+(d+1)) 0::l.drop (i+(d+1))).length:=A8
   have O:i+(d+1)<(l.take (i+(d+1))++(l++[x]).getD (i+(d+1)) 0::l.drop (i+(d+1))).length:=A8
   rw[w,Bf h1];simp only[AQ];rw[Bf O];simp only[AQ]
   have hg:(l.take (i+(d+1))++(l++[x]).getD (i+(d+1)) 0::l.drop (i+(d+1)))[i+d]=l[i+d]:=by
    rw[aG5 DK];simp
   rw[hg,Ws,aQt _ _ _ O]
   have e:(l.take (i+(d+1))++(l++[x]).getD (i+(d+1)) 0::l.drop (i+(d+1))).take (i+(d+1))++l[i+d]::(l.take (i+(d+1))++(l++[x]).getD (i+(d+1)) 0::l.drop (i+(d+1))).drop (i+(d+1)+1)=l.take (i+d)++(l++[x]).getD (i+d) 0::l.drop (i+d):=by
    have ht:(l.take (i+(d+1))).length=i+(d+1):=DK
    rw[(aNm _ _ _ ht).1,(aNm _ _ _ ht).2];have h3:(l++[x]).getD (i+d) 0=l[i+d]:=by simp[List.getD,Fv J,J]
    rw[h3,show i+(d+1)=i+d+1 by omega,Oj J,Jp J,Gq];rfl
   rw[e];exact Z
 have u:l++[x]=l.take l.length++(l++[x]).getD l.length 0::l.drop l.length:=Am
 refine aX l.length (fuel_lt A8) (fun i=>∀j,(Y:j<i)→(hl:j<l.length)→l[j]<x) (fun j Y=>A8) ?_ ?_
 ·intro i k I hI hk;unfold aGJ;rw[show decide ((i:Int)<(l.length:Int))=true by simpa using I,Bf I];simp only[BA,AQ];refine dQ.bif (fun e=>?_) fun e=>?_
  ·rw[wrap_succ i A8];refine hk fun j Y hl'=>?_;by_cases ej:j=i
   ·subst ej;simpa using e
   exact hI j A8 hl'
  have hge:¬l[i]<x:=QK
  refine dQ.bif (fun U=>?_) fun U=>?_
  ·have hx:l[i]=x:=Yy
   refine .ret ?_;unfold put;rw[Ii.2 (hx▸E8 I)];rfl
  have hx:l[i]≠x:=Yy
  rw[D5 FW];simp only[AQ];rw[L i A8 hI (fun _=>A8)];have w:Ah (((l++[x]).length:Int)-1)=((i+(l.length-i):Nat):Int):=aLn
  rw[w];have M:=z i A8 (l.length-i) (Dc _) Ag (fuel_lt A8);rw[show i+(l.length-i)=l.length by omega]at M ⊢;rw[←u]at M;exact M
 intro k hI;unfold aGJ;rw[show decide ((l.length:Int)<(l.length:Int))=false by simp];simp only[Ar,AQ];rw[D5 FW];simp only[AQ];rw[L l.length (Dc _) hI (fun h=>A8)];have w:Ah (((l++[x]).length:Int)-1)=((l.length+0:Nat):Int):=aLn
 rw[w];have M:=z l.length (Dc _) 0 A8 Ag (fuel_lt A8);rw[OY]at M ⊢;rw[←u]at M;exact M
def cZ (l:List AL) (id:Int):Bool:=(DT l id).isSome
def XL (l:List AL) (ids:List Int):List Int:=ids.foldl (fun r id=>bif cZ l id then r else put r id) []
def fK (l:List AL) (ids:List Int):List Int:=(EX ids).filter (cZ l)
def KW {l:List AL} {ids:List Int} {x:Int}:x∈fK l ids↔x∈ids∧cZ l x=true:=by unfold fK;rw[ET,Jh]
def ZP (l:List AL) (ids:List Int):Inc (fK l ids):=(LM ids).sublist Qx
def ams (l:List AL) (ids:List Int):(fK l ids).length≤ids.length:=EZ (JD _ _) (MF ids)
def aFd (l:List AL):∀(ids r:List Int),Inc r→Inc (ids.foldl (fun r id=>bif cZ l id then r else put r id) r)∧∀x,x∈ids.foldl (fun r id=>bif cZ l id then r else put r id) r↔x∈r∨x∈ids∧cZ l x=false
 | [],r,h=>⟨h,fun x=>Am⟩
 |id::ids,r,h=>by
  rw[El];cases u:cZ l id with
  |true=>
   obtain⟨m,q⟩:=aFd l ids r h;refine⟨m,fun x=>(q x).trans ⟨fun h=>?_,fun h=>?_⟩⟩
   ·rcases h with h|h
    ·exact .inl h
    exact .inr ⟨Ez _ h.1,h.2⟩
   rcases h with h|⟨h,j⟩
   ·exact .inl h
   rcases EO.1 h with rfl|h
   ·rw[u]at j;cases j
   exact .inr ⟨h,j⟩
  |false=>
   obtain⟨m,q⟩:=aFd l ids (put r id) (QV h);refine⟨m,fun x=>(q x).trans ?_⟩;rw[Uj,EO];constructor
   ·rintro((h|rfl)|h)
    ·exact .inl h
    ·exact .inr ⟨.inl rfl,u⟩
    exact .inr ⟨.inr h.1,h.2⟩
   rintro(h|⟨rfl|h,j⟩)
   ·exact .inl (.inl h)
   ·exact .inl (.inr rfl)
   exact .inr ⟨h,j⟩
def aIY {l:List AL} {ids:List Int} {x:Int}:x∈XL l ids↔x∈ids∧cZ l x=false:=by
 unfold XL;rw[(aFd l ids [] .nil).2 x];simp
def aPo (l:List AL) (ids:List Int):(XL l ids).length≤ids.length:=by
 have key:∀(ids r:List Int),(ids.foldl (fun r id=>bif cZ l id then r else put r id) r).length≤r.length+ids.length:=by
  intro ids
  induction ids with
  |nil=>intro r;simp
  |cons id ids j=>
   intro r;rw[El];have m:=j (bif cZ l id then r else put r id)
   have q:(bif cZ l id then r else put r id).length≤r.length+1:=by
    cases cZ l id with
    |true=>exact Nat.le_succ _
    |false=>exact bZ r id
   simp only[FC];omega
 have :=key ids [];simpa[XL]using this
def aKu (l:List AL) (ids:List Int) (hl:l.length≤1000) (hi:ids.length≤100000):qR l ids=some (XL l ids):=by
 unfold qR acZ;rw[Gi ids A8 (fun r id=>bif cZ l id then r else put r id) (fun i r=>Inc r∧r.length≤i) (fun r=>some r) ⟨.nil,Dc _⟩]
 ·rfl
 ·intro k a i h j;have u:=adn l ids[i] A8
  have q:cZ l ids[i]=decide (l.findIdx (fun e=>e.Id==ids[i])<l.length):=by
   unfold cZ DT;rw[Ih];by_cases h:l.findIdx (fun e=>e.Id==ids[i])<l.length
   ·rw[Ce h,Ht h];rfl
   rw[Gu A8,Hr h];rfl
  refine⟨?_,?_⟩
  ·cases cZ l ids[i]with
   |true=>exact⟨j.1,by have :=j.2;show a.length≤i+1;omega⟩
   |false=>exact⟨QV j.1,by have :=bZ a ids[i];have :=j.2;show(put a ids[i]).length≤i+1;omega⟩
  unfold aLK aLT;rw[Bl h,u];simp only[AQ];by_cases m:l.findIdx (fun e=>e.Id==ids[i])<l.length
  ·rw[CJ m,q,Ht m,show decide (((l.findIdx (fun e=>e.Id==ids[i]):Nat):Int)<0)=false by simp];rfl
  rw[CU m,q,Hr m,Bf h];simp only[show decide ((-1:Int)<0)=true by decide,BA,Ar,AQ];rw[aMD a _ j.1 (by have :=j.2;omega)];rfl
 intro k a j;unfold aLK;rw[D7]
def aBI (a b:List Int) (h:a.length≤274877906944) (u:b.length≤274877906944):bQ a b=some (NP a b):=by
 unfold bQ;rw[aNU a h];simp only[AQ];have ha:=MF a;unfold abQ;rw[Gi (EX a) A8 (fun r x=>bif CY b x then r else r++[x]) (fun i r=>r.length≤i) (fun r=>some r) (Dc _)]
 ·congr 1;unfold NP;generalize EX a=S
  have key:∀(S r:List Int),S.foldl (fun r x=>bif CY b x then r else r++[x]) r=r++S.filter (fun x=> !CY b x):=by
   intro S
   induction S with
   |nil=>intro r;simp
   |cons x S j=>
    intro r;rw[El,j,QS];cases CY b x<;>simp
  simpa using key S []
 ·intro k r i h m;have q:=XH b (EX a)[i] A8;refine⟨?_,?_⟩
  ·cases CY b (EX a)[i]with
   |true=>show r.length≤i+1;omega
   |false=>show(r++[(EX a)[i]]).length≤i+1;simp;omega
  unfold aHR aI8;rw[Bl h,q];simp only[AQ];cases CY b (EX a)[i]with
  |true=>rfl
  |false=>
   simp only[I4,BA,Ar];rw[Bf h];simp only[AQ];rw[D5 FW];rfl
 intro k r m;unfold aHR;rw[D7]
def aeE (l:List AL) (ids:List Int):NP ids (XL l ids)=fK l ids:=
 Fp (aEk _ _) (ZP _ _) fun x=>by
  rw[aHK,aIY,KW];cases cZ l x<;>simp
def alV (l:List AL) (ids:List Int) (hl:l.length≤1000) (hi:ids.length≤100000):aKw l ids=some (fK l ids):=by
 unfold aKw;rw[aKu l ids hl hi];simp only[AQ];have :=aPo l ids;rw[aBI _ _ A8 A8,aeE];rfl
def acf (l:List AL) (ids:List Int) (hl:l.length≤1000) (hi:ids.length≤100000):aBn l ids=some (fK l ids):=by
 unfold aBn;rw[aKu l ids hl hi];simp only[AQ];have :=aPo l ids;rw[aBI _ _ A8 A8,aeE];rfl
def gZ (l:List AL) (id:Int):List Int:=(GH l id).1.bf
def Ru (l:List AL) (r:List Int) (x:Int):List Int:=bif cZ l x then put r x else r
def IW (l:List AL) (ids:List Int):List Int:=ids.foldl (fun r id=>(gZ l id).foldl (Ru l) r) []
def aAQ (l:List AL):∀(xs r:List Int),Inc r→Inc (xs.foldl (Ru l) r)∧(∀x,x∈xs.foldl (Ru l) r↔x∈r∨x∈xs∧cZ l x=true)∧(xs.foldl (Ru l) r).length≤r.length+xs.length
 | [],r,h=>⟨h,fun x=>Am,Am⟩
 |y::xs,r,h=>by
  rw[El];unfold Ru;cases z:cZ l y with
  |true=>
   obtain⟨q,u,j⟩:=aAQ l xs (put r y) (QV h);refine⟨q,fun x=>(u x).trans ?_,?_⟩
   ·rw[Uj,EO];constructor
    ·rintro((h|rfl)|h)
     ·exact .inl h
     ·exact .inr ⟨.inl rfl,z⟩
     exact .inr ⟨.inr h.1,h.2⟩
    rintro(h|⟨rfl|h,m⟩)
    ·exact .inl (.inl h)
    ·exact .inl (.inr rfl)
    exact .inr ⟨h,m⟩
   have :=bZ r y;simp only[FC,BA]at j ⊢;exact EZ j A8
  |false=>
   obtain⟨q,u,j⟩:=aAQ l xs r h;refine⟨q,fun x=>(u x).trans ⟨fun h=>?_,fun h=>?_⟩,?_⟩
   ·rcases h with h|h
    ·exact .inl h
    exact .inr ⟨Ez _ h.1,h.2⟩
   ·rcases h with h|⟨h,m⟩
    ·exact .inl h
    rcases EO.1 h with rfl|h
    ·rw[z]at m;cases m
    exact .inr ⟨h,m⟩
   simp only[FC,Ar]at j ⊢;exact EZ j A8
def aEr (l:List AL):∀(ids r:List Int),Inc r→Inc (ids.foldl (fun r id=>(gZ l id).foldl (Ru l) r) r)∧∀x,x∈ids.foldl (fun r id=>(gZ l id).foldl (Ru l) r) r↔x∈r∨cZ l x=true∧∃id∈ids,x∈gZ l id
 | [],r,h=>⟨h,fun x=>Am⟩
 |id::ids,r,h=>by
  rw[El];obtain⟨m,q,_⟩:=aAQ l (gZ l id) r h;obtain⟨u,z⟩:=aEr l ids _ m;refine⟨u,fun x=>(z x).trans ?_⟩;rw[q x];constructor
  ·rintro((h|h)|⟨h3,i,j,h5⟩)
   ·exact .inl h
   ·exact .inr ⟨h.2,id,Ec ..,h.1⟩
   exact .inr ⟨h3,i,Ez _ j,h5⟩
  rintro(h|⟨h3,i,j,h5⟩)
  ·exact .inl (.inl h)
  rcases EO.1 j with rfl|j
  ·exact .inl (.inr ⟨h5,h3⟩)
  exact .inr ⟨h3,i,j,h5⟩
def tC (l:List AL) (ids:List Int):Inc (IW l ids):=(aEr l ids [] .nil).1
def Qn {l:List AL} {ids:List Int} {x:Int}:x∈IW l ids↔cZ l x=true∧∃id∈ids,x∈gZ l id:=by
 unfold IW;rw[(aEr l ids [] .nil).2 x];simp
def chainOf (l:List AL) (ids:List Int):List Int:=l.foldl (fun s _=>Gm s (IW l s)) (IW l (fK l ids))
inductive JA (l:List AL) (ids:List Int):Int→Prop
 |one {i x:Int} (h:i∈ids) (hx:x∈gZ l i) (hk:cZ l x=true):JA l ids x
 |more {y x:Int} (h:JA l ids y) (hx:x∈gZ l y) (hk:cZ l x=true):JA l ids x
def afu {l:List AL} {i x:Int} (h:x∈gZ l i):cZ l i=true:=by
 unfold gZ at h;unfold cZ;cases j:DT l i with
 |none=>rw[QN j]at h;cases h
 |some e=>rfl
def l7 {s t:List Int} (hs:Inc s) (m:Inc t) (h:∀x∈s,x∈t):s.length≤t.length∧(t.length≤s.length→s=t):=by
 have e:s=t.filter (fun x=>CY s x):=Fp hs (m.sublist Qx) fun x=>by
  rw[ET,Ii];exact⟨fun j=>⟨h x j,j⟩,fun j=>j.2⟩
 have hl:=JD (fun x=>CY s x) t;refine⟨by rw[e];exact hl,fun q=>?_⟩;have u:(t.filter (fun x=>CY s x)).length=t.length:=by have :=BH List.length e;omega
 rw[e];exact uf.2 (List.length_filter_eq_length_iff.1 u)
def QY (l:List AL):List Int:=EX (l.map (·.Id))
def uX {l:List AL} {x:Int} (h:cZ l x=true):x∈QY l:=by
 unfold cZ at h;obtain⟨e,j⟩:=RS.1 h;exact Jh.2 (FH.2 ⟨e,OC j,afC j⟩)
def aAo (l:List AL):∀(l':List AL) (s:List Int),Inc s→(∀x∈s,cZ l x=true)→
 Inc (l'.foldl (fun s _=>Gm s (IW l s)) s)∧(∀x∈l'.foldl (fun s _=>Gm s (IW l s)) s,cZ l x=true)∧(∀x∈s,x∈l'.foldl (fun s _=>Gm s (IW l s)) s)∧
 ((QY l).length≤s.length+l'.length→∀x∈IW l (l'.foldl (fun s _=>Gm s (IW l s)) s),x∈l'.foldl (fun s _=>Gm s (IW l s)) s)
 | [],s,hs,z=>⟨hs,z,fun _ h=>h,fun hlen x m=>by
     have I:=(l7 hs (LM _) (fun x m=>uX (z x m))).2 (by show(QY l).length≤s.length;simpa using hlen);have q:=uX (Qn.1 m).1;unfold QY at q
     rw[←I]at q;exact q⟩
 |e::l',s,hs,z=>by
  rw[El]
  have J:∀x∈Gm s (IW l s),cZ l x=true:=fun x m=>by
   rcases RZ.1 m with h|h
   ·exact z x h
   exact(Qn.1 h).1
  obtain⟨I,q,L,M⟩:=aAo l l' (Gm s (IW l s)) (pU _ _) J;refine⟨I,q,fun x m=>L x (RZ.2 (.inl m)),fun hlen=>?_⟩;have u:=l7 hs (pU s (IW l s)) fun x m=>RZ.2 (.inl m);by_cases j:s=Gm s (IW l s)
  ·
   have hst:∀(l':List AL),l'.foldl (fun s _=>Gm s (IW l s)) s=s:=by
    intro l'
    induction l' with
    |nil=>rfl
    |cons e l' O=>rw[El,←j,O]
   rw[←j,hst];intro x m;rw[j];exact RZ.2 (.inr m)
  ·refine M ?_
   have :s.length<(Gm s (IW l s)).length:=by
    rcases YQ s.length (Gm s (IW l s)).length with h|h
    ·exact h
    exact absurd (u.2 h) j
   simp only[FC]at hlen;omega
def aCp (l:List AL) (ids:List Int):Inc (chainOf l ids):=(aAo l l _ (tC _ _) fun _ j=>(Qn.1 j).1).1
def ajW {l:List AL} {ids:List Int} {x:Int} (h:x∈chainOf l ids):cZ l x=true:=(aAo l l _ (tC _ _) fun _ j=>(Qn.1 j).1).2.1 x h
def aRQ (l:List AL) (ids:List Int):∀(l':List AL) (s:List Int),(∀x∈s,JA l ids x)→∀x∈l'.foldl (fun s _=>Gm s (IW l s)) s,JA l ids x
 | [],s,h=>h
 |e::l',s,h=>by
  rw[El];refine aRQ l ids l' _ fun x j=>?_;rcases RZ.1 j with j|j
  ·exact h x j
  obtain⟨m,y,q,u⟩:=Qn.1 j;exact .more (h y q) u m
def Ye {l:List AL} {ids:List Int} {x:Int}:x∈chainOf l ids↔JA l ids x:=by
 constructor
 ·refine aRQ l ids l _ (fun x j=>?_) x;obtain⟨u,y,z,m⟩:=Qn.1 j;exact .one (KW.1 z).1 m u
 obtain⟨u,z,m,I⟩:=aAo l l _ (tC l (fK l ids)) fun _ j=>(Qn.1 j).1
 have hlen:(QY l).length≤(IW l (fK l ids)).length+l.length:=by
  have :=MF (l.map (·.Id));unfold QY;simp only[C9]at this;omega
 have J:=I hlen;intro h
 induction h with
 |one h j q=>exact m _ (Qn.2 ⟨q,_,KW.2 ⟨h,afu j⟩,j⟩)
 |more h j q L=>exact J _ (Qn.2 ⟨q,_,L,j⟩)
def ZY (l:List AL) (ids:List Int):(chainOf l ids).length≤l.length:=by
 have j:=(l7 (t:=QY l) (aCp l ids) (LM _) fun x m=>uX (ajW m)).1;have q:=MF (l.map fun e:AL=>e.Id);unfold QY at j;simp only[C9]at q;omega
def P9 (l:List AL):Prop:=∀e∈l,e.bf.length≤40
def aEU {l:List AL} (h:P9 l) (id:Int):(gZ l id).length≤40:=by
 unfold gZ;cases j:DT l id with
 |none=>rw[QN j];exact EK _
 |some e=>rw[KT j];exact h e (OC j)
def aiH (l:List AL) (ids:List Int):(IW l ids).length≤l.length:=by
 have j:=(l7 (t:=QY l) (tC l ids) (LM _) fun x m=>uX (Qn.1 m).1).1;have q:=MF (l.map fun e:AL=>e.Id);unfold QY at j;simp only[C9]at q;omega
def kF {l:List AL} {r:List Int} (hi:Inc r) (h:∀x∈r,cZ l x=true):r.length≤l.length:=by
 have j:=(l7 (t:=QY l) hi (LM _) fun x m=>uX (h x m)).1;have q:=MF (l.map fun e:AL=>e.Id);unfold QY at j;simp only[C9]at q;omega
def aOK (l:List AL) (ids:List Int) (hl:l.length≤1000) (ha:P9 l) (hi:ids.length≤100000):aEI l ids true=some (IW l ids):=by
 unfold aEI aNk;rw[Gi ids A8 (fun r id=>(gZ l id).foldl (Ru l) r) (fun i r=>Inc r∧∀x∈r,cZ l x=true) (fun r=>some r) ⟨.nil,fun x q=>by cases q⟩]
 ·rfl
 ·intro k r i h u;obtain⟨J,L,_⟩:=aAQ l (gZ l ids[i]) r u.1;refine⟨⟨J,fun x q=>?_⟩,?_⟩
  ·rcases(L x).1 q with h|h
   ·exact u.2 x h
   exact h.2
  unfold aGH aI1;rw[Bl h,Le l _ A8];simp only[AQ,BA];show aIB (gZ l ids[i]) l k (i:Int) r 0=_;have M:=aEU ha ids[i];unfold aIB;rw[Gi (gZ l ids[i]) A8 (Ru l) (fun _ r=>Inc r∧∀x∈r,cZ l x=true) (fun r=>k r (Ah ((i:Int)+1))) u]
  ·intro k2 O j z m;refine⟨?_,?_⟩
   ·unfold Ru;cases I:cZ l (gZ l ids[i])[j]with
    |true=>exact⟨QV m.1,fun x q=>(Uj.1 q).elim (m.2 x) fun e=>e▸I⟩
    |false=>exact m
   unfold aH1 aMX;rw[Bl z,Le l _ A8];simp only[AQ,Nq];show(bif cZ l (gZ l ids[i])[j]then _ else _)=_;unfold Ru;cases I:cZ l (gZ l ids[i])[j]with
   |true=>
    simp only[BA];rw[Bf z];simp only[AQ];have :=kF m.1 m.2;rw[cV _ _ A8];rfl
   |false=>rfl
  intro k2 O _;unfold aH1;rw[D7]
 intro k r u;unfold aGH;rw[D7]
def aq2 (l:List AL) (ids:List Int) (hl:l.length≤1000) (ha:P9 l) (m:Inc ids) (q:∀x∈ids,cZ l x=true):aJ1 l ids true=some (l.foldl (fun s _=>Gm s (IW l s)) ids):=by
 unfold aJ1 aQv;rw[Gi l A8 (fun s _=>Gm s (IW l s)) (fun _ r=>Inc r∧∀x∈r,cZ l x=true) (fun r=>some r) ⟨m,q⟩]
 ·intro k r i h j;refine⟨⟨pU _ _,fun x u=>(RZ.1 u).elim (j.2 x) fun h=>(Qn.1 h).1⟩,?_⟩;have z:=kF j.1 j.2;have I:=aiH l r;unfold aM8;rw[dec_lt h];simp only[BA];rw[aOK l r hl ha A8];simp only[AQ];rw[aAH _ _ A8 A8];rfl
 intro k r j;unfold aM8;rw[CZ];rfl
def aML (l:List AL) (ids:List Int) (hl:l.length≤1000) (ha:P9 l) (hi:ids.length≤100000):gU l ids=some (chainOf l ids):=by
 unfold gU;have m:=ams l ids;rw[alV l ids hl hi];simp only[AQ];rw[aOK l _ hl ha A8];simp only[AQ];rw[aq2 l _ hl ha (tC _ _) fun x j=>(Qn.1 j).1];rfl
section
variable {R A B C D E F G : Type} {Q : R → Prop}
def UQ {body:(A→B→C→Option R)→A→B→C→Option R} (I:Nat→A→B→C→Prop) (hs:∀m a b c k,I m a b c→(∀j a' q u,j<m→I j a' q u→dQ (k a' q u) Q)→dQ (body k a b c) Q):
 ∀n m a b c,m<n→I m a b c→dQ (kN body n a b c) Q
 |0,m,_,_,_,h,_=>A8
 |n+1,m,a,b,c,h,hi=>hs m a b c _ hi fun j a' q u h' z=>UQ I hs n j a' q u A8 z
def aMH {body:(A→B→C→D→E→Option R)→A→B→C→D→E→Option R} (I:Nat→A→B→C→D→E→Prop) (hs:∀m a b c d e k,I m a b c d e→(∀j a' q u z e',j<m→I j a' q u z e'→dQ (k a' q u z e') Q)→dQ (body k a b c d e) Q):
 ∀n m a b c d e,m<n→I m a b c d e→dQ (DN body n a b c d e) Q
 |0,m,_,_,_,_,_,h,_=>A8
 |n+1,m,a,b,c,d,e,h,hi=>hs m a b c d e _ hi fun j a' q u z e' h' J=>aMH I hs n j a' q u z e' A8 J
def aKg {body:(A→B→C→D→E→F→Option R)→A→B→C→D→E→F→Option R} (I:Nat→A→B→C→D→E→F→Prop) (hs:∀m a b c d e f k,I m a b c d e f→(∀j a' q u z e' J,j<m→I j a' q u z e' J→dQ (k a' q u z e' J) Q)→dQ (body k a b c d e f) Q):
 ∀n m a b c d e f,m<n→I m a b c d e f→dQ (DR body n a b c d e f) Q
 |0,m,_,_,_,_,_,_,h,_=>A8
 |n+1,m,a,b,c,d,e,f,h,hi=>hs m a b c d e f _ hi fun j a' q u z e' J h' L=>aKg I hs n j a' q u z e' J A8 L
def aaG {body:(A→B→C→D→E→F→G→Option R)→A→B→C→D→E→F→G→Option R} (I:Nat→A→B→C→D→E→F→G→Prop) (hs:∀m a b c d e f g k,I m a b c d e f g→(∀j a' q u z e' J L,j<m→I j a' q u z e' J L→dQ (k a' q u z e' J L) Q)→dQ (body k a b c d e f g) Q):
 ∀n m a b c d e f g,m<n→I m a b c d e f g→dQ (Y6 body n a b c d e f g) Q
 |0,m,_,_,_,_,_,_,_,h,_=>A8
 |n+1,m,a,b,c,d,e,f,g,h,hi=>hs m a b c d e f g _ hi fun j a' q u z e' J L h' M=>aaG I hs n j a' q u z e' J L A8 M
end
def QM {V:Type}:∀(m:List (Int×V)) (k k':Int) (v:V),CB (Dj m k v) k'=bif k'==k then some v else CB m k'
 | [],k,k',v=>by
   unfold Dj CB;rfl
 |p::m,k,k',v=>by
  unfold Dj;cases h:k==p.1 with
  |true=>
   have j:k=p.1:=JU
   subst j;simp only[BA,CB];cases k'==p.1<;>rfl
  |false=>
   have j:k≠p.1:=JU
   simp only[Ar,CB,QM m k k' v];cases q:k'==p.1 with
   |true=>
    have u:k'=p.1:=MV
    subst u;have :(p.1==k)=false:=by simpa using fun e:p.1=k=>j e.symm
    rw[this];rfl
   |false=>rfl
def WL (l:List AL) (m:List (Int×Int)):Prop:=∀id,(CB m id=none∧DT l id=none)∨∃(n:Nat) (e:AL),CB m id=some (n:Int)∧DT l id=some e∧l[n]? =some e
def WL.isSome {l:List AL} {m:List (Int×Int)} (h:WL l m) (id:Int):(CB m id).isSome=cZ l id:=by
 unfold cZ;rcases h id with⟨j,q⟩|⟨n,e,j,q,_⟩<;>rw[j,q]<;>rfl
def WL.get {l:List AL} {m:List (Int×Int)} (h:WL l m) {id:Int} {e:AL} (q:DT l id=some e):Af l ((CB m id).getD 0)=some e:=by
 rcases h id with⟨_,j⟩|⟨n,e',u,j,z⟩
 ·rw[q]at j;cases j
 rw[q]at j;cases j;rw[u];show Af l (n:Int)=_;rw[qU,z]
def aD9 (l:List AL) (hl:l.length≤1000):dQ (YH l) (WL l):=by
 unfold YH aeR
 refine Xh (fun m a b=>∃i:Nat,a=(i:Int)-1∧m=i∧i≤l.length∧∀id,(CB b id=none∧(l.drop i).find? (fun e=>e.Id==id)=none)∨∃(n:Nat) (e:AL),CB b id=some (n:Int)∧(l.drop i).find? (fun e=>e.Id==id)=some e∧l[n]? =some e) ?_ Ag l.length _ _ (fuel_lt A8)
  ⟨l.length,PI,rfl,Dc _,fun id=>.inl ⟨rfl,Am⟩⟩
 rintro m a b k ⟨i,rfl,L,hi,h⟩ z;unfold abw;refine dQ.bif (fun e=>?_) fun e=>?_
 ·have u:0<i:=by have :=iI e;omega
  have j:i-1<l.length:=A8
  have I:(i:Int)-1=((i-1:Nat):Int):=A8
  rw[I,Bf j];simp only[AQ];refine z (i-1) _ _ A8 ⟨i-1,PI,rfl,A8,fun id=>?_⟩;rw[QM,Jp j,show i-1+1=i by omega,Qz];cases q:l[i-1].Id==id with
  |true=>
   have :(id==l[i-1].Id)=true:=by have :l[i-1].Id=id:=MV
                                  simp[this]
   rw[this];exact .inr ⟨i-1,l[i-1],rfl,rfl,gu⟩
  |false=>
   have :(id==l[i-1].Id)=false:=by have :l[i-1].Id≠id:=MV
                                   simpa using fun e:id=l[i-1].Id=>this e.symm
   rw[this];exact h id
 have J:i=0:=by have :=Ir e;omega
 subst J;refine .ret fun id=>?_;have :=h id;rw[jL]at this;exact this
inductive U3 (l:List AL) (from_:List Int):Int→Prop
 |one {x:Int} (h:x∈from_) (hk:cZ l x=true):U3 l from_ x
 |more {y x:Int} (h:U3 l from_ y) (hx:x∈gZ l y) (hk:cZ l x=true):U3 l from_ x
def U3.cZ {l:List AL} {f:List Int} {x:Int} (h:U3 l f x):cZ l x=true:=by cases h<;>assumption
def apu {r:List Int} {x:Int} (h:x∉r):(put r x).length=r.length+1:=by
 unfold put;rw[CU (by rw[Ii];exact h),Dk,FC];have :=BH List.length (jm (p:=(decide<| · <x)) (l:=r));rw[Dk]at this;omega
def acs (r:List Int) (x:Int):EX (r++[x])=put (EX r) x:=by unfold EX;rw[Uy];rfl
structure arE (l:List AL) (from_ next auB:List Int) (i:Nat) (out later:List Int) (found level:List (Int×Bool)):Prop where
 found:∀x,(CB found x).getD false=true↔x∈out
 level:∀x,(CB level x).getD false=true→x∈out
 nodup:(EX out).length=out.length
 rch:∀x∈out,U3 l from_ x
 seen:∀x∈next.take i,cZ l x=true→x∈out
 sub:∀x∈auB,x∈out
 ref:∀y∈out,y∈auB∨∀x∈gZ l y,x∈later
 back:∀x∈later,∃y∈out,x∈gZ l y
 size:later.length+40*auB.length≤40*out.length
 same:out.length=auB.length→later=[]
def aLA {l:List AL} {j:List Int} (h:(EX j).length=j.length) (m:∀x∈j,cZ l x=true):j.length≤l.length:=by
 rw[←h];exact kF (LM j) fun x q=>m x (Jh.1 q)
def ahb (l:List AL) {x:Int} {e:AL} (h:DT l x=some e):Xq e=some (gZ l x):=by
 unfold Xq gZ;rw[KT h]
def atO (l:List AL) (q:List Int) (hl:l.length≤1000) (ha:P9 l) (hf:q.length≤10000000):
 dQ (mZ l q fun a0=>Xq a0) (fun r=>Inc r∧∀x,x∈r↔U3 l q x):=by
 unfold mZ;refine(aD9 l hl).bind fun at_ Z=>?_;unfold aev
 refine aMH (fun m z next at' found level=>at'=at_∧m=2*(l.length-z.length)+(if next=[]then 0 else 1)∧next.length≤10000000∧(∀x,(CB found x).getD false=true↔x∈z)∧(EX z).length=z.length∧
  (∀x∈z,U3 l q x)∧(∀x∈next,cZ l x=true→U3 l q x)∧(∀x∈q,cZ l x=true→x∈z∨x∈next)∧(∀y∈z,∀x∈gZ l y,cZ l x=true→x∈z∨x∈next)) ?_ Ag (2*(l.length-([]:List Int).length)+(if q=[]then 0 else 1)) _ _ _ _ _ ?_ ?_
 ·rintro m z next at2 found level k ⟨aDt,rfl,hn,h1,h2,h3,h4,h5,h6⟩ M;subst aDt;unfold aPS;have hol:=aLA h2 fun x j=>(h3 x j).cZ;refine dQ.bif (fun e=>?_) fun e=>?_
  ·have hne:next≠[]:=by
    rintro rfl;simp at e
   unfold aO5;refine aKg (body:=aMc next l (fun a0=>Xq a0) k) (fun(m:Nat) (o la:List Int) (c:Int) (d:List (Int×Int)) (fo le:List (Int×Bool))=>∃i:Nat,c=i∧i+m=next.length∧d=at2∧arE l q next z i o la fo le) ?_ Ag next.length _ _ _ _ _ _ bg ?_
   ·rintro m o la c d fo le k2 ⟨i,rfl,hm,rfl,u⟩ U;unfold aMc;refine dQ.bif (fun e=>?_) fun e=>?_
    ·have hi:i<next.length:=QK
     have w:=wrap_succ i A8;have aDu:=aLA u.nodup fun x j=>(u.rch x j).cZ;rw[Bf hi];simp only[AQ];rw[Z.isSome];unfold yN;have J:next.take (i+1)=next.take i++[next[i]]:=by rw[Oj hi]
     cases Y:cZ l next[i]with
     |false=>
      simp only[I4,BA,AQ,w];refine U (m-1) _ _ _ _ _ _ A8 ⟨i+1,rfl,A8,rfl,{ u with seen:=fun x j M=>?_ }⟩;rw[J,Fz]at j;rcases j with j|j
      ·exact u.seen x j M
      rw[GZ.1 j,Y]at M;cases M
     |true=>
      simp only[Dv,Ar,AQ];by_cases O:next[i]∈o
      ·rw[(u.found next[i]).2 O];simp only[BA,AQ,w];refine U (m-1) _ _ _ _ _ _ A8 ⟨i+1,rfl,A8,rfl,{ u with seen:=fun x j M=>?_ }⟩;rw[J,Fz]at j;rcases j with j|j
       ·exact u.seen x j M
       rw[GZ.1 j];exact O
      have f1:(CB fo next[i]).getD false=false:=by
       cases h:(CB fo next[i]).getD false with
       |false=>rfl
       |true=>exact absurd ((u.found _).1 h) O
      have f2:(CB le next[i]).getD false=false:=by
       cases h:(CB le next[i]).getD false with
       |false=>rfl
       |true=>exact absurd (u.level _ h) O
      rw[f1,f2];simp only[Ar,AQ];obtain⟨ev,hev⟩:=RS.1 (show(DT l next[i]).isSome=true from Y);rw[D5 FW];simp only[AQ];rw[Z.get hev];simp only[AQ];rw[ahb l hev];simp only[AQ];have hau:=aEU ha next[i];have hsz:=u.size;rw[D5 A8];simp only[AQ,w];refine U (m-1) _ _ _ _ _ _ A8 ⟨i+1,rfl,A8,rfl,?_⟩;have hnx:U3 l q next[i]:=h4 _ (E8 hi) Y;refine⟨fun x=>?_,fun x j=>?_,?_,fun x j=>?_,fun x j M=>?_,fun x j=>Zv _ (u.sub x j),fun y L=>?_,fun x j=>?_,?_,fun h=>?_⟩
      ·rw[QM,Fz,GZ];cases j:x==next[i]with
       |true=>simp only[BA,MH,true_iff];exact .inr MK
       |false=>simp only[Ar];rw[u.found x];exact⟨.inl,fun h=>h.elim id fun h=>by simp[h]at j⟩
      ·rw[QM]at j;rw[Fz,GZ];cases hxe:x==next[i]with
       |true=>exact .inr (by simpa using hxe)
       |false=>rw[hxe]at j;exact .inl (u.level x j)
      ·rw[acs,apu (fun h=>O (Jh.1 h)),u.nodup];simp
      ·rcases Fz.1 j with j|j
       ·exact u.rch x j
       rw[GZ.1 j];exact hnx
      ·rw[J,Fz]at j;rcases j with j|j
       ·exact Zv _ (u.seen x j M)
       exact aBz _ j
      ·rcases Fz.1 L with L|L
       ·exact(u.ref y L).imp id fun h x j=>Zv _ (h x j)
       rw[GZ.1 L];exact .inr fun x j=>aBz _ j
      ·rcases Fz.1 j with j|j
       ·obtain⟨y,L,h⟩:=u.back x j;exact⟨y,Zv _ L,h⟩
       exact⟨next[i],aBz _ (GZ.2 rfl),j⟩
      ·simp only[Dk,MS];omega
      have :=u.size;simp only[Dk,MS]at h;omega
    have hi:i=next.length:=by have :¬i<next.length:=QK
                              omega
    subst hi;have aDu:=aLA u.nodup fun x j=>(u.rch x j).cZ;have hsz:=u.size;refine M (2*(l.length-o.length)+(if la=[]then 0 else 1)) _ _ _ _ _ ?_ ⟨rfl,rfl,A8,u.found,u.nodup,u.rch,fun x j I=>?_,fun x j I=>?_,fun y L x j I=>?_⟩
    ·rw[CU hne];have hle:z.length≤o.length:=A8
     rcases YQ z.length o.length with h|h
     ·split<;>omega
     have :=u.same A8;rw[CJ this];omega
    ·obtain⟨y,L,h⟩:=u.back x j;exact .more (u.rch y L) h I
    ·rcases h5 x j I with h|h
     ·exact .inl (u.sub x h)
     exact .inl (u.seen x (by rw[GY];exact h) I)
    rcases u.ref y L with h|h
    ·rcases h6 y h x j I with h|h
     ·exact .inl (u.sub x h)
     exact .inl (u.seen x (by rw[GY];exact h) I)
    exact .inr (h x j)
   exact⟨0,rfl,A8,rfl,⟨h1,fun x j=>by simp[CB]at j,h2,h3,fun x j=>sN,fun _ h=>h,fun y L=>.inl L,fun x j=>(Ef j).elim,Am,fun _=>rfl⟩⟩
  have hz:next=[]:=by
   cases next with
   |nil=>rfl
   |cons a b=>simp at e
  subst hz;rw[aj z A8];refine .ret ⟨LM _,fun x=>?_⟩;rw[Jh];refine⟨h3 x,fun h=>?_⟩
  induction h with
  |one h I=>exact(h5 _ h I).elim id fun h=>(Ef h).elim
  |more h j I ih=>exact(h6 _ ih _ j I).elim id fun h=>(Ef h).elim
 ·have :Ag=9223372036854775808:=rfl;split<;>(simp only[Kr];omega)
 exact⟨rfl,rfl,hf,fun x=>by simp[CB],rfl,fun x j=>(Ef j).elim,fun x j M=>.one j M,fun x j _=>.inr j,fun y L=>(Ef L).elim⟩
def aJs (l:List AL) (ids:List Int) (hl:l.length≤1000) (ha:P9 l) (hi:ids.length≤100000):WQ l ids=some (chainOf l ids):=by
 refine dQ.eq ?_;unfold WQ;refine(aD9 l hl).bind fun at_ m=>?_;unfold aOM;rw[Gi ids A8 (fun r id=>r++gZ l id) (fun i r=>r.length≤40*i) (fun r=>(mZ l r fun a0=>Xq a0).bind fun I=>some I) Am]
 ·rw[foldl_append (gZ l),Hd]
  have hlen:(ids.flatMap (gZ l)).length≤40*ids.length:=by
   have key:∀ids:List Int,(ids.flatMap (gZ l)).length≤40*ids.length:=by
    intro ids
    induction ids with
    |nil=>simp
    |cons x ids z=>have :=aEU ha x;rw[Lj,Dk,FC];omega
   exact key ids
  refine(atO l _ hl ha A8).bind fun r J=>.ret ?_;refine Fp J.1 (aCp l ids) fun x=>(J.2 x).trans (Iff.trans ?_ Ye.symm);constructor
  ·intro h
   induction h with
   |one h j=>
    obtain⟨i,hi,h⟩:=RX.1 h;exact .one hi h j
   |more h q j z=>exact .more z q j
  intro h
  induction h with
  |one h q j=>exact .one (RX.2 ⟨_,h,q⟩) j
  |more h q j z=>exact .more z q j
 ·intro k r i h M;have L:=aEU ha ids[i];refine⟨by simp only[Dk];omega,?_⟩;unfold aMe aC6;rw[Bl h,m.isSome];cases j:cZ l ids[i]with
  |false=>
   have :gZ l ids[i]=[]:=by
    unfold gZ;rw[QN (by unfold cZ at j;simpa using j)];rfl
   rw[this,PG];rfl
  |true=>
   obtain⟨ev,u⟩:=RS.1 (show(DT l ids[i]).isSome=true from j);simp only[BA];rw[m.get u];simp only[AQ];have :gZ l ids[i]=ev.bf:=by unfold gZ;rw[KT u]
   rw[←this,D5 A8];rfl
 intro k r _;unfold aMe;rw[D7]
def aJb :∀x:List UInt8,Op.bytesLess x x=false
 | []=>rfl
 |a::x=>by
  unfold Op.bytesLess;rw[aJb x];simp
def aRX :∀{x y z:List UInt8},Op.bytesLess x y=true→Op.bytesLess y z=true→Op.bytesLess x z=true
 |_,_,[],_,h=>aBi
 | [],_,_::_,_,_=>rfl
 |_::_,[],_::_,h,_=>aBi
 |a::x,b::y,c::z,h,k=>by
  simp only[Op.bytesLess,YB,CV,Fb,PZ]at h k ⊢;rcases h with h|⟨rfl,h⟩<;>rcases k with k|⟨rfl,k⟩
  ·exact .inl (UInt8.lt_trans h k)
  ·exact .inl h
  ·exact .inl k
  exact .inr ⟨rfl,aRX h k⟩
def acC :∀{x y:List UInt8},Op.bytesLess x y=false→Op.bytesLess y x=false→x=y
 | [],[],_,_=>rfl
 | [],_::_,h,_=>aBi
 |_::_,[],_,h=>aBi
 |a::x,b::y,h,k=>by
  simp only[Op.bytesLess,aI,aHn,XW,ZK]at h k;have e:a=b:=UInt8.le_antisymm (UInt8.not_lt.1 k.1) (UInt8.not_lt.1 h.1);subst e;have j:=h.2.resolve_left (fun h=>h rfl);have k2:=k.2.resolve_left (fun h=>h rfl);rw[acC j k2]
def Eh (a b:Ai):Bool:=decide (a.Kind<b.Kind)||(a.Kind==b.Kind&&Op.bytesLess a.Key.toList b.Key.toList)
def Hw (a b:Ai):Bool:=a.Kind==b.Kind&&decide (a.Key=b.Key)
def asw (a:Ai):Eh a a=false:=by unfold Eh;rw[aJb];simp
def aey {a b c:Ai} (h:Eh a b=true) (k:Eh b c=true):Eh a c=true:=by
 unfold Eh at *;simp only[YB,CV,Fb,PZ]at *;rcases h with h|⟨m,j⟩<;>rcases k with k|⟨q,k2⟩
 ·exact .inl A8
 ·exact .inl A8
 ·exact .inl A8
 exact .inr ⟨A8,aRX j k2⟩
def VK {a b:Ai}:Hw a b=true↔a.Kind=b.Kind∧a.Key=b.Key:=by unfold Hw;simp
def aas {a b:Ai} (h:Eh a b=false) (k:Eh b a=false):Hw a b=true:=by
 unfold Eh at *;simp only[aI,aHn,XW,ZK]at *;have e:a.Kind=b.Kind:=A8
 rw[VK];exact⟨e,toList_inj (acC (h.2.resolve_left fun n=>n e) (k.2.resolve_left fun n=>n e.symm))⟩
def ku {a b:Ai} (h:Hw a b=true):Eh a b=false:=by
 obtain⟨j,m⟩:=VK.1 h;unfold Eh;rw[j,m,aJb];simp
def oH {a b c:Ai} (h:Hw a b=true):Eh a c=Eh b c∧Eh c a=Eh c b:=by
 obtain⟨j,m⟩:=VK.1 h;unfold Eh;rw[j,m];exact⟨rfl,rfl⟩
def aoq (a b:Ai):mF a b=some (Eh a b):=by
 unfold mF Eh;cases j:decide (a.Kind<b.Kind)<;>cases m:a.Kind==b.Kind<;>rfl
def asf (k:Int) (key:ByteArray) (m:Int) (o:ByteArray) (i j:Int):aKe k key m o=some (Eh ⟨k,key,i⟩ ⟨m,o,j⟩):=by
 unfold aKe Eh;cases q:decide (k<m)<;>cases u:k==m<;>simp_all
def EU (s:List Ai) (e:Ai):Nat:=s.findIdx fun x=> !Eh x e
def J9 (s:List Ai) (e:Ai):Bool:=match s[EU s e]? with
 |some x=>Hw x e
 |none=>false
def dc (s:List Ai) (e:Ai):EU s e≤s.length:=aBf
def aOv {s:List Ai} {e:Ai} (h:EU s e<s.length):Eh s[EU s e] e=false:=by
 have :=aLO (w:=h);unfold EU;simpa using this
def aa3 (s:List Ai) (k:Int) (key:ByteArray) (hs:s.length≤1000000):sK s k key=some (((EU s ⟨k,key,0⟩:Nat):Int),J9 s ⟨k,key,0⟩):=by
 unfold sK aEf aPv;generalize z:(⟨k,key,0⟩:Ai)=e
 have m:bn (wZ s (fun a0=>nY a0 e) (fun a0=>pR a0 e)) Ag 0=some (((EU s e:Nat):Int),J9 s e):=by
  rw[Ie s (fuel_lt A8) (fun x=> !Eh x e) (fun i=>some (((i:Nat):Int),match s[i]? with |some x=> !Eh e x|none=>false)) (some (((s.length:Nat):Int),false))]
  ·split
   ·rename_i h;congr 2;unfold J9 EU;rw[Ce h];have q:Eh s[s.findIdx fun x=> !Eh x e] e=false:=aOv h;show(!Eh e s[s.findIdx fun x=> !Eh x e])=Hw s[s.findIdx fun x=> !Eh x e] e;cases j:Eh e s[s.findIdx fun x=> !Eh x e]with
    |false=>rw[aas q j];rfl
    |true=>
     cases u:Hw s[s.findIdx fun x=> !Eh x e] e with
     |false=>rfl
     |true=>rw[(oH u).2,asw]at j;cases j
   rename_i h;have h':EU s e=s.length:=by have :=dc s e;unfold EU at *;omega
   have j:J9 s e=false:=by unfold J9;rw[h',Gu (Dc _)]
   rw[h',j]
  ·intro k2 i h;unfold wZ;rw[Bl h,Bl h];simp only[nY,pR,aoq,AQ];rw[Ce h];cases Eh s[i] e<;>rfl
  intro k2;unfold wZ;rw[D7,D7];rfl
 rw[m];rfl
def IQ (s:List Ai):Prop:=s.Pairwise fun a b=>Eh a b=true
def FP (s:List Ai) (k:Int) (key:ByteArray):Int×Bool:=match s.find? fun x=>Hw x ⟨k,key,0⟩with
 |some x=>(x.Id,true)
 |none=>(0,false)
def aKt (s:List Ai) (k:Int) (key:ByteArray) (hs:s.length≤1000000):qX s k key=some (FP s k key):=by
 unfold qX aeW;rw[Ie s (fuel_lt A8) (fun x=>Hw x ⟨k,key,0⟩) (fun i=>(Af s (i:Int)).bind fun j=>some (j.Id,true)) (some (0,false))]
 ·unfold FP;rw[Ih];split
  ·rename_i h;rw[Bf h,Ce h];rfl
  rename_i h;rw[Gu A8]
 ·intro k2 i h;unfold aIk;rw[Bl h,Bf h];simp only[AQ];unfold Hw;rw[HY];cases s[i].Kind==k<;>rfl
 intro k2;unfold aIk;rw[D7]
def alX {s:List Ai} (h:IQ s) (e:Ai):s.find? (fun x=>Hw x e)=match s[EU s e]? with |some x=>if Hw x e then some x else none|none=>none:=by
 induction s with
 |nil=>rfl
 |cons a s q=>
  have h':=O7.1 h;unfold EU;rw[Qz,SP];cases j:Eh a e with
  |true=>
   have hs:Hw a e=false:=by
    cases hs:Hw a e with
    |false=>rfl
    |true=>rw[ku hs]at j;cases j
   rw[hs];simp only[Dv,Ar,aCl];exact q h'.2
  |false=>
   simp only[I4,BA,aMk];cases hs:Hw a e with
   |true=>rfl
   |false=>
    simp only[Qb,JC];refine vY.2 fun x u z=>?_;have m:=h'.1 x u;rw[(oH z).2,j]at m;cases m
def aM1 (s:List Ai) (k:Int) (key:ByteArray) (hs:s.length≤1000000) (h:IQ s):fZ s k key=some (FP s k key):=by
 unfold fZ;rw[aa3 s k key hs];simp only[AQ];unfold FP J9;rw[alX h];by_cases hl:EU s ⟨k,key,0⟩<s.length
 ·rw[Ce hl];simp only;cases j:Hw s[EU s ⟨k,key,0⟩] ⟨k,key,0⟩with
  |true=>simp only[BA,J5];rw[Bf hl];rfl
  |false=>rfl
 rw[Gu A8];rfl
def Ew (s:List Ai) (k:Int) (key:ByteArray) (id:Int):List Ai:=
 s.take (EU s ⟨k,key,0⟩)++⟨k,key,id⟩::s.drop (EU s ⟨k,key,0⟩+bif J9 s ⟨k,key,0⟩then 1 else 0)
def aq6 {s:List Ai} {e:Ai} (h:J9 s e=true):EU s e<s.length:=by
 unfold J9 at h;by_cases hl:EU s e<s.length
 ·exact hl
 rw[Gu A8]at h;cases h
def rO {α:Type} {l:List α} {i:Nat} (hi:i≤l.length):Gh l 0 (i:Int)=some (l.take i):=by
 have :=iZ (l:=l) (lo:=0) (hi:=i) A8 hi;simpa using this
def Ud {α:Type} {l:List α} {i:Nat} (hi:i≤l.length):Gh l (i:Int) (l.length:Int)=some (l.drop i):=by
 rw[iZ (l:=l) (lo:=i) (hi:=l.length) hi A8];congr 1;exact PE Am
def Xd (s:List Ai) (k:Int) (key:ByteArray) (id:Int) (hs:s.length≤1000000):RG s k key id=some (Ew s k key id):=by
 unfold RG;rw[aa3 s k key hs];simp only[AQ];have j:=dc s ⟨k,key,0⟩;unfold vN Ew;rw[rO j];simp only[AQ];rw[D5 DK];simp only[AQ,Hd];rw[D5 DK];simp only[AQ];cases m:J9 s ⟨k,key,0⟩with
 |true=>
  have hl:=aq6 m;simp only[BA];rw[wrap_succ _ A8,Ud hl];simp only[AQ];rw[D5 DK];simp
 |false=>
  simp only[Ar];rw[Ud j];simp only[AQ];rw[D5 DK];simp
def aKG (s:List Ai) (k:Int) (key:ByteArray) (id:Int) (hs:s.length≤1000000):fQ s k key id=some (Ew s k key id):=by
 unfold fQ adQ
 have j:∀(k2:Int→Option (List Ai)),Za k2 ((EU s ⟨k,key,0⟩:Nat):Int) s k key id false=some (Ew s k key id):=by
  intro k2;have q:=dc s ⟨k,key,0⟩;unfold Za aKH Ew;simp only[Ar];rw[rO q];simp only[AQ];rw[D5 DK];simp only[AQ,Hd];rw[D5 DK];simp only[AQ];by_cases hl:EU s ⟨k,key,0⟩<s.length
  ·rw[dec_lt hl,Bf hl];simp only[BA,AQ]
   have u:J9 s ⟨k,key,0⟩=(s[EU s ⟨k,key,0⟩].Kind==k&&decide (s[EU s ⟨k,key,0⟩].Key=key)):=by
    unfold J9;rw[Ce hl];rfl
   rw[u,HY,←Ri];cases z:s[EU s ⟨k,key,0⟩].Kind==k with
   |false=>
    simp only[Ar,AQ];rw[Ud q];simp only[AQ];rw[D5 DK];simp
   |true=>
    simp only[BA,AQ];cases decide (s[EU s ⟨k,key,0⟩].Key=key)with
    |true=>
     simp only[BA];rw[wrap_succ _ A8,Ud hl];simp only[AQ];rw[D5 DK];simp
    |false=>
     simp only[Ar];rw[Ud q];simp only[AQ];rw[D5 DK];simp
  have m:EU s ⟨k,key,0⟩=s.length:=A8
  have u:J9 s ⟨k,key,0⟩=false:=by unfold J9;rw[m,Gu (Dc _)]
  rw[u,m,CZ];simp only[Ar,AQ];rw[Ud (Dc _)];simp only[AQ];rw[D5 DK];simp
 rw[Ie s (fuel_lt A8) (fun x=> !Eh x ⟨k,key,0⟩) (fun i=>Za (fun _=>none) (i:Int) s k key id false) (Za (fun _=>none) (s.length:Int) s k key id false)]
 ·split
  ·exact j _
  rename_i h;have m:EU s ⟨k,key,0⟩=s.length:=abA
  have :=j fun _=>none;rw[m]at this;exact this
 ·intro k2 i h;unfold aJ8;rw[dec_lt h,Bf h];simp only[BA,AQ];rw[asf _ _ _ _ s[i].Id 0];simp only[AQ];show Za k2 _ s k key id (Eh s[i] ⟨k,key,0⟩)=_;cases Eh s[i] ⟨k,key,0⟩<;>rfl
 intro k2;unfold aJ8;rw[CZ];rfl
def OO (s:List Ai) (k:Int) (key:ByteArray) (id:Int):(Ew s k key id).length≤s.length+1:=by
 unfold Ew;have :=dc s ⟨k,key,0⟩;simp only[Dk,FC,FI,KA];omega
def asT {s:List Ai} {e x:Ai} (h:x∈s.take (EU s e)):Eh x e=true:=by
 obtain⟨i,hi,rfl⟩:=Hf h;have j:i<EU s e:=by simp at hi;omega
 have :=List.not_of_lt_findIdx j;rw[aDb];simpa using this
def abD {s:List Ai} (hs:IQ s) {e x:Ai} (h:x∈s.drop (EU s e+bif J9 s e then 1 else 0)):Eh e x=true:=by
 generalize m:(EU s e+bif J9 s e then 1 else 0)=n at h;obtain⟨i,hi,rfl⟩:=Hf h;rw[List.getElem_drop];rw[KA]at hi;by_cases hl:EU s e<s.length
 ·have I:=aOv hl;cases j:J9 s e with
  |true=>
   rw[j]at m;simp only[BA]at m;have q:Hw s[EU s e] e=true:=aav
   rw[←(oH q).1];exact KH.1 hs _ _ hl A8 A8
  |false=>
   rw[j]at m;simp only[Ar,OY]at m;subst m;have q:Hw s[EU s e] e=false:=aav
   have u:Eh e s[EU s e]=true:=by
    cases h:Eh e s[EU s e]with
    |true=>rfl
    |false=>rw[aas I h]at q;cases q
   rcases Xv i with z|z
   ·subst z;simpa using u
   exact aey u (KH.1 hs _ _ hl A8 A8)
 omega
def Vf {s:List Ai} (h:IQ s) (k:Int) (key:ByteArray) (id:Int):IQ (Ew s k key id):=by
 have q:Hw ⟨k,key,id⟩ ⟨k,key,0⟩=true:=VK.2 ⟨rfl,rfl⟩;unfold Ew IQ;refine Z7.2 ⟨h.sublist (List.take_sublist ..),O7.2 ⟨fun x j=>?_,h.sublist (List.drop_sublist ..)⟩,fun x j y m=>?_⟩
 ·rw[(oH q).1];exact abD h j
 have u:Eh x ⟨k,key,0⟩=true:=asT j;rcases EO.1 m with rfl|m
 ·rw[(oH q).2];exact u
 exact aey u (abD h m)
structure MR (l:List (List Ai)):Prop where
 len:l.length≤100
 each:∀s∈l,s.length≤100∧IQ s
def IC (l:List (List Ai)) (x:Ai):Bool:=l.all fun s=>(FP s x.Kind x.Key).2&&(FP s x.Kind x.Key).1==x.Id
def am9 (l:List (List Ai)) (x:Ai) (h:MR l):aBO l x=some (IC l x):=by
 unfold aBO aOA;rw[GK l (fuel_lt (by have :=h.len;omega)) (fun s=> !((FP s x.Kind x.Key).2&&(FP s x.Kind x.Key).1==x.Id)) false (some true)]
 ·unfold IC;rw[Iq,qm]
 ·intro k i hi;obtain⟨m,j⟩:=h.each l[i] (E8 hi);unfold aMh;rw[Bl hi,aM1 _ _ _ A8 j];simp only[AQ];cases(FP l[i] x.Kind x.Key).2<;>simp[bne]
 intro k;unfold aMh;rw[D7]
def apP (l:List (List Ai)) (x:Ai) (h:MR l):aLR l x=some (IC l x):=by
 unfold aLR aP8;rw[GK l (fuel_lt (by have :=h.len;omega)) (fun s=> !((FP s x.Kind x.Key).2&&(FP s x.Kind x.Key).1==x.Id)) false (some true)]
 ·unfold IC;rw[Iq,qm]
 ·intro k i hi;obtain⟨j,m⟩:=h.each l[i] (E8 hi);unfold aMT;rw[Bl hi,aKt _ _ _ A8];simp only[AQ];cases(FP l[i] x.Kind x.Key).2<;>simp[bne]
 intro k;unfold aMT;rw[D7]
def Gl (l:List (List Ai)):List Ai:=match l with
 | []=>[]
 |s::_=>s.filter (IC l)
def Om (l:List (List Ai)):List Int:=(l.flatMap fun s=>s.filter fun x=> !IC l x).map (·.Id)
def Q9 (l:List (List Ai)) (i:Nat):List Ai:=if i=0 then[]else Gl l
def Lr (l:List (List Ai)) (i:Nat):List Int:=((l.take i).flatMap fun s=>s.filter fun x=> !IC l x).map (·.Id)
def aOY {l:List (List Ai)} {i:Nat} (h:i<l.length):Q9 l (i+1)=Q9 l i++(if i=0 then l[i].filter (IC l)else[]):=by
 unfold Q9 Gl;cases l with
 |nil=>simp at h
 |cons s l=>cases i<;>simp
def aKy {l:List (List Ai)} {i:Nat} (h:i<l.length):Lr l (i+1)=Lr l i++(l[i].filter fun x=> !IC l x).map (·.Id):=by
 unfold Lr;rw[Oj h,List.flatMap_append,Ip];simp
def aKh (l:List (List Ai)):Lr l l.length=Om l:=by unfold Lr Om;rw[GY]
def aaD (l:List (List Ai)):Q9 l l.length=Gl l:=by
 unfold Q9;cases l with
 |nil=>rfl
 |cons s l=>simp
def aKo {l:List (List Ai)} (h:MR l) (i:Nat):(Lr l i).length≤100*i:=by
 induction i with
 |zero=>simp[Lr]
 |succ i j=>
  by_cases hi:i<l.length
  ·rw[aKy hi,Dk,C9];have :=(h.each _ (E8 hi)).1;have :=JD (fun x=> !IC l x) l[i];omega
  have :Lr l (i+1)=Lr l i:=by unfold Lr;rw[PE A8,PE A8]
  rw[this];omega
def aB8 {l:List (List Ai)} (h:MR l):(Om l).length≤10000:=by
 have :=aKo h l.length;rw[aKh]at this;have :=h.len;omega
def ZI {l:List (List Ai)} (h:MR l):(Gl l).length≤100:=by
 unfold Gl;cases l with
 |nil=>exact EK _
 |cons s l=>exact EZ (JD _ _) (h.each s (Ec ..)).1
def aPu {l:List (List Ai)} (h:MR l):IQ (Gl l):=by
 unfold Gl;cases l with
 |nil=>exact .nil
 |cons s l=>exact(h.each s (Ec ..)).2.sublist Qx
def acz (l:List (List Ai)) (h:MR l):qH l=some (Gl l,EX (Om l)):=by
 have hlen:=h.len;refine dQ.eq ?_;unfold qH ael;refine aKg (body:=aGo l) (fun(m:Nat) (a:List Ai) (b:List Int) (c:Int) (d:List (List Ai)) (_:List Ai) (_:List Int)=>∃i:Nat,c=i∧i+m=l.length∧d=l∧a=Q9 l i∧b=Lr l i) ?_ Ag l.length [] [] 0 l [] [] (fuel_lt A8) ⟨0,rfl,A8,rfl,rfl,by simp[Lr]⟩;rintro m a b c d e f k ⟨i,rfl,hm,rfl,rfl,rfl⟩ U;unfold aGo;refine dQ.bif (fun hi=>?_) fun hi=>?_
 ·have hi:i<d.length:=FU
  have hs:=(h.each d[i] (E8 hi)).1;have Y:=aKo h i;rw[Bf hi];simp only[AQ,jF];unfold aeC
  refine aaG (body:=aLw d[i] k (i:Int)) (fun(J:Nat) (a:List Ai) (b:List Int) (c:Int) (u:List (List Ai)) (_:List Ai) (_:List Int) (g:Int)=>
   ∃j:Nat,c=j∧j+J=d[i].length∧u=d∧g=i∧a=Q9 d i++(if i=0 then(d[i].take j).filter (IC d)else[])∧b=Lr d i++((d[i].take j).filter fun x=> !IC d x).map (·.Id)) ?_ Ag d[i].length _ _ _ _ _ _ _ (fuel_lt A8) ⟨0,rfl,A8,rfl,rfl,Am,Am⟩
  rintro J a b c u e2 f2 g k2 ⟨j,rfl,Z,rfl,rfl,rfl,rfl⟩ I;unfold aLw;refine dQ.bif (fun z=>?_) fun z=>?_
  ·have z:j<u[i].length:=SS
   have q:u[i].take (j+1)=u[i].take j++[u[i][j]]:=by rw[Oj z]
   rw[Bf z];simp only[AQ];rw[am9 u _ h];simp only[AQ];have w:=wrap_succ j A8;have L:=JD (fun x=> !IC u x) (u[i].take j);have M:=JD (IC u) (u[i].take j)
   have hst:(Q9 u i).length≤100:=by unfold Q9;split; ·exact EK _
                                    ·exact ZI h
   rw[FI]at L M;cases ha:IC u u[i][j]with
   |false=>
    simp only[I4,BA];rw[D5 (by simp only[Dk,C9,MS];omega)];simp only[AQ,w];refine I (J-1) _ _ _ _ _ _ _ A8 ⟨j+1,rfl,A8,rfl,rfl,?_,?_⟩
    ·rw[q,Ot];simp[ha]
    rw[q,Ot];simp[ha]
   |true=>
    simp only[Dv,Ar];by_cases O:i=0
    ·subst O;simp only[show(((0:Nat):Int)==0)=true from rfl,BA,J5];rw[D5 Sm];simp only[AQ,w];refine I (J-1) _ _ _ _ _ _ _ A8 ⟨j+1,rfl,A8,rfl,rfl,?_,?_⟩
     ·rw[q,Ot];simp[ha]
     rw[q,Ot];simp[ha]
    have :((i:Int)==0)=false:=by simpa using O
    rw[this];simp only[Ar,w];refine I (J-1) _ _ _ _ _ _ _ A8 ⟨j+1,rfl,A8,rfl,rfl,?_,?_⟩
    ·simp[O]
    rw[q,Ot];simp[ha]
  have z:j=u[i].length:=by have :¬j<u[i].length:=SS
                           omega
  subst z;rw[wrap_succ i A8,GY];exact U (m-1) _ _ _ _ _ _ A8 ⟨i+1,rfl,A8,rfl,(aOY hi).symm,(aKy hi).symm⟩
 have hi:i=d.length:=by have :¬i<d.length:=FU
                        omega
 subst hi;have :=aB8 h;rw[aKh,aaD,aj _ A8];exact .ret rfl
def aQF (l:List (List Ai)) (h:MR l):aBK l=some (Gl l,EX (Om l)):=by
 have hlen:=h.len;refine dQ.eq ?_;unfold aBK adJ;refine UQ (body:=aGy l) (fun(m:Nat) (a:List Ai) (b:List Int) (c:Int)=>∃i:Nat,c=i∧i+m=l.length∧a=Q9 l i∧b=EX (Lr l i)) ?_ Ag l.length [] [] 0 (fuel_lt A8) ⟨0,rfl,A8,rfl,by simp[Lr,EX]⟩;rintro m a b c k ⟨i,rfl,hm,rfl,rfl⟩ U;unfold aGy;refine dQ.bif (fun hi=>?_) fun hi=>?_
 ·have hi:i<l.length:=FU
  have hs:=(h.each l[i] (E8 hi)).1;have Y:=aKo h i;unfold aej
  refine UQ (body:=aIT l (i:Int) k) (fun(I:Nat) (a:List Ai) (b:List Int) (c:Int)=>
   ∃j:Nat,c=j∧j+I=l[i].length∧a=Q9 l i++(if i=0 then(l[i].take j).filter (IC l)else[])∧b=EX (Lr l i++((l[i].take j).filter fun x=> !IC l x).map (·.Id))) ?_ Ag l[i].length _ _ _ (fuel_lt A8) ⟨0,rfl,A8,Am,Am⟩
  rintro I a b c k2 ⟨j,rfl,Z,rfl,rfl⟩ z;unfold aIT;rw[Bf hi];simp only[AQ];refine dQ.bif (fun u=>?_) fun u=>?_
  ·have u:j<l[i].length:=LJ
   have q:l[i].take (j+1)=l[i].take j++[l[i][j]]:=by rw[Oj u]
   rw[Bf u];simp only[AQ];rw[apP l _ h];simp only[AQ];have w:=wrap_succ j A8;have J:=JD (fun x=> !IC l x) (l[i].take j);have L:=JD (IC l) (l[i].take j)
   have hst:(Q9 l i).length≤100:=by unfold Q9;split; ·exact EK _
                                    ·exact ZI h
   have M:=MF (Lr l i++((l[i].take j).filter fun x=> !IC l x).map fun e:Ai=>e.Id);rw[Dk,C9]at M;rw[FI]at J L;cases ha:IC l l[i][j]with
   |false=>
    simp only[I4,BA];rw[cV _ _ A8];unfold lW;simp only[AQ,w];refine z (I-1) _ _ _ A8 ⟨j+1,rfl,A8,?_,?_⟩
    ·rw[q,Ot];simp[ha]
    rw[q,Ot,Ip,←Gq];simp only[ha,QS,I4,J5,List.filter_nil,I7,List.map_nil];rw[acs]
   |true=>
    simp only[Dv,Ar];unfold lW;by_cases O:i=0
    ·subst O;simp only[show(((0:Nat):Int)==0)=true from rfl,BA,J5,AQ];rw[D5 Sm];simp only[AQ,w];refine z (I-1) _ _ _ A8 ⟨j+1,rfl,A8,?_,?_⟩
     ·rw[q,Ot];simp[ha]
     rw[q,Ot];simp[ha]
    have :((i:Int)==0)=false:=by simpa using O
    rw[this];simp only[Ar,w];refine z (I-1) _ _ _ A8 ⟨j+1,rfl,A8,?_,?_⟩
    ·simp[O]
    rw[q,Ot];simp[ha]
  have u:j=l[i].length:=by have :¬j<l[i].length:=LJ
                           omega
  subst u;rw[wrap_succ i A8,GY];exact U (m-1) _ _ _ A8 ⟨i+1,rfl,A8,(aOY hi).symm,by rw[←aKy hi]⟩
 have hi:i=l.length:=by have :¬i<l.length:=FU
                        omega
 subst hi;rw[aKh,aaD];exact .ret rfl
def QF (s:List Ai):List Int:=s.map (·.Id)
def EP (l:List AL) (s:List Ai):List Int:=Gm (QF s) (chainOf l (QF s))
def allOf (l:List AL) (j:List (List Ai)):List Int:=j.foldl (fun a s=>Gm a (EP l s)) []
def I5 (l:List AL) (j:List (List Ai)) (x:Int):Nat:=j.countP fun s=>CY (EP l s) x
def Md (l:List AL) (j:List (List Ai)):List Int:=(allOf l j).filter fun x=>decide (I5 l j x<j.length)
def Hu (l:List AL) (j:List (List Ai)):List Int:=Gm (EX (Om j)) (Md l j)
def aOp (l:List AL) (s:List Ai):Inc (EP l s):=pU _ _
def aJ7 (s:List Ai):(QF s).length=s.length:=C9 _
def nR (l:List AL) (s:List Ai):(EP l s).length≤s.length+l.length:=by
 have j:=aLt (QF s) (chainOf l (QF s));have m:=ZY l (QF s);rw[aJ7]at j;unfold EP;omega
def aJJ (l:List AL):∀(j:List (List Ai)) (a:List Int),Inc a→Inc (j.foldl (fun a s=>Gm a (EP l s)) a)∧∀x,x∈j.foldl (fun a s=>Gm a (EP l s)) a↔x∈a∨∃s∈j,x∈EP l s
 | [],a,h=>⟨h,fun x=>Am⟩
 |s::j,a,h=>by
  rw[El];obtain⟨q,u⟩:=aJJ l j (Gm a (EP l s)) (pU _ _);refine⟨q,fun x=>(u x).trans ?_⟩;rw[RZ];constructor
  ·rintro((h|h)|⟨t,m,h4⟩)
   ·exact .inl h
   ·exact .inr ⟨s,Ec ..,h⟩
   exact .inr ⟨t,Ez _ m,h4⟩
  rintro(h|⟨t,m,h4⟩)
  ·exact .inl (.inl h)
  rcases EO.1 m with rfl|m
  ·exact .inl (.inr h4)
  exact .inr ⟨t,m,h4⟩
def agS (l:List AL) (j:List (List Ai)):Inc (allOf l j):=(aJJ l j [] .nil).1
def aNc {l:List AL} {j:List (List Ai)} {x:Int}:x∈allOf l j↔∃s∈j,x∈EP l s:=by
 unfold allOf;rw[(aJJ l j [] .nil).2 x];simp
def aqt (l:List AL) (j:List (List Ai)):Inc (Md l j):=(agS l j).sublist Qx
def cnt_lt {l:List AL} {j:List (List Ai)} {x:Int}:I5 l j x<j.length↔∃s∈j,x∉EP l s:=by
 unfold I5;have h:=List.countP_le_length (p:=fun s=>CY (EP l s) x) (l:=j);have u:=List.countP_eq_length (p:=fun s=>CY (EP l s) x) (l:=j);constructor
 ·intro I;by_cases m:∀s∈j,CY (EP l s) x=true
  ·have :=u.2 m;omega
  simp only[Classical.not_forall]at m;obtain⟨s,hs,q⟩:=m;exact⟨s,hs,fun J=>q (Ii.2 J)⟩
 rintro⟨s,hs,q⟩;rcases YQ (j.countP fun s=>CY (EP l s) x) j.length with z|z
 ·exact z
 exact absurd (Ii.1 (u.1 A8 s hs)) q
def adt {l:List AL} {j:List (List Ai)} {x:Int}:x∈Md l j↔(∃s∈j,x∈EP l s)∧∃s∈j,x∉EP l s:=by
 unfold Md;rw[ET,aNc,Fb,cnt_lt]
def adW {j:List (List Ai)} {x:Ai}:IC j x=true↔∀s∈j,(FP s x.Kind x.Key).2=true∧(FP s x.Kind x.Key).1=x.Id:=by
 unfold IC;rw[E5];simp
def zW (l:List AL):∀(j:List (List Ai)) (a:List Int),(∀s∈j,s.length≤100)→(j.foldl (fun a s=>Gm a (EP l s)) a).length≤a.length+j.length*(100+l.length)
 | [],a,_=>Am
 |s::j,a,h=>by
  rw[El];have q:=zW l j (Gm a (EP l s)) fun t m=>h t (Ez _ m);have u:=aLt a (EP l s);have z:=nR l s;have I:=h s (Ec ..);rw[FC,U0];omega
def aRR {l:List AL} {j:List (List Ai)} (hs:MR j) (hl:l.length≤1000):(Md l j).length≤110000:=by
 have m:=zW l j [] fun s h=>(hs.2 s h).1;have q:=hs.1;have u:=JD (fun x=>decide (I5 l j x<j.length)) (allOf l j);have z:j.length*(100+l.length)≤100*1100:=vJ q A8;unfold Md;unfold allOf at u ⊢;simp only[Kr]at m;omega
def amI {s:List Ai} (h:IQ s) {x:Ai} (z:x∈s):FP s x.Kind x.Key=(x.Id,true):=by
 unfold FP;cases u:s.find? (fun y=>Hw y ⟨x.Kind,x.Key,0⟩)with
 |none=>
  have :=vY.1 u x z;unfold Hw at this;simp at this
 |some y=>
  have I:=aH u;have M:=Qh u;have J:Hw y x=true:=by unfold Hw at I ⊢;exact I
  have :y=x:=by
   obtain⟨i,hi,rfl⟩:=Hf z;obtain⟨j,L,rfl⟩:=Hf M;rcases aAf i j with m|m|m
   ·have q:=KH.1 h i j hi L m;have O:Hw s[i] s[j]=true:=by obtain⟨a,b⟩:=VK.1 J;exact VK.2 ⟨a.symm,b.symm⟩
    rw[ku O]at q;cases q
   ·subst m;rfl
   have q:=KH.1 h j i L hi m;rw[ku J]at q;cases q
  rw[this]
def aJy {s:List Ai} {k:Int} {key:ByteArray} {n:Int} (h:FP s k key=(n,true)):(⟨k,key,n⟩:Ai)∈s:=by
 unfold FP at h;cases j:s.find? (fun y=>Hw y ⟨k,key,0⟩)with
 |none=>rw[j]at h;cases h
 |some y=>
  rw[j]at h;have q:Hw y ⟨k,key,0⟩=true:=by have :=aH j;exact this
  have m:=VK.1 q;have u:=Qh j;obtain⟨a,b,c⟩:=y;cases h;simp only at m;rw[←m.1,←m.2];exact u
def asZ {j:List (List Ai)} {x:Ai} (m:IC j x=true) {s:List Ai} (hs:s∈j):x∈s:=by
 obtain⟨q,u⟩:=adW.1 m s hs;exact aJy (s:=s) (k:=x.Kind) (key:=x.Key) (n:=x.Id) (by rw[←q,←u])
def aqi {j:List (List Ai)} (h:MR j) {x:Ai} (m:∀s∈j,x∈s):IC j x=true:=
 adW.2 fun s hs=>by rw[amI (h.2 s hs).2 (m s hs)];exact⟨rfl,rfl⟩
def afG {j:List (List Ai)} (h:MR j) (q:j≠[]) {x:Ai}:x∈Gl j↔∀s∈j,x∈s:=by
 cases j with
 |nil=>exact absurd rfl q
 |cons s j=>
  show x∈s.filter (IC (s::j))↔_;rw[ET];exact⟨fun m t u=>asZ m.2 u,fun m=>⟨m s (Ec ..),aqi h m⟩⟩
def abO (l:List Int) (h:l.length≤1099511627776):((MJ l).bind fun x=>(Si x).bind fun y=>some y)=some (EX l):=by
 unfold MJ Si;have j:(Pj l).length≤1099511627776:=by rw[(UE l).length_eq];exact h
 simp[h,aD8,aA9]
def aR1 (s:List Ai):s.foldl (fun r x=>r++[x.Id]) []=QF s:=by
 rw[foldl_append (fun x:Ai=>[x.Id])];unfold QF;rw[Hd]
 induction s with
 |nil=>rfl
 |cons x s j=>rw[Lj,j];rfl
def ao8 (l:List AL) (s:List Ai) (hl:l.length≤1000) (ha:P9 l) (hs:s.length≤100):aDZ l s=some (EP l s):=by
 unfold aDZ
 have q:IK 8 (0:Int) 0 (s.length:Int)=some []:=by
  unfold IK;rw[CJ zU];rfl
 rw[q];simp only[AQ];unfold aP3;rw[Gi s A8 (fun r x=>r++[x.Id]) (fun i r=>r.length≤i) (fun r=>(WQ l r).bind fun u=>(Bq 8 r u).bind fun z=>(MJ z).bind fun j=>(Si j).bind fun m=>some m) Am]
 ·have J:=ZY l (QF s);have L:=aJ7 s;rw[aR1,aJs l _ hl ha A8];simp only[AQ];rw[D5 A8];simp only[AQ];rw[abO _ JZ];unfold EP;rw[qE]
 ·intro k a i h I;refine⟨aCX,?_⟩;unfold aLz;rw[Bl h,D5 FW];rfl
 intro k a I;unfold aLz;rw[D7]
def amj (l:List AL) (s:List Ai) (hl:l.length≤1000) (ha:P9 l) (hs:s.length≤100):aKX l s=some (EP l s):=by
 unfold aKX abz;rw[Gi s A8 (fun r x=>r++[x.Id]) (fun i r=>r.length≤i) (fun r=>(gU l r).bind fun j=>(ZC r j).bind fun m=>some m) Am]
 ·have u:=ZY l (QF s);have z:=aJ7 s;rw[aR1,aML l _ hl ha A8];simp only[AQ];rw[aAH _ _ A8 A8];rfl
 ·intro k a i h q;refine⟨aCX,?_⟩;unfold aJr;rw[dec_lt h,Bf h];simp only[BA,AQ];rw[D5 FW];rfl
 intro k a q;unfold aJr;rw[CZ];rfl
def stepM (m:List (Int×Int)) (x:Int):List (Int×Int):=Dj m x (Ah (((CB m x).getD 0)+1))
structure KD (m:List (Int×Int)) (f:Int→Nat):Prop where
 nodup:(m.map (·.1)).Nodup
 find:∀x,CB m x=if f x=0 then none else some (f x:Int)
def anu {m:List (Int×Int)} {k v y:Int}:y∈(Dj m k v).map (·.1)↔y=k∨y∈m.map (·.1):=by
 induction m with
 |nil=>simp[Dj]
 |cons p m j=>
  unfold Dj;cases h:k==p.1 with
  |true=>
   have q:k=p.1:=JU
   simp only[BA,I7,EO];rw[q];simp
  |false=>
   simp only[Ar,I7,EO,j];exact⟨fun h=>h.elim (fun e=>.inr (.inl e)) fun h=>h.elim .inl fun h=>.inr (.inr h),fun h=>h.elim (fun e=>.inr (.inl e)) fun h=>h.elim .inl fun h=>.inr (.inr h)⟩
def agy {m:List (Int×Int)} {k v:Int} (h:(m.map (·.1)).Nodup):((Dj m k v).map (·.1)).Nodup:=by
 induction m with
 |nil=>simp[Dj]
 |cons p m z=>
  have h':=JX.1 h;unfold Dj;cases u:k==p.1 with
  |true=>
   have j:k=p.1:=LJ
   simp only[BA,I7];rw[j];exact h
  |false=>
   have j:k≠p.1:=LJ
   simp only[Ar,I7];refine JX.2 ⟨fun q=>?_,z h'.2⟩;rcases anu.1 q with e|q
   ·exact j e.symm
   exact h'.1 q
def am6 (m:List (Int×Int)) (k v:Int):(Dj m k v).length≤m.length+1:=by
 induction m with
 |nil=>simp[Dj]
 |cons p m j=>
  unfold Dj;cases k==p.1 with
  |true=>simp
  |false=>simp only[Ar,FC];omega
def KD.step {m:List (Int×Int)} {f:Int→Nat} (h:KD m f) (x:Int) (u:f x≤1000000):KD (stepM m x) (fun y=>f y+if y=x then 1 else 0):=by
 refine⟨agy h.nodup,fun y=>?_⟩;unfold stepM;rw[QM,h.find x]
 have e:Ah (((if f x=0 then none else some (f x:Int)).getD 0)+1)=((f x+1:Nat):Int):=by
  by_cases j:f x=0
  ·rw[CJ j,j];rfl
  rw[CU j];show Ah ((f x:Int)+1)=_;exact wrap_succ _ A8
 by_cases q:y=x
 ·subst q;simp only[Rn,BA,J5];rw[e,CU A8]
 have :(y==x)=false:=MV
 rw[this];simp only[Ar,CU q,OY];exact h.find y
def KD.fold:∀(c:List Int) {m:List (Int×Int)} {f:Int→Nat},c.Nodup→KD m f→(∀x,f x≤1000)→KD (c.foldl stepM m) (fun y=>f y+if y∈c then 1 else 0)
 | [],m,f,_,h,_=>by
   refine⟨h.nodup,fun x=>?_⟩;simp only[List.foldl_nil,Ef,JC,OY];exact h.find x
 |x::c,m,f,q,h,M=>by
  have j:=JX.1 q
  have key:∀(c:List Int) (m:List (Int×Int)) (g:Int→Nat),c.Nodup→KD m g→(∀x∈c,g x≤1000)→KD (c.foldl stepM m) (fun y=>g y+if y∈c then 1 else 0):=by
   intro c
   induction c with
   |nil=>intro m g _ h _;refine⟨h.nodup,fun x=>?_⟩;simp only[List.foldl_nil,Ef,JC,OY];exact h.find x
   |cons z c O=>
    intro m g q h I;have j:=JX.1 q
    have J:=O (stepM m z) (fun y=>g y+if y=z then 1 else 0) j.2 (h.step z (by have :=I z (Ec ..);omega)) fun y L=>by
     have u:y≠z:=fun e=>j.1 (e▸L);simp only[CU u,OY];exact I y (Ez _ L)
    refine⟨J.nodup,fun y=>?_⟩;rw[El,J.find y]
    have :(g y+if y=z then 1 else 0)+(if y∈c then 1 else 0)=g y+if y∈z::c then 1 else 0:=by
     by_cases e:y=z
     ·subst e;simp[j.1]
     simp[e]
    simp only[this]
  exact key (x::c) m f q h fun y _=>M y
def aEw :∀(c:List Int) (m:List (Int×Int)),(c.foldl stepM m).length≤m.length+c.length
 | [],m=>Am
 |x::c,m=>by
  have j:=aEw c (stepM m x);have q:=am6 m x (Ah (((CB m x).getD 0)+1));rw[El,FC];unfold stepM at j ⊢;omega
def UZ {l:List Int} (h:Inc l):l.Nodup:=h.imp fun h=>A8
def KD.mem {m:List (Int×Int)} {f:Int→Nat} (h:KD m f) {x n:Int}:(x,n)∈m↔f x≠0∧n=f x:=by
 have key:∀m:List (Int×Int),(m.map (·.1)).Nodup→((x,n)∈m↔CB m x=some n):=by
  intro m
  induction m with
  |nil=>intro _;simp[CB]
  |cons p m I=>
   intro J;have j:=JX.1 J;unfold CB;rw[EO];cases z:x==p.1 with
   |true=>
    have q:x=p.1:=SS
    simp only[BA,KJ];constructor
    ·rintro(e|hm)
     ·rw[←e]
     exact absurd (FH.2 ⟨_,hm,q⟩) j.1
    intro e;left;rw[q,←e]
   |false=>
    have q:x≠p.1:=SS
    simp only[Ar];rw[←I j.2];exact⟨fun h=>h.elim (fun e=>absurd (by rw[←e]) q) id,.inr⟩
 rw[key m h.nodup,h.find x];by_cases u:f x=0
 ·simp[u]
 rw[CU u];simp only[KJ,ne_eq,u,not_false_eq_true,true_and];exact eq_comm
def acp {l:List Int} (h:l.Nodup):Pj l=EX l:=by
 refine Fp ?_ (LM l) fun x=>by rw[Jh];exact(UE l).mem_iff
 have j:=aBq l;have m:(Pj l).Nodup:=(UE l).nodup_iff.2 h;exact(j.and m).imp fun h=>A8
def aMo (n:Int):∀(m:List (Int×Int)) (r:List Int) (j:List (List Ai)),(j.length:Int)=n→r.length+m.length≤1000000→List.foldlM (Vg j) r m=some (r++(m.filter fun p=>decide (p.2<n)).map (·.1))
 | [],r,j,_,_=>Am
 |p::m,r,j,hs,u=>by
  simp only[FC]at u;have e:Vg j r p=(bif decide (p.2<n)then(Bq 8 r [p.1]).bind fun q=>some q else some r):=by unfold Vg;rw[hs]
  rw[Td,e];cases hd:decide (p.2<n)with
  |true=>
   simp only[BA];rw[D5 FW];simp only[AQ];show List.foldlM (Vg j) (r++[p.1]) m=_;rw[aMo n m (r++[p.1]) j hs Sm,QS,CJ hd];simp
  |false=>
   simp only[Ar];show List.foldlM (Vg j) r m=_;rw[aMo n m r j hs A8,QS,CU (by simp[hd])]
def aQy (l:List AL) (j:List (List Ai)) (x:Int):I5 l j x≤j.length:=List.countP_le_length
def KD.of_eq {m:List (Int×Int)} {f g:Int→Nat} (h:KD m f) (e:∀x,f x=g x):KD m g:=⟨h.nodup,fun x=>by rw[h.find,e]⟩
def aly (l:List AL) (q:List (List Ai)) (hl:l.length≤1000) (ha:P9 l) (hs:MR q):qw l q=some (Md l q):=by
 unfold qw aOX;have hsl:=hs.len;rw[dh (a0:=[]) q A8 (fun m s=>(EP l s).foldl stepM m) (fun i m=>KD m (I5 l (q.take i))∧m.length≤1100*i) (fun v2=>(IK 8 (0:Int) 0 (v2.length:Int)).bind fun M=>(List.foldlM (Vg q) M v2).bind ak) ⟨⟨Vx,fun x=>rfl⟩,EK _⟩]
 ·obtain⟨L,hlen⟩:KD (q.foldl (fun m s=>(EP l s).foldl stepM m) []) (I5 l q)∧(q.foldl (fun m s=>(EP l s).foldl stepM m) []).length≤1100*q.length:=by
   have key:∀(b a:List (List Ai)) (m:List (Int×Int)),(∀s∈b,s.length≤100)→a.length+b.length≤100→KD m (I5 l a)→m.length≤1100*a.length→KD (b.foldl (fun m s=>(EP l s).foldl stepM m) m) (I5 l (a++b))∧(b.foldl (fun m s=>(EP l s).foldl stepM m) m).length≤1100*(a.length+b.length):=by
    intro b
    induction b with
    |nil=>intro a m _ _ I J;simpa using⟨I,J⟩
    |cons s b ih=>
     intro a m hb O I J;rw[El,List.append_cons];have hc:=nR l s;have u:=hb s (Ec ..);have U:=aEw (EP l s) m;simp only[FC]at O ⊢;have :=ih (a++[s]) ((EP l s).foldl stepM m) (fun t ht=>hb t (Ez _ ht)) Sm ?_ Sm
     ·simpa[NQ,QA 1]using this
     refine(KD.fold (EP l s) (UZ (aOp l s)) I fun x=>by have :=aQy l a x;omega).of_eq fun x=>?_;unfold I5;rw[List.countP_append,List.countP_singleton];by_cases z:x∈EP l s
     ·rw[CJ z,CJ (Ii.2 z)]
     rw[CU z,CU (by rw[NR.2 z];simp)]
   have :=key q [] [] (fun s h=>(hs.each s h).1) (by simpa using hs.len) ⟨Vx,fun x=>rfl⟩ (EK _);simpa using this
  generalize q.foldl (fun m s=>(EP l s).foldl stepM m) []=m at L hlen
  have hm:IK 8 (0:Int) 0 (m.length:Int)=some []:=by
   unfold IK;rw[CJ zU];rfl
  rw[hm];simp only[AQ];rw[aMo (q.length:Int) m [] q rfl SE];simp only[AQ,Hd];have Y:((m.filter fun p=>decide (p.2<(q.length:Int))).map (·.1)).Nodup:=L.nodup.sublist (Qx.map _);have hle:((m.filter fun p=>decide (p.2<(q.length:Int))).map (·.1)).length≤m.length:=by rw[C9];exact JD _ _
  unfold ak MJ;rw[CJ A8];simp only[AQ];congr 1;rw[acp Y];refine Fp (LM _) (aqt _ _) fun x=>?_;rw[Jh,FH];unfold Md;rw[ET,aNc];constructor
  ·rintro⟨⟨y,n⟩,Z,rfl⟩;rw[ET]at Z;obtain⟨I,J⟩:=L.mem.1 Z.1;have U:n<(q.length:Int):=by simpa using Z.2
   subst J;refine⟨?_,DK⟩;have :0<I5 l q y:=A8
   obtain⟨s,hs1,hs2⟩:=List.countP_pos_iff.1 this;exact⟨s,hs1,Ii.1 hs2⟩
  rintro⟨⟨s,I,J⟩,U⟩;have h4:0<I5 l q x:=List.countP_pos_iff.2 ⟨s,I,Ii.2 J⟩;refine⟨(x,(I5 l q x:Int)),ET.2 ⟨L.mem.2 ⟨A8,rfl⟩,?_⟩,rfl⟩;have h5:I5 l q x<q.length:=Yy
  simp;omega
 ·intro k m i h hI;have hc:=nR l q[i];have u:=(hs.each q[i] (E8 h)).1;refine⟨⟨?_,?_⟩,?_⟩
  ·refine(KD.fold (EP l q[i]) (UZ (aOp l q[i])) hI.1 fun x=>by have :=aQy l (q.take i) x;rw[FI]at this;omega).of_eq fun x=>?_;rw[Oj h];unfold I5;rw[List.countP_append,List.countP_singleton];by_cases z:x∈EP l q[i]
   ·rw[CJ z,CJ (Ii.2 z)]
   rw[CU z,CU (by rw[NR.2 z];simp)]
  ·have :=aEw (EP l q[i]) m;have :=hI.2;omega
  unfold vw;rw[Bl h,ao8 l _ hl ha u];simp only[AQ];unfold aPc;rw[dh (EP l q[i]) A8 stepM (fun _ _=>True) (fun v8=>k (Ah ((i:Int)+1)) v8) trivial]
  ·intro k2 a j hj _;refine⟨trivial,?_⟩;unfold zn;rw[Bl hj];rfl
  intro k2 a _;unfold zn;rw[D7]
 intro k m hI;unfold vw;rw[D7]
def aip {R A B α:Type} {body:(A→B→Int→Option R)→A→B→Int→Option R} (l:List α) (hl:l.length≤1099511627776) (f:A→B→α→A) (g:A→B→α→B) (I:Nat→A→B→Prop) (j:A→B→Option R) {Q:R→Prop} {a0:A} {q:B} (u:I 0 a0 q)
 (z:∀k a b (i:Nat) (h:i<l.length),I i a b→I (i+1) (f a b l[i]) (g a b l[i])∧body k a b (i:Int)=k (f a b l[i]) (g a b l[i]) (Ah ((i:Int)+1)))
 (J:∀k a b,I l.length a b→body k a b (l.length:Int)=j a b) (L:∀a b,I l.length a b→dQ (j a b) Q):dQ (kN body Ag a0 q 0) Q:=by
 refine UQ (body:=body) (Q:=Q) (fun m a b c=>∃i:Nat,c=i∧i+m=l.length∧I i a b) ?_ Ag l.length a0 q 0 (fuel_lt hl) ⟨0,rfl,A8,u⟩;rintro m a b c k ⟨i,rfl,Y,hi⟩ M;by_cases e:i<l.length
 ·obtain⟨O,U⟩:=z k a b i e hi;rw[U,wrap_succ i A8];exact M (m-1) _ _ _ A8 ⟨i+1,rfl,A8,O⟩
 have :i=l.length:=A8
 subst this;rw[J _ _ _ hi];exact L a b hi
def aL1 (x:Int):∀(cs:List (List Int)) (n:Nat),n+cs.length≤1000000→cs.foldl (fun(n:Int) c=>bif CY c x then Ah (n+1)else n) (n:Int)=((n+cs.countP (fun c=>CY c x):Nat):Int)
 | [],n,_=>Am
 |c::cs,n,h=>by
  rw[FC]at h;rw[El,List.countP_cons];cases j:CY c x with
  |true=>
   simp only[BA,J5];rw[wrap_succ n A8,aL1 x cs (n+1) A8];congr 1;omega
  |false=>
   simp only[Ar,Qb,JC,OY];exact aL1 x cs n A8
def aml (l:List AL) (m:List (List Ai)) (hl:l.length≤1000) (ha:P9 l) (hs:MR m):aHP l m=some (Md l m):=by
 refine dQ.eq ?_;unfold aHP aRm;have M:=hs.len
 have z:∀i,(allOf l (m.take i)).length≤1100*i:=by
  intro i;have O:=zW l (m.take i) [] fun s h=>(hs.each s (qx h)).1;rw[FI,Kr]at O;have h2:min i m.length*(100+l.length)≤i*1100:=vJ (aNB _ _) A8;unfold allOf;omega
 refine aip m A8 (fun a _ s=>a++[EP l s]) (fun _ b s=>Gm b (EP l s)) (fun i a b=>a=(m.take i).map (EP l)∧b=allOf l (m.take i)) (fun a b=>aIJ b a [] 0) ⟨rfl,rfl⟩ ?_ ?_ ?_
 ·rintro k a b i h ⟨rfl,rfl⟩;have U:=nR l m[i];have q:=(hs.each m[i] (E8 h)).1;have u:m.take (i+1)=m.take i++[m[i]]:=Oj h;refine⟨⟨by rw[u,Ip];rfl,by rw[u];unfold allOf;rw[Uy];rfl⟩,?_⟩;unfold aJ2;rw[dec_lt h,Bf h];simp only[BA,AQ];rw[amj l _ hl ha q];simp only[AQ];rw[D5 (by simp only[C9,FI,MS];omega)];simp only[AQ];have :=z i;rw[aAH _ _ A8 A8];rfl
 ·rintro k a b ⟨rfl,rfl⟩;unfold aJ2;rw[CZ];rfl
 rintro a b ⟨rfl,rfl⟩;rw[GY];refine dQ.of ?_;have Y:=z m.length;rw[GY]at Y;unfold aIJ;rw[Gi (allOf l m) A8 (fun r x=>bif decide (I5 l m x<m.length)then r++[x]else r) (fun i r=>r.length≤i) (fun r=>some r) (Dc _)]
 ·congr 1;unfold Md
  have key:∀(S r:List Int),S.foldl (fun r x=>bif decide (I5 l m x<m.length)then r++[x]else r) r=r++S.filter (fun x=>decide (I5 l m x<m.length)):=by
   intro S
   induction S with
   |nil=>intro r;simp
   |cons x S Z=>
    intro r;rw[El,Z,QS];cases decide (I5 l m x<m.length)<;>simp
  simpa using key (allOf l m) []
 ·intro k r i h hI;refine⟨?_,?_⟩
  ·cases decide (I5 l m (allOf l m)[i]<m.length)with
   |false=>show r.length≤i+1;omega
   |true=>show(r++[(allOf l m)[i]]).length≤i+1;simp;omega
  unfold aM5;rw[dec_lt h];simp only[BA];unfold aQ8
  rw[Gi (m.map (EP l)) Xi (fun(n:Int) c=>bif CY c (allOf l m)[i]then Ah (n+1)else n) (fun _ _=>True)
   (fun n=>bif decide (n<((m.map (EP l)).length:Int))then k (r++[(allOf l m)[i]]) (Ah ((i:Int)+1))else k r (Ah ((i:Int)+1))) trivial]
  ·have I:=aL1 (allOf l m)[i] (m.map (EP l)) 0 Xi;rw[show((0:Nat):Int)=0 from rfl]at I;rw[I,List.countP_map,C9,Ic]
   have e:decide (((m.countP ((fun c=>CY c (allOf l m)[i])∘EP l):Nat):Int)<(m.length:Int))=decide (I5 l m (allOf l m)[i]<m.length):=by
    unfold I5;rw[rH];exact Int.ofNat_lt
   rw[e];cases decide (I5 l m (allOf l m)[i]<m.length)<;>rfl
  ·intro k2 n j J _;refine⟨trivial,?_⟩;have L:j<m.length:=by rw[C9]at J;exact J
   have U:=nR l m[j];have q:=(hs.each m[j] (E8 L)).1;unfold aJT;rw[dec_lt J,Bf J,Bf h];simp only[BA,AQ];rw[XH _ _ (by rw[Po];omega)];simp only[AQ];cases CY (m.map (EP l))[j] (allOf l m)[i]<;>rfl
  intro k2 n _;unfold aJT;rw[CZ];simp only[Ar];rw[Bf h];simp only[AQ];rw[D5 FW];cases decide (n<((m.map (EP l)).length:Int))<;>rfl
 intro k r _;unfold aM5;rw[CZ];rfl
def aq0 (l:List AL) (j:List (List Ai)) (hl:l.length≤1000) (ha:P9 l) (hs:MR j):aBk l j=some (Hu l j):=by
 have m:=aB8 hs;have q:=MF (Om j);have u:=aRR hs hl;unfold aBk;rw[acz j hs,aly l j hl ha hs];simp only[AQ];rw[D5 A8];simp only[AQ];rw[abO _ JZ];unfold Hu;rw[qE]
def apV (l:List AL) (j:List (List Ai)) (hl:l.length≤1000) (ha:P9 l) (hs:MR j):aKQ l j=some (Hu l j):=by
 have m:=aB8 hs;have q:=MF (Om j);have u:=aRR hs hl;unfold aKQ;rw[aQF j hs,aml l j hl ha hs];simp only[AQ];rw[aAH _ _ A8 A8];rfl
def D9 (l:List AL):Prop:=∀e∈l,GV e
def D9.ahX {l:List AL} (h:D9 l):P9 l:=fun e j=>(h e j).auth
def aN3 {R A α:Type} {body:(A→Int→Option R)→A→Int→Option R} (l:List α) (hl:l.length<Ag) (p:α→Bool) (g:Nat→Option R) (rest:Option R) (a0:A)
 (u:∀k (i:Nat) (h:i<l.length),body k a0 (i:Int)=bif p l[i]then g i else k a0 (Ah ((i:Int)+1))) (z:∀k,body k a0 (l.length:Int)=rest):
 aP body Ag a0 0=if l.findIdx p<l.length then g (l.findIdx p)else rest:=by
 have L:Ag=9223372036854775808:=rfl
 have key:∀n (i:Nat),i+n=l.length→∀m,n<m→aP body m a0 (i:Int)=if(l.drop i).findIdx p+i<l.length then g ((l.drop i).findIdx p+i)else rest:=by
  intro n
  induction n with
  |zero=>
   intro i hi m I;obtain⟨m,rfl⟩:∃q,m=q+1:=⟨m-1,A8⟩
   have :i=l.length:=A8
   subst this;show body (aP body m) _ _=_;rw[z,Na,CU Am]
  |succ n J=>
   intro i hi m I;obtain⟨m,rfl⟩:∃q,m=q+1:=⟨m-1,A8⟩
   have j:i<l.length:=A8
   show body (aP body m) _ _=_;rw[u _ i j,wrap_succ i A8,J (i+1) A8 m A8,Jp j,SP];cases p l[i]with
   |true=>simp only[BA,Ic];rw[CJ j]
   |false=>
    simp only[Ar];rw[show(l.drop (i+1)).findIdx p+(i+1)=(l.drop (i+1)).findIdx p+1+i by omega]
 have :=key l.length 0 A8 Ag hl;simpa using this
def Pg {s:List Ai} {k:Int} {key:ByteArray} {id:Int} {x:Ai} (h:x∈Ew s k key id):x=⟨k,key,id⟩∨x∈s:=by
 unfold Ew at h;rcases Fz.1 h with h|h
 ·exact .inr (qx h)
 rcases EO.1 h with h|h
 ·exact .inl h
 exact .inr (aH8 h)
def kS (s:List Ai):Prop:=∀x∈s,x.Id=0
def YV {s:List Ai} {k:Int} {key:ByteArray} (h:kS s):kS (Ew s k key 0):=fun x j=>by
 rcases Pg j with rfl|j
 ·rfl
 exact h x j
def kY (l:List Ai) (k:Int) (key:ByteArray) (j:Int):Option Au:=
 (bif decide (j<(l.length:Int))then(Af l j).bind fun m=>some (m.Kind==k)else some false).bind fun q=>(bif q then(Af l j).bind fun u=>some (u.Key.toList==key.toList)else some false).bind fun z=>(bif z then some l else(Gh l 0 j).bind fun I=>(Bq 32 [] I).bind fun J=>(Bq 32 J [(⟨k,key,0⟩:Ai)]).bind fun L=>(Gh l j ((l).length)).bind fun M=>(Bq 32 L M).bind fun O=>some O)
def qO (s:List Ai) (k:Int) (key:ByteArray) (hs:s.length≤1000000) (q:kS s):Wh s k key=some (Ew s k key 0):=by
 unfold Wh aPb
 have j:kY s k key ((EU s ⟨k,key,0⟩:Nat):Int)=some (Ew s k key 0):=by
  have U:=dc s ⟨k,key,0⟩;unfold kY Ew
  have m:((Gh s 0 ((EU s ⟨k,key,0⟩:Nat):Int)).bind fun u=>(Bq 32 [] u).bind fun z=>(Bq 32 z [(⟨k,key,0⟩:Ai)]).bind fun I=>(Gh s ((EU s ⟨k,key,0⟩:Nat):Int) ((s).length)).bind fun J=>(Bq 32 I J).bind fun L=>some L)=some (s.take (EU s ⟨k,key,0⟩)++⟨k,key,0⟩::s.drop (EU s ⟨k,key,0⟩)):=by
   rw[rO U];simp only[AQ];rw[D5 DK];simp only[AQ,Hd];rw[D5 DK];simp only[AQ];rw[Ud U];simp only[AQ];rw[D5 DK];simp
  rw[m];by_cases hl:EU s ⟨k,key,0⟩<s.length
  ·rw[dec_lt hl,Bf hl];simp only[BA,AQ]
   have M:J9 s ⟨k,key,0⟩=(s[EU s ⟨k,key,0⟩].Kind==k&&decide (s[EU s ⟨k,key,0⟩].Key=key)):=by
    unfold J9;rw[Ce hl];rfl
   rw[M,HY];cases Y:s[EU s ⟨k,key,0⟩].Kind==k with
   |false=>rfl
   |true=>
    simp only[BA,AQ,FT];cases hd:decide (s[EU s ⟨k,key,0⟩].Key=key)with
    |true=>
     simp only[BA];have Z:s[EU s ⟨k,key,0⟩].Kind=k:=Mid
     have h2:s[EU s ⟨k,key,0⟩].Key=key:=by simpa using hd
     have h3:=q _ (E8 hl)
     have h4:(⟨k,key,0⟩:Ai)=s[EU s ⟨k,key,0⟩]:=by
      have :∀(y:Ai),y.Kind=k→y.Key=key→y.Id=0→(⟨k,key,0⟩:Ai)=y:=fun y a b c=>by cases y;simp only at a b c;rw[a,b,c]
      exact this _ Z h2 h3
     congr 1
     conv=>rhs;arg 2;arg 1;rw[h4]
     rw[←Jp hl,Z4]
    |false=>rfl
  have q:EU s ⟨k,key,0⟩=s.length:=A8
  have M:J9 s ⟨k,key,0⟩=false:=by unfold J9;rw[q,Gu (Dc _)]
  rw[M,q,CZ];rfl
 rw[Ie s (fuel_lt A8) (fun x=> !Eh x ⟨k,key,0⟩) (fun i=>kY s k key (i:Int)) (kY s k key (s.length:Int))]
 ·split
  ·exact j
  rename_i h;have q:EU s ⟨k,key,0⟩=s.length:=abA
  rw[q]at j;exact j
 ·intro k2 i h;unfold aIe
  have e:(bif decide ((i:Int)<(s.length:Int))then(Af s (i:Int)).bind fun x5=>(bif decide (x5.Kind<k)then some true else(Af s (i:Int)).bind fun x8=>(bif (x8.Kind==k)then(Af s (i:Int)).bind fun O=>some (Op.bytesLess (O.Key.toList) (key.toList))else some false).bind fun x9=>some x9).bind fun x6=>some x6 else some false)=some (Eh s[i] ⟨k,key,0⟩):=by
   rw[dec_lt h,Bf h];simp only[BA,AQ];unfold Eh;cases decide (s[i].Kind<k)<;>cases s[i].Kind==k<;>rfl
  rw[e];simp only[AQ];cases Eh s[i] ⟨k,key,0⟩<;>rfl
 intro k2;unfold aIe;rw[CZ];simp only[Ar,AQ];unfold kY;rw[CZ];rfl
def Jc (e:AL):List Ai:=Ew (Ew (Ew [] 1 BU 0) 3 BU 0) 2 e.aN 0
def keysOf (e:AL):List Ai:=
 bif e.Kind==1 then[]else bif e.Kind==2 then(bif e.Content.N==3||e.Content.N==1||e.Content.N==2 then Ew (Ew (Jc e) 2 e.Key 0) 4 BU 0 else Ew (Jc e) 2 e.Key 0)else Jc e
def aGd (e:AL):(Jc e).length≤3:=by
 have j:=OO [] 1 BU 0;have m:=OO (Ew [] 1 BU 0) 3 BU 0;have q:=OO (Ew (Ew [] 1 BU 0) 3 BU 0) 2 e.aN 0;unfold Jc;simp only[Kr]at j;omega
def aPd (e:AL):kS (Jc e):=YV (YV (YV fun x j=>absurd j Ef))
def VD (e:AL):(keysOf e).length≤5:=by
 have j:=aGd e;have m:=OO (Jc e) 2 e.Key 0;have q:=OO (Ew (Jc e) 2 e.Key 0) 4 BU 0;unfold keysOf;cases e.Kind==1<;>cases e.Kind==2<;>cases(e.Content.N==3||e.Content.N==1||e.Content.N==2)<;>simp only[BA,Ar,Kr]<;>omega
def af8 (e:AL):qK e=some (keysOf e):=by
 have m:=aGd e;have q:=OO (Jc e) 2 e.Key 0;have j:=OO [] 1 BU 0;have u:=OO (Ew [] 1 BU 0) 3 BU 0;simp only[Kr]at j;unfold qK keysOf;rw[Xd [] 1 BU 0 Am];simp only[AQ];rw[Xd _ 3 BU 0 A8];simp only[AQ];rw[Xd _ 2 e.aN 0 A8];simp only[AQ];show(bif e.Kind==1 then some []else bif e.Kind==2 then(RG (Jc e) 2 e.Key 0).bind _ else fD (Jc e))=_;rw[Xd (Jc e) 2 e.Key 0 A8];simp only[AQ];rw[Xd _ 4 BU 0 A8];unfold fD;cases e.Kind==1<;>cases e.Kind==2<;>cases e.Content.N==3<;>cases e.Content.N==1<;>cases e.Content.N==2<;>rfl
def aKn (e:AL):kn e=some (keysOf e):=by
 have u:=aGd e;have z:=OO (Jc e) 2 e.Key 0;have m:=OO [] 1 BU 0;have I:=OO (Ew [] 1 BU 0) 3 BU 0;have z0:kS []:=fun x q=>absurd q Ef;simp only[Kr]at m;unfold kn keysOf;rw[qO [] 1 BU Am z0];simp only[AQ];rw[qO _ 3 BU A8 (YV z0)];simp only[AQ];rw[qO _ 2 e.aN A8 (YV (YV z0))];simp only[AQ];show(bif e.Kind==1 then some []else bif e.Kind != 2 then some (Jc e)else(Wh (Jc e) 2 e.Key).bind _)=_;rw[qO (Jc e) 2 e.Key A8 (aPd e)];simp only[AQ];rw[qO _ 4 BU A8 (YV (aPd e))];unfold aIr;have j:(e.Kind != 2)= !(e.Kind==2):=rfl;rw[j];cases e.Kind==1<;>cases e.Kind==2<;>cases e.Content.N==3<;>cases e.Content.N==1<;>cases e.Content.N==2<;>rfl
def Dt (k:Ai) (x:AL):Bool:=x.Kind==k.Kind&&decide (x.Key=k.Key)
def Qj (l:List AL) (e:AL):List AL:=(keysOf e).flatMap fun k=>((ofIds l e.bf).find? (Dt k)).toList
def flat_length {α β:Type} {f:α→List β} {n:Nat} (h:∀x,(f x).length≤n):∀l:List α,(l.flatMap f).length≤n*l.length
 | []=>Am
 |x::l=>by
  have j:=h x;have m:=flat_length h l;rw[Lj,Dk,FC,Nat.mul_succ];omega
def xU (l:List AL) (e:AL):(Qj l e).length≤5:=by
 have j:=flat_length (f:=fun k=>((ofIds l e.bf).find? (Dt k)).toList) (n:=1) (fun k=>toList_le _) (keysOf e);have m:=VD e;unfold Qj;omega
def aGj {l:List AL} {ids:List Int} {x:AL} (h:x∈ofIds l ids):x∈l:=by
 obtain⟨i,_,h⟩:=SN.1 h;exact OC h
def aoA {l:List AL} {e x:AL} (h:x∈Qj l e):x∈l:=by
 obtain⟨k,_,h⟩:=RX.1 h;have :(ofIds l e.bf).find? (Dt k)=some x:=JU
 exact aGj (Qh this)
def IL (x:Ai):SH:=⟨x.Kind,x.Key⟩
def aOE (e:AL):sV e=some ((keysOf e).map IL):=by
 unfold sV;rw[af8];simp only[AQ];have m:=VD e;unfold ab7;rw[Gi (keysOf e) A8 (fun r x=>r++[IL x]) (fun i r=>r.length≤i) (fun r=>some r) (Dc _)]
 ·rw[foldl_append (fun x=>[IL x]),Hd];congr 1
  induction keysOf e with
  |nil=>rfl
  |cons x s j=>rw[Lj,j];rfl
 ·intro k r i h q;refine⟨aCX,?_⟩;unfold aLv;rw[Bl h,D5 FW];rfl
 intro k r _;unfold aLv;rw[D7]
def aeg (l:List AL) (p:AL→Bool):∀ids:List Int,(ofIds l ids).find? p=(ids.find? fun i=>match DT l i with |some x=>p x|none=>false).bind (DT l)
 | []=>rfl
 |i::ids=>by
  have j:=aeg l p ids;unfold ofIds at j ⊢;rw[Ny,Qz];cases m:DT l i with
  |none=>exact j
  |some x=>
   simp only;rw[Qz];cases p x with
   |true=>exact m.symm
   |false=>exact j
def aPC (l:List AL) (e:AL) (hl:l.length≤1000) (z:e.bf.length≤40):tY l e=some (Qj l e):=by
 unfold tY;rw[aOE];simp only[AQ];have I:=VD e;unfold acg;rw[Gi (a0:=[]) ((keysOf e).map IL) Xi (fun r k=>r++((ofIds l e.bf).find? fun x=>x.Kind==k.Zh&&decide (x.Key=k.Zi)).toList) (fun i r=>r.length≤i) (fun r=>some r) (Dc _)]
 ·congr 1;rw[foldl_append (fun k:SH=>((ofIds l e.bf).find? fun x=>x.Kind==k.Zh&&decide (x.Key=k.Zi)).toList),Hd,List.flatMap_map];rfl
 ·intro k r i h J;have L:=toList_le ((ofIds l e.bf).find? fun x=>x.Kind==((keysOf e).map IL)[i].Zh&&decide (x.Key=((keysOf e).map IL)[i].Zi));refine⟨JZ,?_⟩;have hi:i<5:=by rw[C9]at h;omega
  unfold aIA;rw[Bl h];generalize((keysOf e).map IL)[i]=K;unfold afA
  rw[aN3 e.bf (fuel_lt A8) (fun id=>match DT l id with |some x=>x.Kind==K.Zh&&decide (x.Key=K.Zi)|none=>false)
   (fun j=>nD k (i:Int) (r++(match e.bf[j]? with |some id=>(DT l id).toList|none=>[]))) (nD k (i:Int) r)]
  ·rw[aeg,Ih];by_cases m:e.bf.findIdx (fun id=>match DT l id with |some x=>x.Kind==K.Zh&&decide (x.Key=K.Zi)|none=>false)<e.bf.length
   ·rw[CJ m,Ce m];rfl
   rw[CU m,Gu A8];simp only[Option.bind_none,Option.toList_none,PG];rfl
  ·intro k2 j q;unfold aGq;rw[Bl q,L8 l _ A8,Ce q];simp only[AQ];cases u:DT l e.bf[j]with
   |none=>rw[QN u];rfl
   |some x=>
    rw[KT u];simp only[BA,Qo];unfold UU;rw[HY];rw[D5 FW];cases x.Kind==K.Zh<;>cases decide (x.Key=K.Zi)<;>rfl
  intro k2;unfold aGq;rw[D7]
 intro k r _;unfold aIA;rw[D7]
def acW (l:List AL) (e:AL) (hl:l.length≤1000) (he:e.bf.length≤40):yI l e=some (Qj l e):=by
 unfold yI;rw[aKn,aKE l _ hl A8];simp only[AQ];have hk:=VD e;have M:=Yu l e.bf;unfold aQs;rw[Gi (a0:=[]) (keysOf e) A8 (fun r k=>r++((ofIds l e.bf).find? (Dt k)).toList) (fun i r=>r.length≤i) (fun r=>some r) (Dc _)]
 ·rw[foldl_append (fun k:Ai=>((ofIds l e.bf).find? (Dt k)).toList),Hd];rfl
 ·intro k r i h hI;have U:=toList_le ((ofIds l e.bf).find? (Dt (keysOf e)[i]));refine⟨JZ,?_⟩;have hi:i<5:=A8
  unfold aFb;rw[dec_lt h];simp only[BA];generalize ofIds l e.bf=O at M U;unfold aai
  have u:∀m (a:List AL) (j:Int),0<m→kN (Px O (keysOf e) (i:Int) k) m a true j=k a (Ah ((i:Int)+1)):=by
   intro m a j L;obtain⟨m,rfl⟩:∃I,m=I+1:=⟨m-1,A8⟩
   show Px O (keysOf e) (i:Int) k (kN (Px O (keysOf e) (i:Int) k) m) a true j=_;unfold Px;cases decide (j<(O.length:Int))<;>rfl
  have key:∀n (j:Nat),j+n=O.length→∀m,n+1<m→kN (Px O (keysOf e) (i:Int) k) m r false (j:Int)=k (r++((O.drop j).find? (Dt (keysOf e)[i])).toList) (Ah ((i:Int)+1)):=by
   intro n
   induction n with
   |zero=>
    intro j Y m L;obtain⟨m,rfl⟩:∃I,m=I+1:=⟨m-1,A8⟩
    have :j=O.length:=A8
    subst this;show Px O (keysOf e) (i:Int) k (kN (Px O (keysOf e) (i:Int) k) m) r false _=_;unfold Px;rw[CZ,Na];simp
   |succ n Z=>
    intro j Y m L;obtain⟨m,rfl⟩:∃I,m=I+1:=⟨m-1,A8⟩
    have z:j<O.length:=A8
    have J:=Z (j+1) A8 m A8;show Px O (keysOf e) (i:Int) k (kN (Px O (keysOf e) (i:Int) k) m) r false _=_;have q:=u m;generalize kN (Px O (keysOf e) (i:Int) k) m=K at J q;unfold Px aMF aKO;rw[dec_lt z,Bf z,Bf h];simp only[BA,I4,AQ];rw[HY,wrap_succ j A8,Jp z,Qz,J];rw[D5 FW];simp only[AQ];rw[q _ _ A8];unfold Dt;cases O[j].Kind==(keysOf e)[i].Kind<;>cases decide (O[j].Key=(keysOf e)[i].Key)<;>rfl
  have :=key O.length 0 A8 Ag bg;exact this
 intro k r _;unfold aFb;rw[CZ];rfl
def VZ (c:ByteArray):Ba:=bif !(c.toList==BU.toList)then{ Uw with Users:=[⟨c,100⟩] }else Uw
def Qd (l:List AL):ByteArray:=match l.find? fun x=>x.Kind==1 with |some x=>x.aN|none=>BU
def EH (l:List AL):Ba:=match l.find? fun x=>x.Kind==3 with |some x=>x.Content.Levels|none=>VZ (Qd l)
def ahx (c:ByteArray):wP c=some (VZ c):=by
 unfold wP VZ Rch;cases c.toList==BU.toList<;>rfl
def ajp (c:ByteArray):aHs c=some (VZ c):=by
 unfold aHs VZ aME;cases c.toList==BU.toList<;>rfl
def afO (l:List AL) (k:Int) (hl:l.length≤1000):lV l k=some (if l.findIdx (fun e=>e.Kind==k)<l.length then((l.findIdx (fun e=>e.Kind==k):Nat):Int)else -1):=by
 unfold lV;rw[aEi l A8 (fun a0=>aEd a0 k) (fun e=>e.Kind==k) fun _=>rfl];rfl
def oU (l:List AL) (hl:l.length≤1000) (hs:D9 l):Vw l=some (EH l,Qd l):=by
 have m:∀c,eB l c=some (match l.find? fun x=>x.Kind==3 with |some x=>x.Content.Levels|none=>VZ c,c):=by
  intro c;unfold eB;rw[afO l 3 hl,Ih];simp only[AQ];by_cases h:l.findIdx (fun e=>e.Kind==3)<l.length
  ·rw[CJ h,show decide (((l.findIdx (fun e=>e.Kind==3):Nat):Int)≥0)=true by simp,Bf h,Ce h];simp only[BA,AQ];have q:=hs _ (E8 h);have u:=q.users;have z:=q.kinds;unfold wG aCd;rw[D5 SE,D5 SE];rfl
  rw[CU h,Gu A8,ahx];rfl
 unfold Vw;rw[afO l 1 hl];simp only[AQ];by_cases h:l.findIdx (fun e=>e.Kind==1)<l.length
 ·have j:Qd l=l[l.findIdx (fun e=>e.Kind==1)].aN:=by unfold Qd;rw[Ih,Ce h]
  rw[CJ h,show decide (((l.findIdx (fun e=>e.Kind==1):Nat):Int)≥0)=true by simp,Bf h];simp only[BA,AQ];rw[m,←j];rfl
 have j:Qd l=BU:=by unfold Qd;rw[Ih,Gu A8]
 rw[CU h];show eB l BU=_;rw[m,←j];rfl
def aIW (l:List AL) (hl:l.length≤1000):jG l=some (EH l,Qd l):=by
 have I:∀c,aEX l c 0 Jq=some (match l.find? fun x=>x.Kind==3 with |some x=>x.Content.Levels|none=>VZ c,c):=by
  intro c;unfold aEX
  have U:∀{R:Type} {body:(Int→Ba→Option R)→Int→Ba→Option R} (p:AL→Bool) (g:Nat→Option R) (rest:Option R) (a0:Ba)
   (Z:∀k (i:Nat) (h:i<l.length),body k (i:Int) a0=bif p l[i]then g i else k (Ah ((i:Int)+1)) a0) (he:∀k,body k (l.length:Int) a0=rest),
   aP body Ag 0 a0=if l.findIdx p<l.length then g (l.findIdx p)else rest:=by
   intro R body p g rest a0 Z he;have hf:Ag=9223372036854775808:=rfl
   have key:∀n (i:Nat),i+n=l.length→∀m,n<m→aP body m (i:Int) a0=if(l.drop i).findIdx p+i<l.length then g ((l.drop i).findIdx p+i)else rest:=by
    intro n
    induction n with
    |zero=>
     intro i hi m M;obtain⟨m,rfl⟩:∃z,m=z+1:=⟨m-1,A8⟩
     have :i=l.length:=A8
     subst this;show body (aP body m) _ _=_;rw[he,Na,CU Am]
    |succ n Y=>
     intro i hi m M;obtain⟨m,rfl⟩:∃z,m=z+1:=⟨m-1,A8⟩
     have q:i<l.length:=A8
     show body (aP body m) _ _=_;rw[Z _ i q,wrap_succ i A8,Y (i+1) A8 m A8,Jp q,SP];cases p l[i]with
     |true=>simp only[BA,Ic];rw[CJ q]
     |false=>
      simp only[Ar];rw[show(l.drop (i+1)).findIdx p+(i+1)=(l.drop (i+1)).findIdx p+1+i by omega]
   have :=key l.length 0 A8 Ag A8;simpa using this
  rw[U (fun x=>x.Kind==3) (fun i=>some ((match l[i]? with |some x=>x.Content.Levels|none=>Jq),c)) (some (VZ c,c))]
  ·rw[Ih];by_cases h:l.findIdx (fun e=>e.Kind==3)<l.length
   ·rw[CJ h,Ce h]
   rw[CU h,Gu A8]
  ·intro k i h;unfold aIU;rw[Bl h,Bf h,Ce h];rfl
  intro k;unfold aIU;rw[D7,ajp];rfl
 unfold jG aap;obtain⟨F,O⟩:∃F:ByteArray→Option (Ba×ByteArray),∀c,aEX l c 0 Jq=F c:=⟨_,fun _=>rfl⟩
 simp only[O]at I
 have J:∀m (c:ByteArray) (j:Int),0<m→kN (Pz l) m c true j=F c:=by
  intro m c j M;obtain⟨m,rfl⟩:∃z,m=z+1:=⟨m-1,A8⟩
  show Pz l (kN (Pz l) m) c true j=_;unfold Pz;simp only[O];cases decide (j<(l.length:Int))<;>rfl
 have key:∀n (j:Nat),j+n=l.length→∀m,n+1<m→kN (Pz l) m BU false (j:Int)=F (match(l.drop j).find? fun x=>x.Kind==1 with |some x=>x.aN|none=>BU):=by
  intro n
  induction n with
  |zero=>
   intro j hj m M;obtain⟨m,rfl⟩:∃z,m=z+1:=⟨m-1,A8⟩
   have :j=l.length:=A8
   subst this;show Pz l (kN (Pz l) m) BU false _=_;unfold Pz;simp only[O];rw[CZ,Na];rfl
  |succ n Y=>
   intro j hj m M;obtain⟨m,rfl⟩:∃z,m=z+1:=⟨m-1,A8⟩
   have q:j<l.length:=A8
   have L:=Y (j+1) A8 m A8;show Pz l (kN (Pz l) m) BU false _=_;have u:=J m;generalize kN (Pz l) m=K at L u;unfold Pz aGB;simp only[O];rw[dec_lt q,Bf q];simp only[BA,I4,AQ];rw[wrap_succ j A8,Jp q,Qz,L,u _ _ A8];cases l[j].Kind==1<;>rfl
 have :=key l.length 0 A8 Ag bg;rw[show((0:Nat):Int)=0 from rfl]at this;rw[this,I];rfl
def DY (v:Ba) (u:ByteArray):Int:=match v.Users.find? fun x=>decide (x.User=u)with |some x=>x.N|none=>v.User
def VP (v:Ba) (u:ByteArray) (h:v.Users.length≤1000):Nj v u=some (DY v u):=by
 unfold Nj ac0 DY;rw[Ie v.Users (fuel_lt A8) (fun x=>decide (x.User=u)) (fun i=>some (match v.Users[i]? with |some x=>x.N|none=>0)) (some v.User)]
 ·rw[Ih];by_cases h:v.Users.findIdx (fun x=>decide (x.User=u))<v.Users.length
  ·rw[CJ h,Ce h]
  rw[CU h,Gu A8]
 ·intro k i h;unfold aHA;rw[Bl h,HY,Ce h]
 intro k;unfold aHA;rw[D7]
def WV (v:Ba) (u:ByteArray) (h:v.Users.length≤1000):TM v u=some (DY v u):=by
 unfold TM ac7 DY;rw[Ie v.Users (fuel_lt A8) (fun x=>decide (x.User=u)) (fun i=>some (match v.Users[i]? with |some x=>x.N|none=>0)) (some v.User)]
 ·rw[Ih];by_cases h:v.Users.findIdx (fun x=>decide (x.User=u))<v.Users.length
  ·rw[CJ h,Ce h]
  rw[CU h,Gu A8]
 ·intro k i h;unfold aFo;rw[Bl h,HY,Ce h,Bf h];rfl
 intro k;unfold aFo;rw[D7]
def gy {l:List AL} (h:D9 l):(EH l).Users.length≤100∧(EH l).Kinds.length≤100:=by
 unfold EH;cases j:l.find? fun x=>x.Kind==3 with
 |some x=>
  have :=h x (Qh j);exact⟨this.users,this.kinds⟩
 |none=>
  simp only;unfold VZ;cases(Qd l).toList==BU.toList with
  |true=>
   show Uw.Users.length≤100∧Uw.Kinds.length≤100;exact⟨BK,BK⟩
  |false=>
   show 1≤100∧Uw.Kinds.length≤100;exact⟨BK,BK⟩
def Zp (l:List AL) (e:AL):Int:=DY (EH (Qj l e)) e.aN
def D9.from {l:List AL} (h:D9 l) (e:AL):D9 (Qj l e):=fun x j=>h x (aoA j)
def anp (l:List AL) (e:AL) (hl:l.length≤1000) (hs:D9 l) (j:e.bf.length≤40):vP l e=some (Zp l e):=by
 have m:=xU l e;have q:=(gy (hs.from e)).1;unfold vP;rw[aPC l e hl j];simp only[AQ];rw[oU _ A8 (hs.from e)];simp only[AQ];rw[VP _ _ A8];rfl
def adu (l:List AL) (e:AL) (hl:l.length≤1000) (hs:D9 l) (j:e.bf.length≤40):xg l e=some (Zp l e):=by
 have m:=xU l e;have q:=(gy (hs.from e)).1;unfold xg;rw[acW l e hl j];simp only[AQ];rw[aIW _ A8];simp only[AQ];rw[WV _ _ A8];rfl
def Nw (e:AL):Bool:=bif e.Kind==2 then(e.Content.N==0||e.Content.N==4)&& !(decide (e.Key=e.aN))else e.Kind==3||e.Kind==4
def arq (e:AL):Src e=some (Nw e):=by
 unfold Src zZ Nw;rw[HY];by_cases m:e.Kind=2
 ·simp[m];cases e.Content.N==0<;>cases e.Content.N==4<;>rfl
 have j:(e.Kind==2)=false:=Xp
 rw[j];cases e.Kind==3<;>cases e.Kind==4<;>rfl
def agc (e:AL):aLI e=some (Nw e):=by
 unfold aLI Nw;rw[HY];cases e.Kind==2<;>cases e.Content.N==0<;>cases e.Content.N==4<;>cases e.Kind==3<;>cases e.Kind==4<;>rfl
def aac (l:List Int) (x:Int) (h:l.length≤1099511627776):oQ l x=some (if l.findIdx (· ==x)<l.length then((l.findIdx (· ==x):Nat):Int)else -1):=by
 unfold oQ aQc;rw[Ie l (fuel_lt h) (· ==x) (fun i=>some (i:Int)) (some (-1))]
 ·split<;>rfl
 ·intro k i hi;unfold aKV;rw[Bl hi];have :(x==l[i])=(l[i]==x):=by rw[Q8];simp only[PZ];exact eq_comm
  rw[this]
 intro k;unfold aKV;rw[D7]
def ae6 (l:List Int) (x:Int):decide (l.findIdx (· ==x)<l.length)=CY l x:=by
 rw[Q8,Ii,Fb,lu];exact⟨fun⟨y,j,m⟩=>by rw[←(by simpa using m:y=x)];exact j,fun h=>⟨x,h,Am⟩⟩
def jA (l:List Int) (x:Int) (h:l.length≤1099511627776):dn l x=some (CY l x):=by
 unfold dn;rw[aac l x h,←ae6];by_cases hl:l.findIdx (· ==x)<l.length
 ·rw[CJ hl,Ht hl];simp
 rw[CU hl,Hr hl];rfl
def aeT (l:List Int) (x:Int) (h:l.length≤1099511627776):eK l x=some (CY l x):=by
 unfold eK;rw[jA l x h];rfl
def ev (l:List AL) (id:Int):AL:=(GH l id).1
def UK (l:List AL) (id:Int):Bool:=cZ l id&&Nw (ev l id)
def Bc (l:List AL) (full:List Int):List Int:=full.filter (UK l)
def Rl (l:List AL) (full:List Int):List Int:=EX (Bc l full++full.filter (CY (chainOf l (Bc l full))))
def xK {l:List AL} {full:List Int} {x:Int}:x∈Rl l full↔x∈full∧(UK l x=true∨JA l (Bc l full) x):=by
 unfold Rl;rw[Jh,Fz,ET,Ii,Ye];unfold Bc;rw[ET];exact⟨fun h=>h.elim (fun h=>⟨h.1,.inl h.2⟩) fun h=>⟨h.1,.inr h.2⟩,fun⟨h,k⟩=>k.elim (fun k=>.inl ⟨h,k⟩) fun k=>.inr ⟨h,k⟩⟩
def ac4 (l:List AL) (full:List Int):Inc (Rl l full):=LM _
def aIi (p:Int→Bool):∀(S r:List Int),S.foldl (fun r x=>bif p x then r++[x]else r) r=r++S.filter p
 | [],r=>Am
 |x::S,r=>by
  rw[El,aIi p S,QS];cases p x<;>simp
def aoZ (l:List AL) (full:List Int) (hl:l.length≤1000) (hs:D9 l) (z:full.length≤120000) (j:(Bc l full).length≤100000):xA l full=some (Rl l full):=by
 unfold xA aNu;rw[Gi (a0:=[]) full A8 (fun r x=>bif UK l x then r++[x]else r) (fun i r=>r.length≤i) (fun r=>(WQ l r).bind fun m=>aJa full m r 0) (Dc _)]
 ·have u:full.foldl (fun r x=>bif UK l x then r++[x]else r) []=Bc l full:=by rw[aIi];rfl
  have I:=ZY l (Bc l full);rw[u,aJs l _ hl hs.ahX j];simp only[AQ];unfold aJa;rw[Gi full A8 (fun r x=>bif CY (chainOf l (Bc l full)) x then r++[x]else r) (fun i r=>r.length≤(Bc l full).length+i) (fun r=>some (EX r)) (Dc _)]
  ·rw[aIi];rfl
  ·intro k r i h q;refine⟨?_,?_⟩
   ·cases CY (chainOf l (Bc l full)) full[i]with
    |false=>show r.length≤(Bc l full).length+(i+1);omega
    |true=>show(r++[full[i]]).length≤(Bc l full).length+(i+1);simp;omega
   unfold aJF aCi;rw[Bl h,aeT _ _ A8];simp only[AQ];rw[D5 FW];cases CY (chainOf l (Bc l full)) full[i]<;>rfl
  intro k r q;unfold aJF;rw[D7,aj _ A8];rfl
 ·intro k r i h q;refine⟨?_,?_⟩
  ·cases UK l full[i]with
   |false=>show r.length≤i+1;omega
   |true=>show(r++[full[i]]).length≤i+1;simp;omega
  unfold aFQ aCF;rw[Bl h,L8 l _ A8];simp only[AQ];rw[D5 FW];unfold UK cZ ev;rw[arq,Nq];cases(DT l full[i]).isSome<;>cases Nw (GH l full[i]).1<;>rfl
 intro k r _;unfold aFQ;rw[D7]
def JA.aBx {l:List AL} {ids:List Int} {i x:Int} (hi:i∈ids) (h:JA l [i] x):JA l ids x:=by
 induction h with
 |one h j m=>rw[GZ.1 h]at j;exact .one hi j m
 |more h j m q=>exact .more q j m
def JA.split {l:List AL} {ids:List Int} {x:Int}:JA l ids x↔∃i∈ids,JA l [i] x:=by
 constructor
 ·intro h
  induction h with
  |one h j m=>exact⟨_,h,.one (GZ.2 rfl) j m⟩
  |more h j m z=>obtain⟨i,q,u⟩:=z;exact⟨i,q,.more u j m⟩
 rintro⟨i,q,u⟩;exact .aBx q u
def JA.cZ {l:List AL} {ids:List Int} {x:Int} (h:JA l ids x):cZ l x=true:=by cases h<;>assumption
def ZX (h r:List Int) (y:Int):List Int:=bif CY h y then put r y else r
def zu (h:List Int):∀(c r:List Int),Inc r→Inc (c.foldl (ZX h) r)∧∀x,x∈c.foldl (ZX h) r↔x∈r∨x∈c∧x∈h
 | [],r,m=>⟨m,fun x=>Am⟩
 |y::c,r,m=>by
  rw[El];unfold ZX;cases I:CY h y with
  |true=>
   obtain⟨q,u⟩:=zu h c (put r y) (QV m);refine⟨q,fun x=>(u x).trans ?_⟩;rw[Uj,EO];constructor
   ·rintro((j|rfl)|j)
    ·exact .inl j
    ·exact .inr ⟨.inl rfl,Ii.1 I⟩
    exact .inr ⟨.inr j.1,j.2⟩
   rintro(j|⟨rfl|j,z⟩)
   ·exact .inl (.inl j)
   ·exact .inl (.inr rfl)
   exact .inr ⟨j,z⟩
  |false=>
   obtain⟨q,u⟩:=zu h c r m;refine⟨q,fun x=>(u x).trans ⟨fun j=>j.imp id fun j=>⟨Ez _ j.1,j.2⟩,fun j=>j.imp id fun j=>⟨?_,j.2⟩⟩⟩;rcases EO.1 j.1 with rfl|z
   ·exact absurd j.2 (NR.1 I)
   exact z
def YK (l:List AL) (h r:List Int) (x:Int):List Int:=bif Nw (ev l x)then(chainOf l [x]).foldl (ZX h) (put r x)else r
def aK7 (l:List AL) (h:List Int):∀(c r:List Int),Inc r→Inc (c.foldl (YK l h) r)∧∀x,x∈c.foldl (YK l h) r↔x∈r∨∃i∈c,Nw (ev l i)=true∧(x=i∨JA l [i] x∧x∈h)
 | [],r,u=>⟨u,fun x=>Am⟩
 |y::c,r,u=>by
  rw[El];unfold YK;cases z:Nw (ev l y)with
  |true=>
   obtain⟨L,M⟩:=zu h (chainOf l [y]) (put r y) (QV u);obtain⟨I,J⟩:=aK7 l h c _ L;refine⟨I,fun x=>(J x).trans ?_⟩;rw[M x,Uj,Ye];constructor
   ·rintro(((j|rfl)|j)|⟨i,j,q⟩)
    ·exact .inl j
    ·exact .inr ⟨x,Ec ..,z,.inl rfl⟩
    ·exact .inr ⟨y,Ec ..,z,.inr j⟩
    exact .inr ⟨i,Ez _ j,q⟩
   rintro(j|⟨i,j,q,m⟩)
   ·exact .inl (.inl (.inl j))
   rcases EO.1 j with rfl|j
   ·rcases m with rfl|m
    ·exact .inl (.inl (.inr rfl))
    exact .inl (.inr m)
   exact .inr ⟨i,j,q,m⟩
  |false=>
   obtain⟨I,J⟩:=aK7 l h c r u;refine⟨I,fun x=>(J x).trans ⟨fun j=>j.imp id fun⟨i,q,m⟩=>⟨i,Ez _ q,m⟩,fun j=>j.imp id fun⟨i,q,m,O⟩=>⟨i,?_,m,O⟩⟩⟩;rcases EO.1 q with rfl|q
   ·rw[z]at m;cases m
   exact q
def amg (l:List AL) (full:List Int):(fK l full).foldl (YK l (fK l full)) []=Rl l full:=by
 obtain⟨z,I⟩:=aK7 l (fK l full) (fK l full) [] .nil;refine Fp z (ac4 _ _) fun x=>(I x).trans ?_;rw[xK,KW,JA.split];unfold Bc UK;constructor
 ·rintro(u|⟨i,u,j,q⟩)
  ·exact absurd u Ef
  have m:=KW.1 u;rcases q with rfl|q
  ·exact⟨m.1,.inl (by rw[m.2,j];rfl)⟩
  exact⟨q.2.1,.inr ⟨i,ET.2 ⟨m.1,by rw[m.2,j];rfl⟩,q.1⟩⟩
 rintro⟨u,j|⟨i,j,q⟩⟩
 ·rw[CV]at j;exact .inr ⟨x,KW.2 ⟨u,j.1⟩,j.2,.inl rfl⟩
 rw[ET,CV]at j;exact .inr ⟨i,KW.2 ⟨j.1,j.2.1⟩,j.2.2,.inr ⟨q,u,q.cZ⟩⟩
def asU (l:List AL) (full:List Int) (hl:l.length≤1000) (hs:D9 l) (L:full.length≤100000):aFS l full=some (Rl l full):=by
 unfold aFS;rw[acf l full hl L];simp only[AQ];have M:(fK l full).length≤l.length:=kF (ZP l full) fun x m=>(KW.1 m).2;unfold ad9;rw[Gi (a0:=[]) (fK l full) A8 (YK l (fK l full)) (fun _ r=>Inc r∧∀x∈r,cZ l x=true) (fun r=>some r) ⟨.nil,fun x m=>absurd m Ef⟩]
 ·rw[amg]
 ·intro k r i h u;have z:cZ l (fK l full)[i]=true:=(KW.1 (E8 h)).2;have O:=kF u.1 u.2;have g:=zu (fK l full) (chainOf l [(fK l full)[i]]) (put r (fK l full)[i]) (QV u.1);refine⟨?_,?_⟩
  ·unfold YK;cases Nw (ev l (fK l full)[i])with
   |false=>exact u
   |true=>
    refine⟨g.1,fun x m=>?_⟩;rcases(g.2 x).1 m with q|q
    ·rcases Uj.1 q with q|rfl
     ·exact u.2 x q
     exact z
    exact(KW.1 q.2).2
  unfold aHf aCY;rw[Bl h,Le l _ A8];simp only[AQ];rw[agc,Bf h];simp only[AQ];rw[cV _ _ A8];simp only[AQ];rw[aML l _ hl hs.ahX Am];simp only[AQ];unfold YK;show(bif Nw (ev l (fK l full)[i])then _ else _)=_;cases Nw (ev l (fK l full)[i])with
  |false=>rfl
  |true=>
   simp only[BA];have hc:=ZY l [(fK l full)[i]];unfold aPl
   rw[Gi (chainOf l [(fK l full)[i]]) A8 (ZX (fK l full)) (fun _ r=>Inc r∧∀x∈r,cZ l x=true) (fun r=>k r (Ah ((i:Int)+1))) ⟨QV u.1,fun x m=>by
    rcases Uj.1 m with q|rfl
    ·exact u.2 x q
    exact z⟩]
   ·intro k2 U j J I;have Y:=kF I.1 I.2;refine⟨?_,?_⟩
    ·unfold ZX;cases Z:CY (fK l full) (chainOf l [(fK l full)[i]])[j]with
     |false=>exact I
     |true=>
      refine⟨QV I.1,fun x m=>?_⟩;rcases Uj.1 m with q|rfl
      ·exact I.2 x q
      exact(KW.1 (Ii.1 Z)).2
    unfold aKD aF9;rw[Bl J,XH _ _ A8,Bf J];simp only[AQ];rw[cV _ _ A8];unfold ZX;cases CY (fK l full) (chainOf l [(fK l full)[i]])[j]<;>rfl
   intro k2 U _;unfold aKD aCY;rw[D7]
 intro k r _;unfold aHf;rw[D7]
def aA2 (l:List AL) (full:List Int):(Rl l full).length≤l.length:=
 kF (ac4 l full) fun x j=>by
  rcases(xK.1 j).2 with h|h
  ·unfold UK at h;rw[CV]at h;exact h.1
  exact h.cZ
def Ed (l:List AL) (id:Int):P5:=⟨id,Zp l (ev l id),(ev l id).Time,chainOf l [id]⟩
def UH (l:List AL) (left:List Int) (x:Int):Bool:= !left.any fun y=>CY (chainOf l [x]) y
def WM (a b:P5):Bool:=bif a.GU != b.GU then decide (a.GU>b.GU)else decide (a.zy<b.zy)
def G8 (l:List AL) (left:List Int) (b:Option Int) (x:Int):Option Int:=bif UH l left x&&(match b with |none=>true|some y=>WM (Ed l x) (Ed l y))then some x else b
def Rq (l:List AL) (left:List Int):Option Int:=left.foldl (G8 l left) none
def qF (l:List AL):Nat→List Int→List Int
 |0,_=>[]
 |n+1,left=>match Rq l left with
  |none=>[]
  |some b=>b::qF l n (left.filter (· != b))
def adK (l:List AL):∀ids:List Int,ids.flatMap (fun id=>bif cZ l id then[Ed l id]else[])=(ids.filter (cZ l)).map (Ed l)
 | []=>rfl
 |i::ids=>by
  rw[Lj,adK l ids,QS];cases cZ l i<;>simp
def akW (l:List AL) (ids:List Int) (hl:l.length≤1000) (hs:D9 l) (hi:ids.length≤100000):aAl l ids=some ((fK l ids).map (Ed l)):=by
 unfold aAl;rw[aj ids A8];simp only[AQ];have q:=MF ids;unfold aaK;rw[Gi (a0:=[]) (EX ids) A8 (fun r id=>r++bif cZ l id then[Ed l id]else[]) (fun i r=>r.length≤i) (fun r=>some r) (Dc _)]
 ·rw[foldl_append (fun id=>bif cZ l id then[Ed l id]else[]),Hd,adK];rfl
 ·intro k r i h z;refine⟨?_,?_⟩
  ·cases cZ l (EX ids)[i]<;>simp <;>omega
  unfold aHc aB3;rw[Bl h,L8 l _ A8];simp only[AQ];unfold cZ;cases j:DT l (EX ids)[i]with
  |none=>rw[QN j];simp
  |some e=>
   have u:=hs e (OC j);have m:ev l (EX ids)[i]=e:=by unfold ev;rw[KT j]
   rw[KT j];simp only[BA,Option.isSome_some];rw[anp l e hl hs u.auth,aJs l _ hl hs.ahX Am];simp only[AQ];rw[D5 FW];unfold Ed;rw[m];rfl
 intro k r _;unfold aHc;rw[D7]
def aaB (l:List AL) (left:List Int):∀(c:List Int) (b:Option Int) {x:Int},c.foldl (G8 l left) b=some x→b=some x∨x∈c
 | [],b,x,h=>.inl h
 |y::c,b,x,h=>by
  rw[El]at h;rcases aaB l left c _ h with j|j
  ·have key:∀c:Bool,(bif c then some y else b)=some x→b=some x∨x=y:=fun c m=>by
    cases c with
    |true=>simp only[BA,KJ]at m;exact .inr m.symm
    |false=>exact .inl m
   rcases key _ j with q|q
   ·exact .inl q
   exact .inr (q▸Ec ..)
  exact .inr (Ez _ j)
def ahc {l:List AL} {left:List Int} {x:Int} (h:Rq l left=some x):x∈left:=by
 rcases aaB l left left none h with h|h
 ·cases h
 exact h
def aO8 {left:List Int} (z:left.Nodup) {j:Nat} (I:j<left.length):left.take j++left.drop (j+1)=left.filter (· != left[j]):=by
 have e:left=left.take j++left[j]::left.drop (j+1):=by rw[←Jp I,Z4]
 have m:(left.take j++left[j]::left.drop (j+1)).Nodup:=by rw[←e];exact z
 have u:=iC.1 m;have J:=JX.1 u.2.1
 have L:(left.take j).filter (· != left[j])=left.take j:=uf.2 fun x q=>by
  have :=u.2.2 x q left[j] (Ec ..);simpa using this
 have M:(left.drop (j+1)).filter (· != left[j])=left.drop (j+1):=uf.2 fun x q=>by
  have :x≠left[j]:=fun e=>J.1 (e▸q);simpa using this
 have :(left.take j++left[j]::left.drop (j+1)).filter (· != left[j])=left.take j++left.drop (j+1):=by
  rw[Ot,QS,L,M];simp
 rw[←e]at this;exact this.symm
def aO9 {left:List Int} (m:left.Nodup) {b:Int} (q:b∈left):(left.filter (· != b)).length+1=left.length:=by
 obtain⟨j,u,rfl⟩:=Hf q;rw[←aO8 m u,Dk,FI,KA];omega
def apE {left:List Int} (h:Inc left) (b:Int):NP left [b]=left.filter (· != b):=by
 unfold NP;rw[aov h];congr 1;funext x;by_cases e:x=b
 ·subst e;simp[CY]
 simp[CY,e]
def afd (l:List AL) (hl:l.length≤1000):∀(m:Nat) (left acc:List Int) (N:Nat),left.length=m→Inc left→(∀x∈left,cZ l x=true)→acc.length+left.length≤1000000→m<N→aP Vr N (left.map (Ed l)) acc=some (acc++qF l m left):=by
 intro m
 induction m with
 |zero=>
  intro left acc N hm hi hk hacc hN;obtain⟨N,rfl⟩:∃N',N=N'+1:=⟨N-1,A8⟩
  have :left=[]:=GN hm;subst this;show Vr _ _ _=_;unfold Vr qF;simp
 |succ m ih=>
  intro left acc N hm hi hk hacc hN;obtain⟨N,rfl⟩:∃N',N=N'+1:=⟨N-1,A8⟩
  have hll:=kF hi hk;refine dQ.eq ?_;show dQ (Vr (aP Vr N) _ _) _;have ih':=fun Z acc' h1 h2 h3 h4=>ih Z acc' N h1 h2 h3 h4 A8;generalize aP Vr N=K at ih';unfold Vr;rw[show decide (((left.map (Ed l)).length:Int)>0)=true by rw[C9];simp;omega];simp only[BA];unfold acy;refine UQ (body:=aFB (left.map (Ed l)) K) (fun m2 a b c=>∃i:Nat,b=i∧i+m2=left.length∧c=acc∧((a= -1∧(left.take i).foldl (G8 l left) none=none)∨∃(j:Nat) (z:j<left.length),a=(j:Int)∧(left.take i).foldl (G8 l left) none=some left[j])) ?_ Ag left.length (-1) 0 acc (fuel_lt A8) ⟨0,rfl,A8,rfl,.inl ⟨rfl,rfl⟩⟩;rintro m2 a b c k ⟨i,rfl,hm2,rfl,hI⟩ I;unfold aFB;by_cases J:i<left.length
  ·have O:i<(left.map (Ed l)).length:=by rw[C9];exact J
   rw[dec_lt O,Bf O,Po];simp only[BA,AQ]
   have hst:(left.take (i+1)).foldl (G8 l left) none=G8 l left ((left.take i).foldl (G8 l left) none) left[i]:=by
    rw[Oj J,Uy];rfl
   unfold aPN;have hc:=ZY l [left[i]]
   have hin:∀(k2:Int→Int→List Int→Option (List Int)),aP (XQ (left.map (Ed l)) (Ed l left[i]) k2 (i:Int) a) Ag 0 c=bif UH l left left[i]then(bif decide (a<0)then XD k2 (i:Int) a true c else(Af (left.map (Ed l)) a).bind fun x27=>(Y2 (Ed l left[i]) x27).bind fun x28=>XD k2 (i:Int) a x28 c)else ZN k2 (i:Int) a c:=by
    intro k2
    have key:∀n (j:Nat),j+n=left.length→∀m,n<m→aP (XQ (left.map (Ed l)) (Ed l left[i]) k2 (i:Int) a) m (j:Int) c=bif !(left.drop j).any (fun y=>CY (chainOf l [left[i]]) y)then(bif decide (a<0)then XD k2 (i:Int) a true c else(Af (left.map (Ed l)) a).bind fun x27=>(Y2 (Ed l left[i]) x27).bind fun x28=>XD k2 (i:Int) a x28 c)else ZN k2 (i:Int) a c:=by
     intro n
     induction n with
     |zero=>
      intro j z m hm;obtain⟨m,rfl⟩:∃m',m=m'+1:=⟨m-1,A8⟩
      have :j=left.length:=A8
      subst this;show XQ _ _ _ _ _ _ _ _=_;unfold XQ;rw[show decide ((left.length:Int)<((left.map (Ed l)).length:Int))=false by rw[C9];exact CZ _,Na];rfl
     |succ n ihn=>
      intro j z m hm;obtain⟨m,rfl⟩:∃m',m=m'+1:=⟨m-1,A8⟩
      have hjl:j<left.length:=A8
      have aDv:j<(left.map (Ed l)).length:=by rw[C9];exact hjl
      have U:=ihn (j+1) A8 m A8;show XQ _ _ _ _ _ (aP _ m) _ _=_;generalize aP (XQ (left.map (Ed l)) (Ed l left[i]) k2 (i:Int) a) m=L at U;unfold XQ;rw[Bl aDv,Po];show((eK (chainOf l [left[i]]) left[j]).bind _)=_;rw[aeT _ _ A8,wrap_succ j A8,Jp hjl,Y7];simp only[AQ];cases CY (chainOf l [left[i]]) left[j]with
      |true=>rfl
      |false=>
       simp only[Ar,Kv];exact U
    exact key left.length 0 A8 Ag (fuel_lt A8)
   rw[hin];have hw:=wrap_succ i A8;unfold XD ZN;rw[hw];cases M:UH l left left[i]with
   |false=>
    simp only[Ar];refine I (m2-1) _ _ _ A8 ⟨i+1,rfl,A8,rfl,?_⟩;have e:G8 l left ((left.take i).foldl (G8 l left) none) left[i]=(left.take i).foldl (G8 l left) none:=by unfold G8;rw[M];rfl
    rw[hst,e];exact hI
   |true=>
    simp only[BA];rcases hI with⟨rfl,Y⟩|⟨j,z,rfl,Y⟩
    ·rw[show decide ((-1:Int)<0)=true by decide];simp only[BA];refine I (m2-1) _ _ _ A8 ⟨i+1,rfl,A8,rfl,.inr ⟨i,J,rfl,?_⟩⟩;rw[hst,Y];unfold G8;rw[M];rfl
    have q:j<(left.map (Ed l)).length:=by rw[C9];exact z
    rw[show decide ((j:Int)<0)=false by simp,Bf q,Po];simp only[Ar,AQ]
    have e1:Y2 (Ed l left[i]) (Ed l left[j])=some (WM (Ed l left[i]) (Ed l left[j])):=by
     unfold Y2 WM;cases(Ed l left[i]).GU != (Ed l left[j]).GU<;>rfl
    rw[e1];simp only[AQ];cases ha:WM (Ed l left[i]) (Ed l left[j])with
    |true=>
     simp only[BA];refine I (m2-1) _ _ _ A8 ⟨i+1,rfl,A8,rfl,.inr ⟨i,J,rfl,?_⟩⟩;rw[hst,Y];unfold G8;rw[M];simp only[ha];rfl
    |false=>
     simp only[Ar];refine I (m2-1) _ _ _ A8 ⟨i+1,rfl,A8,rfl,.inr ⟨j,z,rfl,?_⟩⟩;rw[hst,Y];unfold G8;rw[M];simp only[ha];rfl
  have hie:i=left.length:=A8
  subst hie;rw[show decide ((left.length:Int)<((left.map (Ed l)).length:Int))=false by rw[C9];exact CZ _];simp only[Ar];rw[GY]at hI;have u:qF l (m+1) left=match Rq l left with |none=>[]|some b=>b::qF l m (left.filter (· != b)):=rfl
  rcases hI with⟨rfl,Y⟩|⟨j,z,rfl,Y⟩
  ·rw[show decide ((-1:Int)<0)=true by decide];refine .ret ?_;have h1:Rq l left=none:=Y;rw[u,h1];simp
  have q:j<(left.map (Ed l)).length:=by rw[C9];exact z
  rw[show decide ((j:Int)<0)=false by simp,Bf q,Po];simp only[Ar,AQ];have h1:Rq l left=some left[j]:=Y;rw[D5 FW];simp only[AQ];rw[rO (Nat.le_of_lt q),wrap_succ j A8,Ud q];simp only[AQ];rw[D5 (by rw[FI,KA,C9];omega)];simp only[AQ]
  have e2:(left.map (Ed l)).take j++(left.map (Ed l)).drop (j+1)=(left.filter (· != left[j])).map (Ed l):=by
   rw[←aO8 (UZ hi) z,Ip,XY,Yv]
  rw[e2];have hwl:=aO9 (UZ hi) (E8 z);rw[ih' (left.filter (· != left[j])) (c++[(Ed l left[j]).lU]) A8 (hi.sublist Qx) (fun x hx=>hk x ((ET.1 hx).1)) Sm];refine .ret ?_;rw[u,h1,Gq];rfl
def akI (l:List AL) (ids:List Int) (hl:l.length≤1000) (hs:D9 l) (hi:ids.length≤100000):aAc l ids=some (qF l (fK l ids).length (fK l ids)):=by
 have m:(fK l ids).length≤l.length:=kF (ZP l ids) fun x j=>(KW.1 j).2;unfold aAc;rw[akW l ids hl hs hi];simp only[AQ];unfold aaJ;rw[afd l hl _ (fK l ids) [] Ag rfl (ZP l ids) (fun x j=>(KW.1 j).2) SE (fuel_lt A8)];rfl
def amP (l:List AL) (left:List Int) (x:Int) (hl:l.length≤1000) (hs:D9 l) (j:left.length≤100000):aGv l left x=some (UH l left x):=by
 unfold aGv;rw[aML l _ hl hs.ahX Am];simp only[AQ];have m:=ZY l [x];unfold aQH;rw[GK (chainOf l [x]) (fuel_lt A8) (fun y=>CY left y) false (some true)]
 ·unfold UH
  have e:(chainOf l [x]).any (fun y=>CY left y)=left.any fun y=>CY (chainOf l [x]) y:=by
   rw[Q8,Gw,Gw];simp only[Ii];exact⟨fun⟨y,a,b⟩=>⟨y,b,a⟩,fun⟨y,a,b⟩=>⟨y,b,a⟩⟩
  rw[e];cases left.any fun y=>CY (chainOf l [x]) y<;>rfl
 ·intro k i h;unfold aIv;rw[Bl h,XH _ _ A8];simp only[AQ]
 intro k;unfold aIv;rw[D7]
def aHd {R A B C D:Type} {Q:R→Prop} {body:(A→B→C→D→Option R)→A→B→C→D→Option R} (I:Nat→A→B→C→D→Prop) (hs:∀m a b c d k,I m a b c d→(∀j a' q u z,j<m→I j a' q u z→dQ (k a' q u z) Q)→dQ (body k a b c d) Q):
 ∀n m a b c d,m<n→I m a b c d→dQ (VI body n a b c d) Q
 |0,m,_,_,_,_,h,_=>A8
 |n+1,m,a,b,c,d,h,hi=>hs m a b c d _ hi fun j a' q u z h' J=>aHd I hs n j a' q u z A8 J
def Jb {l:List AL} {x:Int} (h:cZ l x=true):DT l x=some (ev l x)∧(ev l x).Id=x:=by
 unfold cZ at h;obtain⟨e,j⟩:=RS.1 h;have :ev l x=e:=by unfold ev;rw[KT j]
 rw[this];exact⟨j,afC j⟩
def agZ (l:List AL) (x y:Int) (hl:l.length≤1000) (hs:D9 l) (m:cZ l x=true) (q:cZ l y=true) (u:y<x):aFx l (ev l x) (ev l y)=some (WM (Ed l x) (Ed l y)):=by
 obtain⟨z,I⟩:=Jb m;obtain⟨J,L⟩:=Jb q;unfold aFx;rw[adu l _ hl hs (hs _ (OC z)).auth,adu l _ hl hs (hs _ (OC J)).auth];simp only[AQ];unfold WM Ed;simp only;cases Zp l (ev l x) != Zp l (ev l y)with
 |true=>rfl
 |false=>
  simp only[Ar];rw[I,L];by_cases j:(ev l x).Time=(ev l y).Time
  ·rw[j];simp;omega
  have :((ev l x).Time != (ev l y).Time)=true:=MK
  rw[this];rfl
def agz (l:List AL) (hl:l.length≤1000) (hs:D9 l):∀(m:Nat) (left acc:List Int) (N:Nat),left.length=m→Inc left→(∀x∈left,cZ l x=true)→acc.length+left.length≤1000000→m<N→aP (Vt l) N left acc=some (acc++qF l m left):=by
 intro m
 induction m with
 |zero=>
  intro left acc N hm hi U Z hN;obtain⟨N,rfl⟩:∃N',N=N'+1:=⟨N-1,A8⟩
  have :left=[]:=GN hm;subst this;show Vt _ _ _ _=_;unfold Vt qF;simp
 |succ m ih=>
  intro left acc N hm hi U Z hN;obtain⟨N,rfl⟩:∃N',N=N'+1:=⟨N-1,A8⟩
  have hll:=kF hi U;refine dQ.eq ?_;show dQ (Vt l (aP (Vt l) N) _ _) _;have ih':=fun M acc' h1 h2 h3 h4=>ih M acc' N h1 h2 h3 h4 A8;generalize aP (Vt l) N=K at ih';unfold Vt;rw[show decide ((left.length:Int)>0)=true by simp;omega];simp only[BA];unfold aeZ;refine aHd (body:=aJ0 left l K) (fun Y a b c d=>∃i:Nat,b=i∧i+Y=left.length∧c=acc∧((a=false∧(left.take i).foldl (G8 l left) none=none)∨∃(j:Nat) (I:j<left.length),j<i∧a=true∧d=ev l left[j]∧(left.take i).foldl (G8 l left) none=some left[j])) ?_ Ag left.length false 0 acc Ej (fuel_lt A8) ⟨0,rfl,A8,rfl,.inl ⟨rfl,rfl⟩⟩;rintro Y a b c d k ⟨i,rfl,hm2,rfl,hI⟩ J;unfold aJ0;by_cases q:i<left.length
  ·rw[dec_lt q,Bf q];simp only[BA,AQ];rw[Le l _ A8];simp only[AQ];rw[amP l left _ hl hs A8];simp only[AQ]
   have hst:(left.take (i+1)).foldl (G8 l left) none=G8 l left ((left.take i).foldl (G8 l left) none) left[i]:=by
    rw[Oj q,Uy];rfl
   unfold aM0;rw[wrap_succ i A8];cases L:UH l left left[i]with
   |false=>
    simp only[Ar,AQ];refine J (Y-1) _ _ _ _ A8 ⟨i+1,rfl,A8,rfl,?_⟩;have e:G8 l left ((left.take i).foldl (G8 l left) none) left[i]=(left.take i).foldl (G8 l left) none:=by unfold G8;rw[L];rfl
    rw[hst,e];rcases hI with u|⟨j,I,O,u⟩
    ·exact .inl u
    exact .inr ⟨j,I,A8,u⟩
   |true=>
    simp only[BA];rcases hI with⟨rfl,u⟩|⟨j,I,O,rfl,rfl,u⟩
    ·simp only[I4,BA,AQ];refine J (Y-1) _ _ _ _ A8 ⟨i+1,rfl,A8,rfl,.inr ⟨i,q,A8,rfl,rfl,?_⟩⟩;rw[hst,u];unfold G8;rw[L];rfl
    simp only[Dv,Ar];have hlt2:left[j]<left[i]:=KH.1 hi j i I q O;have e1:=agZ l left[i] left[j] hl hs (U _ (E8 q)) (U _ (E8 I)) hlt2;rw[show(GH l left[i]).1=ev l left[i]from rfl,e1];simp only[AQ];cases ha:WM (Ed l left[i]) (Ed l left[j])with
    |true=>
     simp only[BA];refine J (Y-1) _ _ _ _ A8 ⟨i+1,rfl,A8,rfl,.inr ⟨i,q,A8,rfl,rfl,?_⟩⟩;rw[hst,u];unfold G8;rw[L];simp only[ha];rfl
    |false=>
     simp only[Ar];refine J (Y-1) _ _ _ _ A8 ⟨i+1,rfl,A8,rfl,.inr ⟨j,I,A8,rfl,rfl,?_⟩⟩;rw[hst,u];unfold G8;rw[L];simp only[ha];rfl
  have hie:i=left.length:=A8
  subst hie;rw[CZ];simp only[Ar];rw[GY]at hI;have z:qF l (m+1) left=match Rq l left with |none=>[]|some b=>b::qF l m (left.filter (· != b)):=rfl
  rcases hI with⟨rfl,u⟩|⟨j,I,O,rfl,rfl,u⟩
  ·refine .ret ?_;have h1:Rq l left=none:=u;rw[z,h1];simp
  simp only[Dv,Ar];have h1:Rq l left=some left[j]:=u;have hid:=(Jb (U _ (E8 I))).2;rw[hid,D5 FW];simp only[AQ];rw[aBI _ _ A8 Am,apE hi];simp only[AQ];have hwl:=aO9 (UZ hi) (E8 I);rw[ih' (left.filter (· != left[j])) (c++[left[j]]) A8 (hi.sublist Qx) (fun x hx=>U x ((ET.1 hx).1)) Sm];refine .ret ?_;rw[z,h1,Gq];rfl
def amQ (l:List AL) (ids:List Int) (hl:l.length≤1000) (hs:D9 l) (hi:ids.length≤100000):aHt l ids=some (qF l (fK l ids).length (fK l ids)):=by
 have m:(fK l ids).length≤l.length:=kF (ZP l ids) fun x j=>(KW.1 j).2;unfold aHt;rw[acf l ids hl hi];simp only[AQ];unfold aNy;rw[agz l hl hs _ (fK l ids) [] Ag rfl (ZP l ids) (fun x j=>(KW.1 j).2) SE (fuel_lt A8)];rfl
def aHV (l:List AL):∀(n:Nat) (left:List Int) {x:Int},x∈qF l n left→x∈left
 |0,_,_,h=>absurd h Ef
 |n+1,left,x,h=>by
  unfold qF at h;cases j:Rq l left with
  |none=>rw[j]at h;exact absurd h Ef
  |some b=>
   rw[j]at h;rcases EO.1 h with rfl|h
   ·exact ahc j
   exact(ET.1 (aHV l n _ h)).1
def aeP (l:List AL):∀(n:Nat) (left:List Int),(qF l n left).length≤n
 |0,_=>Dc _
 |n+1,left=>by
  unfold qF;cases Rq l left with
  |none=>exact EK _
  |some b=>have :=aeP l n (left.filter (· != b));simp only[FC];omega
def MW (l:List AL) (e:AL):Option Int:=e.bf.find? fun id=>cZ l id&&(ev l id).Kind==3
def Zf (l:List AL) (e:AL):Int×Bool:=match MW l e with |some x=>(x,true)|none=>(0,false)
def acH (l:List AL) (e:AL) (hl:l.length≤1000) (j:e.bf.length≤40):qZ l e=some (Zf l e):=by
 unfold qZ abf;rw[Ie e.bf (fuel_lt A8) (fun id=>cZ l id&&(ev l id).Kind==3) (fun i=>some (match e.bf[i]? with |some x=>(x,true)|none=>(0,false))) (some (0,false))]
 ·unfold Zf MW;rw[Ih];by_cases h:e.bf.findIdx (fun id=>cZ l id&&(ev l id).Kind==3)<e.bf.length
  ·rw[CJ h]
  rw[CU h,Gu A8]
 ·intro k i h;unfold aLQ;rw[Bl h,L8 l _ A8,Ce h];simp only[AQ];unfold cZ ev;rw[Nq];cases(DT l e.bf[i]).isSome<;>rfl
 intro k;unfold aLQ;rw[D7]
def alU (l:List AL) (e:AL) (hl:l.length≤1000) (j:e.bf.length≤40):aLL l e=some (Zf l e):=by
 unfold aLL aa9;rw[Ie e.bf (fuel_lt A8) (fun id=>cZ l id&&(ev l id).Kind==3) (fun i=>some (match e.bf[i]? with |some x=>(x,true)|none=>(0,false))) (some (0,false))]
 ·unfold Zf MW;rw[Ih];by_cases h:e.bf.findIdx (fun id=>cZ l id&&(ev l id).Kind==3)<e.bf.length
  ·rw[CJ h]
  rw[CU h,Gu A8]
 ·intro k i h;unfold aFf;rw[Bl h,Le l _ A8,Ce h,Bf h];simp only[AQ];unfold cZ ev;rw[Nq];cases(DT l e.bf[i]).isSome<;>rfl
 intro k;unfold aFf;rw[D7]
def zo (l:List AL):Nat→List Int→Int→List Int
 |0,seen,_=>seen
 |n+1,seen,id=>bif CY seen id|| !cZ l id then seen else match MW l (ev l id)with
  |none=>seen++[id]
  |some x=>zo l n (seen++[id]) x
def Wy (l:List AL) (id:Int):List Int:=zo l l.length [] id
structure U1 (l:List AL) (seen:List Int):Prop where
 nodup:seen.Nodup
 known:∀x∈seen,cZ l x=true
def U1.length {l:List AL} {seen:List Int} (h:U1 l seen):seen.length≤l.length:=by
 rw[←(UE seen).length_eq,acp h.nodup];exact kF (LM _) fun x j=>h.known x (Jh.1 j)
def U1.snoc {l:List AL} {seen:List Int} (h:U1 l seen) {id:Int} (m:id∉seen) (q:cZ l id=true):U1 l (seen++[id]):=by
 refine⟨iC.2 ⟨h.nodup,Am,fun a ha b u=>?_⟩,fun x j=>?_⟩
 ·rw[GZ.1 u];exact fun e=>m (e▸ha)
 rcases Fz.1 j with j|j
 ·exact h.known x j
 rw[GZ.1 j];exact q
def ad7 (l:List AL):∀(n:Nat) (seen:List Int) (id:Int),U1 l seen→U1 l (zo l n seen id)
 |0,_,_,h=>h
 |n+1,seen,id,h=>by
  unfold zo;cases j:CY seen id|| !cZ l id with
  |true=>exact h
  |false=>
   rw[aI,NR]at j;have m:=h.snoc j.1 (by simpa using j.2);simp only[Ar];cases MW l (ev l id)with
   |none=>exact m
   |some x=>exact ad7 l n _ x m
def aQr (l:List AL):∀(n:Nat) (seen:List Int) (id:Int),∃t,zo l n seen id=seen++t
 |0,seen,_=>⟨[],by simp[zo]⟩
 |n+1,seen,id=>by
  unfold zo;cases CY seen id|| !cZ l id with
  |true=>exact⟨[],Am⟩
  |false=>
   simp only[Ar];cases MW l (ev l id)with
   |none=>exact⟨[id],rfl⟩
   |some x=>
    obtain⟨t,j⟩:=aQr l n (seen++[id]) x;exact⟨id::t,by simp only[j,Gq];rfl⟩
def abl (l:List AL) (id:Int):(Wy l id).length≤l.length:=(ad7 l _ [] id ⟨Vx,fun x j=>absurd j Ef⟩).length
def afj (l:List AL) (hl:l.length≤1000) (hs:D9 l) (Z v9:List Int):∀(m:Nat) (seen:List Int) (id:Int) (N:Nat),seen.length+m=l.length→U1 l seen→m<N→DR WE N seen seen Z v9 id l=some (zo l m seen id):=by
 intro m
 induction m with
 |zero=>
  intro seen id N hm u hN;obtain⟨N,rfl⟩:∃N',N=N'+1:=⟨N-1,A8⟩
  have I:=u.length;show WE _ _ _ _ _ _ _=_;unfold WE;rw[jA _ _ A8,L8 l _ A8];simp only[AQ];rw[Nq];cases J:CY seen id with
  |true=>rfl
  |false=>
   cases q:(DT l id).isSome with
   |false=>rfl
   |true=>
    have L:=(u.snoc (NR.1 J) q).length;simp only[Dk,MS]at L;omega
 |succ m ih=>
  intro seen id N hm u hN;obtain⟨N,rfl⟩:∃N',N=N'+1:=⟨N-1,A8⟩
  have I:=u.length;show WE (DR WE N) _ _ _ _ _ _=_;have z:=fun j M h1 L=>ih j M N h1 L A8;generalize DR WE N=K at z;unfold WE zo;rw[jA _ _ A8,L8 l _ A8];simp only[AQ];rw[Nq];cases J:CY seen id with
  |true=>rfl
  |false=>
   cases q:(DT l id).isSome with
   |false=>rw[show cZ l id=false from q];rfl
   |true=>
    obtain⟨e,Y⟩:=RS.1 q;rw[show cZ l id=true from q];simp only[I4,Dv,KR,BA,Ar];rw[D5 FW];simp only[AQ];unfold aE9;simp only[Ar];rw[D5 FW];simp only[AQ];have O:(GH l id).1=ev l id:=rfl
    have U:(ev l id).bf.length≤40:=by
     have :ev l id=e:=by unfold ev;rw[KT Y]
     rw[this];exact(hs e (OC Y)).auth
    rw[O,acH l _ hl U];simp only[AQ];unfold Zf;cases MW l (ev l id)with
    |none=>rfl
    |some x=>exact z (seen++[id]) x Sm (u.snoc (NR.1 J) q)
def alb (l:List AL) (id:Int) (hl:l.length≤1000) (hs:D9 l):aCy l id=some (Wy l id):=by
 unfold aCy oJ abR;exact afj l hl hs [] [] l.length [] id Ag Am ⟨Vx,fun x j=>absurd j Ef⟩ (fuel_lt A8)
def akY (l:List AL) (hl:l.length≤1000) (hs:D9 l):∀(m:Nat) (seen:List Int) (id:Int) (i N:Nat),i+m=l.length→seen.length≤i→m<N→kN (WJ l) N seen id (i:Int)=some (zo l m seen id):=by
 intro m
 induction m with
 |zero=>
  intro seen id i N M O U;obtain⟨N,rfl⟩:∃N',N=N'+1:=⟨N-1,A8⟩
  have :i=l.length:=A8
  subst this;show WJ _ _ _ _ _=_;unfold WJ;rw[CZ];rfl
 |succ m Y=>
  intro seen id i N M O U;obtain⟨N,rfl⟩:∃N',N=N'+1:=⟨N-1,A8⟩
  show WJ _ (kN (WJ l) N) _ _ _=_;have q:=fun j u Z h1 h2=>Y j u Z N h1 h2 A8;generalize kN (WJ l) N=K at q;unfold WJ zo;rw[dec_lt A8,Le l _ A8,XH _ _ A8];simp only[BA,AQ];rw[Nq];cases z:(DT l id).isSome with
  |false=>rw[show cZ l id=false from z];cases CY seen id<;>rfl
  |true=>
   rw[show cZ l id=true from z];cases hh:CY seen id with
   |true=>rfl
   |false=>
    obtain⟨e,L⟩:=RS.1 z;simp only[Dv,KR,Ar,AQ];rw[D5 FW];simp only[AQ];have I:(GH l id).1=ev l id:=rfl
    have J:(ev l id).bf.length≤40:=by
     have :ev l id=e:=by unfold ev;rw[KT L]
     rw[this];exact(hs e (OC L)).auth
    rw[I,alU l _ hl J,wrap_succ i A8];simp only[AQ];unfold Zf;cases MW l (ev l id)with
    |none=>rfl
    |some x=>exact q (seen++[id]) x (i+1) A8 Sm
def aQe (l:List AL) (id:Int) (hl:l.length≤1000) (hs:D9 l):wY l id=some (Wy l id):=by
 unfold wY aQd;exact akY l hl hs l.length [] id 0 Ag Am (Dc _) (fuel_lt A8)
def Yw (j way:List Int):Int:=match way.find? (CY j)with |some x=>((j.findIdx (· ==x):Nat):Int)|none=>(j.length:Int)
def KQ (l:List AL) (j:List Int) (id:Int):Int:=Yw j (Wy l id)
def asY (l:List AL) (j:List Int) (hl:l.length≤1000) (hs:D9 l) (hm:j.length≤100000):∀(m:Nat) (seen:List Int) (z id:Int) (N:Nat),seen.length+m=l.length→U1 l seen→seen.find? (CY j)=none→m<N→DN Vp N seen j z id l=some (Yw j (zo l m seen id)):=by
 have q:∀seen:List Int,seen.find? (CY j)=none→Yw j seen=(j.length:Int):=fun seen h=>by unfold Yw;rw[h]
 intro m
 induction m with
 |zero=>
  intro seen z id N hm Y M hN;obtain⟨N,rfl⟩:∃N',N=N'+1:=⟨N-1,A8⟩
  have hwl:=Y.length;show Vp _ _ _ _ _ _=_;unfold Vp;rw[jA _ _ A8,L8 l _ A8];simp only[AQ];rw[Nq];have he:Yw j (zo l 0 seen id)=(j.length:Int):=q seen M;rw[he];cases O:CY seen id with
  |true=>rfl
  |false=>
   cases U:(DT l id).isSome with
   |false=>rfl
   |true=>
    have h2:=(Y.snoc (NR.1 O) U).length;simp only[Dk,MS]at h2;omega
 |succ m ih=>
  intro seen z id N hm Y M hN;obtain⟨N,rfl⟩:∃N',N=N'+1:=⟨N-1,A8⟩
  have hwl:=Y.length;show Vp (DN Vp N) _ _ _ _ _=_;have Z:=fun J z' id' h1 h2 h3=>ih J z' id' N h1 h2 h3 A8;generalize DN Vp N=K at Z;unfold Vp qh;rw[jA _ _ A8,L8 l _ A8,aac _ _ A8];simp only[AQ];rw[Nq];have L:zo l (m+1) seen id=bif CY seen id|| !cZ l id then seen else match MW l (ev l id)with |none=>seen++[id]|some x=>zo l m (seen++[id]) x:=rfl
  cases O:CY seen id with
  |true=>rw[L,O];simp only[Bool.true_or,BA,Dv,Ar];rw[q seen M]
  |false=>
   cases U:(DT l id).isSome with
   |false=>rw[L,O,show cZ l id=false from U];simp only[Kv,I4,BA];rw[q seen M]
   |true=>
    obtain⟨e,he⟩:=RS.1 U;rw[L,O,show cZ l id=true from U];simp only[I4,Dv,KR,BA,Ar];have u:=ae6 j id;by_cases I:j.findIdx (· ==id)<j.length
    ·rw[CJ I,show decide (((j.findIdx (· ==id):Nat):Int)≥0)=true by simp];simp only[BA];rw[Ht I]at u
     have hex:∃t,(match MW l (ev l id)with |none=>seen++[id]|some x=>zo l m (seen++[id]) x)=seen++[id]++t:=by
      cases MW l (ev l id)with
      |none=>exact⟨[],Am⟩
      |some x=>exact aQr l m (seen++[id]) x
     obtain⟨t,ht⟩:=hex;rw[ht];unfold Yw;rw[lS,lS,M];simp[←u]
    rw[CU I,show decide ((-1:Int)≥0)=false by decide];simp only[Ar];rw[Hr I]at u;rw[D5 FW];simp only[AQ];have hev:(GH l id).1=ev l id:=rfl
    have hea:(ev l id).bf.length≤40:=by
     have :ev l id=e:=by unfold ev;rw[KT he]
     rw[this];exact(hs e (OC he)).auth
    have hf2:(seen++[id]).find? (CY j)=none:=by rw[lS,M];simp[←u]
    rw[hev,acH l _ hl hea];simp only[AQ];unfold Zf;cases MW l (ev l id)with
    |none=>simp only[I4,BA];rw[q _ hf2]
    |some x=>exact Z (seen++[id]) z x Sm (Y.snoc (NR.1 O) U) hf2
def ajE (l:List AL) (j:List Int) (id:Int) (hl:l.length≤1000) (hs:D9 l) (m:j.length≤100000):aCE l j id=some (KQ l j id):=by
 unfold aCE oJ aQg;exact asY l j hl hs m l.length [] 0 id Ag Am ⟨Vx,fun x q=>absurd q Ef⟩ rfl (fuel_lt A8)
def aie (l:List Int) (x:Int) (h:l.length≤100000):aGL l x=some ((l.findIdx (· ==x):Nat):Int):=by
 unfold aGL adv;rw[Ie l (fuel_lt A8) (· ==x) (fun i=>some (i:Int)) (some (l.length:Int))]
 ·split
  ·rfl
  rename_i h;have :l.findIdx (· ==x)≤l.length:=aBf;congr 2;omega
 ·intro k i hi;unfold aFZ;rw[Bl hi]
 intro k;unfold aFZ;rw[D7]
def aPk (l:List AL) (j:List Int) (id:Int) (hl:l.length≤1000) (hs:D9 l) (m:j.length≤100000):aBo l j id=some (KQ l j id):=by
 unfold aBo;rw[aQe l id hl hs];simp only[AQ];have q:=abl l id;unfold aRl KQ Yw;generalize Wy l id=W at q;rw[Ie W (fuel_lt A8) (CY j) (fun i=>some (match W[i]? with |some x=>((j.findIdx (· ==x):Nat):Int)|none=>0)) (some (j.length:Int))]
 ·rw[Ih];by_cases h:W.findIdx (CY j)<W.length
  ·rw[CJ h,Ce h]
  rw[CU h,Gu A8]
 ·intro k i h;unfold aJU;rw[Bl h,XH _ _ A8,Bf h,Ce h];simp only[AQ];rw[aie _ _ m];rfl
 intro k;unfold aJU;rw[D7]
def EF (l:List AL) (j:List Int) (id:Int):JJ:=⟨id,KQ l j id,(ev l id).Time⟩
def uG (x:JJ):Int×Int×Int:=(x.lU,x.xQ,x.zy)
def GR (x y:JJ):Bool:=JO (uG x) (uG y)
def yu (l:List AL) (j ids:List Int):List Int:=(P7 GR ((ids.filter (cZ l)).map (EF l j))).map (·.lU)
def adw (l:List AL) (j:List Int):∀ids:List Int,ids.flatMap (fun id=>bif cZ l id then[EF l j id]else[])=(ids.filter (cZ l)).map (EF l j)
 | []=>rfl
 |i::ids=>by
  rw[Lj,adw l j ids,QS];cases cZ l i<;>simp
def alA (s:List JJ) (hs:s.length≤1000000) (z:(s.map (·.lU)).Nodup):dP s=some s:=by
 unfold dP;by_cases L:s.length<2
 ·rw[show decide ((s.length:Int)<2)=true by simp;omega];rfl
 rw[show decide ((s.length:Int)<2)=false by simp;omega];simp only[Ar];unfold aeM;refine dQ.eq ?_;refine Xh (body:=aCb) (fun m a b=>∃i:Nat,a=i∧i+m=s.length∧0<i∧b=s) ?_ Ag (s.length-1) 1 s (fuel_lt A8) ⟨1,rfl,A8,A8,rfl⟩;rintro m a b k ⟨i,rfl,M,hi,rfl⟩ I;unfold aCb;by_cases j:i<b.length
 ·rw[dec_lt j,Bf j];simp only[BA,AQ];have w:Ah ((i:Int)-1)=((i-1:Nat):Int):=PI
  have q:i-1<b.length:=A8
  rw[w,Bf q];simp only[AQ]
  have u:b[i].lU≠b[i-1].lU:=by
   have :=KH.1 z (i-1) i Xi Xi A8;simp only[Po]at this;exact fun e=>this e.symm
  have J:oK b[i] b[i-1]=false:=by
   unfold oK;rw[show(b[i].lU==b[i-1].lU)=false by simpa using u];rfl
  rw[J,wrap_succ i A8];exact I (m-1) _ _ A8 ⟨i+1,rfl,A8,A8,rfl⟩
 have :i=b.length:=A8
 subst this;rw[CZ];exact .ret rfl
def aL3 (l:List AL) (j:List Int) (ids:List Int):(ids.map (EF l j)).map (·.lU)=ids:=by
 rw[qg];exact List.map_id' ids
def ahY (l:List AL) (j ids:List Int) (hl:l.length≤1000) (hs:D9 l) (L:j.length≤100000) (hi:ids.length≤100000) (M:ids.Nodup):aBy l j ids=some (yu l j ids):=by
 unfold aBy adL;rw[Gi (a0:=[]) ids A8 (fun r id=>r++bif cZ l id then[EF l j id]else[]) (fun i r=>r.length≤i) (fun O=>(aBS O).bind fun u=>(dP u).bind fun z=>aK4 z [] 0) (Dc _)]
 ·rw[foldl_append (fun id=>bif cZ l id then[EF l j id]else[]),Hd,adw];have U:=JD (cZ l) ids;have I:((ids.filter (cZ l)).map (EF l j)).length≤100000:=Xi
  unfold aBS aBE;rw[CJ A8];simp only[AQ];have e:(P7 (fun x y:JJ=>JO (x.lU,x.xQ,x.zy) (y.lU,y.xQ,y.zy)) ((ids.filter (cZ l)).map (EF l j)))=P7 GR ((ids.filter (cZ l)).map (EF l j)):=rfl;rw[e];unfold yu;have J:=YF GR ((ids.filter (cZ l)).map (EF l j))
  have m:((P7 GR ((ids.filter (cZ l)).map (EF l j))).map (·.lU)).Nodup:=by
   rw[(J.map (·.lU)).nodup_iff,aL3];exact M.sublist Qx
  have q:(P7 GR ((ids.filter (cZ l)).map (EF l j))).length≤100000:=by rw[J.length_eq];exact I
  generalize P7 GR ((ids.filter (cZ l)).map (EF l j))=S at m q;rw[alA S A8 m];simp only[AQ];unfold aK4;rw[Gi (a0:=[]) S A8 (fun r x=>r++[x.lU]) (fun i r=>r.length≤i) (fun r=>some r) (Dc _)]
  ·rw[foldl_append (fun x:JJ=>[x.lU]),Hd];congr 1;clear m q
   induction S with
   |nil=>rfl
   |cons x S Y=>rw[Lj,Y];rfl
  ·intro k r i h Z;refine⟨aCX,?_⟩;unfold aGw;rw[Bl h,D5 FW];rfl
  intro k r _;unfold aGw;rw[D7]
 ·intro k r i h Z;refine⟨?_,?_⟩
  ·cases cZ l ids[i]<;>simp <;>omega
  unfold aMs aCI;rw[Bl h,L8 l _ A8];simp only[AQ];rw[Nq,ajE l j _ hl hs L];simp only[AQ];rw[D5 FW];unfold cZ;cases(DT l ids[i]).isSome with
  |true=>rfl
  |false=>simp
 intro k r _;unfold aMs;rw[D7]
def ajm (l:List AL) (j:List Int) (a b:Int) (hl:l.length≤1000) (hs:D9 l) (z:j.length≤100000):aFa l j a b=some (!GR (EF l j b) (EF l j a)):=by
 unfold aFa;rw[aPk l j a hl hs z,aPk l j b hl hs z,Le l a A8,Le l b A8];simp only[AQ]
 have m:(!GR (EF l j b) (EF l j a))=decide (KQ l j b<KQ l j a∨KQ l j a=KQ l j b∧((ev l a).Time<(ev l b).Time∨(ev l a).Time=(ev l b).Time∧a<b)):=by
  rw[Q8,Qq,Fb];exact aQD (uG (EF l j b)) (uG (EF l j a))
 rw[m];show(bif KQ l j a != KQ l j b then some (decide (KQ l j a>KQ l j b))else bif (ev l a).Time != (ev l b).Time then some (decide ((ev l a).Time<(ev l b).Time))else some (decide (a<b)))=_;by_cases q:KQ l j a=KQ l j b
 ·rw[show(KQ l j a != KQ l j b)=false by simp[q]];simp only[Ar];by_cases u:(ev l a).Time=(ev l b).Time
  ·rw[show((ev l a).Time != (ev l b).Time)=false by simp[u]];simp only[Ar];congr 1;rw[rH];constructor
   ·intro h;exact .inr ⟨q,.inr ⟨u,h⟩⟩
   rintro(h|⟨_,h|⟨_,h⟩⟩)
   ·omega
   ·omega
   exact h
  rw[show((ev l a).Time != (ev l b).Time)=true by simp[u]];simp only[BA];congr 1;rw[rH];constructor
  ·intro h;exact .inr ⟨q,.inl h⟩
  rintro(h|⟨_,h|⟨h,_⟩⟩)
  ·omega
  ·exact h
  exact absurd h u
 rw[show(KQ l j a != KQ l j b)=true by simp[q]];simp only[BA];congr 1;rw[rH];constructor
 ·intro h;exact .inl h
 rintro(h|⟨h,_⟩)
 ·exact h
 exact absurd h q
def aG2 (x y z:JJ) (h:GR x y=true) (k:GR y z=true):GR x z=true:=aEj _ _ _ h k
def aPe (x y:JJ) (h:GR x y=false):GR y x=true:=aO1 _ _ h
def ao6 (x y:JJ) (h:GR x y=true) (k:GR y x=true):x=y:=by
 have :=af6 _ _ h k;unfold uG at this;cases x;cases y;simp only[RF]at this;obtain⟨a,b,c⟩:=this;subst a b c;rfl
def Vq (l:List AL) (j:List Int) (m:List Int) (x:Int):List Int:=m.take (m.findIdx fun a=>GR (EF l j x) (EF l j a))++x::m.drop (m.findIdx fun a=>GR (EF l j x) (EF l j a))
def ab5 (l:List AL) (j m:List Int) (x:Int):(Vq l j m x).Perm (x::m):=by
 unfold Vq;refine aAN.trans ?_;rw[Z4]
def arw (l:List AL) (j m:List Int) (x:Int) (h:m.Pairwise fun a b=>GR (EF l j a) (EF l j b)=true):(Vq l j m x).Pairwise fun a b=>GR (EF l j a) (EF l j b)=true:=by
 unfold Vq
 have I:∀a∈m.take (m.findIdx fun a=>GR (EF l j x) (EF l j a)),GR (EF l j a) (EF l j x)=true:=by
  intro a ha;obtain⟨i,hi,rfl⟩:=Hf ha;have u:i<m.findIdx fun a=>GR (EF l j x) (EF l j a):=by simp at hi;omega
  have :=List.not_of_lt_findIdx u;rw[aDb];exact aPe _ _ aJw
 have ha:∀d∈m.drop (m.findIdx fun a=>GR (EF l j x) (EF l j a)),GR (EF l j x) (EF l j d)=true:=by
  intro d hd;obtain⟨i,hi,rfl⟩:=Hf hd;rw[KA]at hi;have q:(m.findIdx fun a=>GR (EF l j x) (EF l j a))<m.length:=A8
  have J:=aLO (w:=q);rw[List.getElem_drop];rcases Xv i with rfl|M
  ·simpa using J
  exact aG2 _ _ _ J (KH.1 h _ _ q A8 A8)
 refine Z7.2 ⟨h.sublist (List.take_sublist _ _),O7.2 ⟨ha,h.sublist (List.drop_sublist _ _)⟩,fun a L b z=>?_⟩;rcases EO.1 z with rfl|z
 ·exact I a L
 exact aG2 _ _ _ (I a L) (ha b z)
def WX (l:List AL) (j:List Int) (m:List Int) (x:Int):List Int:=bif cZ l x then Vq l j m x else m
def apt (l:List AL) (j ids:List Int):ids.foldl (WX l j) []=yu l j ids:=by
 have key:∀(ids m:List Int),m.Pairwise (fun a b=>GR (EF l j a) (EF l j b)=true)→(ids.foldl (WX l j) m).Pairwise (fun a b=>GR (EF l j a) (EF l j b)=true)∧(ids.foldl (WX l j) m).Perm (ids.filter (cZ l)++m):=by
  intro ids
  induction ids with
  |nil=>intro m h;exact⟨h,.refl _⟩
  |cons x ids z=>
   intro m h;rw[El,QS];unfold WX;cases cZ l x with
   |false=>exact z m h
   |true=>
    obtain⟨u,q⟩:=z (Vq l j m x) (arw l j m x h);refine⟨u,q.trans ?_⟩;simp only[J5,V7];exact((ab5 l j m x).append_left _).trans aAN
 obtain⟨u,q⟩:=key ids [] .nil;rw[PG]at q;unfold yu
 have I:(ids.foldl (WX l j) []).map (EF l j)=P7 GR ((ids.filter (cZ l)).map (EF l j)):=
  aRa aG2 aPe ao6 (q.map _) (aLm.2 u)
 rw[←I,aL3]
def anD (l:List AL) (m ids:List Int) (hl:l.length≤1000) (hs:D9 l) (L:m.length≤100000) (hi:ids.length≤100000) (U:ids.Nodup):aJD l m ids=some (yu l m ids):=by
 unfold aJD aP4;rw[Gi (a0:=[]) ids A8 (WX l m) (fun i r=>r.length≤i∧∀x∈r,x∈ids.take i) (fun r=>some r) ⟨Dc _,fun x I=>absurd I Ef⟩]
 ·rw[apt]
 ·intro k r i h ⟨Y,J⟩;have q:ids.take (i+1)=ids.take i++[ids[i]]:=Oj h
  have M:CY r ids[i]=false:=NR.2 fun L=>by
   obtain⟨j,u,e⟩:=Hf (J _ L);rw[aDb]at e;rw[FI]at u;exact KH.1 U j i A8 h A8 e
  refine⟨?_,?_⟩
  ·unfold WX;cases cZ l ids[i]with
   |false=>exact⟨by show r.length≤i+1;omega,fun x I=>by rw[q];exact Zv _ (J x I)⟩
   |true=>
    have O:=ab5 l m r ids[i];refine⟨?_,fun x I=>?_⟩
    ·show(Vq l m r ids[i]).length≤i+1;rw[O.length_eq,FC];omega
    rw[q];rcases EO.1 (O.mem_iff.1 I)with rfl|I
    ·exact aBz _ (GZ.2 rfl)
    exact Zv _ (J x I)
  unfold aK6 aDe;rw[Bl h,Le l _ A8,Bf h];simp only[AQ];rw[XH _ _ A8,M,Nq];unfold WX cZ;cases(DT l ids[i]).isSome with
  |false=>rfl
  |true=>
   simp only[Dv,Ar,AQ,BA];unfold af5
   have z:∀(k2:Int→Option (List Int)) (j:Nat),j≤r.length→vK k2 (j:Int) r ids (i:Int) k false=k (r.take j++ids[i]::r.drop j) (Ah ((i:Int)+1)):=by
    intro k2 j u;unfold vK aDe;simp only[Ar];rw[Ud u];simp only[AQ];rw[D5 DK];simp only[AQ,Hd];rw[rO u,Bf h];simp only[AQ];rw[D5 DK];simp only[AQ];rw[D5 DK];simp
   rw[Ie r (fuel_lt A8) (fun a=>GR (EF l m ids[i]) (EF l m a)) (fun j=>k (r.take j++ids[i]::r.drop j) (Ah ((i:Int)+1))) (k (r.take r.length++ids[i]::r.drop r.length) (Ah ((i:Int)+1)))]
   ·unfold Vq;split
    ·rfl
    rename_i Z
    have :(r.findIdx fun a=>GR (EF l m ids[i]) (EF l m a))=r.length:=by
     have :=aBf (p:=fun a=>GR (EF l m ids[i]) (EF l m a)) (xs:=r);omega
    rw[this]
   ·intro k2 j u;unfold aFV;rw[dec_lt u,Bf u,Bf h];simp only[BA,AQ];rw[ajm l m _ _ hl hs L];simp only[AQ];cases GR (EF l m ids[i]) (EF l m r[j])with
    |true=>simp only[Dv,BA];rw[z k2 j (Nat.le_of_lt u)]
    |false=>rfl
   intro k2;unfold aFV;rw[CZ];simp only[Ar];rw[z k2 r.length (Dc _)]
 intro k r _;unfold aK6;rw[D7]
def ahE {l:List AL} {j ids:List Int} {x:Int}:x∈yu l j ids↔x∈ids∧cZ l x=true:=by
 unfold yu;rw[((YF GR ((ids.filter (cZ l)).map (EF l j))).map (·.lU)).mem_iff,aL3,ET]
def amb (l:List AL) (j ids:List Int):(yu l j ids).length≤ids.length:=by
 unfold yu;rw[C9,(YF _ _).length_eq,C9];exact JD _ _
def JQ (c:Int):Bool:=(decide (c≥97)&&decide (c≤122))||(decide (c≥48)&&decide (c≤57))
def aah (c:Int):aS c=some (JQ c):=by
 unfold aS JQ;cases decide (c≥97)<;>cases decide (c≤122)<;>cases decide (c≥48)<;>cases decide (c≤57)<;>rfl
def aEv (c:Int):Zq c=some (JQ c):=by
 unfold Zq JQ;cases decide (c≥97)<;>cases decide (c≤122)<;>cases decide (c≥48)<;>cases decide (c≤57)<;>rfl
def Q7 (l:List Int) (p:Int→Bool):Bool:=decide ((l.length:Int)≥1)&&decide ((l.length:Int)≤32)&&l.all fun c=>JQ c||p c
def isLocal (c:Int):Bool:=c==95||c==46||c==45||c==61
def TL (c:Int):Bool:=c==46||c==45
def VU (l:List Int):Bool:=Q7 l isLocal
def XB (l:List Int):Bool:=Q7 l TL&&JQ (l.getD 0 0)&&JQ (l.getD (l.length-1) 0)
def aI5 {n:Nat} (h:n≤9223372036854775807):n<Ag:=bg
def aar {s:ByteArray} (hs:s.size≤9223372036854775807) (f:Int→Option Bool) (p:Int→Bool) (j:∀c,f c=some (p c)):Ze s f=some (Q7 (BO s) p):=by
 have hl:aHT s f 0=some ((BO s).all fun c=>JQ c||p c):=by
  unfold aHT;rw[GK (BO s) Xt (fun c=> !(JQ c||p c)) false (some true) ?_ ?_,Iq,qm]
  ·intro k i h;have h':i<s.size:=VL
   simp only[aN4,dec_lt h',BA,TV h,aah,j,AQ];cases JQ (BO s)[i]<;>cases p (BO s)[i]<;>rfl
  intro k;simp only[aN4,H8,CZ,Ar]
 unfold Ze Q7;rw[hl,H8];have m:decide ((s.size:Int)≥1)= !decide ((s.size:Int)<1):=aJh
 have q:decide ((s.size:Int)≤32)= !decide ((s.size:Int)>32):=aFt
 rw[m,q];cases decide ((s.size:Int)<1)<;>cases decide ((s.size:Int)>32)<;>rfl
def ahK {s:ByteArray} (hs:s.size≤9223372036854775807):Ze s (fun a0=>kH a0)=some (Q7 (BO s) isLocal):=aar hs _ isLocal (fun c=>by unfold kH isLocal;cases c==95<;>cases c==46<;>cases c==45<;>cases c==61<;>rfl)
def aro {s:ByteArray} (hs:s.size≤9223372036854775807):Ze s (fun a0=>kP a0)=some (Q7 (BO s) TL):=aar hs _ TL (fun c=>by unfold kP TL;cases c==46<;>cases c==45<;>rfl)
def asy {s:ByteArray} (hs:s.size≤9223372036854775807):aCH s=some (VU (BO s)):=by
 unfold aCH VU;rw[ahK hs];rfl
def aEa {s:ByteArray} (h:0<s.size):GL s 0=some ((BO s).getD 0 0):=by
 have h':0<(BO s).length:=aBp
 rw[anL h'];simp[List.getD,h']
def aer {s:ByteArray} (h:0<s.size) (hs:s.size≤9223372036854775807):GL s (Ah ((s.size:Int)-1))=some ((BO s).getD ((BO s).length-1) 0):=by
 have h':s.size-1<(BO s).length:=by rw[H8];omega
 rw[Ob A8 A8,show(s.size:Int)-1=((s.size-1:Nat):Int) by omega,TV h'];have j:(BO s).length-1=s.size-1:=by rw[H8]
 rw[j];simp[List.getD,h']
def aeF {l:List Int} {p:Int→Bool} (h:Q7 l p=true):0<l.length∧l.length≤32:=by
 unfold Q7 at h;simp only[CV,Fb]at h;omega
def amT {s:ByteArray} (hs:s.size≤9223372036854775807):aEK s=some (XB (BO s)):=by
 unfold aEK XB;rw[aro hs];simp only[AQ];cases m:Q7 (BO s) TL with
 |false=>rfl
 |true=>
  have j:0<s.size:=by have :=(aeF m).1;rwa [H8]at this
  simp only[BA,aEa j,aer j hs,aah,AQ];cases JQ ((BO s).getD 0 0)<;>simp
def aqJ {s:ByteArray} (hs:s.size≤9223372036854775807):aND s=some (bif XB (BO s)then 0 else 3):=by
 have hl:aFU s 0=some (bif (BO s).all fun c=>JQ c||TL c then 0 else 3):=by
  unfold aFU;rw[GK (BO s) Xt (fun c=> !(JQ c||TL c)) 3 (some 0) ?_ ?_,Iq,←qm]
  ·cases((BO s).any fun c=> !(JQ c||TL c))<;>rfl
  ·intro k i h;have h':i<s.size:=VL
   simp only[aMw,dec_lt h',BA,TV h,aEv,AQ,TL,bne];cases JQ (BO s)[i]<;>cases(BO s)[i]==46<;>cases(BO s)[i]==45<;>rfl
  intro k;simp only[aMw,H8,CZ,Ar]
 have m:decide ((s.size:Int)≥1)= !decide ((s.size:Int)<1):=aJh
 have q:decide ((s.size:Int)≤32)= !decide ((s.size:Int)>32):=aFt
 unfold aND XB Q7;rw[hl];rw[show((BO s).length:Int)=(s.size:Int) by rw[H8],m,q];by_cases u:(s.size:Int)<1
 ·simp[u]
 have j:0<s.size:=A8
 simp only[aEa j,aer j hs,aEv,AQ];cases decide ((s.size:Int)<1)<;>cases decide ((s.size:Int)>32)<;>cases JQ ((BO s).getD 0 0)<;>cases JQ ((BO s).getD ((BO s).length-1) 0)<;>cases((BO s).all fun c=>JQ c||TL c)<;>rfl
def alK {s:ByteArray} (hs:s.size≤9223372036854775807):aMC s=some (VU (BO s)):=by
 unfold aMC afE;rw[GK (BO s) Xt (fun c=> !(JQ c||isLocal c)) false (some (decide ((s.size:Int)≥1)&&decide ((s.size:Int)≤32))) ?_ ?_]
 ·unfold VU Q7;rw[←qm,H8];cases((BO s).any fun c=> !(JQ c||isLocal c))<;>cases decide ((s.size:Int)≥1)<;>cases decide ((s.size:Int)≤32)<;>rfl
 ·intro k i h;have h':i<s.size:=VL
  simp only[aKL,dec_lt h',BA,TV h,aEv,AQ,isLocal,bne];cases JQ (BO s)[i]<;>cases(BO s)[i]==95<;>cases(BO s)[i]==46<;>cases(BO s)[i]==45<;>cases(BO s)[i]==61<;>rfl
 intro k;simp only[aKL,H8,CZ,Ar];cases decide ((s.size:Int)≥1)<;>cases decide ((s.size:Int)≤32)<;>rfl
def aaO (s:ByteArray):(BO s).length=s.data.toList.length:=by simp[BO]
def Ey (s:ByteArray):Nat:=(BO s).findIdx (· ==58)
def aI9 (s:ByteArray):Ey s≤s.size:=by unfold Ey;rw[←H8];exact aBf
def acR {s:ByteArray} (hs:s.size≤9223372036854775807):aEF s=some (Ey s:Int):=by
 unfold aEF afK;rw[Ie (BO s) Xt (· ==58) (fun i=>some (i:Int)) (some (s.size:Int)) ?_ ?_]
 ·have :=aI9 s;by_cases h:(BO s).findIdx (· ==58)<(BO s).length
  ·rw[CJ h];rfl
  rw[CU h];congr 2;unfold Ey at this ⊢;rw[H8]at h;omega
 ·intro k i h;have h':i<s.size:=VL
  simp only[aJS,dec_lt h',BA,TV h,AQ,bne];cases(BO s)[i]==58<;>rfl
 intro k;simp only[aJS,H8,CZ,Ar,AQ]
def U2 (s:ByteArray):ByteArray:=s.extract 1 (Ey s)
def Qa (s:ByteArray):ByteArray:=s.extract (Ey s+1) s.size
def RY (s:ByteArray):Bool:=decide (Ey s<s.size)&&VU (BO (U2 s))&&XB (BO (Qa s))
def G5 (s:ByteArray) (m:Int):Bool:=decide (0<s.size)&&(BO s).getD 0 0==m&&RY s
def extract_size (s:ByteArray) (a b:Nat):(s.extract a b).size≤s.size:=by rw[aGb];omega
def acG {s:ByteArray} (h:0<s.size) (j:(BO s).getD 0 0≠58):1≤Ey s:=by
 unfold Ey;have hl:0<(BO s).length:=aBp
 match m:BO s with
 | []=>rw[m]at hl;simp at hl
 |c::l=>
  rw[m]at j;simp only[List.getD_cons_zero]at j;rw[SP,show(c==58)=false from by simpa using j];simp
def aB7 {s:ByteArray} (hs:s.size≤9223372036854775807) {m:Int} (z:m≠58):dV s m=some (G5 s m):=by
 unfold dV G5;by_cases j:0<s.size
 ·rw[show decide ((s.size:Int)<1)=false from by simp;omega,show decide (0<s.size)=true by simpa using j];simp only[Ar,aEa j,AQ,bne];cases I:(BO s).getD 0 0==m with
  |false=>rfl
  |true=>
   have u:(BO s).getD 0 0=m:=PK
   have J:=acG j (by rw[u];exact z);have L:=aI9 s;simp only[Dv,Ar,acR hs,AQ,FT];unfold RY;by_cases q:Ey s<s.size
   ·have M:MI s 1 (Ey s:Int)=some (U2 s):=iY (lo:=1) J L
    have O:MI s (Ah ((Ey s:Int)+1)) (s.size:Int)=some (Qa s):=by
     rw[Ob A8 A8,show(Ey s:Int)+1=((Ey s+1:Nat):Int) by omega];exact iY A8 (Dc _)
    rw[show decide ((Ey s:Int)<(s.size:Int))=true from by simpa using q,show decide (Ey s<s.size)=true by simpa using q];have U:(U2 s).size≤9223372036854775807:=EZ (extract_size _ _ _) hs;have Y:(Qa s).size≤9223372036854775807:=EZ (extract_size _ _ _) hs;simp only[BA,M,O,alK U,aqJ Y,AQ];cases VU (BO (U2 s))<;>cases XB (BO (Qa s))<;>rfl
   rw[show decide ((Ey s:Int)<(s.size:Int))=false from by simpa using q,show decide (Ey s<s.size)=false by simpa using q];rfl
 rw[show decide ((s.size:Int)<1)=true from by simp;omega,show decide (0<s.size)=false by simpa using j];rfl
def splitB (s:ByteArray) (b:Bool):ByteArray×ByteArray×Bool:=bif b then(U2 s,Qa s,true)else(BU,BU,false)
def asJ (b c:UInt8):(b==c)=(((b.toNat:Nat):Int)==((c.toNat:Nat):Int)):=by
 by_cases h:b=c
 ·subst h;simp
 have :¬b.toNat=c.toNat:=fun e=>h (UInt8.toNat_inj.1 e);have j:(b==c)=false:=JU
 rw[j];symm;simp;omega
def aNv (s:ByteArray) (c:UInt8):s.data.toList.findIdx (· ==c)=(BO s).findIdx (· ==((c.toNat:Nat):Int)):=by
 unfold BO;rw[List.findIdx_map];congr 1;funext b;exact asJ b c
def ak9 (s:ByteArray):∀x∈BO s,0≤x∧x<256:=by
 intro x j;unfold BO at j;rw[FH]at j;obtain⟨c,_,rfl⟩:=j;have :=c.toNat_lt;omega
def getD_mem {s:ByteArray} (h:0<s.size):(BO s).getD 0 0∈BO s:=by
 have hl:0<(BO s).length:=aBp
 have e:(BO s).getD 0 0=(BO s)[0]:=by simp[List.getD,hl]
 rw[e];exact E8 hl
def agu (marks:ByteArray) {c:Int} (u:0≤c) (z:c<256):decide (Lib.indexByte marks.data.toList c.toNat.toUInt8<0)= !(BO marks).contains c:=by
 have e:(((c.toNat.toUInt8).toNat:Nat):Int)=c:=by
  rw[Nat.toUInt8,UInt8.toNat_ofNat'];omega
 rw[aNH,aNv,e,←aaO marks];by_cases j:c∈BO marks
 ·have m:(BO marks).findIdx (· ==c)<(BO marks).length:=List.findIdx_lt_length_of_exists ⟨c,j,Am⟩;rw[CJ m,show(BO marks).contains c=true by simpa using j];simp
 have q:¬(BO marks).findIdx (· ==c)<(BO marks).length:=fun h=>by
  have :=aLO (w:=h);simp only[PZ]at this;exact j (this▸E8 h)
 rw[CU q,show(BO marks).contains c=false by simpa using j];rfl
def ad4 (s:ByteArray) (a b:Nat):(s.extract 1 s.size).extract a b=s.extract (1+a) (min (1+b) s.size):=by
 refine bytes_inj ?_;simp only[aOS];have :(BO s).take s.size=BO s:=PE (by rw[H8];omega);rw[this,List.take_drop,aHS];congr 1;have :min (1+b) s.size=min (1+b) (BO s).length:=by rw[H8]
 rw[this,List.take_eq_take_min]
def al2 {s:ByteArray} (h:0<s.size) (j:(BO s).getD 0 0≠58):(BO (s.extract 1 s.size)).findIdx (· ==58)+1=Ey s:=by
 unfold Ey;rw[aOS];have :(BO s).take s.size=BO s:=PE (by rw[H8];omega);rw[this];have hl:0<(BO s).length:=aBp
 match m:BO s with
 | []=>rw[m]at hl;simp at hl
 |c::l=>
  rw[m]at j;simp only[List.getD_cons_zero]at j;rw[SP,show(c==58)=false from by simpa using j];rfl
def arM {s:ByteArray} (hs:s.size≤9223372036854775807) (h:0<s.size) (q:(BO s).getD 0 0≠58):∃a b,strings_Cut (s.extract 1 s.size) dG=some (a,b,decide (Ey s<s.size))∧(Ey s<s.size→a=U2 s∧b=Qa s):=by
 have J:=acG h q;have L:=aI9 s;have M:=al2 h q;have m:(s.extract 1 s.size).size=s.size-1:=by rw[aGb];omega
 have u:aAJ (s.extract 1 s.size) dG=some (if Ey s<s.size then((Ey s-1:Nat):Int)else -1):=by
  show some (Lib.indexByte (s.extract 1 s.size).data.toList 58)=_;rw[aNH,aNv,←aaO (s.extract 1 s.size)];show some (if(BO (s.extract 1 s.size)).findIdx (· ==58)<_ then(((BO (s.extract 1 s.size)).findIdx (· ==58):Nat):Int)else -1)=_;rw[H8,m];have e:(BO (s.extract 1 s.size)).findIdx (· ==58)=Ey s-1:=A8
  rw[e];congr 1;by_cases j:Ey s<s.size
  ·rw[CJ j,CJ A8]
  rw[CU j,CU A8]
 unfold strings_Cut aHh;rw[u,AQ];by_cases j:Ey s<s.size
 ·rw[CJ j,show decide (((Ey s-1:Nat):Int)≥0)=true from by simp,show decide (Ey s<s.size)=true by simpa using j];have z:MI (s.extract 1 s.size) 0 ((Ey s-1:Nat):Int)=some ((s.extract 1 s.size).extract 0 (Ey s-1)):=iY (lo:=0) A8 A8
  have I:MI (s.extract 1 s.size) (Ah (((Ey s-1:Nat):Int)+(dG.size:Int))) ((s.extract 1 s.size).size:Int)=some ((s.extract 1 s.size).extract (Ey s) (s.size-1)):=by
   rw[show(dG.size:Int)=1 from rfl,Ob A8 A8,show((Ey s-1:Nat):Int)+1=((Ey s:Nat):Int) by omega,m];exact iY A8 A8
  simp only[BA,z,I,AQ];refine⟨_,_,rfl,fun _=>⟨?_,?_⟩⟩
  ·rw[ad4];unfold U2;congr 1;omega
  rw[ad4];unfold Qa;rw[QA 1 (Ey s)];congr 1;omega
 rw[CU j,show decide ((-1:Int)≥0)=false from rfl,show decide (Ey s<s.size)=false by simpa using j];exact⟨_,_,rfl,fun h=>absurd h j⟩
def aGc {s:ByteArray} (hs:s.size≤9223372036854775807) {marks:ByteArray} (u:∀m∈BO marks,m≠58):fF s marks=some (splitB s ((BO marks).any fun m=>G5 s m)):=by
 unfold fF;by_cases q:0<s.size
 ·have z:(s.toList==BU.toList)=false:=by
   rw[HY];simp only[XW];intro e;rw[e]at q;exact absurd q BK
  have I:=ak9 s _ (getD_mem q)
  have j:((BO marks).any fun m=>G5 s m)=((BO marks).contains ((BO s).getD 0 0)&&RY s):=by
   unfold G5;rw[show decide (0<s.size)=true by simpa using q]
   induction BO marks with
   |nil=>rfl
   |cons m l J=>rw[Y7,J,List.contains_cons];cases(BO s).getD 0 0==m<;>cases RY s<;>simp
  rw[z,j];simp only[Ar,aEa q,AQ,strings_IndexByte,agu marks I.1 I.2];cases L:(BO marks).contains ((BO s).getD 0 0)with
  |false=>rfl
  |true=>
   have M:(BO s).getD 0 0≠58:=u _ sI;obtain⟨a,b,O,U⟩:=arM hs q M;have Y:MI s 1 (s.size:Int)=some (s.extract 1 s.size):=iY (lo:=1) A8 (Dc _);simp only[Dv,Ar,Y,O,AQ,FT];unfold RY;cases Z:decide (Ey s<s.size)with
   |false=>rfl
   |true=>
    obtain⟨rfl,rfl⟩:=U (iI Z);have g1:(U2 s).size≤9223372036854775807:=EZ (extract_size _ _ _) hs;have g2:(Qa s).size≤9223372036854775807:=EZ (extract_size _ _ _) hs;simp only[Dv,Ar,asy g1,amT g2,AQ];cases VU (BO (U2 s))<;>cases XB (BO (Qa s))<;>rfl
 have hz:s.size=0:=A8
 have he:s=BU:=bytes_inj (by
  have h1:BO s=[]:=GN (by rw[H8];exact hz)
  rw[h1];rfl)
 have j:((BO marks).any fun m=>G5 s m)=false:=by
  rw[List.any_eq_false];intro m _;unfold G5;rw[show decide (0<s.size)=false by simpa using q];simp
 rw[j,he,show(BU.toList==BU.toList)=true from by simp];rfl
def Iu (s:ByteArray):Bool:=G5 s 64||(G5 s 33||false)
def ahr {s:ByteArray} (hs:s.size≤9223372036854775807):fF s qc=some (splitB s (Iu s)):=
 aGc hs (marks:=qc) (by rw[show BO qc=[64,33]from rfl];intro m j;simp only[EO,Ef,iM]at j;omega)
def aON {s:ByteArray} (h:RY s=true):Ey s<s.size:=by unfold RY at h;simp only[CV,Fb]at h;exact h.1.1
def iJ {s:ByteArray} (hs:s.size≤9223372036854775807):iF s=some (splitB s (Iu s)).2.1∧ni s=some (splitB s (Iu s)).2.1:=by
 have u:Ey s<s.size→MI s (Ah ((Ey s:Int)+1)) (s.size:Int)=some (Qa s):=fun z=>by
  rw[Ob A8 A8,show(Ey s:Int)+1=((Ey s+1:Nat):Int) by omega];exact iY A8 (Dc _)
 unfold iF ni;rw[ahr hs,aB7 hs BK,aB7 hs BK,acR hs];refine⟨rfl,?_⟩;unfold Iu;cases j:G5 s 64 with
 |true=>
  have q:=aON (s:=s) (by unfold G5 at j;simp only[CV]at j;exact j.2);simp only[AQ,Dv,Ar,u q,Bool.true_or];rfl
 |false=>
  cases m:G5 s 33 with
  |true=>
   have q:=aON (s:=s) (by unfold G5 at m;simp only[CV]at m;exact m.2);simp only[AQ,Dv,I4,Ar,BA,u q,Kv,Bool.true_or];rfl
  |false=>rfl
def aFR {R A α:Type} {body:(Int→A→Option R)→Int→A→Option R} (l:List α) (hl:l.length<Ag) (p:α→Bool) (g:Nat→Option R) (rest:Option R) (a0:A)
 (u:∀k (i:Nat) (h:i<l.length),body k (i:Int) a0=bif p l[i]then g i else k (Ah ((i:Int)+1)) a0) (z:∀k,body k (l.length:Int) a0=rest):
 aP body Ag 0 a0=if l.findIdx p<l.length then g (l.findIdx p)else rest:=by
 have L:Ag=9223372036854775808:=rfl
 have key:∀n (i:Nat),i+n=l.length→∀m,n<m→aP body m (i:Int) a0=if(l.drop i).findIdx p+i<l.length then g ((l.drop i).findIdx p+i)else rest:=by
  intro n
  induction n with
  |zero=>
   intro i hi m I;obtain⟨m,rfl⟩:∃q,m=q+1:=⟨m-1,A8⟩
   have :i=l.length:=A8
   subst this;show body (aP body m) _ _=_;rw[z,Na,CU Am]
  |succ n J=>
   intro i hi m I;obtain⟨m,rfl⟩:∃q,m=q+1:=⟨m-1,A8⟩
   have j:i<l.length:=A8
   show body (aP body m) _ _=_;rw[u _ i j,wrap_succ i A8,J (i+1) A8 m A8,Jp j,SP];cases p l[i]with
   |true=>simp only[BA,Ic];rw[CJ j]
   |false=>
    simp only[Ar];rw[show(l.drop (i+1)).findIdx p+(i+1)=(l.drop (i+1)).findIdx p+1+i by omega]
 have :=key l.length 0 A8 Ag hl;simpa using this
def Hl (l:List AL):AL×Bool:=match l.find? fun x=>x.Kind==1 with |some x=>(x,true)|none=>(Ej,false)
def aJj (l:List AL) (p:AL→Bool):(if l.findIdx p<l.length then(some (match l[l.findIdx p]? with |some x=>(x,true)|none=>(Ej,false)))else some (Ej,false))=some (match l.find? p with |some x=>(x,true)|none=>(Ej,false)):=by
 rw[Ih];by_cases h:l.findIdx p<l.length
 ·rw[CJ h]
 rw[CU h,Gu A8]
def aaQ (l:List AL) (hl:l.length≤1000):oL l=some (Hl l):=by
 unfold oL aaZ;rw[aFR l (fuel_lt A8) (fun x=>x.Kind==1) (fun i=>some (match l[i]? with |some x=>(x,true)|none=>(Ej,false))) (some (Ej,false))]
 ·exact aJj l _
 ·intro k i h;unfold aEu;rw[Bl h,Ce h]
 intro k;unfold aEu;rw[D7]
def aPD (l:List AL) (hl:l.length≤1000):aBt l=some (Hl l):=by
 unfold aBt aNo;rw[aFR l (fuel_lt A8) (fun x=>x.Kind==1) (fun i=>some (match l[i]? with |some x=>(x,true)|none=>(Ej,false))) (some (Ej,false))]
 ·exact aJj l _
 ·intro k i h;unfold aMx;rw[Bl h,Bf h,Ce h];rfl
 intro k;unfold aMx;rw[D7]
def Hz (u:ByteArray) (x:AL):Bool:=x.Kind==2&&decide (x.Key=u)
def Gy (l:List AL) (u:ByteArray):Int:=match l.find? (Hz u)with |some x=>x.Content.N|none=>0
def kQ (u:ByteArray) (x:AL):(bif (x.Kind==2)then some (x.Key.toList==u.toList)else some false)=some (Hz u x):=by
 unfold Hz;rw[HY];cases x.Kind==2<;>rfl
def aNI (l:List AL) (u:ByteArray) (hl:l.length≤1000):fE l u=some (Gy l u):=by
 unfold fE aaI Gy;rw[Ie l (fuel_lt A8) (Hz u) (fun i=>some (match l[i]? with |some x=>x.Content.N|none=>0)) (some 0)]
 ·rw[Ih];by_cases h:l.findIdx (Hz u)<l.length
  ·rw[CJ h]
  rw[CU h,Gu A8]
 ·intro k i h;unfold aJi;rw[Bl h,Bf h,Ce h];simp only[AQ];rw[kQ];rfl
 intro k;unfold aJi;rw[D7]
def aKi (l:List AL) (u:ByteArray) (hl:l.length≤1000):lF l u=some (Gy l u):=by
 unfold lF aOZ Gy;rw[Ie l (fuel_lt A8) (Hz u) (fun i=>some (match l[i]? with |some x=>x.Content.N|none=>0)) (some 0)]
 ·rw[Ih];by_cases h:l.findIdx (Hz u)<l.length
  ·rw[CJ h]
  rw[CU h,Gu A8]
 ·intro k i h;unfold aFX;rw[Bl h,Bf h,Ce h];simp only[AQ];rw[kQ];rfl
 intro k;unfold aFX;rw[D7]
def V6 (e:AL) (l:List AL):Bool:=
 (Hl l).2&&(e.bF.length==1&&(e.bF.getD 0 0==(Hl l).1.Id&&(decide (e.aN=(Hl l).1.aN)&&(decide (e.Key=(Hl l).1.aN)&&(e.Content.N==3&& !l.any (Hz e.Key))))))
def apU (e:AL) (l:List AL) (hl:l.length≤1000):aAM e l=some (V6 e l):=by
 have z:aMV l e 0=some (!l.any (Hz e.Key)):=by
  unfold aMV;rw[GK l (fuel_lt A8) (Hz e.Key) false (some true)]
  ·cases l.any (Hz e.Key)<;>rfl
  ·intro k i h;unfold aN7;rw[Bl h,kQ];rfl
  intro k;unfold aN7;rw[D7]
 unfold aAM V6 Xx;rw[aaQ l hl];simp only[AQ];rw[z,HY,HY];cases(Hl l).2 with
 |false=>rfl
 |true=>
  by_cases j:e.bF.length=1
  ·have u:0<e.bF.length:=A8
   have m:((e.bF.length:Int) != 1)=false:=jB
   have q:(e.bF.length==1)=true:=MK
   have I:Af e.bF 0=some (e.bF.getD 0 0):=by
    have :Af e.bF ((0:Nat):Int)=some e.bF[0]:=Bf u;rw[show((0:Nat):Int)=0 from rfl]at this;rw[this];simp[List.getD,u]
   rw[m,q,I];simp only[AQ,bne];cases e.bF.getD 0 0==(Hl l).1.Id<;>cases decide (e.aN=(Hl l).1.aN)<;>cases decide (e.Key=(Hl l).1.aN)<;>cases e.Content.N==3<;>rfl
  have m:((e.bF.length:Int) != 1)=true:=DK
  have q:(e.bF.length==1)=false:=MK
  rw[m,q];rfl
def ajZ (e:AL) (l:List AL) (hl:l.length≤1000):aJZ e l=some (V6 e l):=by
 have z:aFC l e.Key=some (l.any (Hz e.Key)):=by
  unfold aFC aPw;rw[GK l (fuel_lt A8) (Hz e.Key) true (some false)]
  ·cases l.any (Hz e.Key)<;>rfl
  ·intro k i h;unfold aLa;rw[Bl h,Bf h];simp only[AQ];rw[kQ];rfl
  intro k;unfold aLa;rw[D7]
 unfold aJZ V6 Wn;rw[aPD l hl];simp only[AQ];rw[z,HY,HY];cases(Hl l).2 with
 |false=>rfl
 |true=>
  by_cases j:e.bF.length=1
  ·have u:0<e.bF.length:=A8
   have m:((e.bF.length:Int)==1)=true:=jB
   have q:(e.bF.length==1)=true:=MK
   have I:Af e.bF 0=some (e.bF.getD 0 0):=by
    have :Af e.bF ((0:Nat):Int)=some e.bF[0]:=Bf u;rw[show((0:Nat):Int)=0 from rfl]at this;rw[this];simp[List.getD,u]
   rw[m,q,I];simp only[AQ];cases e.bF.getD 0 0==(Hl l).1.Id<;>cases decide (e.aN=(Hl l).1.aN)<;>cases decide (e.Key=(Hl l).1.aN)<;>cases e.Content.N==3<;>rfl
  have m:((e.bF.length:Int)==1)=false:=DK
  have q:(e.bF.length==1)=false:=MK
  rw[m,q];rfl
def moveB (f t:Int) (s:Bool):Bool:=
 bif decide (f<0)||decide (f>4)then false else bif t==3 then s&&f != 4 else bif t==0 then f==1||f==2||f==3||(f==4&& !s)else bif t==2 then s&&(f==0||f==2)else bif t==1 then !s&&(f==0||f==2||f==1)else bif t==4 then !s else false
def aaw (f t:Int) (s:Bool):YE f t s=some (moveB f t s):=by
 unfold YE moveB;simp only[Iq,AQ,Zd,Ri]
def aic (f t:Int) (s:Bool):ZM f t s=some (moveB f t s):=by
 rw[←aaw];by_cases j:f<0
 ·unfold ZM YE;rw[Ht j];rfl
 by_cases m:f>4
 ·unfold ZM YE;rw[Ht m];cases decide (f<0)<;>rfl
 by_cases q:t<0
 ·unfold ZM YE;rw[Ht q,Hr j,Hr m,show(t==3)=false by simp;omega,show(t==0)=false by simp;omega,show(t==2)=false by simp;omega,show(t==1)=false by simp;omega,show(t==4)=false by simp;omega];rfl
 by_cases u:t>4
 ·unfold ZM YE;rw[Ht u,Hr q,Hr j,Hr m,show(t==3)=false by simp;omega,show(t==0)=false by simp;omega,show(t==2)=false by simp;omega,show(t==1)=false by simp;omega,show(t==4)=false by simp;omega];rfl
 have z:f=0∨f=1∨f=2∨f=3∨f=4:=A8
 have I:t=0∨t=1∨t=2∨t=3∨t=4:=A8
 rcases z with rfl|rfl|rfl|rfl|rfl<;>rcases I with rfl|rfl|rfl|rfl|rfl<;>cases s<;>decide
def Vb (l:List AL):Int×List ByteArray:=match l.find? fun x=>x.Kind==4 with |some x=>(x.Content.N,x.Content.Allow)|none=>(0,[])
def ajk (l:List AL) (hl:l.length≤1000) (hs:D9 l):xR l=some (Vb l):=by
 unfold xR aR8 Vb;rw[Ie l (fuel_lt A8) (fun x=>x.Kind==4) (fun i=>some (match l[i]? with |some x=>(x.Content.N,x.Content.Allow)|none=>(0,[]))) (some (0,[]))]
 ·rw[Ih];by_cases h:l.findIdx (fun x=>x.Kind==4)<l.length
  ·rw[CJ h]
  rw[CU h,Gu A8]
 ·intro k i h;have ha:=(hs _ (E8 h)).allow;unfold aL8;rw[Bl h,Ce h,D5 SE];rfl
 intro k;unfold aL8;rw[D7]
def ahv (l:List AL) (hl:l.length≤1000) (hs:D9 l):aI2 l=some (Vb l):=by
 unfold aI2 aQJ Vb;rw[Ie l (fuel_lt A8) (fun x=>x.Kind==4) (fun i=>some (match l[i]? with |some x=>(x.Content.N,x.Content.Allow)|none=>(0,[]))) (some (0,[]))]
 ·rw[Ih];by_cases h:l.findIdx (fun x=>x.Kind==4)<l.length
  ·rw[CJ h]
  rw[CU h,Gu A8]
 ·intro k i h;have ha:=(hs _ (E8 h)).allow;unfold aJK;rw[Bl h,Bf h,Ce h];simp only[AQ];rw[D5 SE];rfl
 intro k;unfold aJK;rw[D7]
def lJ (j now:Int):Int:=bif now==3||j==1 then 0 else bif now==1&&(j==0||j==2||j==3)then 0 else 21
def rW (j now:Int):Int:=bif j==2&&(now==0||now==2)then 0 else 21
def alW (r n:Int):zY r n=some (lJ r n):=by
 unfold zY uK aAt lJ;cases n==3<;>cases r==1<;>cases r==2<;>cases r==3<;>cases r==0<;>cases n==1<;>rfl
def ai5 (r n:Int):aLu r n=some (lJ r n):=by
 unfold aLu lJ;cases n==3<;>cases r==1<;>cases r==2<;>cases r==3<;>cases r==0<;>cases n==1<;>rfl
def ag1 (r n:Int):xB r n=some (rW r n):=by
 unfold xB aD4 rW bne;cases r==2<;>cases n==0<;>cases n==2<;>rfl
def aiK (r n:Int):aM3 r n=some (rW r n):=by
 unfold aM3 rW;cases r==2<;>cases n==0<;>cases n==2<;>rfl
def Xe (m now:Int) (l:List AL):Int:=bif m==3 then lJ (Vb l).1 now else bif m==2 then rW (Vb l).1 now else 0
def asI (m now:Int) (l:List AL) (hl:l.length≤1000) (hs:D9 l):aBb m now l=some (Xe m now l):=by
 unfold aBb Xe;rw[ajk l hl hs];simp only[AQ];rw[alW,ag1];cases m==3<;>cases m==2<;>rfl
def als (e:AL) (now:Int) (l:List AL) (hl:l.length≤1000) (hs:D9 l):aFs e l now=some (Xe e.Content.N now l):=by
 unfold aFs Xe;rw[ahv l hl hs];simp only[AQ];rw[ai5,aiK];cases e.Content.N==3<;>cases e.Content.N==2<;>rfl
def GX (k:Int):Bool:=decide (k≥1)&&decide (k≤10)
def ad3 (k:Int):YN k=some (GX k):=by
 unfold YN GX;cases decide (k≥1)<;>rfl
def wM (k:Int):TU k=some (GX k):=by
 unfold TU GX;cases decide (k≥1)<;>rfl
def Vo (v:Ba) (k:Int):Int:=match v.Kinds.find? fun x=>x.Kind==k with |some x=>x.N|none=>bif GX k then v.State else v.Message
def aHy (v:Ba) (k:Int) (h:v.Kinds.length≤1000):dW v k=some (Vo v k):=by
 unfold dW aeS Vo;rw[Ie v.Kinds (fuel_lt A8) (fun x=>x.Kind==k) (fun i=>some (match v.Kinds[i]? with |some x=>x.N|none=>0)) (some (bif GX k then v.State else v.Message))]
 ·rw[Ih];by_cases h:v.Kinds.findIdx (fun x=>x.Kind==k)<v.Kinds.length
  ·rw[CJ h,Ce h]
  rw[CU h,Gu A8]
 ·intro k2 i h;unfold aKs;rw[Bl h,Ce h]
 intro k2;unfold aKs;rw[D7,ad3];cases GX k<;>rfl
def sZ (v:Ba) (k:Int) (h:v.Kinds.length≤1000):sO v k=some (Vo v k):=by
 unfold sO aQE Vo;rw[Ie v.Kinds (fuel_lt A8) (fun x=>x.Kind==k) (fun i=>some (match v.Kinds[i]? with |some x=>x.N|none=>0)) (some (bif GX k then v.State else v.Message))]
 ·rw[Ih];by_cases h:v.Kinds.findIdx (fun x=>x.Kind==k)<v.Kinds.length
  ·rw[CJ h,Ce h]
  rw[CU h,Gu A8]
 ·intro k2 i h;unfold aEp;rw[Bl h,Bf h,Ce h];rfl
 intro k2;unfold aEp;rw[D7,wM];cases GX k<;>rfl
def TW (j m q:Int):Bool:=m==q||(decide (m≤j)&&decide (q≤j))
def numsOf (v:Ba):List Int:=[v.User,v.Message,v.State,v.fH,v.jI,v.mW,v.eU]
def lC (j:Int) (p:Int×Int):Bool:= !TW j p.1 p.2
def TD (j:Int) (m q:Ba) (x:IJ):Bool:= !TW j (Vo m x.Kind) (Vo q x.Kind)
def I9 (m:Int) (j q:Ba) (u:ByteArray) (x:H7):Bool:= !(TW m (DY j x.User) (DY q x.User)&&(DY j x.User==DY q x.User||decide (x.User=u)||decide (DY j x.User<m)))
def rE (j q:Ba) (m:ByteArray):Int:=
 bif ((numsOf j).zip (numsOf q)).any (lC (DY j m))then 20 else bif (j.Kinds++q.Kinds).any (TD (DY j m) j q)then 20 else bif (j.Users++q.Users).any (I9 (DY j m) j q m)then 20 else 0
def aGr (j m q:Int):Ug m q j=some (!TW j m q):=by
 unfold Ug TW;have u:(m != q)= !(m==q):=rfl;have z:decide (m>j)= !decide (m≤j):=by by_cases h:m≤j<;>simp[h]<;>omega
 have I:decide (q>j)= !decide (q≤j):=by by_cases h:q≤j<;>simp[h]<;>omega
 rw[u,z,I];cases m==q<;>cases decide (m≤j)<;>cases decide (q≤j)<;>rfl
def aER (m j q:Int):lZ j q m=some (TW m j q):=by
 unfold lZ TW;cases j==q<;>cases decide (j≤m)<;>rfl
structure XG (v:Ba):Prop where
 users:v.Users.length≤100
 kinds:v.Kinds.length≤100
def uJ (a b:Ba):((numsOf a).zip (numsOf b)).length=7:=rfl
def arD (m q:Ba) (u:ByteArray) (Z:XG m) (hn:XG q):pI m q u=some (rE m q u):=by
 have o1:=Z.users;have o2:=Z.kinds;have n1:=hn.users;have n2:=hn.kinds;unfold pI;rw[VP m u A8];unfold aAk;simp only[AQ];unfold rE;generalize hown:DY m u=z
 have hU:aA7 m q z u false 0=some (bif (m.Users++q.Users).any (I9 z m q u)then 20 else 0):=by
  unfold aA7;rw[aN3 ([m.Users,q.Users]:List (List H7)) (fuel_lt Am) (fun us=>us.any (I9 z m q u)) (fun _=>some 20) (some 0) false]
  ·have e:(m.Users++q.Users).any (I9 z m q u)=([m.Users,q.Users]:List (List H7)).any (fun us=>us.any (I9 z m q u)):=Am
   rw[e]
   have hf:∀L:List (List H7),(if L.findIdx (fun us=>us.any (I9 z m q u))<L.length then some (20:Int)else some 0)=some (bif L.any (fun us=>us.any (I9 z m q u))then 20 else 0):=fun L=>by
    by_cases h:L.findIdx (fun us=>us.any (I9 z m q u))<L.length
    ·rw[CJ h];have :L.any (fun us=>us.any (I9 z m q u))=true:=Gw.2 ((lu).1 h);rw[this];rfl
    rw[CU h]
    have :L.any (fun us=>us.any (I9 z m q u))=false:=by
     rw[Bool.eq_false_iff];exact fun k=>h (lu.2 (Gw.1 k))
    rw[this];rfl
   exact hf _
  ·intro k i h
   have O:([m.Users,q.Users]:List (List H7))[i].length≤100:=by
    have :([m.Users,q.Users]:List (List H7))[i]∈[m.Users,q.Users]:=E8 h;simp only[EO,Ef,iM]at this;rcases this with e|e<;>rw[e]<;>assumption
   unfold vM;rw[show decide ((i:Int)<2)=true by simp only[FC,Kr]at h;simp;omega,Bf h];simp only[BA,AQ];generalize([m.Users,q.Users]:List (List H7))[i]=us at O;unfold ab4;rw[aN3 us (fuel_lt A8) (I9 z m q u) (fun _=>some 20) (k false (Ah ((i:Int)+1))) false]
   ·by_cases J:us.findIdx (I9 z m q u)<us.length
    ·rw[CJ J];have :us.any (I9 z m q u)=true:=Gw.2 ((lu).1 J);rw[this];rfl
    rw[CU J]
    have :us.any (I9 z m q u)=false:=by
     rw[Bool.eq_false_iff];exact fun k=>J (lu.2 (Gw.1 k))
    rw[this];rfl
   ·intro k2 j U;unfold zI iq;rw[Bl U,VP m _ A8,VP q _ A8];simp only[AQ];rw[aGr,HY];unfold I9;have J:decide (DY m us[j].User≥z)= !decide (DY m us[j].User<z):=by by_cases h:DY m us[j].User<z<;>simp[h]<;>omega
    have h3:(DY m us[j].User != DY q us[j].User)= !(DY m us[j].User==DY q us[j].User):=rfl;simp only[AQ];rw[J,h3];cases TW z (DY m us[j].User) (DY q us[j].User)<;>cases DY m us[j].User==DY q us[j].User<;>cases decide (us[j].User=u)<;>cases decide (DY m us[j].User<z)<;>rfl
   intro k2;unfold zI;rw[D7]
  intro k;unfold vM iq;rw[show decide (((([m.Users,q.Users]:List (List H7)).length:Nat):Int)<2)=false from rfl];rfl
 have hK:xJ m q z u 0=some (bif (m.Kinds++q.Kinds).any (TD z m q)then 20 else bif (m.Users++q.Users).any (I9 z m q u)then 20 else 0):=by
  unfold xJ;rw[GK ([m.Kinds,q.Kinds]:List (List IJ)) (fuel_lt Am) (fun I=>I.any (TD z m q)) 20 (aA7 m q z u false 0)]
  ·rw[hU];have e:(m.Kinds++q.Kinds).any (TD z m q)=([m.Kinds,q.Kinds]:List (List IJ)).any (fun I=>I.any (TD z m q)):=Am
   rw[e];cases([m.Kinds,q.Kinds]:List (List IJ)).any (fun I=>I.any (TD z m q))<;>rfl
  ·intro k i h
   have Y:([m.Kinds,q.Kinds]:List (List IJ))[i].length≤100:=by
    have :([m.Kinds,q.Kinds]:List (List IJ))[i]∈[m.Kinds,q.Kinds]:=E8 h;simp only[EO,Ef,iM]at this;rcases this with e|e<;>rw[e]<;>assumption
   unfold aBJ;rw[show decide ((i:Int)<2)=true by simp only[FC,Kr]at h;simp;omega,Bf h];simp only[BA,AQ];generalize([m.Kinds,q.Kinds]:List (List IJ))[i]=I at Y;unfold aPz;rw[GK I (fuel_lt A8) (TD z m q) 20 (k (Ah ((i:Int)+1)))]
   ·intro k2 j U;unfold aE8;rw[Bl U,aHy m _ A8,aHy q _ A8];simp only[AQ];rw[aGr];rfl
   intro k2;unfold aE8;rw[D7]
  intro k;unfold aBJ;rw[show decide (((([m.Kinds,q.Kinds]:List (List IJ)).length:Nat):Int)<2)=false from rfl];rfl
 unfold aOU;rw[GK ((numsOf m).zip (numsOf q)) afQ (lC z) 20 (xJ m q z u 0)]
 ·rw[hK];cases((numsOf m).zip (numsOf q)).any (lC z)<;>rfl
 ·intro k i h;have M:i<7:=by rw[uJ]at h;exact h
  have e1:Af [m.User,m.Message,m.State,m.fH,m.jI,m.mW,m.eU] (i:Int)=some ((numsOf m)[i]'(M)):=Bf (l:=numsOf m) M;have e2:Af [q.User,q.Message,q.State,q.fH,q.jI,q.mW,q.eU] (i:Int)=some ((numsOf q)[i]'(M)):=Bf (l:=numsOf q) M;unfold aDw;rw[show decide ((i:Int)<7)=true by simp;omega,e1,e2];simp only[BA,AQ];rw[aGr,aFP];rfl
 intro k;unfold aDw;rw[uJ,show decide (((7:Nat):Int)<7)=false from rfl];rfl
def afW (j q:Ba) (u m:ByteArray) (z:XG j) (I:XG q):sB j q u m=some (TW (DY j m) (DY j u) (DY q u)&&(DY j u==DY q u||decide (u=m)||decide (DY j u<DY j m))):=by
 have J:=z.users;have L:=I.users;unfold sB;rw[WV j m A8,WV j u A8,WV q u A8];simp only[AQ];rw[aER,HY];simp only[AQ];cases TW (DY j m) (DY j u) (DY q u)<;>cases DY j u==DY q u<;>cases decide (u=m)<;>cases decide (DY j u<DY j m)<;>rfl
def afZ (j m:Ba) (q:ByteArray) (J:XG j) (L:XG m):aFj j m q=some (rE j m q):=by
 have o1:=J.users;have o2:=J.kinds;have n1:=L.users;have n2:=L.kinds;unfold aFj;rw[WV j q A8];unfold aH6;simp only[AQ];unfold rE
 have z:∀x:H7,(sB j m x.User q)=some (!I9 (DY j q) j m q x):=fun x=>by
  rw[afW j m _ _ J L];unfold I9;rw[pW]
 generalize O:DY j q=u at z
 have M:aGi m j q 0=some (bif m.Users.any (I9 u j m q)then 20 else 0):=by
  unfold aGi;rw[GK m.Users (fuel_lt A8) (I9 u j m q) 20 (some 0)]
  ·cases m.Users.any (I9 u j m q)<;>rfl
  ·intro k i h;unfold aKN;rw[Bl h,z];simp only[AQ,pW]
  intro k;unfold aKN;rw[D7]
 have Y:aIc j m q 0=some (bif (j.Users++m.Users).any (I9 u j m q)then 20 else 0):=by
  unfold aIc;rw[GK j.Users (fuel_lt A8) (I9 u j m q) 20 (some (bif m.Users.any (I9 u j m q)then 20 else 0))]
  ·rw[aGk];cases j.Users.any (I9 u j m q)<;>rfl
  ·intro k i h;unfold aGf;rw[Bl h,z];simp only[AQ,pW]
  intro k;unfold aGf;rw[D7,M]
 have Z:aDX j m u q 0=some (bif (j.Kinds++m.Kinds).any (TD u j m)then 20 else bif (j.Users++m.Users).any (I9 u j m q)then 20 else 0):=by
  unfold aDX;have U:Ah ((j.Kinds.length:Int)+(m.Kinds.length:Int))=(((j.Kinds++m.Kinds).length:Nat):Int):=by rw[Dk,Z8];omega
  rw[GK (j.Kinds++m.Kinds) (fuel_lt JZ) (TD u j m) 20 (some (bif (j.Users++m.Users).any (I9 u j m q)then 20 else 0))]
  ·cases(j.Kinds++m.Kinds).any (TD u j m)<;>rfl
  ·intro k i h;unfold aHB aGS;rw[U,dec_lt h];simp only[BA];by_cases hi:i<j.Kinds.length
   ·rw[dec_lt hi,Bf hi];simp only[BA,AQ];rw[sZ j _ A8,sZ m _ A8];simp only[AQ];rw[aER,aG5 hi];rfl
   have hj:i-j.Kinds.length<m.Kinds.length:=by rw[Dk]at h;omega
   have w:Ah ((i:Int)-(j.Kinds.length:Int))=((i-j.Kinds.length:Nat):Int):=by rw[Dk]at h;rw[Z8];omega
   rw[show decide ((i:Int)<(j.Kinds.length:Int))=false by simp;omega,w,Bf hj];simp only[Ar,AQ];rw[sZ j _ A8,sZ m _ A8];simp only[AQ];rw[aER,acI A8];rfl
  intro k;unfold aHB;rw[U,CZ,Y];rfl
 unfold aRJ;rw[GK ((numsOf j).zip (numsOf m)) afQ (lC u) 20 (aDX j m u q 0)]
 ·rw[Z];cases((numsOf j).zip (numsOf m)).any (lC u)<;>rfl
 ·intro k i h;have I:i<7:=by rw[uJ]at h;exact h
  have e1:Af [j.User,j.Message,j.State,j.fH,j.jI,j.mW,j.eU] (i:Int)=some ((numsOf j)[i]'(I)):=Bf (l:=numsOf j) I;have e2:Af [m.User,m.Message,m.State,m.fH,m.jI,m.mW,m.eU] (i:Int)=some ((numsOf m)[i]'(I)):=Bf (l:=numsOf m) I;unfold aKr;rw[show decide ((i:Int)<(([j.User,j.Message,j.State,j.fH,j.jI,j.mW,j.eU]:List Int).length:Int))=true from dec_lt (n:=7) I,e1,e2];simp only[BA,AQ];rw[aER,aFP];rfl
 intro k;unfold aKr;rw[uJ];rfl
def WU (e:AL) (l:List AL) (now:Int):Int:=
 bif !(Gy l e.aN==3)then 18 else
 bif e.Content.N==1&&decide (DY (EH l) e.aN<(EH l).fH)then 20 else
 bif e.Content.N==0&&((now==4&&decide (DY (EH l) e.aN<(EH l).mW))||decide (DY (EH l) e.aN<(EH l).jI)||decide (DY (EH l) e.Key≥DY (EH l) e.aN))then 20 else
 bif e.Content.N==4&&(decide (DY (EH l) e.aN<(EH l).mW)||decide (DY (EH l) e.Key≥DY (EH l) e.aN))then 20 else 0
def bP (e:AL) (l:List AL):Int:=
 bif V6 e l then 0 else
 bif decide (e.Key=e.aN)&&Gy l e.Key==4 then 19 else
 bif !moveB (Gy l e.Key) e.Content.N (decide (e.Key=e.aN))then 18 else
 bif decide (e.Key=e.aN)then Xe e.Content.N (Gy l e.Key) l else WU e l (Gy l e.Key)
def Wq (e:AL) (l:List AL):Int:=
 bif decide (DY (EH l) e.aN<Vo (EH l) e.Kind)then 20 else bif e.Kind==3 then rE (EH l) e.Content.Levels e.aN else 0
def aNz (s:ByteArray):ByteArray:=(splitB s (Iu s)).2.1
def Ls (e:AL) (l:List AL):Int:=
 bif e.Kind==1 then(bif !(Hl l).2&&(aNz e.aN).toList==(aNz e.Room).toList then 0 else 17)else
 bif !(Hl l).2 then 17 else bif e.Kind==2 then bP e l else bif !(Gy l e.aN==3)then 18 else Wq e l
def zh {l:List AL} (h:D9 l):XG (EH l):=⟨(gy h).1,(gy h).2⟩
def GV.levels {e:AL} (h:GV e):XG e.Content.Levels:=⟨h.users,h.kinds⟩
def ao4 (e:AL) (l:List AL) (hl:l.length≤1000) (hs:D9 l) (m:GV e):aEZ e l=some (Wq e l):=by
 have j:=zh hs;have q:=j.users;have u:=j.kinds;unfold aEZ Wq;rw[oU l hl hs];simp only[AQ];rw[VP _ _ A8,aHy _ _ A8];simp only[AQ];rw[arD _ _ _ j m.levels];cases decide (DY (EH l) e.aN<Vo (EH l) e.Kind)<;>cases e.Kind==3<;>rfl
def aqR (e:AL) (l:List AL) (hl:l.length≤1000) (hs:D9 l) (m:GV e):aIO e l=some (Wq e l):=by
 have j:=zh hs;have q:=j.users;have u:=j.kinds;unfold aIO Wq;rw[aIW l hl];simp only[AQ];rw[WV _ _ A8,sZ _ _ A8];simp only[AQ];rw[afZ _ _ _ j m.levels];cases decide (DY (EH l) e.aN<Vo (EH l) e.Kind)<;>cases e.Kind==3<;>rfl
def bJ (x:Int):Except Value Unit:=.error (.iface 165 (.agg #[.int .i64 x]))
def aep (x:Int):Yc x=some (bJ x):=rfl
def aFW (b:Bool) (x:Int):PL b x=some (bif b then .ok ()else bJ x):=by cases b<;>rfl
def aM9 (b:Bool) (x:Int) (f:Unit→Option (Except Value Unit)):Jj (bif b then .ok ()else bJ x) f=bif b then f ()else some (bJ x):=by cases b<;>rfl
def aQY (x:Int) (f:Unit→Option (Except Value Unit)):Jj (bJ x) f=some (bJ x):=rfl
def ahL (a b:Int):decide (a≥b)= !decide (a<b):=by by_cases h:a<b<;>simp[h]<;>omega
def aof (e:AL) (l:List AL) (now:Int) (hl:l.length≤1000) (hs:D9 l):(Zn l e now).bind SA=some (WU e l now):=by
 have u:=(gy hs).1;unfold Zn WU;rw[aNI l _ hl,oU l hl hs];simp only[AQ];rw[VP _ _ A8,VP _ _ A8];simp only[aFW,AQ,aM9,ahL]
 have z:decide (DY (EH l) e.Key<DY (EH l) e.aN)= !decide (DY (EH l) e.aN≤DY (EH l) e.Key):=by
  by_cases h:DY (EH l) e.Key<DY (EH l) e.aN<;>simp[h]<;>omega
 have q:(now != 4)= !(now==4):=rfl;rw[q];generalize decide (DY (EH l) e.Key<DY (EH l) e.aN)=t;generalize decide (DY (EH l) e.aN<(EH l).fH)=i;generalize decide (DY (EH l) e.aN<(EH l).mW)=b;generalize decide (DY (EH l) e.aN<(EH l).jI)=k;generalize(now==4)=n;cases Gy l e.aN==3 with
 |false=>rfl
 |true=>
  by_cases j:e.Content.N=1
  ·rw[j];cases i<;>rfl
  rw[show(e.Content.N==1)=false by simpa using j];by_cases m:e.Content.N=0
  ·rw[m];cases n<;>cases b<;>cases k<;>cases t<;>rfl
  rw[show(e.Content.N==0)=false by simpa using m];cases e.Content.N==4<;>cases b<;>cases t<;>rfl
def alP (e:AL) (l:List AL) (now:Int) (hl:l.length≤1000) (hs:D9 l):aIx e l now=some (WU e l now):=by
 have j:=(gy hs).1;unfold aIx WU;rw[aKi l _ hl,aIW l hl];simp only[AQ];rw[WV _ _ A8,WV _ _ A8];simp only[AQ,Iq,Zd,Ri,bne]
def anm (e:AL) (l:List AL) (hl:l.length≤1000) (hs:D9 l):wB e l=some (bP e l):=by
 unfold wB bP;rw[apU e l hl];simp only[AQ];cases V6 e l with
 |true=>rfl
 |false=>
  simp only[Ar]
  have m:∀o:Option (Except Value Unit),(o.bind fun q=>(SA q).bind fun u=>some u)=o.bind SA:=fun o=>by
   cases o with
   |none=>rfl
   |some x=>cases h:SA x<;>simp[h]
  rw[m];have j:=aof e l (Gy l e.Key) hl hs;unfold aEn;rw[aNI l _ hl,HY];simp only[AQ];rw[aic,asI _ _ _ hl hs];simp only[AQ,aFW,aep,aM9,aQY,Iq];have z:(Gy l e.Key != 4)= !(Gy l e.Key==4):=rfl;rw[z];generalize Zn l e (Gy l e.Key)=J at j;generalize decide (e.Key=e.aN)=s;cases s with
  |true=>
   cases Gy l e.Key==4 with
   |true=>rfl
   |false=>cases moveB (Gy l e.Key) e.Content.N true<;>rfl
  |false=>
   cases moveB (Gy l e.Key) e.Content.N false with
   |false=>rfl
   |true=>exact j
def anI (e:AL) (l:List AL) (hl:l.length≤1000) (hs:D9 l):aGs e l=some (bP e l):=by
 unfold aGs bP;rw[ajZ e l hl,aKi l _ hl];simp only[AQ];rw[aaw,als e _ l hl hs,alP e l _ hl hs,HY];simp only[AQ,Iq,Ri]
def aMU (e:AL) (l:List AL) (hl:l.length≤1000) (hs:D9 l) (j:GV e):dJ e l=some (Ls e l):=by
 have z:=j.sender;have I:=j.room;unfold dJ Ls
 have m:∀o:Option (Except Value Unit),(o.bind fun q=>(SA q).bind fun u=>some u)=o.bind SA:=fun o=>by
  cases o with
  |none=>rfl
  |some x=>cases h:SA x<;>simp[h]
 rw[m];unfold aMM aAC xC yG;rw[aaQ l hl,(iJ (s:=e.aN) A8).1,(iJ (s:=e.Room) A8).1,aNI l _ hl,ao4 e l hl hs j,anm e l hl hs];simp only[AQ,aFW,aep,aM9,aQY];show _=some (bif e.Kind==1 then(bif !(Hl l).2&&(splitB e.aN (Iu e.aN)).2.1.toList==(splitB e.Room (Iu e.Room)).2.1.toList then 0 else 17)else _);cases e.Kind==1 with
 |true=>
  cases(Hl l).2 with
  |true=>rfl
  |false=>cases(splitB e.aN (Iu e.aN)).2.1.toList==(splitB e.Room (Iu e.Room)).2.1.toList<;>rfl
 |false=>
  cases(Hl l).2 with
  |false=>rfl
  |true=>
   cases e.Kind==2 with
   |true=>rfl
   |false=>cases Gy l e.aN==3<;>rfl
def aJ9 (e:AL) (l:List AL) (hl:l.length≤1000) (hs:D9 l) (j:GV e):pF e l=some (Ls e l):=by
 have m:=j.sender;have q:=j.room;unfold pF aJe Ls;rw[aPD l hl,(iJ (s:=e.aN) A8).2,(iJ (s:=e.Room) A8).2,aKi l _ hl,aqR e l hl hs j,anI e l hl hs];simp only[AQ];show _=some (bif e.Kind==1 then(bif !(Hl l).2&&(splitB e.aN (Iu e.aN)).2.1.toList==(splitB e.Room (Iu e.Room)).2.1.toList then 0 else 17)else _);cases e.Kind==1 with
 |true=>
  cases(Hl l).2 with
  |true=>rfl
  |false=>cases(splitB e.aN (Iu e.aN)).2.1.toList==(splitB e.Room (Iu e.Room)).2.1.toList<;>rfl
 |false=>
  cases(Hl l).2 with
  |false=>rfl
  |true=>
   cases e.Kind==2 with
   |true=>rfl
   |false=>unfold bne;cases Gy l e.aN==3<;>rfl
end Go.Proofs.YtkkdimcnpacjhaaGreat
end
