/- Part 1 of the proofs. -/
import Derived.Test.YtfmoknlmaldmlaaGreatRows
import Derived.WalkSpells
import Derived.WalkLawsBesides
import Derived.Lib.Hide
import Derived.Laws.AppendOwnNone
import Derived.Laws.CopyOwn
import Derived.RangeFuncRecord
import Derived.Lib.OwnBridge
import Derived.Sort.OwnSortedInts
import Derived.ProofKit
import Derived.Shelf.Small.Strs
import Derived.Shelf.Strings.Shaped
import Derived.Shelf.Sort.Plain
import Derived.Shelf.Slices.Turned
import Derived.Shelf.Slices.Clone
import Derived.Shelf.Slices.Cells
import Derived.Shelf.Slices.In.SortNone
import Derived.Shelf.Slices.Empties
import Derived.Shelf.SlSortCmp.NoneTotal
import Derived.Shelf.Spec.SlicesInsertGrow
set_option linter.defProp false
set_option linter.unnecessarySimpa false
set_option linter.unusedSectionVars false
set_option linter.unusedVariables false
set_option linter.unusedSimpArgs false
namespace Go.Proofs.YtfmoknlmaldmlaaGreat
open Go.RowKit Go.Proofs.Tryz
abbrev AA.{u}:=List.{u}
abbrev AL.{u}:=Option.{u}
abbrev BL:=ByteArray
abbrev BG:=Value
abbrev BQ:=World
abbrev Bh.{u}:=Array.{u}
abbrev C9:=Operand
abbrev Ce:=Program
abbrev Bz:=TypeId
abbrev AY:=Bool
abbrev AU (n:Nat):Nat×AY:=(n,true)
variable {p:Prop}
def CB (h:p:=by exact λh=>AZ<|CY):p:=h
def El (h:p:=by exact Bq.exit<|AZ<|CY):p:=h
def JC (h:p:=by exact Bq.exit<|AZ<|UA):p:=h
def SQ (h:p:=by exact Cx<|I _ _ (Ae []) h):p:=h
def dS (h:p:=by exact Cx<|I _ _ (Ae [AU 0]) h):p:=h
def Tj (h:p:=by exact Cx<|I _ _ _ (Ae [AU 0]) h):p:=h
def VY (h:p:=by exact Cx<|z _ _ (Ae []) h):p:=h
def Zc (h:p:=by exact O1 A8<|O1 A8<|O1 A8<|O1 A8<|trivial):p:=h
def Xp (h:p:=by exact Cx<|z _ _ _ (Ae [AU 0]) h):p:=h
def XD (h:p:=by exact Cx<|J _ _ (Ae []) h):p:=h
def a9j (h:p:=by exact .nil<|Or.inl ⟨(),(CM h).symm,(⟨[],[],trivial,A8,A8,A8⟩)⟩):p:=h
def aL8 (h:p:=by exact .aW<|AZ<|Bq.ret<|by rw[←CM h];exact⟨[DL ({ j with Content:=q })],[],⟨⟨1,Ar (Ap ({ j with Content:=q })),true,29,A8,A8,A8,Gg,DT A8,Px,A8⟩,trivial⟩,A8,A8,A8⟩):p:=h
def zS (h:p:=by exact Cx<|J _ _ _ (Ae [AU 0,AU 1]) h):p:=h
def qK (h:p:=by exact Cx<|J _ _ _ (Ae [AU 0]) h):p:=h
def aQH (h:p:=by exact λu=>AZ<|Bo h (λh=>u _ ⟨(j==12),Ae [],h⟩) λh=>AZ<|Bo h (λh=>u _ ⟨(j==13),Ae [],h⟩) λh=>Cx<|u _ ⟨(j==14),Ae [],h⟩):p:=h
def aW7 (h:p:=by exact λu=>AZ<|Bo h (λh=>u _ ⟨(j==5),Ae [],h⟩) λh=>AZ<|Bo h (λh=>u _ ⟨(j==8),Ae [],h⟩) λh=>Cx<|u _ ⟨(j==10),Ae [],h⟩):p:=h
def a0c (h:p:=by exact Cx<|u _ _ _ (Ae [AU 0]) h):p:=h
def a2s (h:p:=by exact Cx<|J _ _ (Ae [AU 0,AU 1]) h):p:=h
def a0T (h:p:=by exact λh=>Bq.exit<|u _ ⟨Ae [],h⟩):p:=h
def aQA (h:p:=by exact λh=>Bq.ret<|⟨.inr rfl,(aB u).slots,(.ready,none),.normal,A8,rfl,(x1 _ ⟨z,I,Ae [AU 2,AU 6],h⟩)⟩):p:=h
def aE1 (h:p:=by exact .aN<|Cx<|J _ _ _ (Ae [AU 1]) h):p:=h
def a6q (h:p:=by exact AZ<|by cases h;exact .ret (Ez [])):p:=h
def dF (h:p:=by exact AZ<|AZ<|CY):p:=h
def aWq (h:p:=by exact Bq.ret<|⟨.inr rfl,(YW j z).slots,(.ready,none),.normal,A8,rfl,(O _ ⟨Y,Z,Ae [AU 0,AU 1],h⟩)⟩):p:=h
def aGg (h:p:=by exact .aN<|Cx<|z _ _ _ (Ae [(0,false),AU 2]) h):p:=h
def JW (h:p:=by exact BA h CB λh=>AZ<|CY):p:=h
def a0G (h:p:=by exact AZ<|BA h CB λh=>dS):p:=h
def aDt (h:p:=by exact .aY<|BA h CB λh=>Cx<|J _ _ (Ae [AU 0]) h):p:=h
def a1O (h:p:=by exact .aW<|BA h CB λh=>SQ):p:=h
def a1J (h:p:=by exact Cx<|I _ _ _ (Ae []) h):p:=h
def aEr (h:p:=by exact Cx<|z _ _ _ (Ae [AU 0,AU 1]) h):p:=h
def aGf (h:p:=by exact Cx<|I _ _ _ (Ae [AU 0,AU 1]) h):p:=h
def aJN (h:p:=by exact Cx<|I _ _ (Ae [AU 0,AU 1]) h):p:=h
def a9a (h:p:=by exact .aY<|BA h CB λh=>XD):p:=h
def aAw (h:p:=by exact .aY<|BA h CB λh=>SQ):p:=h
def ni (h:p:=by exact λh=>AZ<|UA):p:=h
def zI (h:p:=by exact .aN<|z _ ⟨j,Ae [],h⟩):p:=h
def aJU (h:p:=by exact .aN<|Cx<|I _ _ _ (Ae [AU 1]) h):p:=h
def aEo (h:p:=by exact .aW<|AZ<|BA h CB λh=>VY):p:=h
def aBJ (h:p:=by exact Cx<|Y _ _ _ (Ae [AU 0]) h):p:=h
def aNH (h:p:=by exact λh=>Bq.block<|Cx<|z _ _ (Ae [(0,false),AU 1]) h):p:=h
def aQ1 (h:p:=by exact .f (x:=.aS 1) (EK [.ent 0] [.aS 0,AX z] (aUo M))<|aE1):p:=h
def aEV (h:p:=by exact .aN<|z _ ⟨u,Ae [AU 2],h⟩):p:=h
def aHf (h:p:=by exact .aY<|BA h CB λh=>VY):p:=h
def aD3 (h:p:=by exact .aY<|BA h CB λh=>dS):p:=h
def A8 (h:p:=by kernel_rfl):p:=h
def AB (h:p:=by omega):p:=h
def CY (h:p:=by cases h;exact .ret (Ez [])):p:=h
def Cc (h:p:=by cases h;kernel_rfl):p:=h
def Bl (h:p:=by decide):p:=h
def BU (h:p:=by simp):p:=h
def UA (h:p:=by cases h;exact .ret (Ez [AU 0])):p:=h
def G7 (h:p:=by simp only[OC];omega):p:=h
def Ei (h:p:=by simp;omega):p:=h
def Jm (h:p:=by cases h;exact .ret (Ez [AU 1])):p:=h
def a9C (h:p:=by rw[←CM h];exact⟨[DL Eo,Ag false],[],⟨⟨0,Ar (Ap Eo),true,29,by kernel_rfl,by kernel_rfl,by kernel_rfl,Gg,DT (by kernel_rfl),(by intro z;cases z),by kernel_rfl⟩,FU (by kernel_rfl),trivial⟩,by kernel_rfl,by kernel_rfl,by kernel_rfl⟩):p:=h
def a7u (h:p:=by rw[←CM h];exact⟨[DL q,Ag true],[],⟨⟨0,Ar (Ap q),true,29,by kernel_rfl,by kernel_rfl,by kernel_rfl,Gg,DT (by kernel_rfl),(by intro z;cases z),by kernel_rfl⟩,FU (by kernel_rfl),trivial⟩,by kernel_rfl,by kernel_rfl,by kernel_rfl⟩):p:=h
def MJ (h:p:=by cases h;exact .ret (Ez [AU 2])):p:=h
def aC (h:p:=by rw[←CM h];exact⟨[],[AU 0],trivial,by kernel_rfl,by kernel_rfl,by kernel_rfl⟩):p:=h
def IZ (h:p:=by simpa using hi):p:=h
def Px (h:p:=by intro z;cases z):p:=h
def OQ (h:p:=by obtain⟨a,_,rfl⟩:=FB.1 q;rfl):p:=h
def lu (h:p:=by subst e;have h:=i;exact AO h λq j h=>.a 2<|.ca (a2y j)<|.aW<|by cases h;kernel_rfl):p:=h
def aON (h:p:=by rintro s ⟨q,hs,h⟩;exact kS hs<|AZ<|Bq.ret<|by rw[←CM h];exact⟨[Iu q],[],⟨⟨0,Ar (FV q),true,9,by kernel_rfl,by kernel_rfl,by kernel_rfl,Yt,DT (by kernel_rfl),(by intro u;cases u),by kernel_rfl⟩,trivial⟩,by kernel_rfl,by kernel_rfl,by kernel_rfl⟩):p:=h
def aK (h:p:=by cases h;exact .ret (Ez [AU 0,AU 1,AU 2,AU 3])):p:=h
def aWD (h:p:=by rw[←CM h];exact⟨[Fb j,AX 0,AX 13],[],⟨⟨2,Ar (CJ j),true,9,by kernel_rfl,by kernel_rfl,by kernel_rfl,LH,DT (by kernel_rfl),(by intro z;cases z),by kernel_rfl⟩,FU (by kernel_rfl),FU (by kernel_rfl),trivial⟩,by kernel_rfl,by kernel_rfl,by kernel_rfl⟩):p:=h
def aRK (h:p:=by rw[←CM h];exact⟨[Fb j,AX 0,AX 29],[],⟨⟨2,Ar (CJ j),true,9,by kernel_rfl,by kernel_rfl,by kernel_rfl,LH,DT (by kernel_rfl),(by intro z;cases z),by kernel_rfl⟩,FU (by kernel_rfl),FU (by kernel_rfl),trivial⟩,by kernel_rfl,by kernel_rfl,by kernel_rfl⟩):p:=h
def aTG (h:p:=by rintro s ⟨L,hs,h⟩;exact kS hs<|Df h (λh=>a6q) λh=>AO h λz u h=>AP 2<|.ca (aOW u)<|.aW<|BA h (λh=>a6q) λh=>XD):p:=h
def aSc (h:p:=by rw[←CM h];exact⟨[Fb j,AX 29],[],⟨⟨2,Ar (CJ j),true,9,by kernel_rfl,by kernel_rfl,by kernel_rfl,LH,DT (by kernel_rfl),(by intro M;cases M),by kernel_rfl⟩,FU (by kernel_rfl),trivial⟩,by kernel_rfl,by kernel_rfl,by kernel_rfl⟩):p:=h
def aQl (h:p:=by rw[←CM h];exact⟨[Fb j,AX 15],[],⟨⟨2,Ar (CJ j),true,9,by kernel_rfl,by kernel_rfl,by kernel_rfl,LH,DT (by kernel_rfl),(by intro M;cases M),by kernel_rfl⟩,FU (by kernel_rfl),trivial⟩,by kernel_rfl,by kernel_rfl,by kernel_rfl⟩):p:=h
def aTp (h:p:=by rw[←CM h];exact⟨[Fb j,AX 17],[],⟨⟨2,Ar (CJ j),true,9,by kernel_rfl,by kernel_rfl,by kernel_rfl,LH,DT (by kernel_rfl),(by intro M;cases M),by kernel_rfl⟩,FU (by kernel_rfl),trivial⟩,by kernel_rfl,by kernel_rfl,by kernel_rfl⟩):p:=h
def Ls (h:p:=by intro I;cases I):p:=h
def H6 (h:p:=by cases h):p:=h
def LP (h:p:=by simpa using h2):p:=h
def aI (h:p:=by simpa using z):p:=h
def aoV (h:p:=by rw[←CM h];exact⟨[Iu q],[],⟨⟨0,Ar (FV q),true,9,by kernel_rfl,by kernel_rfl,by kernel_rfl,Yt,DT (by kernel_rfl),(by intro u;cases u),by kernel_rfl⟩,trivial⟩,by kernel_rfl,by kernel_rfl,by kernel_rfl⟩):p:=h
def a5b (h:p:=by subst e;have h:=i;exact AO h λq j h=>.a 2<|.p (Lp (k:=.i64) j I4)<|.aW<|by cases h;kernel_rfl):p:=h
def QD (h:p:=by simp only[Qp];omega):p:=h
def OH (h:p:=by simp[List.getD,hi]):p:=h
def LV (h:p:=by rw[Ef];omega):p:=h
def JD (h:p:=by simp at h):p:=h
def Ny (h:p:=by simpa using hl):p:=h
def zD (h:p:=by have :=hb (k+1) y (by simpa using z);simpa[VT,Vy 1 k]using this):p:=h
def a1G (h:p:=by have :=hl (k+1) (by simpa using hk);simpa[VT,Vy 1 k]using this):p:=h
def wQ (h:p:=by have :=M (k+1) y (by simpa using z);simpa[VT,Vy 1 k]using this):p:=h
def a0h (h:p:=by have :=O (k+1) y (by simpa using z);simpa[VT,Vy 1 k]using this):p:=h
def OY (h:p:=by decide+kernel):p:=h
def VH (h:p:=by simp only[Ef,OC];omega):p:=h
def Ql (h:p:=by rw[←hm.hlen];simp):p:=h
def Oa (h:p:=by simpa using h):p:=h
def OW (h:p:=by rw[ZN];omega):p:=h
def sQ (h:p:=by cases h;exact .ret (Ez [(0,false),AU 1])):p:=h
def Yk (h:p:=by intro M;cases M):p:=h
def aMK (h:p:=by rintro s ⟨z,hs,h⟩;exact kS hs<|BA h (λh=>a6q) λh=>a6q):p:=h
def oO (h:p:=by have :Am=9223372036854775808:=rfl;omega):p:=h
def iP (h:p:=by cases h;exact .ret (Ez [AU 3])):p:=h
def aKQ (h:p:=by rintro s ⟨J,hs,h⟩;exact kS hs<|AZ<|by cases h;exact .ret (Ez [AU 0])):p:=h
def Zv (h:p:=by obtain⟨a,_,rfl⟩:=FB.1 j;rfl):p:=h
def bY (h:p:=by first|exact L|kernel_rfl):p:=h
def Ul (h:p:=by intro q;cases q):p:=h
def WY (h:p:=by intro hh;cases hh):p:=h
def aTu (h:p:=by rw[←CM h];exact⟨[],[AU 0,AU 1,AU 2,AU 3],trivial,by kernel_rfl,by kernel_rfl,by kernel_rfl⟩):p:=h
def SY (h:p:=by simpa using u):p:=h
def aHq (h:p:=by rintro s ⟨M,hs,h⟩;exact kS hs<|Tj):p:=h
def aGb (h:p:=by rintro s ⟨L,hs,h⟩;exact kS hs<|Tj):p:=h
def iZ (h:p:=by rw[Hl];omega):p:=h
def rH (h:p:=by simp[Act.eval,Array.replicate]):p:=h
def aP1 (h:p:=by subst e;have h:=i;exact .a 2<|AO h λq u h=>.mg 12 3 (Ag q) (.bi u)<|.aW<|by cases h;kernel_rfl):p:=h
def V9 (h:p:=by simpa using h1):p:=h
def U6 (h:p:=by simpa using e):p:=h
def Xr (h:p:=by rw[JH]at h;exact h):p:=h
def dA (h:p:=by rw[JH];exact aDY hs):p:=h
def RI (h:p:=by rw[af7];rfl):p:=h
def aP8 (h:p:=by subst e;have h:=i;exact AO h λq j h=>.a 4<|.ca (aZU j)<|.aW<|by cases h;kernel_rfl):p:=h
def aUf (h:p:=by subst e;have h:=i;exact AO h λq j h=>.a 4<|.ca (abJ j)<|.aW<|by cases h;kernel_rfl):p:=h
def aUe (h:p:=by subst e;have h:=i;exact AO h λq j h=>.a 4<|.ca (agm j)<|.aW<|by cases h;kernel_rfl):p:=h
def aV6 (h:p:=by subst e;have h:=i;exact AO h λq j h=>.a 4<|.ca (alN j)<|.aW<|by cases h;kernel_rfl):p:=h
def aLN (h:p:=by subst e;have h:=i;exact AO h λq j h=>.a 4<|.ca (aan j)<|.aW<|by cases h;kernel_rfl):p:=h
def Fit (h:p:=by simpa using(hl 0 (by simp)).symm):p:=h
def Vj (h:p:=by simpa using j):p:=h
def Va (h:p:=by rw[hl];rfl):p:=h
def YL (h:p:=by simpa using h3):p:=h
def Tm (h:p:=by simp at hi):p:=h
def Xj (h:p:=by simpa using q):p:=h
def a6T (h:p:=by cases h;exact .ret (Ez [AU 4])):p:=h
def jA (h:p:=by simp[Am];omega):p:=h
def aCy (h:p:=by rw[alloc_eq_grow,alloc_eq_grow,grow_grow];rfl):p:=h
def aIV (h:p:=by rw[ha];exact EC (MS _ _) (by rw[Hl];omega)):p:=h
def Ui (h:p:=by simp[flat]):p:=h
def Z4 (h:p:=by rw[DY];omega):p:=h
def oW (h:p:=by unfold maxLen;omega):p:=h
def aH3 (h:p:=by cases h;exact .ret (Ez [AU 0,AU 1])):p:=h
def dB (h:p:=by simpa using O):p:=h
def a7d (h:p:=by simp only[aW8];split<;>omega):p:=h
def jB (h:p:=by simp[hm.hlen]):p:=h
def a3U (h:p:=by rw[Ef];simp only[OC];omega):p:=h
def a9s (h:p:=by simpa using M 0 x (by simp)):p:=h
def s0 (h:p:=by rw[j]at h;exact h):p:=h
def aj (h:p:=by rw[ha,Gw]):p:=h
def sK (h:p:=by simp at J;omega):p:=h
def aGj (h:p:=by rw[z rfl b (by rw[h1];rfl)];exact h2):p:=h
def aEg (h:p:=by obtain⟨b,_,rfl⟩:=FB.1 hy;exact hc b):p:=h
def yt (h:p:=by rw[h1];rfl):p:=h
def zZ (h:p:=by rw[ha,DY,Hl];omega):p:=h
def X7 (h:p:=by simp[hi]):p:=h
def a8Y (h:p:=by simp[binOp,Op.intBits,FD]):p:=h
def aA3 (h:p:=by simp only[Gh];simp;omega):p:=h
def aPc (h:p:=by rw[DY]at hi;rw[Vo _ _ _ hi];exact X5 q j u (h i hi)):p:=h
def aRq (h:p:=by subst e;have h:=i;exact Dn.aW<|by cases h;kernel_rfl):p:=h
def aAf (h:p:=by rw[h3.keys];simp[CS,aC3]):p:=h
def lK (h:p:=by simpa using q2):p:=h
def aB1 (h:p:=by simp[Act.eval,Act.put]):p:=h
def aFC (h:p:=by simpa using O 0 σ.ents (by simp)):p:=h
def tX (h:p:=by simp[List.getD,j]):p:=h
def aMg (h:p:=by rw[DY]at hi;rw[Vo _ _ _ hi];exact(h i hi).wo π):p:=h
def qh (h:p:=by simpa using I):p:=h
def aE2 (h:p:=by intro u;cases u):p:=h
def zN (h:p:=by intro J;cases J):p:=h
def a3h (h:p:=by simp[Op.bytesLess]at h):p:=h
def aQG (h:p:=by simp only[a5O,dec_lt h,BZ,CQ h,Ac,MC,Eu,BH]):p:=h
def Mem (h:p:=by intro h;cases h):p:=h
def aIW (h:p:=by rw[hm.hlen];exact(I9.1 h1).1):p:=h
def aRg (h:p:=by simpa using(by omega:i<(ops.map a.eval).size)):p:=h
def a1p (h:p:=by rw[World.cell?,j];rfl):p:=h
def a6M (h:p:=by constructor<;>omega):p:=h
def aqX (h:p:=by simpa using hk):p:=h
def zA (h:p:=by simpa using hs):p:=h
def aTJ (h:p:=by rw[h2];exact⟨rfl,rfl,rfl,ER _,λ_ _=>rfl⟩):p:=h
def aVS (h:p:=by cases h;exact .ret (Ez [(0,false),AU 5])):p:=h
def aQ9 (h:p:=by rw[ha];exact EC (Y6 _ _) (by rw[Hl];omega)):p:=h
def aKO (h:p:=by rw[←h.len];exact(Ip.1 h1).1):p:=h
def aGp (h:p:=by obtain⟨a,_,rfl⟩:=FB.1 u;rfl):p:=h
def aVn (h:p:=by have :=a1B s ⟨k,key,0⟩;unfold Fl at *;omega):p:=h
def a4M (h:p:=by rw[map_take hi,ha]):p:=h
def aF0 (h:p:=by simp[sizeOf,typeInfo,hi,hs]):p:=h
def a4o (h:p:=by simp[underlying,hu]):p:=h
def aDH (h:p:=by first|exact J|kernel_rfl):p:=h
def aNY (h:p:=by simp[Value.cells,List.getD,Array.getD,q]):p:=h
def jU (h:p:=by simp[hl]):p:=h
def aG9 (h:p:=by have :=eq_of_beq h;omega):p:=h
def a1E (h:p:=by simpa using J):p:=h
def aCt (h:p:=by rw[hb1];exact(I9.1 M).1):p:=h
def aJi (h:p:=by rw[BX.ag4]at J;exact J):p:=h
def a3n (h:p:=by rw[DY];exact hi):p:=h
def a2X (h:p:=by intro L;cases L):p:=h
def aAo (h:p:=by intro U;cases U):p:=h
def aMV (h:p:=by unfold MH at j;rw[ES hl]at j;exact j):p:=h
def aMi (h:p:=by simp[Array.getD,hil]at hf ⊢;exact hf):p:=h
def aEv (h:p:=by simp[underlying,hE.und]):p:=h
def aMm (h:p:=by obtain⟨a,_,rfl⟩:=FB.1 hy;exact hc a):p:=h
def aUb (h:p:=by unfold UJ at j;rw[Ef,Ef]at j;omega):p:=h
def ji (h:p:=by cases h'):p:=h
def a5E (h:p:=by simpa using hm):p:=h
def aTN (h:p:=by rw[zJ];exact fuel_lt (by decide)):p:=h
def aWG (h:p:=by simp[stepG,stepG.exec,Frame.atR]):p:=h
def aJO (h:p:=by simp[List.getD,eU e]):p:=h
def a7U (h:p:=by simp[flat]at hi):p:=h
def aBf (h:p:=by simp[List.getD,KH e]):p:=h
def aDP (h:p:=by simpa[EF]using q.symm):p:=h
def aB3 (h:p:=by rw[Ir];omega):p:=h
def aIu (h:p:=by have :=h.len';omega):p:=h
def mV (h:p:=by simp[h1]):p:=h
def aCB (h:p:=by rw[hm.hlen];exact h1):p:=h
def aGc (h:p:=by simp[World.setRow]):p:=h
def aIq (h:p:=by have :=h.len;omega):p:=h
def aEu (h:p:=by simp only[a5O,DR,BH]):p:=h
def a9r (h:p:=by apply aSD;simp):p:=h
def wH (h:p:=by rw[e];rfl):p:=h
def wB (h:p:=by rw[z];rfl):p:=h
def a8r (h:p:=by simp[go_sem]):p:=h
def a1x (h:p:=by rw[JH];exact h):p:=h
def a5o (h:p:=by simpa using hp):p:=h
def aHc (h:p:=by rw[Ef];simp;omega):p:=h
def aC4 (h:p:=by simp[underlying,ht]):p:=h
def aEw (h:p:=by rw[Ef,OC];omega):p:=h
def aJ8 (h:p:=by have :=Nj h1;omega):p:=h
def aKi (h:p:=by rw[←h.len];exact hi):p:=h
def aCp (h:p:=by simp[execOp,j];rfl):p:=h
def a7D (h:p:=by rw[Pv];omega):p:=h
def aGQ (h:p:=by simp[underlying,j]):p:=h
def aI1 (h:p:=by simp[underlying,q]):p:=h
def aGl (h:p:=by rw[Ef]at hi;omega):p:=h
def aFI (h:p:=by rw[ZN];simp;omega):p:=h
def aGG (h:p:=by simp[List.getD,u]):p:=h
def aC6 (h:p:=by simpa using this):p:=h
def a9E (h:p:=by simp[a0u,e]):p:=h
def yB (h:p:=by simp at L):p:=h
def aDK (h:p:=by rw[aHS j J];simp):p:=h
def uj (h:p:=by simp at j):p:=h
def uX (h:p:=by simp at z):p:=h
def aEJ (h:p:=by rw[I]at q;omega):p:=h
def aD1 (h:p:=by intro O;cases O):p:=h
abbrev D7:=Value.int .i64
def Ac:=@Option.bind_some
def BH:=@cond_false
def BF:=@congrArg
def DT:=@Nat.le_of_ble_eq_true
def BZ:=@cond_true
def Ef:=@List.length_append
def ES:=@List.getElem?_eq_getElem
def DY:=@List.length_map
def OC:=@List.length_singleton
def Di:=@Bool.and_eq_true
def E5:=@Option.some.inj
def EU:=@List.getElem_mem
def Hu:=@List.eq_nil_of_length_eq_zero
def EC:=@Nat.le_trans
def FB:=@List.mem_map
def I9:=@List.getElem?_eq_some_iff
def FW:=@List.all_eq_true
def Ip:=@Array.getElem?_eq_some_iff
def ER:=@Nat.le_refl
def Eu:=@Bool.not_true
def GY:=@List.getElem_of_mem
def Hl:=@List.length_take
def Gw:=@List.take_length
def Gh:=@List.length_cons
def Gv:=@List.mem_cons_self
def FP:=@List.mem_cons
def Gi:=@Go.Result.andThen_ok
def I7:=@List.mem_cons_of_mem
def JU:=@List.pairwise_iff_getElem
def G6:=@decide_eq_false
def KG:=@Array.getD_eq_getD_getElem?
def KH:=@List.getElem?_append_left
def Gf:=@List.foldl_cons
def MX:=@List.take_succ_eq_append_getElem
def H9:=@List.not_mem_nil
def FQ:=@Nat.zero_le
def Hg:=@List.mem_filter
def GZ:=@Bool.true_and
def GK:=@Go.Sem.run_bind
def Gz:=@List.map_cons
def Io:=@decide_eq_true_eq
def Ir:=@List.nil_append
def Iw:=@Go.Proofs.Tryz.underlying3
def Ia:=@List.mem_append
def JK:=@List.append_assoc
def MS:=@List.length_filter_le
def Je:=@List.mem_singleton
def Nc:=@List.drop_eq_getElem_cons
def IX:=@decide_eq_true
def ET:=@if_pos
def Hy:=@Go.Sem.run_pure
def Ja:=@List.any_eq_true
def Ee:=@if_neg
def Lu:=@Nat.mul_le_mul_right
def Qp:=@List.length_nil
abbrev Au:=IntKind.i64.wrap
def ZN n:Au n=(n+9223372036854775808)%18446744073709551616-9223372036854775808:=Go.IntKind.wrap_i64 n
def JY:=@List.map_append
def JZ:=@Bool.not_false
def Le:=@List.getElem?_map
def Qg:=@List.getElem?_append_right
def Nj:=@of_decide_eq_false
def KX:=@List.nodup_cons
def Kr:=@Option.map_some
def MC:=@beq_self_eq_true
def Oe:=@List.getElem?_eq_none
def Lr:=@Go.RowKit.Below.heap_alloc
def Lh:=@List.length_drop
def VT:=@Nat.add_assoc
def Vy:=@Nat.add_comm
def SB:=@Option.isSome_iff_exists
def Vl:=@Array.getElem?_setIfInBounds_ne
def RU:=@List.take_of_length_le
def Qy:=@Go.MapKept.run_getObj_map
def OX:=@Option.some.injEq
def LZ:=@Bool.and_true
def Ov:=@of_decide_eq_true
def Oj:=@List.flatMap_cons
def U4:=@List.getElem?_take_of_lt
def OO:=@Option.getD_some
def YU:=@Array.all_eq_true_iff_forall_mem
def LC:=@Nat.zero_add
def Ol:=@Go.Proofs.Tryz.underlying9
def P9:=@List.getElem_map
def PW:=@bne_self_eq_false
def QZ:=@List.pairwise_cons
def PN:=@List.drop_length
def Oz:=@Bool.eq_iff_iff
def QS:=@Go.Proofs.Tryz.underlying38
def RZ:=@List.filter_append
def SK:=@List.filterMap_cons
def Nv:=@Bool.or_false
def QH:=@Go.run_equalIn_int
def SN:=@Option.toList_some
def Vf:=@List.take_append_drop
def YH:=@List.mem_of_find?_eq_some
def UW:=@Bool.false_eq_true
def VD:=@Array.length_toList
def Vd:=@List.filter_sublist
def Yy:=@Array.getElem?_append_left
def NP:=@beq_iff_eq
def V8:=@Nat.eq_zero_or_pos
def YR:=@Go.World.putObj_heap_same
def Xe:=@List.findIdx_lt_length
def QB:=@Nat.add_zero
def Uw:=@List.foldl_append
def Uu:=@Int.toNat_natCast
def V3:=@List.findIdx_cons
def Ur:=@List.take_add_one
def VA:=@Go.Proofs.Tryz.underlying45
def Lc:=@if_false
def ZF:=@Go.World.putObj_heap_other
def RY:=@Bool.false_or
def dX:=@List.nodup_iff_pairwise_ne
def eU:=@List.getElem?_set_ne
def QL:=@Nat.le_of_eq
def Vk:=@List.getElem?_drop
def rY:=@Array.eq_empty_of_size_eq_zero
def Tv:=@List.append_nil
def VZ:=@List.foldlM_cons
def UY:=@List.filter_cons
def KT:=@if_true
def Vx:=@Bool.not_eq_true'
def Ws:=@List.any_eq_false
def Vh:=@Go.Proofs.Tryz.underlying32
def ZR:=@Array.getElem?_modify
def Qv:=@Bool.or_true
def YT:=@Nat.lt_of_lt_of_le
def gQ:=@List.getElem?_cons_zero
def WL:=@List.mem_flatMap
def Z9:=@List.mem_of_getElem?
def Zd:=@List.pairwise_append
def yL:=@List.takeWhile_append_dropWhile
def dR:=@Option.map_eq_some_iff
def Y3:=@Go.Proofs.Tryz.underlying34
def oZ:=@Classical.byContradiction
def rQ:=@Array.getElem?_eq_getElem
def iY:=@List.filterMap_append
def X8:=@Nat.le_of_not_lt
def Y4:=@List.ext_getElem
def WR:=@Go.heap_alloc_new
def dZ:=@List.mem_of_mem_take
def RV:=@Go.wpS_region
def mJ:=@Option.bind_eq_some_iff
def lW:=@List.getElem?_cons_succ
def sO:=@decide_eq_false_iff_not
def Z7:=@List.filter_congr
def YA:=@List.find?_cons
def WB:=@Prod.mk.injEq
def wE:=@List.getD_eq_getElem?_getD
def bV:=@Bool.not_eq_true
def Yj:=@Nat.lt_succ_self
def aT:=@List.cons_append
def Zp:=@Go.Proofs.Tryz.underlying4
def eX:=@List.mem_filterMap
def sW:=@Array.toArray_toList
def WJ:=@Nat.mul_comm
def ZE:=@Bool.or_eq_true
def nN:=@Go.World.alloc_heap_new
def Zu:=@Nat.not_lt_zero
def eM:=@List.pairwise_map
def lG:=@List.length_pos_iff
def sI:=@List.map_congr_left
def lX:=@Array.getElem?_push
def pU:=@List.filter_eq_self
def aZ:=@List.nodup_nil
def zk:=@Array.getElem?_toList
def jT:=@List.length_set
def jS:=@Go.Oper.upon_enter
def a0p:=@Go.Lib.wpList_append_run
def Yw:=@List.map_take
def pS:=@Go.Value.slice.injEq
def rO:=@List.ext_getElem?
def aC3:=@Function.comp_def
def rM:=@List.nodup_append
def lH:=@List.getElem_take
def uS:=@Nat.div_lt_of_lt_mul
def uV:=@List.mem_append_left
def aFr:=@List.set_eq_take_append_cons_drop
def V7:=@Go.wpIn_mono
def kG:=@Go.Oper.wpIn_mono
def Qo:=@Go.wpS_seq
def kF:=@Go.wp_region_list
def sH:=@Go.IntKind.wrap_u64
def a2d:=@List.getElem_append_left
def iU:=@List.map_drop
def lI:=@Nat.min_eq_left
def WA:=@Go.mem_ready
def aHj:=@List.eq_nil_iff_forall_not_mem
def a1S:=@Go.run_equalIn_string
def qL:=@beq_false_of_ne
def oH:=@Go.IntKind.wrap_u8
def nR:=@List.sum_append
def uG:=@Go.Proofs.Tryz.underlying102
def a5v:=@List.drop_of_length_le
def a8w:=@List.findIdx_le_length
def a1c:=@Go.Proofs.Tryz.underlying27
def a0m:=@Nat.lt_trichotomy
def Sub:=@Go.Proofs.Tryz.underlying22
def xJ:=@Go.Proofs.Tryz.underlying79
def lD:=@List.mem_range
def ig:=@Nat.succ_mul
def fV:=@List.map_map
def aA9:=@Nat.eq_of_beq_eq_true
def aIy:=@Array.getElem?_setIfInBounds
def aA0:=@List.mem_append_right
def a6m:=@Bool.or_eq_false_iff
def aJg:=@Array.toList_setIfInBounds
def pW:=@Go.Oper.semAt_eq
def jW:=@Nat.add_mul
def a6A:=@List.toList_toArray
def aBk:=@Array.mapM_eq_mapM_toList
def wU:=@Go.Proofs.Tryz.zeroValue3
def a1Z:=@List.take_left'
def a4E:=@List.getElem?_take
def aAt:=@Go.grownCap_le_maxLen
def o9:=@Go.Addr.add_lit
def rJ:=@Nat.lt_or_ge
def a4b:=@List.find?_eq_none
def xk:=@Bool.false_and
def aCG:=@List.pairwise_singleton
def aAO:=@Go.World.ownsRow_nil
def a5H:=@List.size_toArray
def a6S:=@Go.Proofs.Tryz.underlying82
def aMS:=@List.findIdx?_eq_some_iff_getElem
def aHQ:=@List.filter_eq_nil_iff
def qC:=@Nat.mul_one
def aJH:=@List.dropWhile_sublist
def aHH:=@List.not_of_lt_findIdx
def aCS:=@ByteArray.size_extract
def a1l:=@List.sum_cons
def a8u:=@Go.Proofs.Tryz.underlying5
def a1t:=@List.perm_middle
def iF:=@Array.ext
def a2a:=@Nat.div_add_mod
def qG:=@Nat.mod_lt
def uO:=@Go.Proofs.Tryz.sizeOf3
def a3Z:=@Go.Proofs.Tryz.zeroValue5
def a2L:=@Go.Proofs.Tryz.zeroValue9
def a2l:=@Go.Proofs.Tryz.zeroValue4
def a5l:=@List.cons.injEq
def aOn:=@List.Nodup.length_le_of_subset
def a2U:=@List.range_succ
def aAN:=@List.find?_some
def a0Z:=@Bool.not_not
def aAH:=@List.any_append
def aBE:=@Go.callsIn_of_wp_marks
def aFF:=@List.reverse_append
def a6L:=@Go.run_underlying
def a5t:=@List.drop_zero
def a5L:=@List.take_zero
def aAK:=@Nat.mul_le_mul
def wM:=@Go.setRow_heap
def a0a:=@Go.Sem.run_map
def yZ:=@Go.grownCap_ge
def SPr:=@Go.Proofs.Tryz.isAgg3
def aW8:=@Nat.min_def
def a0U:=@Int.le_refl
def aW3:=@Go.run_loadCells_list
def aDO:=@Int.natCast_nonneg
def aOE:=@Array.getElem?_append_right
def aGa:=@Go.MapKept.heap_alloc
def aGr:=@Nat.eq_or_lt_of_le
def aMP:=@List.dropWhile_cons_of_pos
def aN4:=@List.dropWhile_cons_of_neg
def a7G:=@Go.callsD_of_wpS
def aPY:=@Int.tmod_eq_emod_of_nonneg
def aFe:=@Go.run_storeCells_at
def aKR:=@List.getElem_drop
def aFQ:=@List.find?_append
def aSD:=@Array.ext'
def aRZ:=@List.mem_take_iff_getElem
def aMM:=@List.getElem?_zip_eq_some
def aBo:=@List.drop_append
def aIS:=@List.take_append
def aIZ:=@Go.World.size_alloc
def a5F:=@List.map_set
def nO:=@Go.wpS_cond
def a6Y:=@getElem!_pos
def aG3:=@decide_eq_decide
def aKU:=@List.getElem_zip
def aEA:=@List.map_reverse
def aGC:=@Nat.min_le_left
def a3z:=@Nat.one_mul
def aCI:=@List.drop_drop
def aI6:=@List.take_take
def addr_add b o j:(⟨b,o,none⟩:Addr).add j=⟨b,o+j,none⟩:=by
 unfold Addr.add;split<;>simp_all
variable {P:Ce}{Q:Exit->Act->BQ->Prop}{a:Act}{o:Oper}{ops:Bh Oper}{w:BQ}
section
variable {rest:AA Oper}
def aZq w ty b off cs(hA:(isAgg ty).run P w=.ok true w)(z:(sizeOf ty).run P w=.ok cs.size w)(I:∀j,j<cs.size->w.cell? ⟨b,off+j,none⟩=some (cs.getD j undef)):(loadVar ty ⟨b,off,none⟩).run P w=.ok (.agg cs) w:=by
 have hl:(loadCells ⟨b,off,none⟩ cs.toList.length).run P w=.ok cs.toList.toArray w:=
  aW3 (P:=P) w ⟨b,off,none⟩ cs.toList (λj v q=>by
   rw[addr_add]
   have u:j<cs.size:=by
    have :=(I9.1 q).1;simpa using this
   rw[I j u];simp only[zk]at q;simp[Array.getD,u]at q ⊢
   exact q)
 simp only[VD,sW]at hl;simp only[loadVar,GK,hA,z,Gi,KT,hl,Hy]
end
inductive D where
 |lit (v:Value)
 |agg (cs:List D)
 |sl (es:List D)
 |ref (cs:List D) (off:Nat)
 |fn (f:Fn) (first cap:List D)
 |TI (t:TypeId) (x:D)
def D.cells:D->AA D
 | .agg cs=>cs
 |x=>[x]
def D.leaf:D->AY
 | .lit v=>v.oneCell'
 | .agg _=>false
 |_=>true
abbrev EO :D:=.lit undef
abbrev cellAt (w:BQ)(b o:Nat):BG:=(w.cell? ⟨b,o,none⟩).getD undef
inductive EL (ok:Nat->Prop) (w:World):D->Value->Prop
 |lit (v:Value):EL ok w (.lit v) v
 |agg (cs:List D) (vs:Array Value) (hl:vs.size=cs.length) (hf:∀i,i<cs.length->(cs.getD i EO).leaf=true)
  (h:∀i,i<cs.length->EL ok w (cs.getD i EO) (vs.getD i undef)):EL ok w (.agg cs) (.agg vs)
 |sl0 (ad:Option Addr) (cap:Nat):EL ok w (.sl []) (.slice ad 0 cap)
 |sl (es:List D) (b off cap size:Nat) (hcap:es.length<=cap) (hok:0<es.length->0<size->ok b) (hs:∀i,i<es.length->(es.getD i EO).cells.length=size)
  (hf:∀i,i<es.length->∀j,j<size->((es.getD i EO).cells.getD j EO).leaf=true)
  (hx:∀i,i<es.length->∀j,j<size->(w.cell? ⟨b,off+(i*size+j),none⟩).isSome=true)
  (hc:∀i,i<es.length->∀j,j<size->EL ok w ((es.getD i EO).cells.getD j EO) (cellAt w b (off+(i*size+j)))):
  EL ok w (.sl es) (.slice (some ⟨b,off,none⟩) es.length cap)
 |ref (cs:List D) (off b o:Nat) (hok:0<cs.length->ok b) (hf:∀i,i<cs.length->(cs.getD i EO).leaf=true)
  (hx:∀j,j<cs.length->(w.cell? ⟨b,o+j,none⟩).isSome=true)
  (hc:∀j,j<cs.length->EL ok w (cs.getD j EO) (cellAt w b (o+j))):EL ok w (.ref cs off) (.pointer (some ⟨b,o+off,none⟩))
 |fn (f:Fn) (first cap:List D) (vs us:Array Value) (hl:vs.size=first.length) (hm:us.size=cap.length)
  (h:∀i,i<first.length->EL ok w (first.getD i EO) (vs.getD i undef)) (h':∀i,i<cap.length->EL ok w (cap.getD i EO) (us.getD i undef)):
  EL ok w (.fn f first cap) (.func f vs us)
 |TI (t:TypeId) (x:D) (v:Value) (h:EL ok w x v):EL ok w (.TI t x) (.iface t v)
def FT (ok:Nat->Prop)(w:BQ)(ok':Nat->Prop)(w':BQ):Prop:=∀b,ok b->ok' b/\w'.heap[b]? =w.heap[b]?
def FT.refl ok w:FT ok w ok w:=λ_ h=>⟨h,rfl⟩
def FT.trans {ok j q}{w z I}(h:FT ok w j z)(k:FT j z q I):FT ok w q I:=
 λb u=>⟨(k b (h b u).1).1,((k b (h b u).1).2).trans (h b u).2⟩
def FT.cell {ok ok'}{w w'}(h:FT ok w ok' w'){b o}(j:ok b):w'.cell? ⟨b,o,none⟩=w.cell? ⟨b,o,none⟩:=
 World.cell?_of_block (w:=w) (a:=⟨b,o,none⟩) (h b j).2
variable {ok ok':Nat->Prop}{v:BG}{w':BQ}
def EL.mono (I:FT ok w ok' w'){x}(h:EL ok w x v):EL ok' w' x v:=by
 induction h with
 |lit v=>exact .lit v
 |agg cs vs hl J _ z=>exact .agg cs vs hl J z
 |sl0 ad cap=>exact .sl0 ad cap
 |sl es b off cap size L q hs J M _ z=>
  have h1:∀i j,i<es.length->j<size->ok b:=λi j hi u=>q AB AB;refine .sl es b off cap size L (λh2 h3=>(I b (q h2 h3)).1) hs J (λi hi j u=>?_) (λi hi j u=>?_)
  ·rw[I.cell (h1 i j hi u)];exact M i hi j u
  unfold cellAt;rw[I.cell (h1 i j hi u)];exact z i hi j u
 |ref cs off b o q J M _ z=>
  refine .ref cs off b o (λh2=>(I b (q h2)).1) J (λj u=>?_) (λj u=>?_)
  ·rw[I.cell (q AB)];exact M j u
  unfold cellAt;rw[I.cell (q AB)];exact z j u
 |fn f first cap vs us hl hm _ _ z O=>exact .fn f first cap vs us hl hm z O
 |TI t x v _ z=>exact .TI t x v z
def EL.shrink (hs:∀b o,ok b->(w.cell? ⟨b,o,none⟩).isSome=true->ok' b){x}(h:EL ok w x v):EL ok' w x v:=by
 induction h with
 |lit v=>exact .lit v
 |agg cs vs hl u _ j=>exact .agg cs vs hl u j
 |sl0 ad cap=>exact .sl0 ad cap
 |sl es b off cap size z q J u I _ j=>exact .sl es b off cap size z (λh2 h3=>hs b _ (q h2 h3) (I 0 h2 0 h3)) J u I j
 |ref cs off b o q u I _ j=>exact .ref cs off b o (λh2=>hs b _ (q h2) (I 0 h2)) u I j
 |fn f first cap vs us hl hm _ _ j L=>exact .fn f first cap vs us hl hm j L
 |TI t x v _ j=>exact .TI t x v j
def EL.leaf {ok}{w}{x}{v}(h:EL ok w x v)(hl:x.leaf=true):v.oneCell'=true:=by
 cases h<;>first|rfl|exact hl|(simp[D.leaf]at hl)
inductive Ai where
 |d (x:D)
 |ptr (k off:Nat)
 |aS (k:Nat)
 |mF (k i off:Nat)
 |fn (f:Fn) (first cap:List Ai)
 |mp (k:Nat)
 |clip (xs:List D)
 |yE (k:Nat)
 |eP (vs:List Ai)
 |ag (vs:List Ai)
 |junk
def Ai.leaf:Ai->AY
 | .d x=>x.leaf
 | .eP _| .ag _| .junk=>false
 |_=>true
def Ai.cells:Ai->AA Ai
 | .d x=>x.cells.map .d
 | .ag xs=>xs
 |x=>[x]
inductive BX where
 |dead
 |box (cs:List Ai)
 |arr (e:TypeId) (size:Nat) (es:List D)
 |map (es:List (Value×D))
 |fK (es:List (Value×D))
 |iter (es:List (Value×D)) (vis:List Nat)
 |loop (tm:Array Value) (slots:List Ai) (rc:Array Tmp×Code×Code) (st:LoopState) (pe:Option Code)
def BX.live:BX->AY
 | .dead=>false
 |_=>true
structure CP where
 v:Value
 size:Nat:=0
inductive R (ok:Nat->Prop) (w:World) (H:List CP):Ai->Value->Prop
 |d (x:D) (v:Value) (h:EL ok w x v):R ok w H (.d x) v
 |ptr (k off b s:Nat) (h:H[k]? =some ⟨.pointer (some ⟨b,0,none⟩),s⟩):R ok w H (.ptr k off) (.pointer (some ⟨b,off,none⟩))
 |aS (k:Nat) (ad:Option Addr) (n cap s:Nat) (h:H[k]? =some ⟨.slice ad n cap,s⟩):R ok w H (.aS k) (.slice ad n cap)
 |mF (k i off b n cap s:Nat) (h:H[k]? =some ⟨.slice (some ⟨b,0,none⟩) n cap,s⟩):R ok w H (.mF k i off) (.pointer (some ⟨b,i*s+off,none⟩))
 |fn (f:Fn) (first cap:List Ai) (vs us:Array Value) (hl:vs.size=first.length) (hm:us.size=cap.length) (h:∀i,i<first.length->R ok w H (first.getD i .junk) (vs.getD i undef))
  (h':∀i,i<cap.length->R ok w H (cap.getD i .junk) (us.getD i undef)):R ok w H (.fn f first cap) (.func f vs us)
 |mp (k:Nat) (v:Value) (s:Nat) (hl:v.oneCell'=true) (h:H[k]? =some ⟨v,s⟩):R ok w H (.mp k) v
 |clip (xs:List D) (ad:Option Addr) (h:EL ok w (.sl xs) (.slice ad xs.length xs.length)):R ok w H (.clip xs) (.slice ad xs.length xs.length)
 |yE (k:Nat) (ad:Option Addr) (n cap s:Nat) (h:H[k]? =some ⟨.slice ad n cap,s⟩):R ok w H (.yE k) (.slice ad n n)
 |eP (xs:List Ai) (vs:Array Value) (hl:vs.size=xs.length) (h:∀i,i<xs.length->R ok w H (xs.getD i .junk) (vs.getD i undef)):R ok w H (.eP xs) (.tuple vs)
 |ag (xs:List Ai) (vs:Array Value) (hl:vs.size=xs.length) (hf:∀i,i<xs.length->(xs.getD i .junk).leaf=true) (h:∀i,i<xs.length->R ok w H (xs.getD i .junk) (vs.getD i undef)):R ok w H (.ag xs) (.agg vs)
 |junk (v:Value):R ok w H .junk v
def Names (H H':AA CP):Prop:=∀(k:Nat) (v:CP),H[k]? =some v->H'[k]? =some v
def Names.refl H:Names H H:=λ_ _ h=>h
def oP:=@Names.refl
variable {H H2:AA CP}
def Names.trans {H1}(h:Names H H1)(k:Names H1 H2):Names H H2:=λi v j=>k i v (h i v j)
def Names.push H H':Names H (H++H'):=λk v h=>by
 grind
def IK:=@Names.push
def R.mono {ok ok'}{w w'}{H H'}(z:FT ok w ok' w')(j:Names H H'){x}{v}(h:R ok w H x v):R ok' w' H' x v:=by
 induction h with
 |d x v h=>exact .d x v (h.mono z)
 |ptr k off b s h=>exact .ptr k off b s (j _ _ h)
 |aS k ad n cap s h=>exact .aS k ad n cap s (j _ _ h)
 |mF k i off b n cap s h=>exact .mF k i off b n cap s (j _ _ h)
 |fn f first cap vs us hl hm _ _ q u=>exact .fn f first cap vs us hl hm q u
 |mp k v s hl h=>exact .mp k v s hl (j _ _ h)
 |clip xs ad h=>exact .clip xs ad (h.mono z)
 |yE k ad n cap s h=>exact .yE k ad n cap s (j _ _ h)
 |eP xs vs hl _ q=>exact .eP xs vs hl q
 |ag xs vs hl I _ q=>exact .ag xs vs hl I q
 |junk v=>exact .junk v
def R.shrink {ok ok'}{w}(hs:∀b o,ok b->(w.cell? ⟨b,o,none⟩).isSome=true->ok' b){H}{x}{v}(h:R ok w H x v):R ok' w H x v:=by
 induction h with
 |d x v h=>exact .d x v (h.shrink hs)
 |ptr k off b s h=>exact .ptr k off b s h
 |aS k ad n cap s h=>exact .aS k ad n cap s h
 |mF k i off b n cap s h=>exact .mF k i off b n cap s h
 |fn f first cap vs us hl hm _ _ j q=>exact .fn f first cap vs us hl hm j q
 |mp k v s hl h=>exact .mp k v s hl h
 |clip xs ad h=>exact .clip xs ad (h.shrink hs)
 |yE k ad n cap s h=>exact .yE k ad n cap s h
 |eP xs vs hl _ j=>exact .eP xs vs hl j
 |ag xs vs hl u _ j=>exact .ag xs vs hl u j
 |junk v=>exact .junk v
def R.leaf {ok}{w}{H}{x}{v}(h:R ok w H x v)(hl:x.leaf=true):v.oneCell'=true:=by
 cases h with
 |d x v h=>exact h.leaf hl
 |eP=>simp[Ai.leaf]at hl
 |ag=>simp[Ai.leaf]at hl
 |junk=>simp[Ai.leaf]at hl
 |mp k v s hl h=>exact hl
 |_=>rfl
def Hd (ok:Nat->Prop)(w:BQ)(H:AA CP)(xs:AA Ai)(vs:AA BG):Prop:=
 vs.length=xs.length/\∀i,i<xs.length->(xs.getD i .junk).leaf=true/\R ok w H (xs.getD i .junk) (vs.getD i undef)
def Hd.mono {ok ok'}{w w'}{H H'}(j:FT ok w ok' w')(q:Names H H'){xs}{vs}(h:Hd ok w H xs vs):Hd ok' w' H' xs vs:=
 ⟨h.1,λi hi=>⟨(h.2 i hi).1,(h.2 i hi).2.mono j q⟩⟩
def Hd.shrink {ok ok'}{w}(hs:∀b o,ok b->(w.cell? ⟨b,o,none⟩).isSome=true->ok' b){H}{xs}{vs}(h:Hd ok w H xs vs):Hd ok' w H xs vs:=
 ⟨h.1,λi hi=>⟨(h.2 i hi).1,(h.2 i hi).2.shrink hs⟩⟩
def flat (es:AA D):AA Ai:=es.flatMap λx=>x.cells.map .d
def nM (w:BQ)(e:Bz)(size:Nat)(v:BG)(n:Nat)(xs:AA BG):Prop:=
 xs.length=n*size/\
 ((v=.slice none 0 0/\n=0)\/
  ∃g cap j,v=.slice (some ⟨g,0,none⟩) n cap/\0<=g/\w.heap[g]? =some (.cells j e (0,0))/\n<=cap/\cap<=maxLen/\cap*size<=j.size/\j.toList.take (n*size)=xs)
variable {base n size:Nat}{e:Bz}{xs:AA BG}
def nM.of (h:w.ownsRow base e size v n xs):nM w e size v n xs:=by
 refine⟨h.1,?_⟩;rcases h.2 with h2|⟨g,cap,j,h2,h3,q,u,z,I,J⟩
 ·exact .inl h2
 grind
def nM.cells (h:nM w e size v n xs){g}(z:v.ownBlock=some g):∀j u,xs[j]? =some u->w.cell? ((⟨g,0,none⟩:Addr).add j)=some u:=by
 intro j u O;rcases h.2 with⟨rfl,_⟩|⟨I,cap,J,rfl,_,L,_,_,_,M⟩
 ·simp[Value.ownBlock]at z
 simp[Value.ownBlock]at z;subst z;have q:(⟨I,0,none⟩:Addr).add j=⟨I,j,none⟩:=by unfold Addr.add;split<;>simp_all
 rw[q,cell_of_row w I j J e (0,0) L]
 grind
structure LJ (ok:Nat->Prop) (w:World) (es:List (Value×D)) (ms:Array MapEntry) (clock:Nat):Prop where
 len:ms.size=es.length
 ent:∀(i:Nat) (e:Value×D) (m:MapEntry),es[i]? =some e->ms[i]? =some m->m.key=e.1/\EL ok w e.2 m.val/\m.born<clock
 inc:∀(i j:Nat) (m n:MapEntry),i<j->ms[i]? =some m->ms[j]? =some n->m.born<n.born
def TM (ms:Bh MapEntry)(clock:Nat):Prop:=clock=ms.size/\∀(i:Nat) (e:MapEntry),ms[i]? =some e->e.born=i
def Fp (ok:Nat->Prop)(w:BQ)(H:AA CP)(h:CP):BX->Prop
 | .dead=>True
 | .box cs=>∃b vs T,h.v=.pointer (some ⟨b,0,none⟩)/\w.heap[b]? =some (.cells vs T (0,0))/\Hd ok w H cs vs.toList
 | .arr e size es=>h.size=size/\(∀x∈es,x.cells.length=size)/\∃xs,nM w e size h.v es.length xs/\Hd ok w H (flat es) xs
 | .map es=>∃b ms clock,h.v=.map (some b)/\w.heap[b]? =some (.map ms clock)/\LJ ok w es ms clock
 | .fK es=>∃b ms clock,h.v=.map (some b)/\w.heap[b]? =some (.map ms clock)/\LJ ok w es ms clock/\TM ms clock
 | .iter es vis=>∃bi q ms clock seen,h.v=.pointer (some ⟨bi,0,none⟩)/\w.heap[bi]? =some (.mapIter (some q) clock seen clock)/\ok q/\w.heap[q]? =some (.map ms clock)/\LJ ok w es ms clock/\
  seen.size=vis.length/\∀(j i:Nat),vis[j]? =some i->∃e,ms[i]? =some e/\seen[j]? =some e.born
 | .loop tm slots rc st u=>∃l fn D,h.v=.func (.yield l) #[] #[]/\w.heap[l]? =some (.loop { state:=st,pending:=u,fn,tmps:=tm,params:=rc.1,assign:=rc.2.1,body:=rc.2.2,defers:=D })/\tm.size=slots.length/\∀t,t<slots.length->R ok w H (slots.getD t .junk) (tm.getD t undef)
def EF :BG->AL Nat
 | .pointer (some a)=>some a.block
 | .slice (some a) _ _=>some a.block
 | .map (some b)=>some b
 | .func (.yield l) _ _=>some l
 |_=>none
structure zH (w0:World) (X:List Nat) (w:World):Prop where
 os:w.os=w0.os
 tape:w.tape=w0.tape
 output:w.output=w0.output
 size:w0.heap.size<=w.heap.size
 block:∀k,k<w0.heap.size->k∉X->w.heap[k]? =w0.heap[k]?
def zH.refl w X:zH w X w:=⟨rfl,rfl,rfl,ER _,λ_ _ _=>rfl⟩
def zH.below {w0}(h:zH w0 [] w):Below w0.heap.size w0 w:=⟨h.os,h.tape,h.output,h.size,λk j=>h.block k j BU⟩
structure FK where
 w0:World
 ok0:Nat->Prop
 X:List Nat
 H0:List CP
structure Dz (C:FK) (ok:Nat->Prop) (H:List CP) (es:List BX) (w:World):Prop where
 fr:zH C.w0 C.X w
 Dq:∀b,C.ok0 b->ok b
 Dt:∀b,ok b->C.ok0 b\/C.w0.heap.size<=b\/b∈C.X
 lQ:∀b,ok b->b<w.heap.size
 names:Names C.H0 H
 hlen:H.length=es.length
 ent:∀(k:Nat) (e:BX) (h:CP),es[k]? =some e->H[k]? =some h->Fp ok w H h e
 blk:∀(k:Nat) (e:BX) (h:CP) (b:Nat),es[k]? =some e->e.live=true->H[k]? =some h->EF h.v=some b->¬ok b/\b<w.heap.size/\(C.w0.heap.size<=b\/b∈C.X)
 J6:∀(k k':Nat) (e e':BX) (h h':CP) (b:Nat),es[k]? =some e->es[k']? =some e'->e.live=true->e'.live=true->H[k]? =some h->H[k']? =some h'->EF h.v=some b->EF h'.v=some b->k=k'
def Fp.mono {ok ok'}{w w'}{H H'}{h}{e}(q:FT ok w ok' w')(L:Names H H')(z:e.live=true->∀b,EF h.v=some b->w'.heap[b]? =w.heap[b]?)(I:Fp ok w H h e):Fp ok' w' H' h e:=by
 cases e with
 |dead=>trivial
 |box cs=>
  obtain⟨b,vs,T,h1,h2,h3⟩:=I;exact⟨b,vs,T,h1,aGj,h3.mono q L⟩
 |arr e s es=>
  obtain⟨h1,h2,xs,⟨h3,j⟩,u⟩:=I;refine⟨h1,h2,xs,⟨h3,?_⟩,u.mono q L⟩;rcases j with j|⟨g,cap,M,J,O,Y,Z⟩
  ·exact .inl j
  exact .inr ⟨g,cap,M,J,O,by rw[z rfl g (by rw[J];rfl)];exact Y,Z⟩
 |map es=>
  obtain⟨b,ms,clock,h1,h2,h3⟩:=I;exact⟨b,ms,clock,h1,aGj,h3.len,λi e m hi hm=>⟨(h3.ent i e m hi hm).1,(h3.ent i e m hi hm).2.1.mono q,(h3.ent i e m hi hm).2.2⟩,h3.inc⟩
 |fK es=>
  obtain⟨b,ms,clock,h1,h2,h3,j⟩:=I;exact⟨b,ms,clock,h1,aGj,⟨h3.len,λi e m hi hm=>⟨(h3.ent i e m hi hm).1,(h3.ent i e m hi hm).2.1.mono q,(h3.ent i e m hi hm).2.2⟩,h3.inc⟩,j⟩
 |iter es vis=>
  obtain⟨bi,U,ms,clock,seen,h1,h2,h3,j,u,J,O⟩:=I;exact⟨bi,U,ms,clock,seen,h1,by rw[z rfl bi yt];exact h2,(q U h3).1,by rw[(q U h3).2];exact j,⟨u.len,λi e m hi hm=>⟨(u.ent i e m hi hm).1,(u.ent i e m hi hm).2.1.mono q,(u.ent i e m hi hm).2.2⟩,u.inc⟩,J,O⟩
 |loop tm slots rc st pe=>
  obtain⟨l,fn,D,h1,h2,h3,j⟩:=I;exact⟨l,fn,D,h1,by rw[z rfl l yt];exact h2,h3,λt ht=>(j t ht).mono q L⟩
def Fp.shrink {ok ok'}{w}(hs:∀b o,ok b->(w.cell? ⟨b,o,none⟩).isSome=true->ok' b)(z:∀(b:Nat) (ms:Bh MapEntry) (c:Nat),ok b->w.heap[b]? =some (.map ms c)->ok' b){H}{h}{e}(q:Fp ok w H h e):Fp ok' w H h e:=by
 cases e with
 |dead=>trivial
 |box cs=>
  obtain⟨b,vs,T,h1,h2,h3⟩:=q;exact⟨b,vs,T,h1,h2,h3.shrink hs⟩
 |arr e s es=>
  obtain⟨h1,h2,xs,h3,j⟩:=q;exact⟨h1,h2,xs,h3,j.shrink hs⟩
 |map es=>
  obtain⟨b,ms,clock,h1,h2,h3⟩:=q;exact⟨b,ms,clock,h1,h2,h3.len,λi e m hi hm=>⟨(h3.ent i e m hi hm).1,(h3.ent i e m hi hm).2.1.shrink hs,(h3.ent i e m hi hm).2.2⟩,h3.inc⟩
 |fK es=>
  obtain⟨b,ms,clock,h1,h2,h3,u⟩:=q;exact⟨b,ms,clock,h1,h2,⟨h3.len,λi e m hi hm=>⟨(h3.ent i e m hi hm).1,(h3.ent i e m hi hm).2.1.shrink hs,(h3.ent i e m hi hm).2.2⟩,h3.inc⟩,u⟩
 |iter es vis=>
  obtain⟨bi,I,ms,clock,seen,h1,h2,h3,u,j,J,L⟩:=q;exact⟨bi,I,ms,clock,seen,h1,h2,z I ms clock h3 u,u,⟨j.len,λi e m hi hm=>⟨(j.ent i e m hi hm).1,(j.ent i e m hi hm).2.1.shrink hs,(j.ent i e m hi hm).2.2⟩,j.inc⟩,J,L⟩
 |loop tm slots rc st O=>
  obtain⟨l,fn,D,h1,h2,h3,u⟩:=q;exact⟨l,fn,D,h1,h2,h3,λt M=>(u t M).shrink hs⟩
variable {h:CP}
def Fp.drew {e}(j:Fp ok w H h e):Fp ok { w with drawn:=n } H h e:=
 Fp.mono (w:=w) (ok:=ok) (λ_ q=>⟨q,rfl⟩) (.refl _) (λ_ _ _=>rfl) j
def CG (P:Ce)(o:Oper)(ns:AA (C9×Ai))(es:AA BX)(x:Ai)(es':AA BX):Prop:=
 ∀(C:FK) (ok:Nat->Prop) (H:AA CP) (a:Act) (w:BQ) (Q:Exit->Act->BQ->Prop),
  Dz C ok H es w->(∀n∈ns,R ok w H n.2 (a.eval n.1))->
  o.wp P a w (λa' w'=>∃v ok' H',a'=a.put o.dst v/\FT ok w ok' w'/\Names H H'/\Dz C ok' H' es' w'/\R ok' w' H' x v) Q
variable {es:AA BX}{ns:AA (C9×Ai)}{x:Ai}
def CG.pure (h:∀(ok:Nat->Prop) (H:AA CP) (a:Act) (w:BQ),(∀(k:Nat) (e:BX) (h:CP),es[k]? =some e->H[k]? =some h->Fp ok w H h e)->H.length=es.length->(∀n∈ns,R ok w H n.2 (a.eval n.1))->∃v,(execOp a.eval o).run P w=.ok (.value v) w/\R ok w H x v):CG P o ns es x es:=by
 intro C ok H a w Q hm j;obtain⟨v,q,u⟩:=h ok H a w hm.ent hm.hlen j;unfold Oper.wp;rw[q];exact⟨v,ok,H,rfl,.refl _ _,.refl _,hm,u⟩
structure BN where
 slots:List Ai
 ents:List BX
 base:Nat:=0
def BN.get (σ:BN):C9->Ai
 | .tmp t=>σ.slots.getD t .junk
 | .const v=>.d (.lit v)
 | .global g=>.d (.lit (.pointer (some ⟨g,0,none⟩)))
 | .func f=>.d (.fn (.func f) [] [])
def BN.put (σ:BN)(d:AL Tmp)(x:Ai)(es:AA BX):BN:=
 ⟨match d with |some t=>σ.slots.set t x|none=>σ.slots,es,σ.base⟩
def BN.uq (σ:BN)(d:AL Tmp)(x:Ai):BN:=
 ⟨match d with |some t=>σ.slots.set t x|none=>σ.slots,σ.ents,σ.base⟩
def BN.asj (σ:BN)d x:σ.uq d x=σ.put d x σ.ents:=rfl
def Marks (C:FK)(ok:Nat->Prop)(w:BQ)(j:AA Deferred):Prop:=
 ∃Ds:AA Nat,j=Ds.map (λD=>{ target:=.collected D,args:= #[] })/\Ds.Nodup/\∀D∈Ds,ok D/\C.w0.heap.size<=D/\w.heap[D]? =some (.deferred (some []))
def Marks.nil C ok w:Marks C ok w []:=⟨[],rfl,aZ,λ_ h=>H6⟩
variable {C:FK}
def Marks.mono {q}(h:Marks C ok w q)(u:FT ok w ok' w'):Marks C ok' w' q:=by
 obtain⟨Ds,h1,h2,h3⟩:=h;exact⟨Ds,h1,h2,λD j=>⟨(u D (h3 D j).1).1,(h3 D j).2.1,((u D (h3 D j).1).2).trans (h3 D j).2.2⟩⟩
structure Holds (C:FK) (ok:Nat->Prop) (H:List CP) (σ:BN) (a:Act) (w:World):Prop where
 mem:Dz C ok H σ.ents w
 size:a.tmps.size=σ.slots.length
 defers:Marks C ok w a.defers
 base:C.H0.length=σ.base
 slot:∀t,t<σ.slots.length->R ok w H (σ.slots.getD t .junk) (a.tmps.getD t undef)
def aOC {l:AA Ai}{t}(h:¬t<l.length):l.getD t .junk=.junk:=by
 simp[List.getD,Oe (X8 h)]
variable {σ:BN}
def Holds.get (h:Holds C ok H σ a w)x:R ok w H (σ.get x) (a.eval x):=by
 cases x with
 |tmp t=>
  show R ok w H (σ.slots.getD t .junk) (a.tmps.getD t undef);by_cases j:t<σ.slots.length
  ·exact h.slot t j
  rw[aOC j];exact .junk _
 |const v=>exact .d _ _ (.lit v)
 |global g=>exact .d _ _ (.lit _)
 |func f=>exact .d _ _ (.fn (.func f) [] [] #[] #[] rfl rfl (λi hi=>Tm) (λi hi=>Tm))
def Holds.put {C}{ok ok'}{H H'}{σ}{a}{w w'}(h:Holds C ok H σ a w)d{x}{v}{es'}(q:FT ok w ok' w')(I:Names H H')(hm:Dz C ok' H' es' w')(J:R ok' w' H' x v):Holds C ok' H' (σ.put d x es') (a.put d v) w':=by
 cases d with
 |none=>exact⟨hm,h.size,h.defers.mono q,h.base,λt j=>(h.slot t j).mono q I⟩
 |some d=>
  refine⟨hm,by simp[BN.put,Act.put,h.size],h.defers.mono q,h.base,λt j=>?_⟩;simp only[BN.put,jT]at j;simp only[BN.put,Act.put];by_cases e:d=t
  ·subst e;have u:(σ.slots.set d x).getD d .junk=x:=tX
   have z:(a.tmps.setIfInBounds d v).getD d undef=v:=by simp[Array.getD,h.size,j]
   rw[u,z];exact J
  have u:(σ.slots.set d x).getD t .junk=σ.slots.getD t .junk:=aJO
  have z:(a.tmps.setIfInBounds d v).getD t undef=a.tmps.getD t undef:=by simp[KG,Vl e]
  rw[u,z];exact(h.slot t j).mono q I
def Ai.wo (π:AA (Nat×AY)):Ai->Ai
 | .d x=>.d x
 | .ptr k off=>match π.idxOf? (k,true)with |some j=>.ptr j off|none=>.junk
 | .aS k=>match π.idxOf? (k,true)with |some j=>.aS j|none=>.junk
 | .mF k i off=>match π.idxOf? (k,true)with |some j=>.mF j i off|none=>.junk
 | .mp k=>match π.idxOf? (k,true)with |some j=>.mp j|none=>.junk
 | .yE k=>match π.idxOf? (k,true)with |some j=>.yE j|none=>.junk
 | .clip xs=>.clip xs
 |_=>.junk
def Ai.back (π:AA (Nat×AY)):Ai->Ai
 | .fn f first cap=>.fn f (first.map (Ai.wo π)) (cap.map (Ai.wo π))
 | .eP vs=>.eP (vs.map (Ai.wo π))
 |x=>x.wo π
def BX.back (π:AA (Nat×AY)):BX->BX
 | .dead=>.dead
 | .box cs=>.box (cs.map (Ai.wo π))
 | .arr e s es=>.arr e s es
 | .map es=>.map es
 | .fK es=>.fK es
 | .iter es vis=>.iter es vis
 | .loop tm slots rc st j=>.loop tm (slots.map (Ai.back π)) rc st j
variable {j k:Nat}{π:AA (Nat×AY)}
def yg (q:π.idxOf? (k,true)=some j)(u:H[k]? =some h):(π.map λp=>H.getD p.1 ⟨undef,0⟩)[j]? =some h:=by
 rw[List.idxOf?,aMS]at q
 grind
def R.wo {ok}{w}{H}π{x}{v}(h:R ok w H x v):R ok w (π.map λp=>H.getD p.1 ⟨undef,0⟩) (x.wo π) v:=by
 cases h with
 |d x v h=>exact .d x v h
 |ptr k off b s h=>
  simp only[Ai.wo];split<;>rename_i j q
  ·exact .ptr _ off b s (yg q h)
  exact .junk _
 |aS k ad n cap s h=>
  simp only[Ai.wo];split<;>rename_i j q
  ·exact .aS _ ad n cap s (yg q h)
  exact .junk _
 |mF k i off b n cap s h=>
  simp only[Ai.wo];split<;>rename_i j q
  ·exact .mF _ i off b n cap s (yg q h)
  exact .junk _
 |mp k v s hl h=>
  simp only[Ai.wo];split<;>rename_i j q
  ·exact .mp _ v s hl (yg q h)
  exact .junk _
 |clip xs ad h=>exact .clip xs ad h
 |yE k ad n cap s h=>
  simp only[Ai.wo];split<;>rename_i j q
  ·exact .yE _ ad n cap s (yg q h)
  exact .junk _
 |fn f first cap vs us hl hm h h'=>exact .junk _
 |eP xs vs hl h=>exact .junk _
 |ag xs vs hl u h=>exact .junk _
 |junk v=>exact .junk _
def Vo (f:Ai->Ai)(l:AA Ai)i(h:i<l.length):(l.map f).getD i .junk=f (l.getD i .junk):=by
 simp[List.getD,h]
def R.back π(h:R ok w H x v):R ok w (π.map λp=>H.getD p.1 ⟨undef,0⟩) (x.back π) v:=by
 cases h with
 |fn f first cap vs us hl hm h h'=>
  exact .fn f _ _ vs us jU (by simp[hm]) (λi hi=>aMg) (λi hi=>by rw[DY]at hi;rw[Vo _ _ _ hi];exact(h' i hi).wo π)
 |eP xs vs hl h=>exact .eP _ vs jU (λi hi=>aMg)
 |ag xs vs hl j h=>exact .junk _
 |d x v h=>exact(R.d x v h).wo π
 |ptr k off b s h=>exact(R.ptr k off b s h).wo π
 |aS k ad n cap s h=>exact(R.aS k ad n cap s h).wo π
 |mF k i off b n cap s h=>exact(R.mF k i off b n cap s h).wo π
 |mp k v s hl h=>exact(R.mp k v s hl h).wo π
 |clip xs ad h=>exact(R.clip xs ad h).wo π
 |yE k ad n cap s h=>exact(R.yE k ad n cap s h).wo π
 |junk v=>exact .junk _
def BX.backOk (π:AA (Nat×AY)):BX->AY
 | .box cs=>cs.all λx=>(x.wo π).leaf
 |_=>true
def Vw (base:Nat)(es:AA BX)(π:AA (Nat×AY)):AY:=
 π.all (λp=>p.1<es.length)&&decide ((π.filterMap λp=>if p.2 then some p.1 else none).Nodup)&&((π.take base).map (·.1)==List.range base)&&π.all λp=>(es.getD p.1 .dead).backOk π
def U5 (es:AA BX)(π:AA (Nat×AY)):AA BX:=π.map λp=>if p.2 then(es.getD p.1 .dead).back π else .dead
def aQP :∀{π:AA (Nat×AY)},(π.filterMap λp=>if p.2 then some p.1 else none).Nodup->∀(i j k:Nat),π[i]? =some (k,true)->π[j]? =some (k,true)->i=j
 | [],_,i,j,k,h,_=>JD
 |p::π,z,i,j,k,hi,u=>by
  have q:∀(n:Nat),π[n]? =some (k,true)->k∈π.filterMap λp=>if p.2 then some p.1 else none:=λn h=>by
   grind
  have I:(π.filterMap λp=>if p.2 then some p.1 else none).Nodup:=by
   grind
  match i,j with
  |0,0=>
   rfl
  |0,j+1=>
   simp at hi u;subst hi;simp only[SK,KT]at z;exact absurd (q j u) (KX.1 z).1
  |i+1,0=>
   simp at hi u;subst u;simp only[SK,KT]at z;exact absurd (q i hi) (KX.1 z).1
  |i+1,j+1=>
    rw[aQP I i j k IZ SY]
def Fp.back {ok}{w}{H}{h}{e}π(I:e.backOk π=true)(j:Fp ok w H h e):Fp ok w (π.map λp=>H.getD p.1 ⟨undef,0⟩) h (e.back π):=by
 cases e with
 |dead=>trivial
 |box cs=>
  obtain⟨b,vs,T,h1,h2,h3,q⟩:=j;refine⟨b,vs,T,h1,h2,YL,λi hi=>?_⟩;rw[DY]at hi;rw[Vo _ _ _ hi];refine⟨?_,(q i hi).2.wo π⟩;simp only[BX.backOk,FW]at I;exact I _ OH
 |arr e s es=>
  obtain⟨h1,h2,xs,h3,q,J⟩:=j;refine⟨h1,h2,xs,h3,q,λi hi=>⟨(J i hi).1,?_⟩⟩;have u:=(J i hi).2;have hm:(flat es).getD i .junk∈flat es:=OH
  unfold flat at hm ⊢;simp only[WL,FB]at hm;obtain⟨x,_,y,_,L⟩:=hm;unfold flat at u;rw[←L]at u ⊢;cases u with |d _ _ h=>exact .d _ _ h
 |map es=>exact j
 |fK es=>exact j
 |iter es vis=>exact j
 |loop tm slots rc st M=>
  obtain⟨l,fn,D,h1,h2,h3,q⟩:=j;refine⟨l,fn,D,h1,h2,YL,λt z=>?_⟩;rw[DY]at z;rw[Vo _ _ _ z];exact(q t z).back π
def aRb {e:BX}:(e.back π).live=e.live:=by cases e<;>rfl
def Dz.norm (hm:Dz C ok H es w)π(U:Vw C.H0.length es π=true):
 Dz C ok (π.map λp=>H.getD p.1 ⟨undef,0⟩) (U5 es π) w:=by
 unfold Vw at U;simp only[Di,Io,NP,FW]at U;obtain⟨⟨⟨hlt,hnd⟩,hpre⟩,hbk⟩:=U
 have u:∀(j:Nat) (h:CP),(π.map λp=>H.getD p.1 ⟨undef,0⟩)[j]? =some h->∃p,π[j]? =some p/\p.1<es.length/\H[p.1]? =some h:=by
  intro j h q;rw[Le]at q;cases hp:π[j]? with
  |none=>rw[hp]at q;simp at q
  |some p=>
   rw[hp]at q;have z:p.1<es.length:=hlt p (Z9 hp);refine⟨p,rfl,z,?_⟩;have hkH:p.1<H.length:=by rw[hm.hlen];exact z
   simp[List.getD,hkH]at q ⊢;exact q
 have I:∀(j:Nat) (p:Nat×AY) (e:BX),(U5 es π)[j]? =some e->π[j]? =some p->p.1<es.length->(p.2=false/\e=.dead)\/(p.2=true/\∃M,es[p.1]? =some M/\e=M.back π/\p∈π):=by
  intro j p e q hp z;unfold U5 at q;rw[Le,hp]at q;cases Z:p.2 with
  |false=>simp[Z]at q;exact .inl ⟨rfl,q.symm⟩
  |true=>
   simp[Z,List.getD,z]at q;exact .inr ⟨rfl,es[p.1],by simp[z],q.symm,Z9 hp⟩
 refine⟨hm.fr,hm.Dq,hm.Dt,hm.lQ,?_,by simp[U5],?_,?_,?_⟩
 ·intro k v hv;have z:k<C.H0.length:=(I9.1 hv).1;have h1:((π.take C.H0.length).map (·.1))[k]? =some k:=by rw[hpre];simp[z]
  rw[Le,U4 z]at h1;have h2:=hm.names k v hv;cases hp:π[k]? with
  |none=>rw[hp]at h1;simp at h1
  |some p=>
   rw[hp]at h1;have hpk:p.1=k:=V9
   rw[Le,hp];simp[List.getD,hpk,h2]
 ·intro j e h q hh;obtain⟨p,hp,z,hH⟩:=u j h hh;rcases I j p e q hp z with⟨_,rfl⟩|⟨_,M,J,rfl,L⟩
  ·trivial
  refine(hm.ent p.1 M h J hH).back π ?_;have :=hbk p L;simpa[List.getD,J]using this
 ·intro j e h b q hl hh Z;obtain⟨p,hp,z,hH⟩:=u j h hh;rcases I j p e q hp z with⟨_,rfl⟩|⟨_,M,J,rfl,L⟩
  ·cases hl
  rw[aRb]at hl;exact hm.blk p.1 M h b J hl hH Z
 intro j j' e e' h h' b q hj' hl Y hh hh' Z hb';obtain⟨p,hp,z,hH⟩:=u j h hh;obtain⟨p',hp',hk',hH'⟩:=u j' h' hh';rcases I j p e q hp z with⟨_,rfl⟩|⟨hpt,M,J,rfl,L⟩
 ·cases hl
 rcases I j' p' e' hj' hp' hk' with⟨_,rfl⟩|⟨O,e0',aMt,rfl,hmem'⟩
 ·cases Y
 rw[aRb]at hl Y;have hkk:=hm.J6 p.1 p'.1 M e0' h h' b J aMt hl Y hH hH' Z hb';obtain⟨k,bb⟩:=p;obtain⟨k',bb'⟩:=p';simp only at hkk hpt O;subst hkk;subst hpt;subst O;exact aQP hnd j j' k hp hp'
def NQ (π:AA (Nat×AY)):AA AY->AA Ai->AA Ai
 |_,[]=>[]
 |true::m,x::xs=>x.back π::NQ π m xs
 |false::m,_::xs=>.junk::NQ π m xs
 | [],_::xs=>.junk::NQ π [] xs
def a4s π:∀(m:AA AY) (l:AA Ai),(NQ π m l).length=l.length
 |_,[]=>by unfold NQ;rfl
 |true::m,x::xs=>by simp[NQ,a4s π m xs]
 |false::m,x::xs=>by simp[NQ,a4s π m xs]
 | [],x::xs=>by simp[NQ,a4s π [] xs]
def a5D π:∀(m:AA AY) (l:AA Ai) (t:Nat),(NQ π m l).getD t .junk=(l.getD t .junk).back π\/(NQ π m l).getD t .junk=.junk
 |_,[],t=>by unfold NQ;right;simp
 |true::m,x::xs,0=>by left;simp[NQ]
 |false::m,x::xs,0=>by right;simp[NQ]
 | [],x::xs,0=>by right;simp[NQ]
 |true::m,x::xs,t+1=>by simpa[NQ]using a5D π m xs t
 |false::m,x::xs,t+1=>by simpa[NQ]using a5D π m xs t
 | [],x::xs,t+1=>by simpa[NQ]using a5D π [] xs t
def a4Y (σ S:BN):Prop:=∃(m:AA AY) (π:AA (Nat×AY)),Vw σ.base σ.ents π=true/\S=⟨NQ π m σ.slots,U5 σ.ents π,σ.base⟩
variable {S:BN}
def Holds.aMu (h:Holds C ok H σ a w)(hs:a4Y σ S):∃H',Holds C ok H' S a w:=by
 obtain⟨m,π,j,rfl⟩:=hs;refine⟨π.map λp=>H.getD p.1 ⟨undef,0⟩,h.mem.norm π (h.base▸j),by simp[a4s,h.size],h.defers,h.base,λt q=>?_⟩;rcases a5D π m σ.slots t with e|e
 ·simp only[e];exact(h.get (.tmp t)).back π
 simp only[e];exact .junk _
def CO (σ S:BN):Prop:=∀(C:FK) (ok:Nat->Prop) (H:AA CP) (a:Act) (w:BQ),Holds C ok H σ a w->∃ok' H',Holds C ok' H' S a w
def a4Y.sub (h:a4Y σ S):CO σ S:=λ_ ok _ _ _ j=>let⟨H',h'⟩:=j.aMu h;⟨ok,H',h'⟩
def alV j(h:∀C ok H a w,Holds C ok H σ a w->∃ok',Holds C ok' H j a w)(k:CO j S):CO σ S:=λC _ H a w q=>let⟨ok',h'⟩:=h C _ H a w q;k C ok' H a w h'
variable {d:AL Tmp}{i:Nat}
def toCome (j:Bh AY):Nat:=(j.toList.filter (!·)).length
def toCome_set {j}(hi:i<j.size)(h:j.getD i true=false):toCome (j.setIfInBounds i true)+1=toCome j:=by
 unfold toCome;have hl:j.toList[i]' IZ=false:=by simpa[Array.getD,hi]using h
 have e:j.toList=j.toList.take i++false::j.toList.drop (i+1):=by
  rw[←hl,List.getElem_cons_drop,Vf]
 have q:(j.setIfInBounds i true).toList=j.toList.take i++true::j.toList.drop (i+1):=by
  rw[aJg,aFr,ET IZ]
 rw[q]
 conv=>rhs;rw[e]
 simp[RZ];omega
def written (ops:Bh Oper):AA Tmp:=ops.toList.filterMap (·.dst)
def YZ (ops:Bh Oper):AY:=(List.range ops.size).all λi=>(List.range ops.size).all λj=>i==j||match(ops[i]?).bind (·.dst),(ops[j]?).bind (·.dst)with
 |some d,some q=>d != q
 |_,_=>true
def dH (ops:Bh Oper)(n:Nat):AY:=(written ops).all λd=>d<n
def abf (h:YZ ops=true):∀(i j:Nat) (o q:Oper) (d:Tmp),ops[i]? =some o->ops[j]? =some q->o.dst=some d->q.dst=some d->i=j:=by
 intro i j o q d h1 h2 h3 u;unfold YZ at h;rw[FW]at h;have hi:i<ops.size:=(Ip.1 h1).1;have z:j<ops.size:=(Ip.1 h2).1;have :=h i IZ;rw[FW]at this;have :=this j aI;rw[h1,h2]at this;simp[h3,u]at this;exact this
def ag8 {d}(h:ops[i]? =some o)(hd:o.dst=some d):d∈written ops:=by
 unfold written;rw[eX]
 exact⟨o,by
  have⟨hi,j⟩:=Ip.1 h
  rw[←j];exact Array.getElem_mem_toList hi,hd⟩
def alm {d}(h:d<a.tmps.size):(a.put (some d) v).tmps.getD d undef=v:=by
 simp[Act.put,Array.getD,h]
def afz {d t}(h:d≠t):(a.put (some d) v).tmps.getD t undef=a.tmps.getD t undef:=by
 simp[Act.put,KG,Vl h]
def size_put:(a.put d v).tmps.size=a.tmps.size:=by cases d<;>simp[Act.put]
def aiV:(a.put d v).defers=a.defers:=by cases d<;>rfl
def Xf (ops:Bh Oper)(σ:BN)(g:AL (Nat×AY)):Prop:=g=none\/
 ∃j q d b,g=some (j,q)/\(ops[j]?).bind (·.dst)=some d/\σ.slots.getD d .junk=.d (.lit (.bool b))/\b=q
def Zo (ops:Bh Oper)(σ:BN)(g:AL (Nat×AY)):Prop:=
 ∃j q d v,g=some (j,q)/\(ops[j]?).bind (·.dst)=some d/\σ.slots.getD d .junk=.d (.lit v)/\(v=.bool (!q)\/v=undef)
variable {g:AL (Nat×AY)}
def aXs j q d b(u:g=some (j,q))(hd:(ops[j]?).bind (·.dst)=some d)(hs:σ.slots.getD d .junk=.d (.lit (.bool b)))(z:b= !q):Zo ops σ g:=⟨j,q,d,_,u,hd,hs,.inl (by rw[z])⟩
def aks j q d(u:g=some (j,q))(hd:(ops[j]?).bind (·.dst)=some d)(hs:σ.slots.getD d .junk=.d (.lit undef)):Zo ops σ g:=⟨j,q,d,_,u,hd,hs,.inr rfl⟩
variable {u:BG}
def R.bool (h:R ok w H (.d (.lit u)) v):v=u:=by
 cases h with |d _ _ h=>cases h;rfl
variable {d:Nat}
def afU (h:Holds C ok H σ a w)(u:(ops[j]?).bind (·.dst)=some d)(z:σ.slots.getD d .junk=.d (.lit v)):yielded ops a.tmps j=(match v with | .bool b=>some b|_=>none):=by
 have hd:d<σ.slots.length:=by
  grind
 have q:=(z▸h.slot d hd).bool
 have hs:a.tmps[d]? =some v:=by
  have :d<a.tmps.size:=by rw[h.size];exact hd
  simp[Array.getD,this]at q;simp[this,q]
 unfold yielded;rw[u];simp only[Ac,hs];cases v<;>rfl
variable {b:AY}
def al3 (h:Holds C ok H σ a w)(u:(ops[j]?).bind (·.dst)=some d)(z:σ.slots.getD d .junk=.d (.lit (.bool b))):yielded ops a.tmps j=some b:=by
 have hd:d<σ.slots.length:=by
  grind
 have q:=(z▸h.slot d hd).bool
 have hs:a.tmps[d]? =some (.bool b):=by
  have :d<a.tmps.size:=by rw[h.size];exact hd
  simp[Array.getD,this]at q;simp[this,q]
 unfold yielded;rw[u];simp only[Ac,hs]
def Wp (h:Holds C ok H σ a w)(q:Xf ops σ o.guard):Region.wanted o (yielded ops a.tmps)=true:=by
 unfold Region.wanted;rcases q with q|⟨j,u,d,b,q,z,I,rfl⟩
 ·rw[q]
 rw[q];show(yielded ops a.tmps j==some b)=true;rw[al3 h z I];simp
def aHS (h:Holds C ok H σ a w)(u:Zo ops σ o.guard):Region.wanted o (yielded ops a.tmps)=false:=by
 unfold Region.wanted;obtain⟨j,q,d,v,u,z,I,J⟩:=u;rw[u];show(yielded ops a.tmps j==some q)=false;rw[afU h z I];rcases J with rfl|rfl
 ·simp
 rfl
def needs (σ:BN):AA (C9×Ai)->Prop
 | []=>True
 |n::ns=>σ.get n.1=n.2/\needs σ ns
def Yo {σ}:∀{ns:AA (C9×Ai)},needs σ ns->∀n∈ns,σ.get n.1=n.2
 | [],_,n,h=>JD
 |m::ns,j,n,h=>by
  rcases FP.1 h with rfl|h
  ·exact j.1
  exact Yo j.2 n h
def tmpsOf (o:Oper):AA Tmp:=o.op.operands.toList.filterMap λ| .tmp t=>some t|_=>none
def Oo (ns:AA (C9×Ai)):AA Tmp:=ns.filterMap λn=>match n.1 with | .tmp t=>some t|_=>none
def Rj (P:Ce)(ops:Bh Oper)(σ:BN)(x:Ai)(E:AA BX)(bar:AY)(o:Oper):Prop:=
 ((∃ns,CG P o ns σ.ents x E/\needs σ ns/\(Oo ns).all (tmpsOf o).contains=true/\Xf ops σ o.guard)\/(x=.d (.lit undef)/\E=σ.ents/\Zo ops σ o.guard))/\(bar=false->E=σ.ents)
def aRa (h:CG P o ns σ.ents x σ.ents)(j:needs σ ns)(q:Xf ops σ o.guard)(u:(Oo ns).all (tmpsOf o).contains=true):Rj P ops σ x σ.ents false o:=
 ⟨.inl ⟨ns,h,j,u,q⟩,λ_=>rfl⟩
variable {es':AA BX}
def CG.cast {j}(h:CG P o ns es x es')(e:x=j):CG P o ns es j es':=e▸h
def aPM {c}(h:some b=some c):Ai.d (.lit (.bool b))=Ai.d (.lit (.bool c)):=by rw[E5 h]
def KA (ro:AL Nat):Fence:={ fn:=λ_=>True,depth:=none,alive:=false,round:=ro }
variable {args:Bh BG}{ro:AL Nat}
def a4T {f}{R}:CallsIn (KA ro) n P f args w R↔Calls P f args w R:=
 callsIn_wide (n:=n)
def abH {j}{R}(h:Rows P j args w R):RowsIn (KA ro) n P j args w R:=
 λc cs _=>let⟨v,w',r,s⟩:=h c cs;⟨v,w',r,(stepsIn_wide (P:=P)).2 s⟩
def CG.aH4 (h:CG P o ns es x es')(hm:Dz C ok H es w)(u:∀n∈ns,R ok w H n.2 (a.eval n.1)):∀c,o.op≠ .defer c:=by
 intro c z;have j:=h C ok H a w (λ_ _ _=>False) hm u;unfold Oper.wp execOp at j;rw[z]at j;simp only[GK]at j;cases q:(resolve a.eval c o.type).run P w with
 |ok d w'=>
  rw[q]at j;simp only[Result.andThen]at j;obtain⟨v,_,_,I,_⟩:=j;have :=BF (λa=>a.defers.length) I;cases J:o.dst<;>simp[Act.put,J]at this
 |halt x w'=>
  rw[q]at j;cases x<;>exact j
def CG.inR (h:CG P o ns es x es')ro C ok H a w Q(hm:Dz C ok H es w)(j:∀n∈ns,R ok w H n.2 (a.eval n.1)):
 o.wpIn (KA ro) 0 P a w (λa' w'=>∃v ok' H',a'=a.put o.dst v/\FT ok w ok' w'/\Names H H'/\Dz C ok' H' es' w'/\R ok' w' H' x v) Q:=by
 have h1:=h C ok H a w Q hm j;refine⟨λ_ _=>trivial,?_⟩;rw[pW _ _ _ (h.aH4 hm j)];unfold Oper.wp at h1;generalize(execOp a.eval o).run P w=r at h1;cases r with
 |ok n w'=>
  cases n<;>first
   |exact h1
   |exact h1.elim
   |exact⟨λh=>H6,a4T.2 h1⟩
   |exact⟨λh=>H6,abH h1⟩
 |halt x w'=>cases x<;>exact h1
inductive Chain (P:Program) (ops:Array Oper):List Oper->BN->BN->Prop
 |nil (σ:BN):Chain P ops [] σ σ
 |op {o:Oper} {rest:List Oper} {σ σ':BN} {ns:List (Operand×Ai)} {x:Ai} (d:Option Tmp) (h:CG P o ns σ.ents x σ.ents) (hn:needs σ ns) (hg:Xf ops σ o.guard) (hd:o.dst=d)
  (k:Chain P ops rest (σ.uq d x) σ'):Chain P ops (o::rest) σ σ'
 |oe {o:Oper} {rest:List Oper} {σ σ':BN} {ns:List (Operand×Ai)} {x:Ai} {es':List BX} (d:Option Tmp) (E:List BX) (h:CG P o ns σ.ents x es') (he:es'=E) (hn:needs σ ns) (hg:Xf ops σ o.guard) (hd:o.dst=d)
  (k:Chain P ops rest (σ.put d x E) σ'):Chain P ops (o::rest) σ σ'
 |skip {o:Oper} {rest:List Oper} {σ σ':BN} (d:Option Tmp) (hg:Zo ops σ o.guard) (hd:o.dst=d) (k:Chain P ops rest (σ.uq d (.d (.lit undef))) σ'):Chain P ops (o::rest) σ σ'
 |any {o:Oper} {rest:List Oper} {σ σ':BN} {x:Ai} (d:Option Tmp) (h:Rj P ops σ x σ.ents false o) (hd:o.dst=d) (k:Chain P ops rest (σ.uq d x) σ'):Chain P ops (o::rest) σ σ'
 |asn {o:Oper} {rest:List Oper} {σ σ':BN} {x:Ai} {E:List BX} {bar:Bool} (d:Option Tmp) (h:Rj P ops σ x E bar o) (hd:o.dst=d) (k:Chain P ops rest (σ.put d x E) σ'):Chain P ops (o::rest) σ σ'
 |conv {rest:List Oper} {σ σ':BN} (σ2:BN) (h:∀C ok H a w,Holds C ok H σ a w->∃ok',Holds C ok' H σ2 a w) (k:Chain P ops rest σ2 σ'):Chain P ops rest σ σ'
def Qn :Code->AY
 | .seq a b=>Qn a&&Qn b
 | .cond _ a b=>Qn a&&Qn b
 | .block _ a=>Qn a
 | .loop a=>Qn a
 | .scope a=>Qn a
 | .rangeFunc .. =>false
 |_=>true
def xR (ro:AL Nat)(c:Code):Prop:=ro=none\/Qn c=true
variable {c x y:Code}
def xR.two (h:xR ro c)(e:Qn c=(Qn x&&Qn y)):xR ro x/\xR ro y:=by
 rcases h with h|h
 ·exact⟨.inl h,.inl h⟩
 rw[e,Di]at h;exact⟨.inr h.1,.inr h.2⟩
def adf (P:Ce)(c:Code)(σ:BN)(Q:Exit->BN->Prop):Prop:=
 ∀(ro:AL Nat),xR ro c->∀(C:FK) (ok:Nat->Prop) (H:AA CP) (a:Act) (w:BQ),Holds C ok H σ a w->c.wpIn (KA ro) 0 P (λe a' w'=>∃ok' H' σ',Holds C ok' H' σ' a' w'/\Q e σ') a w
structure Bq (P:Program) (c:Code) (σ:BN) (Q:Exit->BN->Prop):Prop where
 run:adf P c σ Q
section
variable {P:Ce} {σ σ':BN} {Q:Exit->BN->Prop}
def Bq.mono {Q'}(h:Bq P c σ Q)(j:∀e σ,Q e σ->Q' e σ):Bq P c σ Q':=
 ⟨λro q C ok H a w u=>V7 (h.run ro q C ok H a w u) λ_ _ _ ⟨ok',H',σ',h1,h2⟩=>⟨ok',H',σ',h1,j _ _ h2⟩⟩
def Bq.skip (h:Q .normal σ):Bq P .skip σ Q:=⟨λ_ _ _ ok H a w j=>wpIn_skip ⟨ok,H,σ,j,h⟩⟩
def F9:=@Bq.skip
def Bq.label {l}(h:Q .normal σ):Bq P (.label l) σ Q:=⟨λ_ _ _ ok H a w j=>wpIn_label ⟨ok,H,σ,j,h⟩⟩
def Bq.exit {i}(h:Q (.exit i) σ):Bq P (.exit i) σ Q:=⟨λ_ _ _ ok H a w j=>wpIn_exit ⟨ok,H,σ,j,h⟩⟩
def CZ:=@Bq.exit
def Bq.ret (h:Q .ret σ):Bq P .ret σ Q:=⟨λ_ _ _ ok H a w j=>wpIn_ret ⟨ok,H,σ,j,h⟩⟩
def Eb:=@Bq.ret
def KD (K:BN->Prop)(Q:Exit->BN->Prop):Exit->BN->Prop
 | .normal,σ=>K σ
 |e,σ=>Q e σ
def Bq.seq K(q:Bq P x σ (KD K Q))(u:∀σ',K σ'->Bq P y σ' Q):Bq P (.seq x y) σ Q:=⟨λro j C ok H a w z=>
 wpIn_seq (V7 (q.run ro (j.two rfl).1 C ok H a w z) (by
  rintro e a' w' ⟨ok',H',σ',h1,h2⟩;cases e with
  |normal=>exact(u σ' h2).run ro (j.two rfl).2 C ok' H' a' w' h1
  |_=>exact⟨ok',H',σ',h1,h2⟩))⟩
def Bq.seq1 j(q:Bq P x σ (KD (λσ'=>σ'=j) Q))(u:Bq P y j Q):Bq P (.seq x y) σ Q:=Bq.seq _ q (λ_ e=>e▸u)
def Bq.cond {c}b(u:σ.get c=.d (.lit (.bool b)))(z:b=true->Bq P x σ Q)(I:b=false->Bq P y σ Q):Bq P (.cond c x y) σ Q:=by
 refine⟨λro q C ok H a w j=>?_⟩;have e:=(u▸j.get c).bool;exact wpIn_cond_split e (λh=>(z h).run ro (q.two rfl).1 C ok H a w j) (λh=>(I h).run ro (q.two rfl).2 C ok H a w j)
def aWX (i:Nat)(Q:Exit->BN->Prop):Exit->BN->Prop
 | .exit j,σ=>if j=i then Q .normal σ else Q (.exit j) σ
 |e,σ=>Q e σ
def Bq.block {i}{c}(h:Bq P c σ (aWX i Q)):Bq P (.block i c) σ Q:=⟨λro u C ok H a w z=>
 wpIn_block (V7 (h.run ro u C ok H a w z) (by
  rintro e a' w' ⟨ok',H',σ',h1,h2⟩;cases e with
  |exit j=>
   show if j=i then _ else _
   simp only[aWX]at h2;split<;>rename_i q
   ·rw[ET q]at h2;exact⟨ok',H',σ',h1,h2⟩
   rw[Ee q]at h2;exact⟨ok',H',σ',h1,h2⟩
  |_=>exact⟨ok',H',σ',h1,h2⟩))⟩
def Aj:=@Bq.block
def aby {P}{Q}(I:Nat->Act->BQ->Prop)(round:∀n a w,I n a w->c.wpIn (KA ro) 0 P (Exit.then (λa' w'=>∃m,m<n/\I m a' w') Q) a w):∀n a w,I n a w->(Code.loop c).wpIn (KA ro) 0 P Q a w:=by
 intro n a w Z b k cs J L M
 have key:∀n a w,I n a w->∃e a' w',Q e a' w'/\ArrivesIn (Machine.fenced P (KA ro)) P (lone (b.atR a (.code c::.inLoop c::k)) cs w) b k cs e a' w':=by
  intro n
  induction n using Nat.strongRecOn with
  |_ n ih=>
   intro a w hI;obtain⟨e,u,z,j,harr⟩:=round n a w hI b (.inLoop c::k) cs J L M;cases e with
   |normal=>
    obtain⟨m,O,U⟩:=j;obtain⟨e₂,a₂,w₂,Y,q⟩:=ih m O u z U;exact⟨e₂,a₂,w₂,Y,.of_steps (StepsIn.trans harr (.one (fenced_calm L M rfl) stepR_inLoop)) q⟩
   |exit id=>exact⟨_,u,z,j,.pass (x:=.inLoop c) rfl (λ_ _=>.inl BU) harr⟩
   |goto l=>exact⟨_,u,z,j,.pass (x:=.inLoop c) rfl (λ_ _=>.inl BU) harr⟩
   |ret=>exact⟨_,u,z,j,.pass (x:=.inLoop c) rfl (λ_ _=>.inl BU) harr⟩
   |panic ch=>exact⟨_,u,z,j,.pass (x:=.inLoop c) rfl (λ_ _=>.inl BU) harr⟩
   |outgrown=>exact⟨_,u,z,j,.pass (x:=.inLoop c) rfl (λ_ _=>.inl BU) harr⟩
 obtain⟨e,a',w',j,harr⟩:=key n a w Z;exact⟨e,a',w',j,.of_steps (.one (fenced_calm L M rfl) stepR_loop) harr⟩
def Bq.loop (I:Nat->BN->Prop)n(h:I n σ)(round:∀n σ,I n σ->Bq P c σ (KD (λσ'=>∃m,m<n/\I m σ') Q)):Bq P (.loop c) σ Q:=by
 refine⟨λro u C ok H a w j=>?_⟩;refine aby (λn a w=>∃ok H σ,Holds C ok H σ a w/\I n σ) ?_ n a w ⟨ok,H,σ,j,h⟩;rintro n a w ⟨ok,H,σ,j,z⟩;refine V7 ((round n σ z).run ro u C ok H a w j) ?_;rintro e a' w' ⟨ok',H',σ',h1,h2⟩;cases e with
 |normal=>obtain⟨m,hm,q⟩:=h2;exact⟨m,hm,ok',H',σ',h1,q⟩
 |_=>exact⟨ok',H',σ',h1,h2⟩
end
def kS {P}{σ S}{Q}{c}(hs:CO σ S)(h:Bq P c S Q):Bq P c σ Q:=⟨λro j C ok H a w q=>by
 obtain⟨ok',H',h'⟩:=hs C ok H a w q
 exact h.run ro j C ok' H' a w h'⟩
def D6:=@kS
def aRB {F}(I:Bh AY->Act->BQ->Prop)(j:∀l a w,I l a w->l.size=ops.size)(u:∀l a w,I l a w->∀i,i∈Region.ready .any ops l->wpOpIn F n P ops Q i (λa' w'=>I (l.setIfInBounds i true) a' w') a w)(q:∀l a w,I l a w->Region.ready .any ops l=[]->Q .normal a w):
 ∀(Am:Nat) l a w,toCome l<=Am->I l a w->wpAnyIn F n P .any ops Q Am l a w:=by
 intro Am
 induction Am with
 |zero=>
  intro l a w O L
  have U:Region.ready .any ops l=[]:=by
   unfold Region.ready;rw[aHQ];intro i hi;have z:i<l.size:=by rw[j l a w L];simpa using hi
   have Y:l.toList.filter (!·)=[]:=Hu (by unfold toCome at O;omega);rw[aHQ]at Y;have :=Y (l[i]) BU;have M:l[i]=true:=aC6
   simp[Array.getD,z,M]
  exact⟨U,q l a w L U⟩
 |succ Am Z=>
  intro l a w O L;refine⟨q l a w L,λi hi=>?_⟩;have J:=hi;unfold Region.ready at J;rw[Hg]at J;have z:i<l.size:=by rw[j l a w L];simpa using J.1
  have hf:l.getD i true=false:=by
   grind
  have hs:=toCome_set z hf;exact wpOpIn_mono (λa' w' h=>Z _ a' w' AB h) (u l a w L i hi)
def Jp (o:Oper)(j:Nat):AY:=o.after.toList.any λe=>e.on=j&&Region.binds .any e
def YO (ops:Bh Oper):AY:=(List.range ops.size).all λi=>match ops[i]? with
 |some o=>((List.range ops.size).all λj=>match(ops[j]?).bind (·.dst)with
  |some d=> !(tmpsOf o).contains d||Jp o j||(match ops[j]? with |some q=>Jp q i|none=>false)
  |none=>true)&&(match o.guard with |some (j,_)=>Jp o j|none=>true)
 |none=>true
inductive Fz (P:Program) (ops:Array Oper):List Oper->BN->List Ai->List (List BX)->List Bool->BN->Prop
 |nil (σ:BN):Fz P ops [] σ [] [] [] σ
 |op {o:Oper} {rest:List Oper} {σ σ':BN} {ns:List (Operand×Ai)} {x:Ai} {rs:List Ai} {ess:List (List BX)} {bs:List Bool} (d:Option Tmp) (h:CG P o ns σ.ents x σ.ents) (hn:needs σ ns)
  (hg:Xf ops σ o.guard) (hd:o.dst=d) (ht:(Oo ns).all (tmpsOf o).contains=true) (k:Fz P ops rest (σ.uq d x) rs ess bs σ'):Fz P ops (o::rest) σ (x::rs) (σ.ents::ess) (false::bs) σ'
 |oe {o:Oper} {rest:List Oper} {σ σ':BN} {ns:List (Operand×Ai)} {x:Ai} {es':List BX} {rs:List Ai} {ess:List (List BX)} {bs:List Bool} (d:Option Tmp) (E:List BX) (h:CG P o ns σ.ents x es') (he:es'=E) (hn:needs σ ns)
  (hg:Xf ops σ o.guard) (hd:o.dst=d) (ht:(Oo ns).all (tmpsOf o).contains=true) (k:Fz P ops rest (σ.put d x E) rs ess bs σ'):Fz P ops (o::rest) σ (x::rs) (E::ess) (true::bs) σ'
 |any {o:Oper} {rest:List Oper} {σ σ':BN} {x:Ai} {rs:List Ai} {ess:List (List BX)} {bs:List Bool} (d:Option Tmp) (h:Rj P ops σ x σ.ents false o) (hd:o.dst=d) (k:Fz P ops rest (σ.uq d x) rs ess bs σ'):Fz P ops (o::rest) σ (x::rs) (σ.ents::ess) (false::bs) σ'
 |asn {o:Oper} {rest:List Oper} {σ σ':BN} {x:Ai} {E:List BX} {bar:Bool} {rs:List Ai} {ess:List (List BX)} {bs:List Bool} (d:Option Tmp) (h:Rj P ops σ x E bar o) (hd:o.dst=d) (k:Fz P ops rest (σ.put d x E) rs ess bs σ'):Fz P ops (o::rest) σ (x::rs) (E::ess) (bar::bs) σ'
 |skip {o:Oper} {rest:List Oper} {σ σ':BN} {rs:List Ai} {ess:List (List BX)} {bs:List Bool} (d:Option Tmp) (hg:Zo ops σ o.guard) (hd:o.dst=d) (k:Fz P ops rest (σ.uq d (.d (.lit undef))) rs ess bs σ'):Fz P ops (o::rest) σ (.d (.lit undef)::rs) (σ.ents::ess) (false::bs) σ'
variable {bs:AA AY}{ess:AA (AA BX)}{l:AA Oper}{rs:AA Ai}{sl:AA Nat}{σ':BN}
section
variable {P:Ce} {ops:Bh Oper} {es:AA BX}
def Gu (ops:Bh Oper)(σ0:BN)(r:Nat->Ai)(ev:Nat->AA BX):Nat->BN
 |0=>σ0
 |i+1=>match ops[i]? with
  |some o=>(Gu ops σ0 r ev i).put o.dst (r i) (ev i)
  |none=>Gu ops σ0 r ev i
def Fz.aJA N(h:Fz P ops l σ rs ess bs σ')σ0 r ev(bar:Nat->AY):∀i,(∀k:Nat,k<l.length->l[k]? =ops[i+k]?)->i+l.length=N->σ=Gu ops σ0 r ev i->
 (∀(k:Nat) y,rs[k]? =some y->r (i+k)=y)->(∀(k:Nat) y,ess[k]? =some y->ev (i+k)=y)->(∀(k:Nat) y,bs[k]? =some y->bar (i+k)=y)->
 (∀j (o:Oper),i<=j->j<N->ops[j]? =some o->Rj P ops (Gu ops σ0 r ev j) (r j) (ev j) (bar j) o)/\σ'=Gu ops σ0 r ev N:=by
 induction h with
 |nil σ=>
  intro i hl J I M _ _;have :i=N:=a1E
  subst this;exact⟨λj o Z L ho=>AB,I⟩
 | @op o rest σ σ' ns x rs ess bs d ho hn hg hd ht k ih=>
   intro i hl J I M O hb;subst hd;have U:ops[i]? =some o:=Fit
   have Y:r i=x:=a9s
   have u:ev i=σ.ents:=aFC
   obtain⟨h1,h2⟩:=ih (i+1) (λk hk=>a1G) sK (by
    rw[BN.asj];simp only[Gu,U,Y,u];rw[←I]) (λk y z=>wQ)
    (λk y z=>a0h) (λk y z=>zD)
   refine⟨λj o' Z L q=>?_,h2⟩;by_cases e:i=j
   ·subst e;rw[U]at q;obtain rfl:=E5 q;exact⟨.inl ⟨ns,by rw[Y,u,←I];exact ho,I▸hn,ht,I▸hg⟩,λ_=>by rw[u,←I]⟩
   exact h1 j o' AB L q
 | @oe o rest σ σ' ns x es' rs ess bs d E ho hE hn hg hd ht k ih=>
   intro i hl J I M O hb;subst hd;subst hE;have U:ops[i]? =some o:=Fit
   have Y:r i=x:=a9s
   have u:ev i=es':=by simpa using O 0 es' BU
   have hbr:bar i=true:=by simpa using hb 0 true BU
   obtain⟨h1,h2⟩:=ih (i+1) (λk hk=>a1G) sK (by
    simp only[Gu,U,Y,u];rw[←I]) (λk y z=>wQ)
    (λk y z=>a0h) (λk y z=>zD)
   refine⟨λj o' Z L q=>?_,h2⟩;by_cases e:i=j
   ·subst e;rw[U]at q;obtain rfl:=E5 q;exact⟨.inl ⟨ns,by rw[Y,u,←I];exact ho,I▸hn,ht,I▸hg⟩,λhf=>by rw[hbr]at hf;cases hf⟩
   exact h1 j o' AB L q
 | @any o rest σ σ' x rs ess bs d hs hd k ih=>
   intro i hl J I M O hb;subst hd;have U:ops[i]? =some o:=Fit
   have Y:r i=x:=a9s
   have u:ev i=σ.ents:=aFC
   obtain⟨h1,h2⟩:=ih (i+1) (λk hk=>a1G) sK (by
    rw[BN.asj];simp only[Gu,U,Y,u];rw[←I]) (λk y z=>wQ)
    (λk y z=>a0h) (λk y z=>zD)
   refine⟨λj o' Z L q=>?_,h2⟩;by_cases e:i=j
   ·subst e;rw[U]at q;obtain rfl:=E5 q;refine⟨?_,λ_=>by rw[u,←I]⟩;rw[Y,u,←I];exact hs.1
   exact h1 j o' AB L q
 | @asn o rest σ σ' x E br rs ess bs d hs hd k ih=>
   intro i hl J I M O hb;subst hd;have U:ops[i]? =some o:=Fit
   have Y:r i=x:=a9s
   have u:ev i=E:=by simpa using O 0 E BU
   have hbr:bar i=br:=by simpa using hb 0 br BU
   obtain⟨h1,h2⟩:=ih (i+1) (λk hk=>a1G) sK (by
    simp only[Gu,U,Y,u];rw[←I]) (λk y z=>wQ)
    (λk y z=>a0h) (λk y z=>zD)
   refine⟨λj o' Z L q=>?_,h2⟩;by_cases e:i=j
   ·subst e;rw[U]at q;obtain rfl:=E5 q;rw[Y,u,hbr,←I];exact hs
   exact h1 j o' AB L q
 | @skip o rest σ σ' rs ess bs d hg hd k ih=>
   intro i hl J I M O hb;subst hd;have U:ops[i]? =some o:=Fit
   have Y:r i=.d (.lit undef):=by simpa using M 0 (.d (.lit undef)) BU
   have u:ev i=σ.ents:=aFC
   obtain⟨h1,h2⟩:=ih (i+1) (λk hk=>a1G) sK (by
    rw[BN.asj];simp only[Gu,U,Y,u];rw[←I]) (λk y z=>wQ)
    (λk y z=>a0h) (λk y z=>zD)
   refine⟨λj o' Z L q=>?_,h2⟩;by_cases e:i=j
   ·subst e;rw[U]at q;obtain rfl:=E5 q;exact⟨.inr ⟨Y,by rw[u,←I],I▸hg⟩,λ_=>by rw[u,←I]⟩
   exact h1 j o' AB L q
def Fz.facts (h:Fz P ops l σ rs ess bs σ')σ0 r ev(bar:Nat->AY):∀i,(∀k:Nat,l[k]? =ops[i+k]?)->i+l.length=ops.size->σ=Gu ops σ0 r ev i->
 (∀(k:Nat) y,rs[k]? =some y->r (i+k)=y)->(∀(k:Nat) y,ess[k]? =some y->ev (i+k)=y)->(∀(k:Nat) y,bs[k]? =some y->bar (i+k)=y)->
 (∀j (o:Oper),i<=j->ops[j]? =some o->Rj P ops (Gu ops σ0 r ev j) (r j) (ev j) (bar j) o)/\σ'=Gu ops σ0 r ev ops.size:=by
 intro i hl q u z I J;obtain⟨h1,h2⟩:=h.aJA ops.size σ0 r ev bar i (λk _=>hl k) q u z I J
 grind
def a8I {σ0}{r}{ev}{t}:∀i,(∀j (o:Oper),j<i->ops[j]? =some o->o.dst≠some t)->(Gu ops σ0 r ev i).slots.getD t .junk=σ0.slots.getD t .junk
 |0,_=>rfl
 |i+1,h=>by
  have q:=a8I (σ0:=σ0) (r:=r) (ev:=ev) i (λj o J u=>h j o AB u);simp only[Gu];split
  ·rename_i o u;have z:=h i o AB u;cases hd:o.dst with
   |none=>exact q
   |some d=>
    have I:d≠t:=λe=>z (by rw[hd,e]);show((Gu ops σ0 r ev i).slots.set d (r i)).getD t .junk=_;rw[←q];simp[List.getD,eU I]
  exact q
def l7 {σ0}{r}{ev}:∀i,(Gu ops σ0 r ev i).slots.length=σ0.slots.length
 |0=>rfl
 |i+1=>by
  simp only[Gu];split
  ·rename_i o j;cases hd:o.dst with
   |none=>exact l7 i
   |some d=>show((Gu ops σ0 r ev i).slots.set d (r i)).length=_;rw[jT];exact l7 i
  exact l7 i
def aAC {σ0}{r}{ev}:∀i,(Gu ops σ0 r ev i).base=σ0.base
 |0=>rfl
 |i+1=>by
  simp only[Gu];split
  ·exact aAC i
  exact aAC i
def aAA {σ0}{r}{ev}(q:∀(i j:Nat) (o u:Oper) (d:Tmp),ops[i]? =some o->ops[j]? =some u->o.dst=some d->u.dst=some d->i=j){t j}{o}(z:ops[j]? =some o)(hd:o.dst=some t)(O:t<σ0.slots.length):
 ∀i,j<i->(Gu ops σ0 r ev i).slots.getD t .junk=r j
 |0,h=>AB
 |i+1,h=>by
  by_cases e:j=i
  ·subst e;simp only[Gu,z,hd];have hl:t<(Gu ops σ0 r ev j).slots.length:=by rw[l7];exact O
   show((Gu ops σ0 r ev j).slots.set t (r j)).getD t .junk=_;simp[List.getD,hl]
  have I:=aAA (r:=r) (ev:=ev) q z hd O i AB;simp only[Gu];split
  ·rename_i u J;cases L:u.dst with
   |none=>exact I
   |some d=>
    have M:d≠t:=λe'=>e (q j i o u t z J hd (by rw[L,e']));show((Gu ops σ0 r ev i).slots.set d (r i)).getD t .junk=_;rw[←I];simp[List.getD,eU M]
  exact I
def agS (h:YO ops=true):∀(i:Nat) (o:Oper),ops[i]? =some o->(∀(j:Nat) (q:Oper) (d:Tmp),ops[j]? =some q->q.dst=some d->d∈tmpsOf o->Jp o j=true\/Jp q i=true)/\(∀j b,o.guard=some (j,b)->Jp o j=true):=by
 intro i o u;unfold YO at h
 grind
def YQ (ops:Bh Oper)(bs:AA AY):AY:=(List.range ops.size).all λi=> !(bs.getD i false)||
 (((List.range i).all λj=>(List.range (i+1)).any λm=>j<m&&(match ops[m]? with |some o=>Jp o j|none=>false))&&
  ((List.range ops.size).all λk=> !decide (i<k)||(List.range k).any λm=>i<=m&&(match ops[k]? with |some o=>Jp o m|none=>false)))
def ajR (h:YQ ops bs=true)(hi:i<ops.size)(L:bs.getD i false=true){D:Nat->Prop}(hd:∀(j:Nat) (o:Oper),ops[j]? =some o->D j->∀m,Jp o m=true->D m)(M:∀(o:Oper),ops[i]? =some o->∀m,Jp o m=true->D m):∀j,j<i->D j:=by
 unfold YQ at h;rw[FW]at h;have h1:=h i IZ;simp only[L,Eu,RY,Di,FW]at h1
 have key:∀n j,i-j<=n->j<i->D j:=by
  intro n
  induction n with
  |zero=>intro j h2 h3;omega
  |succ n O=>
   intro j h2 h3;have I:=h1.1 j YL;rw[Ja]at I;obtain⟨m,hm,J⟩:=I;simp only[lD]at hm;simp only[Di,Io]at J;obtain⟨Y,q⟩:=J;have u:m<ops.size:=AB
   have z:ops[m]? =some ops[m]:=by simp[u]
   rw[z]at q;by_cases e:m=i
   ·subst e;exact M _ z j q
   exact hd m _ z (O m AB AB) j q
 exact λj U=>key (i-j) j (ER _) U
def VR (ops:Bh Oper):AY:=(List.range ops.size).all λi=>match ops[i]? with
 |some o=>o.after.toList.all λ(e:Edge)=> !Region.binds .any e||(e.on<i)
 |none=>true
def yH (h:VR ops=true):∀(i:Nat) (o:Oper),ops[i]? =some o->∀e∈o.after.toList,Region.binds .any e=true->e.on<i:=by
 intro i o j e q u;unfold VR at h
 grind
def UK (ops:Bh Oper)(bs:AA AY)(sl:AA Nat):AY:=(List.range ops.size).all λi=> !(bs.getD i false)||(!sl.contains i&&
 ((List.range i).all λj=>sl.contains j||(List.range (i+1)).any λm=>(decide (j<m)&& !sl.contains m)&&(match ops[m]? with |some o=>Jp o j|none=>false))&&
  ((List.range ops.size).all λk=> !decide (i<k)||(List.range k).any λm=>i<=m&&(match ops[k]? with |some o=>Jp o m|none=>false)))
def aHg (h:UK ops bs sl=true)(hi:i<ops.size)(O:bs.getD i false=true){D:Nat->Prop}(hd:∀(j:Nat) (o:Oper),ops[j]? =some o->D j->∀m,Jp o m=true->D m)(U:∀(o:Oper),ops[i]? =some o->∀m,Jp o m=true->D m):∀j,j<i->sl.contains j=false->D j:=by
 unfold UK at h;rw[FW]at h;have h1:=h i IZ;simp only[O,Eu,RY,Di,FW]at h1
 have key:∀n j,i-j<=n->j<i->sl.contains j=false->D j:=by
  intro n
  induction n with
  |zero=>
   grind
  |succ n Y=>
   intro j h2 h3 q;have L:=h1.1.2 j YL;rw[q,RY,Ja]at L;obtain⟨m,hm,M⟩:=L;simp only[lD]at hm;simp only[Di,Io,Vx]at M;obtain⟨⟨h6,u⟩,z⟩:=M;have I:m<ops.size:=AB
   have J:ops[m]? =some ops[m]:=by simp[I]
   rw[J]at z;by_cases e:m=i
   ·subst e;exact U _ J j z
   exact hd m _ J (Y m AB AB u) j z
 exact λj Z hs=>key (i-j) j (ER _) Z hs
def alP (h:UK ops bs sl=true)(hi:i<ops.size)(U:bs.getD i false=true){D:Nat->Prop}(hd:∀(j:Nat) (o:Oper),ops[j]? =some o->D j->∀m,Jp o m=true->D m):
 ∀k,i<k->∀(o:Oper),ops[k]? =some o->(∀m,Jp o m=true->D m)->D i:=by
 unfold UK at h;rw[FW]at h;have h1:=h i IZ;simp only[U,Eu,RY,Di,FW]at h1;intro k
 induction k using Nat.strongRecOn with
 |_ k Y=>
  intro I o L q;have Z:k<ops.size:=(Ip.1 L).1;have M:=h1.2 k (by simpa using Z);simp only[I,decide_true,Eu,RY,Ja]at M;obtain⟨m,hm,O⟩:=M;simp only[lD]at hm;simp only[Di,Io,L]at O;obtain⟨h6,h7⟩:=O;have u:=q m h7;by_cases e:m=i
  ·subst e;exact u
  have J:m<ops.size:=AB
  have z:ops[m]? =some ops[m]:=by simp[J]
  exact Y m hm AB _ z (hd m _ z u)
def aQo (h:UK ops bs sl=true)(hi:i<ops.size)(j:bs.getD i false=true):sl.contains i=false:=by
 unfold UK at h
 grind
def Bq.aA1 (M:(VR ops&&YZ ops&&dH ops σ.slots.length&&YO ops)=true)sl(O:UK ops bs sl=true)(h:Fz P ops ops.toList σ rs ess bs σ')(hsl:∀i,i∈sl->bs.getD i false=false/\∀m,i<=m->m<=ops.size->∀o,ops[i]? =some o->Rj P ops ⟨(Gu ops σ (λi=>rs.getD i .junk) (λi=>ess.getD i []) i).slots,(Gu ops σ (λi=>rs.getD i .junk) (λi=>ess.getD i []) m).ents,σ.base⟩ (rs.getD i .junk) (Gu ops σ (λi=>rs.getD i .junk) (λi=>ess.getD i []) m).ents false o)ro C ok H a w(hh:Holds C ok H σ a w)Q(hQ:∀ok' H' a' w',Holds C ok' H' σ' a' w'->Q .normal a' w'):wpAnyIn (KA ro) 0 P .any ops Q ops.size (Array.replicate ops.size false) a { w with drawn:=w.drawn+1 }:=by
 simp only[Di]at M;obtain⟨⟨⟨he,hd⟩,hs⟩,hc⟩:=M;have aBX:=yH he;have hinj:=abf hd;have M:=agS hc
 have avW:∀(i:Nat) (o:Oper) (d:Tmp),ops[i]? =some o->o.dst=some d->d<σ.slots.length:=by
  intro i o d h1 h2;unfold dH at hs;rw[FW]at hs;simpa using hs d (ag8 h1 h2)
 let r:Nat->Ai:=λi=>rs.getD i .junk
 let ev:Nat->AA BX:=λi=>ess.getD i []
 let bar:Nat->AY:=λi=>bs.getD i false
 obtain⟨awv,hend⟩:=h.facts σ r ev bar 0 (λk=>BU) BU rfl (λk y hy=>by simp[r,List.getD,hy]) (λk y hy=>by simp[ev,List.getD,hy]) (λk y hy=>by simp[bar,List.getD,hy])
 let U:Nat->BN:=Gu ops σ r ev
 have hU:∀i,i<ops.size->(U (i+1)).ents=ev i:=by
  intro i hi;have L:ops[i]? =some ops[i]:=X7
  show(Gu ops σ r ev (i+1)).ents=_;simp only[Gu,L];rfl
 have hconst:∀n lo,(∀b,lo<=b->b<lo+n->bar b=false)->lo+n<=ops.size->(U (lo+n)).ents=(U lo).ents:=by
  intro n
  induction n with
  |zero=>intro lo _ _;rfl
  |succ n ih=>
   intro lo z hle;have h1:=ih lo (λb h1 h2=>z b h1 AB) AB;have hi:lo+n<ops.size:=AB
   have L:ops[lo+n]? =some ops[lo+n]:=X7
   have h2:=(awv (lo+n) _ AB L).2 (z (lo+n) AB AB);rw[←VT,hU _ hi,h2];exact h1
 have Y:∀lo hi,lo<=hi->hi<=ops.size->(∀b,lo<=b->b<hi->bar b=false)->(U hi).ents=(U lo).ents:=by
  intro lo hi h1 h2 h3;obtain⟨n,rfl⟩:=Nat.exists_eq_add_of_le h1;exact hconst n lo h3 h2
 let I:Bh AY->Act->BQ->Prop:=λl a w=>l.size=ops.size/\∃ok H m,m<=ops.size/\(∀b,bar b=true->b<ops.size->(l.getD b false=true↔b<m))/\Dz C ok H (U m).ents w/\a.tmps.size=σ.slots.length/\Marks C ok w a.defers/\
  (∀t,t<σ.slots.length->(∀(j:Nat) (o:Oper),ops[j]? =some o->o.dst=some t->l.getD j false=false)->R ok w H (σ.slots.getD t .junk) (a.tmps.getD t undef))/\
  (∀(i:Nat) (o:Oper) (d:Tmp),ops[i]? =some o->o.dst=some d->l.getD i false=true->R ok w H (r i) (a.tmps.getD d undef))/\
  (∀(j:Nat) (o:Oper),ops[j]? =some o->l.getD j false=true->∀i,Jp o i=true->l.getD i false=true)
 refine aRB I (λl a w h=>h.1) ?_ ?_ ops.size _ _ _ ?_ ?_
 ·rintro l a w ⟨h1,ok,H,m,aww,J,hmem0,hsz,hdf,h5,h6,h7⟩ i hi;unfold Region.ready at hi;rw[Hg]at hi;obtain⟨hi1,hi2⟩:=hi;have hi':i<ops.size:=by simpa using hi1
  have L:ops[i]? =some ops[i]:=by simp[hi']
  simp only[Di]at hi2;have aBY:=hi2.2;rw[L]at aBY;simp only[Kr,OO]at aBY;have aJB:=λe he=>(YU.1 aBY) e he
  have Z:∀j,Jp ops[i] j=true->l.getD j false=true/\j<i:=by
   intro j u;unfold Jp at u;rw[Ja]at u;obtain⟨e,hee,u⟩:=u;simp only[Di,Io]at u;have :=aJB e (by simpa using hee);simp only[u.2,Eu,RY]at this;rw[u.1]at this;exact⟨this,u.1▸aBX i _ L e hee u.2⟩
  have hself:l.getD i false=false:=by
   have h8:=hi2.1;have hil:i<l.size:=AB
   simp[Array.getD,hil]at h8 ⊢;exact h8
  have aso:∀(j:Nat) (o:Oper),ops[j]? =some o->l.getD j false=true->∀m,Jp o m=true->l.getD m false=true:=λj o u hl m hm=>h7 j o u hl m hm
  have hEi:(i<=m->sl.contains i=false)->(U i).ents=(U m).ents:=λhns=>by
   by_cases him:i<=m
   ·refine(Y i m him aww (λb h2 h3=>?_)).symm;rw[←bV];intro z;have hbl:=(J b z AB).2 h3;by_cases e:b=i
    ·subst e;rw[hself]at hbl;cases hbl
    have :=aHg O (show b<ops.size by omega) z (D:=λj=>l.getD j false=true) aso (λo L m hm=>aso b o L hbl m hm) i AB (hns him);rw[hself]at this;cases this
   refine Y m i AB AB (λb h2 h3=>?_);rw[←bV];intro z;have :=alP O (show b<ops.size by omega) z (D:=λj=>l.getD j false=true) aso i h3 _ L (λm hm=>(Z m hm).1);exact absurd ((J b z AB).1 this) AB
  obtain⟨E0,E1,hmem,hfact,hE1,hE2⟩:∃E0 E1,Dz C ok H E0 w/\Rj P ops ⟨(U i).slots,E0,σ.base⟩ (r i) E1 (bar i) ops[i]/\(bar i=false->E1=(U m).ents)/\(bar i=true->E1=ev i):=by
   by_cases hs:i<=m/\i∈sl
   ·have h9:=hsl i hs.2;refine⟨(U m).ents,(U m).ents,hmem0,?_,λ_=>rfl,λz=>?_⟩
    ·rw[show bar i=false from h9.1];exact h9.2 m hs.1 aww _ L
    rw[show bar i=false from h9.1]at z;cases z
   have hE:=hEi (λhim=>by
    rw[←bV]
    intro hc;exact hs ⟨him,by simpa using hc⟩)
   refine⟨(U i).ents,ev i,by rw[hE];exact hmem0,?_,λz=>?_,λ_=>rfl⟩
   ·have hf:=awv i ops[i] AB L;have hbase:(U i).base=σ.base:=aAC i;have :U i=⟨(U i).slots,(U i).ents,σ.base⟩:=by rw[←hbase]
    exact this▸hf
   rw[(awv i _ AB L).2 z];exact hE
  have hread:∀t,t∈tmpsOf ops[i]->R ok w H ((Gu ops σ r ev i).slots.getD t .junk) (a.tmps.getD t undef):=by
   intro t ht;by_cases hw:∃(j:Nat) (o:Oper),ops[j]? =some o/\o.dst=some t
   ·obtain⟨j,o,u,q⟩:=hw;rcases(M i _ L).1 j o t u q ht with hce|hce
    ·obtain⟨hdj,hji⟩:=Z j hce;rw[aAA hinj u q (avW j o t u q) i hji];exact h6 j o t u q hdj
    have hij:i<j:=by
     unfold Jp at hce;rw[Ja]at hce;obtain⟨e,hee,hce⟩:=hce;simp only[Di,Io]at hce;exact hce.1▸aBX j _ u e hee hce.2
    rw[a8I i (λj' o' hj' ho' hd'=>by have :=hinj j j' o o' t u ho' q hd';omega)];refine h5 t (avW j o t u q) (λj' o' ho' hd'=>?_);have hjj:=hinj j j' o o' t u ho' q hd';subst hjj;rw[←bV];intro hd;rw[h7 j o u hd i hce]at hself;cases hself
   have hw':∀(j:Nat) (o:Oper),ops[j]? =some o->o.dst≠some t:=λj o h1 h2=>hw ⟨j,o,h1,h2⟩;rw[a8I i (λj o _ u=>hw' j o u)];by_cases htn:t<σ.slots.length
   ·exact h5 t htn (λj o u q=>absurd q (hw' j o u))
   rw[aOC htn];exact .junk _
  have aDM:∀j d v,Jp ops[i] j=true->(ops[j]?).bind (·.dst)=some d->(Gu ops σ r ev i).slots.getD d .junk=.d (.lit v)->yielded ops a.tmps j=(match v with | .bool b=>some b|_=>none):=by
   intro j d v u q z;cases hoj:ops[j]? with
   |none=>rw[hoj]at q;simp at q
   |some oj=>
    rw[hoj]at q;simp only[Ac]at q;obtain⟨hdj,hji⟩:=Z j u;have hdn:=avW j oj d hoj q;rw[aAA hinj hoj q hdn i hji]at z;have hv:=(z▸h6 j oj d hoj q hdj).bool
    have hs:a.tmps[d]? =some v:=by
     have :d<a.tmps.size:=by rw[hsz];exact hdn
     simp[Array.getD,this]at hv;simp[this,hv]
    unfold yielded;rw[hoj];simp only[Ac,q,hs];cases v<;>rfl
  have hput:∀(x:Ai) (v:BG) (ok':Nat->Prop) (H':AA CP) (w':BQ),x=r i->FT ok w ok' w'->Names H H'->Dz C ok' H' E1 w'->R ok' w' H' x v->I (l.setIfInBounds i true) (a.put ops[i].dst v) w':=by
   intro x v ok' H' w' hx hgr hnm hmem' hR;subst hx
   have hother:∀(d t:Nat),ops[i].dst=some d->d≠t->(a.put ops[i].dst v).tmps.getD t undef=a.tmps.getD t undef:=by
    intro d t hd hne;rw[hd];exact afz hne
   obtain⟨m',aLb,aH5,aLc⟩:∃m',m'<=ops.size/\(∀b,bar b=true->b<ops.size->((l.setIfInBounds i true).getD b false=true↔b<m'))/\Dz C ok' H' (U m').ents w':=by
    have hget:∀b,b≠i->(l.setIfInBounds i true).getD b false=l.getD b false:=λb z=>by
     simp only[KG,Vl (Ne.symm z)]
    have aLd:(l.setIfInBounds i true).getD i false=true:=by simp[Array.getD,h1,hi']
    cases hbi:bar i with
    |false=>
     refine⟨m,aww,λb z hbs=>?_,?_⟩
     ·have hne:b≠i:=λe=>by subst e;rw[hbi]at z;cases z
      rw[hget b hne];exact J b z hbs
     rw[←hE1 hbi];exact hmem'
    |true=>
     refine⟨i+1,AB,λb z hbs=>?_,by rw[hU i hi',←hE2 hbi];exact hmem'⟩;by_cases e:b=i
     ·subst e;rw[aLd];simp
     rw[hget b e];constructor
     ·intro hbl;apply oZ;intro hn;have :=aHg O hbs z (D:=λj=>l.getD j false=true) aso (λo L m hm=>aso b o L hbl m hm) i AB (aQo O hi' hbi);rw[hself]at this;cases this
     intro hlt;exact aHg O hi' hbi (D:=λj=>l.getD j false=true) aso (λo ho' m hm=>by rw[L]at ho';obtain rfl:=E5 ho';exact(Z m hm).1) b AB (aQo O hbs z)
   refine⟨mV,ok',H',m',aLb,aH5,aLc,by rw[size_put];exact hsz,by rw[aiV];exact hdf.mono hgr,?_,?_,?_⟩
   ·intro t ht hno
    have hne:ops[i].dst≠some t:=by
     intro e;have :=hno i _ L e;simp[Array.getD,h1,hi']at this
    have hold:(a.put ops[i].dst v).tmps.getD t undef=a.tmps.getD t undef:=by
     cases hdi:ops[i].dst with
     |none=>rfl
     |some d=>exact hdi▸hother d t hdi (λe=>hne (by rw[hdi,e]))
    rw[hold];refine(h5 t ht (λj o u q=>?_)).mono hgr hnm;have hij:i≠j:=λe=>by subst e;rw[L]at u;obtain rfl:=E5 u;exact hne q
    have :=hno j o u q;simpa only[KG,Vl hij]using this
   ·intro k o d hk hkd hl;by_cases hik:i=k
    ·subst hik;rw[L]at hk;obtain rfl:=E5 hk;rw[hkd,alm (by rw[hsz];exact avW i _ d L hkd)];exact hR
    have hl':l.getD k false=true:=by
     simp only[KG,Vl hik]at hl ⊢;exact hl
    have :=(h6 k o d hk hkd hl').mono hgr hnm;cases hdst:ops[i].dst with
    |none=>exact this
    |some d'=>
     have hne:d'≠d:=λe=>hik (hinj i k _ _ d' L hk hdst (e▸hkd));rw[←hdst,hother d' d hdst hne];exact this
   intro j o u hl k hk;have hil:i<l.size:=AB
   by_cases hik:i=k
   ·subst hik;simp[Array.getD,hil]
   have hkk:l.getD k false=true:=by
    by_cases hij:i=j
    ·subst hij;rw[L]at u;obtain rfl:=E5 u;exact(Z k hk).1
    have hl':l.getD j false=true:=by
     simp only[KG,Vl hij]at hl ⊢;exact hl
    exact h7 j o u hl' k hk
   simp only[KG,Vl hik]at hkk ⊢;exact hkk
  unfold wpOpIn;rw[L];show if Region.wanted ops[i] (yielded ops a.tmps)=true then _ else _
  rcases hfact.1 with⟨ns,hop,aBZ,hnt,hg⟩|⟨hx,hev,hg⟩
  ·have hwant:Region.wanted ops[i] (yielded ops a.tmps)=true:=by
    unfold Region.wanted;rcases hg with hg|⟨j,want,d,b,hg,u,z,rfl⟩
    ·rw[hg]
    rw[hg];show(yielded ops a.tmps j==some b)=true;rw[aDM j d _ ((M i _ L).2 j b hg) u z];simp
   rw[ET hwant];refine kG ?_ (hop.inR ro C ok H a w _ hmem (λn hn=>?_))
   ·rintro a' w' ⟨v,ok',H',rfl,hgr,hnn,hm',hx⟩;exact hput _ v ok' H' w' rfl hgr hnn hm' hx
   have hnv:=Yo aBZ n hn;obtain⟨x,y⟩:=n;simp only at hnv ⊢;subst hnv;cases x with
   |tmp t=>
    refine hread t ?_;rw[FW]at hnt
    have :t∈Oo ns:=by
     unfold Oo;rw[eX];exact⟨_,hn,rfl⟩
    simpa using hnt t this
   |const v=>exact .d _ _ (.lit v)
   |global g=>exact .d _ _ (.lit _)
   |func f=>exact .d _ _ (.fn (.func f) [] [] #[] #[] rfl rfl (λi hi=>Tm) (λi hi=>Tm))
  have hwant:Region.wanted ops[i] (yielded ops a.tmps)=false:=by
   unfold Region.wanted;obtain⟨j,want,d,v,hg,u,z,hv⟩:=hg;rw[hg];show(yielded ops a.tmps j==some want)=false;rw[aDM j d _ ((M i _ L).2 j want hg) u z];rcases hv with rfl|rfl
   ·simp
   rfl
  rw[Ee (by rw[hwant];simp)];exact⟨λ_ _=>trivial,hput _ _ ok H w hx.symm (.refl _ _) (.refl _) (by rw[hev];exact hmem) (.d _ _ (.lit _))⟩
 ·rintro l a w ⟨h1,ok,H,m,aww,J,hmem,hsz,hdf,h5,h6,h7⟩ hr
  have hall:∀n i,i<n->i<ops.size->l.getD i false=true:=by
   intro n
   induction n with
   |zero=>intro i hi;omega
   |succ n ih=>
    intro i hi hi2;by_cases hn:i<n
    ·exact ih i hn hi2
    have hin:i=n:=AB
    subst hin;rw[←Bool.not_eq_false];intro hf;have L:ops[i]? =some ops[i]:=by simp[hi2]
    have hmem:i∈Region.ready .any ops l:=by
     unfold Region.ready;rw[Hg];refine⟨by simpa using hi2,?_⟩;have hil:i<l.size:=AB
     have hf':l.getD i true=false:=aMi
     rw[hf',L];simp only[JZ,GZ,Kr,OO];rw[YU];intro e he;cases hbe:Region.binds .any e with
     |false=>simp
     |true=>
      have hlt:=aBX i _ L e (by simpa using he) hbe;rw[ih e.on AB AB];simp
    rw[hr]at hmem;simp at hmem
  refine hQ ok H _ _ ?_;subst hend
  have hE:(U ops.size).ents=(U m).ents:=Y m ops.size aww (ER _) (λb h2 h3=>by
   rw[←bV];intro z
   exact absurd ((J b z h3).1 (hall (b+1) b AB h3)) AB)
  refine⟨by show Dz C ok H (U ops.size).ents w;rw[hE];exact hmem,by rw[l7];exact hsz,hdf,by rw[aAC];exact hh.base,λt ht=>?_⟩;rw[l7]at ht;by_cases hw:∃(j:Nat) (o:Oper),ops[j]? =some o/\o.dst=some t
  ·obtain⟨j,o,u,q⟩:=hw;have hjn:j<ops.size:=(Ip.1 u).1;rw[aAA hinj u q ht ops.size hjn];exact h6 j o t u q (hall (j+1) j AB hjn)
  have hw':∀(j:Nat) (o:Oper),ops[j]? =some o->o.dst≠some t:=λj o h1 h2=>hw ⟨j,o,h1,h2⟩;rw[a8I ops.size (λj o _ u=>hw' j o u)];exact h5 t ht (λj o u q=>absurd q (hw' j o u))
 ·unfold toCome;simp
 refine⟨BU,ok,H,0,FQ _,λb z _=>by simp[Array.getD],?_,hh.size,hh.defers.mono (λb z=>⟨z,rfl⟩),λt ht _=>?_,λi o d _ _ hl=>?_,λj o _ hl=>?_⟩
 ·exact⟨⟨hh.mem.fr.os,hh.mem.fr.tape,hh.mem.fr.output,hh.mem.fr.size,hh.mem.fr.block⟩,hh.mem.Dq,hh.mem.Dt,hh.mem.lQ,hh.mem.names,hh.mem.hlen,λk e h h1 h2=>(hh.mem.ent k e h h1 h2).drew,hh.mem.blk,hh.mem.J6⟩
 ·exact R.mono (w:=w) (ok:=ok) (w':={ w with drawn:=w.drawn+1 }) (λb z=>⟨z,rfl⟩) (.refl _) (hh.slot t ht)
 ·simp[Array.getD]at hl
 simp[Array.getD]at hl
def Bq.aB0 {id}{Q}(hm:P.follows .mixedOrders=true)(j:(VR ops&&YZ ops&&dH ops σ.slots.length&&YO ops)=true)sl(q:UK ops bs sl=true)(h:Fz P ops ops.toList σ rs ess bs σ')(hsl:∀i,i∈sl->bs.getD i false=false/\∀m,i<=m->m<=ops.size->∀o,ops[i]? =some o->Rj P ops ⟨(Gu ops σ (λi=>rs.getD i .junk) (λi=>ess.getD i []) i).slots,(Gu ops σ (λi=>rs.getD i .junk) (λi=>ess.getD i []) m).ents,σ.base⟩ (rs.getD i .junk) (Gu ops σ (λi=>rs.getD i .junk) (λi=>ess.getD i []) m).ents false o)(u:Q .normal σ'):Bq P (.region id ops true) σ Q:=
 ⟨λro _ C ok H a w z=>wpIn_region_any hm (Bq.aA1 j sl q h hsl ro C ok H a w z _ λok' H' _ _ h=>⟨ok',H',σ',h,u⟩)⟩
def aOo (h:YQ ops bs=true):UK ops bs []=true:=by
 unfold UK;unfold YQ at h;simpa using h
def Bq.draw {id}{σ σ'}{Q}{rs}{ess}{bs}(hm:P.follows .mixedOrders=true)(j:(VR ops&&YZ ops&&dH ops σ.slots.length&&YO ops)=true)(q:YQ ops bs=true)(h:Fz P ops ops.toList σ rs ess bs σ')(u:Q .normal σ'):Bq P (.region id ops true) σ Q:=
 Bq.aB0 hm j [] (aOo q) h (λ_ hi=>absurd hi H9) u
def DN:=@Bq.draw
end
def Ej (P:Ce)(f:FuncId)(args:AA Ai)(E:AA BX)(q:Ai)(E':AA BX):Prop:=
 ∀(ok:Nat->Prop) (X:AA Nat) (H:AA CP) (w:BQ) (j:Bh BG),Dz ⟨w,ok,X,H⟩ ok H E w->j.size=args.length->(∀i,i<args.length->R ok w H (args.getD i .junk) (j.getD i undef))->
  Calls P f j w λe w'=>∃v ok' H',e=.returned v/\Dz ⟨w,ok,X,H⟩ ok' H' E' w'/\R ok' w' H' q v
def Holds.aA2 (h:Holds C ok H σ a w)t:R ok w H (σ.slots.getD t .junk) (a.tmps.getD t undef):=h.get (.tmp t)
def BN.enter (args:AA Ai)(n:Nat)(E:AA BX):BN:=⟨args++List.replicate (n-args.length) .junk,E,E.length⟩
def R.lit (h:R ok w H (.d (.lit u)) v):v=u:=by
 cases h with |d _ _ h=>cases h;rfl
structure Em (P:Program) (t:TypeId) (agg:Bool) (size:Nat):Prop where
 agg:∀w,(isAgg t).run P w=.ok agg w
 size:∀w,(sizeOf t).run P w=.ok size w
def aCq (P:Ce)(t:Bz)(agg:AY)(size:Nat):AY:=
 (match P.underlying t with |some (.struct _)|some (.array _ _)=>agg|some _=> !agg|none=>false)&&(match P.info? t with |some i=>i.size=size|none=>false)
variable {agg:AY}{t:Bz}
def G5 (h:aCq P t agg size=true):Em P t agg size:=by
 unfold aCq at h;simp only[Di]at h;refine⟨λw=>?_,λw=>?_⟩
 ·have h1:=h.1;cases j:P.underlying t with
  |none=>
   grind
  |some d=>
   rw[j]at h1;have e:(underlying t).run P w=.ok d w:=aGQ
   simp only[isAgg,GK,e,Gi];cases d<;>cases agg<;>simp_all
 have h2:=h.2;cases hi:P.info? t with
 |none=>
  grind
 |some i=>
  rw[hi]at h2;have :i.size=size:=LP
  simp[sizeOf,typeInfo,hi,this]
variable {α:Type}{b f off:Nat}{c x y:C9}{cs:AA Ai}{e' t':Bz}{i:Int}{kd:IntKind}{r v:BG}{s:BL}{xs:AA D}{p:α->Prop}
def N7 {a}(h:∀n∈[a],p n):p a:=h a BU
def Fe {a b}(h:∀n∈[a,b],p n):p a/\p b:=⟨h a BU,h b BU⟩
def aGN {v}(j:o.op=.move x:=by exact rfl):CG P o [(x,v)] es v es:=
 .pure λ_ _ a _ _ _ q=>⟨a.eval x,by simp[execOp,j],q (x,v) BU⟩
def ako {v}(j:o.op=.assign x:=by exact rfl):CG P o [(x,v)] es v es:=
 .pure λ_ _ a _ _ _ q=>⟨a.eval x,by simp[execOp,j],q (x,v) BU⟩
def adJ {v}b(q:b=true)(u:o.op=.pick c x y:=by exact rfl):CG P o [(c,.d (.lit (.bool b))),(x,v)] es v es:=
 .pure λ_ _ a _ _ _ j=>⟨a.eval x,by
  have :=(Fe j).1.lit;simp only at this
  simp[execOp,u,this,asBool,q],(Fe j).2⟩
def aYz {v}b(q:b=false)(u:o.op=.pick c x y:=by exact rfl):CG P o [(c,.d (.lit (.bool b))),(y,v)] es v es:=
 .pure λ_ _ a _ _ _ j=>⟨a.eval y,by
  have :=(Fe j).1.lit;simp only at this
  simp[execOp,u,this,asBool,q],(Fe j).2⟩
def Jd {op}(q:o.op=.binOp op t x y t')(h:∀w,(binOp op t u v).run P w=.ok r w)(z:u.oneCell'=true/\u matches .int _ _| .string _| .bool _):
 CG P o [(x,.d (.lit u)),(y,.d (.lit v))] es (.d (.lit r)) es:=
 .pure λ_ _ a w _ _ j=>⟨r,by
  have h1:=(Fe j).1.lit;have h2:=(Fe j).2.lit;simp only at h1 h2
  have I:(eqGuard op t x y u v).run P w=.ok () w:=by
   unfold eqGuard;cases u<;>simp at z<;>(cases op<;>simp[pure,Sem.run_pure'])
  simp only[execOp,q,h1,h2,GK,I,h w,Gi,Hy],.d _ _ (.lit _)⟩
def aJh {op}(j:o.op=.unOp op t x)(h:∀w,(Op.unary op u).run P w=.ok r w):CG P o [(x,.d (.lit u))] es (.d (.lit r)) es:=
 .pure λ_ _ a w _ _ q=>⟨r,by
  have h1:=(N7 q).lit;simp only at h1
  simp only[execOp,j,h1,GK,h w,Gi,Hy],.d _ _ (.lit _)⟩
def aX1 {s}(j:o.op=.convert s t x)(h:∀w,(convert s t u).run P w=.ok r w):CG P o [(x,.d (.lit u))] es (.d (.lit r)) es:=
 .pure λ_ _ a w _ _ q=>⟨r,by
  have h1:=(N7 q).lit;simp only at h1
  simp only[execOp,j,h1,GK,h w,Gi,Hy],.d _ _ (.lit _)⟩
def aaZ {i}{xs}{v}(z:o.op=.extract x i)(I:xs[i]? =some v):CG P o [(x,.eP xs)] es v es:=
 .pure λok H a w _ _ J=>by
  have h1:=N7 J;simp only at h1;generalize L:a.eval x=u at h1;cases h1 with
  |eP _ vs hl h=>
   obtain⟨hi,q⟩:=I9.1 I;have h2:=h i hi;have M:xs.getD i .junk=v:=by simp[List.getD,hi,q]
   have j:i<vs.size:=AB
   have O:vs.getD i undef=vs[i]:=by simp[Array.getD,j]
   rw[M,O]at h2;exact⟨vs[i],by simp[execOp,z,L,Instr.extract,j],h2⟩
def aPI (I:P.underlying t=some (.slice e))(j:o.op=.call { callee:=.builtin .len,args:= #[x],argTypes:= #[t] }:=by exact rfl):
 CG P o [(x,.d (.sl xs))] es (.d (.lit (.int .i64 xs.length))) es:=
 .pure λok H a w _ _ J=>by
  have h1:=N7 J;simp only at h1;generalize q:a.eval x=u at h1;have z:(underlying t).run P w=.ok (.slice e) w:=by simp[underlying,I]
  refine⟨_,?_,.d _ _ (.lit _)⟩;cases h1 with
  |d _ _ h=>
   cases h with
   |sl0 ad cap=>simp[execOp,j,resolve,invoke,builtin,Builtin.len_,q,z,goInt]
   |sl _ b off cap size=>simp[execOp,j,resolve,invoke,builtin,Builtin.len_,q,z,goInt]
def am2 (j:P.underlying t=some .string)(q:o.op=.call { callee:=.builtin .len,args:= #[x],argTypes:= #[t] }:=by exact rfl):
 CG P o [(x,.d (.lit (.string s)))] es (.d (.lit (.int .i64 s.size))) es:=
 .pure λok H a w _ _ u=>by
  have h1:=(N7 u).lit;simp only at h1;have z:(underlying t).run P w=.ok .string w:=aGQ
  exact⟨_,by simp[execOp,q,resolve,invoke,builtin,Builtin.len_,h1,z,goInt],.d _ _ (.lit _)⟩
def Hr {es:AA BX}(u:∀(k:Nat) (e:BX) (h:CP),es[k]? =some e->H[k]? =some h->Fp ok w H h e)(hl:H.length=es.length){e}(q:es[k]? =some e):
 ∃h,H[k]? =some h/\Fp ok w H h e:=by
 have j:k<H.length:=by rw[hl];exact(I9.1 q).1
 exact⟨H[k],by simp[j],u k e _ q (by simp[j])⟩
def alC {s}(J:es[k]? =some (.arr e' s xs))(L:P.underlying t=some (.slice e))(M:o.op=.call { callee:=.builtin .len,args:= #[x],argTypes:= #[t] }:=by exact rfl):
 CG P o [(x,.aS k)] es (.d (.lit (.int .i64 xs.length))) es:=
 .pure λok H a w j hl O=>by
  have h1:=N7 O;simp only at h1;generalize U:a.eval x=u at h1;have Y:(underlying t).run P w=.ok (.slice e) w:=by simp[underlying,L]
  obtain⟨h,Z,q⟩:=Hr j hl J;refine⟨_,?_,.d _ _ (.lit _)⟩;cases h1 with
  |aS _ ad n cap s' I=>
   rw[Z]at I;obtain rfl:=E5 I;obtain⟨_,_,ys,⟨_,ho2⟩,_⟩:=q
   have z:n=xs.length:=by
    grind
   subst z;simp[execOp,M,resolve,invoke,builtin,Builtin.len_,U,Y,goInt]
structure ED (P:Program) (t:TypeId) (f off:Nat):Prop where
 run:∀(b o:Nat) w,(Instr.fieldAt t (.pointer (some ⟨b,o,none⟩)) f).run P w=.ok (.pointer (some ⟨b,o+off,none⟩)) w
def aWL (P:Ce)(t:Bz)(f off:Nat):AY:=
 match P.underlying t with
 |some (.struct q)=>match q[f]? with
  |some j=>j.offset=off&&(match P.info? j.type with |some i=>i.size≠0|none=>false)
  |none=>false
 |_=>false
def EN {P}(h:aWL P t f off=true):ED P t f off:=by
 unfold aWL at h;refine⟨λb o w=>?_⟩;split at h
 ·rename_i q u;split at h
  ·rename_i z I;simp only[Di,Io]at h;obtain⟨h1,h2⟩:=h;split at h2
   ·rename_i i hi;have hs:(sizeOf z.type).run P w=.ok i.size w:=by simp[sizeOf,typeInfo,hi]
    have h3:i.size≠0:=LP
    have j:(underlying t).run P w=.ok (.struct q) w:=by simp[underlying,u]
    simp[Instr.fieldAt,j,I,Instr.sureAddr,fieldPlace,hs,h3,addr_add,h1]
   cases h2
  cases h
 cases h
def ame {cs}(I:ED P t f off)(J:o.op=.fieldAddr t x f:=by exact rfl):CG P o [(x,.d (.ref cs j))] es (.d (.ref cs (j+off))) es:=
 .pure λok H a w _ _ L=>by
  have h1:=N7 L;simp only at h1;generalize M:a.eval x=u at h1;cases h1 with
  |d _ _ h=>
   cases h with
   |ref _ _ b p q z O U=>
    refine⟨.pointer (some ⟨b,p+(j+off),none⟩),?_,.d _ _ (.ref cs (j+off) b p q z O U)⟩;simp only[execOp,J,M,GK,I.run,Gi,Hy,VT]
def aaI (q:ED P t f off)(z:o.op=.fieldAddr t x f:=by exact rfl):CG P o [(x,.ptr k j)] es (.ptr k (j+off)) es:=
 .pure λok H a w _ _ I=>by
  have h1:=N7 I;simp only at h1;generalize J:a.eval x=u at h1;cases h1 with
  |ptr _ _ b s h=>
   refine⟨.pointer (some ⟨b,j+off,none⟩),?_,.ptr _ _ b s h⟩;simp only[execOp,z,J,GK,q.run,Gi,Hy]
def ahd {i}(q:ED P t f off)(z:o.op=.fieldAddr t x f:=by exact rfl):CG P o [(x,.mF k i j)] es (.mF k i (j+off)) es:=
 .pure λok H a w _ _ I=>by
  have h1:=N7 I;simp only at h1;generalize J:a.eval x=u at h1;cases h1 with
  |mF _ _ _ b n cap s h=>
   refine⟨.pointer (some ⟨b,i*s+(j+off),none⟩),?_,.mF _ _ _ b n cap s h⟩;simp only[execOp,z,J,GK,q.run,Gi,Hy,VT]
def yh {k}{el}(Z:P.underlying t=some (.slice e))(hT:Em P e agg size)(h0:0<=i)(hi:xs[i.toNat]? =some el)(hs:el.cells.length=size)(ho:o.op=.indexAddr t x y:=by exact rfl):CG P o [(x,.d (.sl xs)),(y,.d (.lit (.int k i)))] es (.d (.ref el.cells 0)) es:=
 .pure λok H a w _ _ U=>by
  have h1:=(Fe U).1;have h2:=(Fe U).2.lit;simp only at h1 h2;generalize he:a.eval x=u at h1;have hu:(underlying t).run P w=.ok (.slice e) w:=by simp[underlying,Z]
  obtain⟨z,J⟩:=I9.1 hi;cases h1 with
  |d _ _ h=>
   cases h with
   |sl0 ad cap=>simp at z
   |sl _ b off cap q Y L M hf hx hc=>
    have hd:xs.getD i.toNat EO=el:=by simp[List.getD,z,J]
    have O:q=size:=by rw[←M _ z,hd,hs]
    subst O;refine⟨.pointer (some ⟨b,off+i.toNat*q+0,none⟩),?_,.d _ _ (.ref el.cells 0 b (off+i.toNat*q) (λh=>L AB (by rw[hs]at h;exact h)) ?_ ?_ ?_)⟩
    ·have hlen:0<=i/\i<(xs.length:Int):=⟨h0,AB⟩
     simp only[execOp,ho,he,h2,Instr.indexAt,asIntOf,GK,Hy,hu,Gi,Sem.run_ite,hlen,and_self,KT,hT.size,addr_add,QB]
    ·intro j I;rw[hs]at I;rw[←hd];exact hf _ z j I
    ·intro j I;rw[hs]at I;rw[VT];exact hx _ z j I
    intro j I;rw[hs]at I;rw[VT,←hd];exact hc _ z j I
def afG (U:es[k]? =some (.arr e' size xs))(Y:P.underlying t=some (.slice e))(Z:Em P e agg size)(h0:0<=i)(hi:i.toNat<xs.length)(ho:o.op=.indexAddr t x y:=by exact rfl):CG P o [(x,.aS k),(y,.d (.lit (.int kd i)))] es (.mF k i.toNat 0) es:=
 .pure λok H a w q hl J=>by
  have h1:=(Fe J).1;have h2:=(Fe J).2.lit;simp only at h1 h2;generalize he:a.eval x=u at h1;have hu:(underlying t).run P w=.ok (.slice e) w:=by simp[underlying,Y]
  obtain⟨h,L,z⟩:=Hr q hl U;cases h1 with
  |aS _ ad n cap s' M=>
   rw[L]at M;obtain rfl:=E5 M;obtain⟨hs,_,ys,⟨_,I⟩,_⟩:=z;simp only at hs;subst hs;rcases I with⟨j,h3⟩|⟨g,O,cur,j,_⟩
   ·omega
   simp only[pS]at j;obtain⟨rfl,rfl,rfl⟩:=j;refine⟨.pointer (some ⟨g,i.toNat*s'+0,none⟩),?_,.mF _ _ _ _ _ _ _ L⟩;have hlen:0<=i/\i<(xs.length:Int):=⟨h0,AB⟩
   simp only[execOp,ho,he,h2,Instr.indexAt,asIntOf,GK,Hy,hu,Gi,Sem.run_ite,hlen,and_self,KT,Z.size,addr_add,LC,QB]
def alA {k}{c}(q:P.underlying t=some .string)(u:0<=i)(hi:s[i.toNat]? =some c)(z:o.op=.index t x y:=by exact rfl):
 CG P o [(x,.d (.lit (.string s))),(y,.d (.lit (.int k i)))] es (.d (.lit (.int .u8 c.toNat))) es:=
 .pure λok H a w _ _ j=>by
  have h1:=(Fe j).1.lit;have h2:=(Fe j).2.lit;simp only at h1 h2;have I:(underlying t).run P w=.ok .string w:=aI1
  exact⟨_,by simp only[execOp,z,h1,h2,Instr.index,asIntOf,GK,Hy,I,Gi,u,KT,hi],.d _ _ (.lit _)⟩
def KE (l:AA Ai):AA D:=l.map λ| .d x=>x|_=>EO
def Ai.Dx:Ai->AY
 | .d _=>true
 |_=>false
def R.toD {x}(h:R ok w H x v)(hd:x.Dx=true):EL ok w ((λ| .d x=>x|_=>EO) x) v:=by
 cases h with
 |d _ _ h=>exact h
 |_=>simp[Ai.Dx]at hd
def Qz (agg:AY)(cs:AA D)(off n:Nat):D:=if agg then .agg ((cs.drop off).take n)else cs.getD off EO
def a3C {P}{p}{cs}(M:Em P t agg n)(hn:off+n<=cs.length)(h1:agg=false->n=1)(U:∀i,i<cs.length->(cs.getD i EO).leaf=true)(Y:∀j,j<cs.length->(w.cell? ⟨b,p+j,none⟩).isSome=true)(O:∀j,j<cs.length->EL ok w (cs.getD j EO) (cellAt w b (p+j))):
 ∃v,(Instr.loadAt t (.pointer (some ⟨b,p+off,none⟩))).run P w=.ok v w/\EL ok w (Qz agg cs off n) v:=by
 have q:∀j,j<cs.length->w.cell? ⟨b,p+j,none⟩=some (cellAt w b (p+j)):=by
  intro j I;have :=Y j I;obtain⟨u,Z⟩:=SB.1 this;simp[cellAt,Z]
 cases agg with
 |false=>
  have :=h1 rfl;subst this;refine⟨cellAt w b (p+off),?_,O off AB⟩;have L:=q off AB;simp[Instr.loadAt,Instr.sureAddr,loadVar,M.agg,L]
 |true=>
  let vs:Bh BG:=((List.range n).map λj=>cellAt w b (p+(off+j))).toArray
  have z:vs.size=n:=by simp[vs]
  have J:∀j,j<n->vs.getD j undef=cellAt w b (p+(off+j)):=by
   intro j I;simp[vs,Array.getD,I]
  refine⟨.agg vs,?_,?_⟩
  ·simp only[Instr.loadAt,Instr.sureAddr,GK,Hy,Gi]
   have h:=aZq (P:=P) w t b (p+off) vs (M.agg w) (by rw[z];exact M.size w) (λj I=>by
    rw[z]at I;rw[J j I,VT]
    exact q (off+j) AB)
   exact h
  simp only[Qz,KT];have hlen:((cs.drop off).take n).length=n:=Ei
  have L:∀i,i<n->((cs.drop off).take n).getD i EO=cs.getD (off+i) EO:=by
   grind
  refine .agg _ vs (by rw[hlen,z]) (λi hi=>?_) (λi hi=>?_)
  ·rw[hlen]at hi;rw[L i hi];exact U _ AB
  rw[hlen]at hi;rw[L i hi,J i hi];exact O _ AB
def aif {cs}(z:Em P t agg n)(I:off+n<=cs.length)(h1:agg=false->n=1)(J:o.op=.load t x:=by exact rfl):
 CG P o [(x,.d (.ref cs off))] es (.d (Qz agg cs off n)) es:=
 .pure λok H a w _ _ q=>by
  have j:=N7 q;simp only at j;generalize L:a.eval x=u at j;cases j with
  |d _ _ h=>
   cases h with
   |ref _ _ b p M O U Y=>
    obtain⟨v,Z,hd⟩:=a3C z I h1 O U Y;exact⟨v,by simp only[execOp,J,L,GK,Z,Gi,Hy],.d _ _ hd⟩
def a1I l:(KE l).length=l.length:=by simp[KE]
def aOh {l}{i}(h:i<l.length):(KE l).getD i EO=(λ| .d x=>x|_=>EO) (l.getD i .junk):=by
 simp[KE,List.getD,h]
def aJ3 (O:Fp ok w H h (.box cs))(hd:cs.all Ai.Dx=true):
 ∃b,h.v=.pointer (some ⟨b,0,none⟩)/\(∀i,i<(KE cs).length->((KE cs).getD i EO).leaf=true)/\(∀j,j<(KE cs).length->(w.cell? ⟨b,0+j,none⟩).isSome=true)/\(∀j,j<(KE cs).length->EL ok w ((KE cs).getD j EO) (cellAt w b (0+j))):=by
 obtain⟨b,vs,T,h1,h2,h3,I⟩:=O;rw[FW]at hd
 have q:∀j,j<cs.length->w.cell? ⟨b,0+j,none⟩=some (vs.toList.getD j undef):=by
  intro j u;rw[LC];have z:j<vs.size:=by simpa using(by omega:j<vs.toList.length)
  simp[World.cell?,h2,z,List.getD]
 refine⟨b,h1,λi hi=>?_,λj u=>?_,λj u=>?_⟩
 ·rw[a1I]at hi;rw[aOh hi];have J:=(I i hi).1;have L:=hd (cs.getD i .junk) OH;cases M:cs.getD i .junk with
  |d x=>rw[M]at J;exact J
  |_=>rw[M]at L;simp[Ai.Dx]at L
 ·rw[a1I]at u;rw[q j u];rfl
 rw[a1I]at u;rw[aOh u];unfold cellAt;rw[q j u];exact(I j u).2.toD (hd (cs.getD j .junk) aGG)
def agO (O:es[k]? =some (.box cs))(hd:cs.all Ai.Dx=true)(U:Em P t agg n)(Y:off+n<=cs.length)(h1:agg=false->n=1)(Z:o.op=.load t x:=by exact rfl):
 CG P o [(x,.ptr k off)] es (.d (Qz agg (KE cs) off n)) es:=
 .pure λok H a w q hl z=>by
  have j:=N7 z;simp only at j;generalize he:a.eval x=u at j;obtain⟨h,hh,I⟩:=Hr q hl O;obtain⟨b,J,hf,hx,hc⟩:=aJ3 I hd;cases j with
  |ptr _ _ b' s L=>
   rw[hh]at L;obtain rfl:=E5 L;simp at J;subst J;obtain⟨v,M,hD⟩:=a3C U (by rw[a1I];exact Y) h1 hf hx hc;rw[LC]at M;exact⟨v,by simp only[execOp,Z,he,GK,M,Gi,Hy],.d _ _ hD⟩
def aMe {v}(Y:es[k]? =some (.box cs))(Z:cs[off]? =some v)(hT:Em P t false 1)(ho:o.op=.load t x:=by exact rfl):CG P o [(x,.ptr k off)] es v es:=
 .pure λok H a w z hl J=>by
  have q:=N7 J;simp only at q;generalize he:a.eval x=u at q;obtain⟨h,hh,b,vs,T,M,h2,h3,h4⟩:=Hr z hl Y;cases q with
  |ptr _ _ b' s O=>
   rw[hh]at O;obtain rfl:=E5 O;simp at M;subst M;obtain⟨I,L⟩:=I9.1 Z;have U:=(h4 off I).2;have e1:cs.getD off .junk=v:=by simp[List.getD,I,L]
   have j:off<vs.size:=by simpa using(by omega:off<vs.toList.length)
   have e2:vs.toList.getD off undef=vs[off]:=tX
   rw[e1,e2]at U;refine⟨vs[off],?_,U⟩;have hc:w.cell? ⟨b',off,none⟩=some vs[off]:=by simp[World.cell?,h2,j]
   simp[execOp,ho,he,Instr.loadAt,Instr.sureAddr,loadVar,hT.agg,hc]
variable {H':AA CP}
def Dz.change (hm:Dz C ok H es w)(B:Nat->Prop)(hos:w'.os=w.os)(M:w'.tape=w.tape)(hout:w'.output=w.output)(q:w.heap.size<=w'.heap.size)(J:∀b,b<w.heap.size->¬B b->w'.heap[b]? =w.heap[b]?)(hB:∀b,B b->b<w.heap.size->¬ok b/\(C.w0.heap.size<=b\/b∈C.X))(hok:∀b,ok b->ok' b)(L:∀b,ok' b->ok b\/(w.heap.size<=b/\b<w'.heap.size))(z:Names H H')(hlen:H'.length=es'.length)(I:∀(k:Nat) (e:BX) (h:CP),es'[k]? =some e->H'[k]? =some h->
  (es[k]? =some e/\H[k]? =some h/\(e.live=true->∀b,EF h.v=some b->¬B b))\/
  (Fp ok' w' H' h e/\(e.live=true->∀b,EF h.v=some b->¬ok' b/\b<w'.heap.size/\(C.w0.heap.size<=b\/b∈C.X)/\
   ∀(k':Nat) (e':BX) (h':CP),k'≠k->es'[k']? =some e'->e'.live=true->H'[k']? =some h'->EF h'.v≠some b))):
 Dz C ok' H' es' w'/\FT ok w ok' w':=by
 have hg:FT ok w ok' w':=λb j=>⟨hok b j,J b (hm.lQ b j) (λu=>(hB b u (hm.lQ b j)).1 j)⟩
 refine⟨⟨⟨hos.trans hm.fr.os,M.trans hm.fr.tape,hout.trans hm.fr.output,EC hm.fr.size q,λk hk hx=>?_⟩,λb j=>hok b (hm.Dq b j),?_,?_,hm.names.trans z,hlen,?_,?_,?_⟩,hg⟩
 ·have hkw:k<w.heap.size:=YT hk hm.fr.size;rw[J k hkw (λj=>(hB k j hkw).2.elim (λh=>AB) hx)];exact hm.fr.block k hk hx
 ·intro b j;rcases L b j with h|⟨h,_⟩
  ·exact hm.Dt b h
  exact .inr (.inl (EC hm.fr.size h))
 ·intro b j;rcases L b j with h|⟨_,h⟩
  ·exact YT (hm.lQ b h) q
  exact h
 ·intro k e h Z hh;rcases I k e h Z hh with⟨h1,h2,h3⟩|⟨h1,_⟩
  ·exact(hm.ent k e h h1 h2).mono hg z (λhl b j=>J b (hm.blk k e h b h1 hl h2 j).2.1 (h3 hl b j))
  exact h1
 ·intro k e h b Z hl hh j;rcases I k e h Z hh with⟨h1,h2,h3⟩|⟨_,h1⟩
  ·have :=hm.blk k e h b h1 hl h2 j;refine⟨λu=>?_,YT this.2.1 q,this.2.2⟩;rcases L b u with h4|⟨h4,_⟩
   ·exact this.1 h4
   omega
  exact⟨(h1 hl b j).1,(h1 hl b j).2.1,(h1 hl b j).2.2.1⟩
 intro k k' e e' h h' b Z he' hl O hh hh' j u;apply oZ;intro U;rcases I k e h Z hh with⟨h1,h2,h3⟩|⟨_,h1⟩
 ·rcases I k' e' h' he' hh' with⟨Y,h2',h3'⟩|⟨_,Y⟩
  ·exact U (hm.J6 k k' e e' h h' b h1 Y hl O h2 h2' j u)
  exact(Y O b u).2.2.2 k e h U Z hl hh j
 exact(h1 hl b j).2.2.2 k' e' h' (λe=>U e.symm) he' O hh' u
variable {l:AA α}
def a2V {i}{z}(h:i<l.length):l.getD i z=l[i]:=by simp[List.getD,h]
def Xt {a x}(h:(l++[a])[k]? =some x):l[k]? =some x\/(k=l.length/\x=a):=by
 grind
def Dz.push (hm:Dz C ok H es w)o h e(z:∀b,EF h.v=some b->b=w.heap.size)(Z:Fp ok (w.alloc o) (H++[h]) h e):Dz C ok (H++[h]) (es++[e]) (w.alloc o)/\FT ok w ok (w.alloc o):=by
 refine hm.change (λ_=>False) rfl rfl rfl BU (λb z _=>Lr _ _ _ z) (λ_ h=>h.elim) (λ_ h=>h) (λ_ h=>.inl h) (IK _ _) jB ?_;intro k e' h' I q;rcases Xt I with h1|⟨h1,h2⟩
 ·left;refine⟨h1,?_,λ_ _ _ h=>h⟩;have Y:k<H.length:=aIW
  grind
 subst h2;have Y:k=H.length:=aCB
 subst Y;simp at q;subst q;refine .inr ⟨Z,λ_ b J=>?_⟩;obtain rfl:=z b J;refine⟨λh3=>absurd (hm.lQ _ h3) AB,BU,.inl hm.fr.size,λk' L M hne O hl j u=>?_⟩;rcases Xt O with h3|⟨h3,_⟩
 ·have U:k'<H.length:=by rw[hm.hlen];exact(I9.1 h3).1
  rw[KH U]at j;exact absurd (hm.blk k' L M _ h3 hl j u).2.1 AB
 grind
def Dz.fresh (hm:Dz C ok H es w)o:
 Dz C (λb=>ok b\/b=w.heap.size) H es (w.alloc o)/\FT ok w (λb=>ok b\/b=w.heap.size) (w.alloc o):=by
 refine hm.change (λ_=>False) rfl rfl rfl BU (λb j _=>Lr _ _ _ j) (λ_ h=>h.elim) (λ_ h=>.inl h) (λb h=>?_) (.refl _) hm.hlen ?_
 ·rcases h with h|rfl
  ·exact .inl h
  exact .inr ⟨ER _,BU⟩
 grind
def Dz.drew (hm:Dz C ok H es w):Dz C ok H es w.drew/\FT ok w ok w.drew:=
 hm.change (λ_=>False) rfl rfl rfl (ER _) (λ_ _ _=>rfl) (λ_ h=>h.elim) (λ_ h=>h) (λ_ h=>.inl h) (.refl _) hm.hlen λ_ _ _ j q=>.inl ⟨j,q,λ_ _ _ h=>h⟩
def Fp.dead:Fp ok w H h .dead:=trivial
def R.anc {x}(h:R ok w H x v)(hl:x.cells.all Ai.leaf=true):Hd ok w H x.cells v.cells.toList:=by
 rw[FW]at hl;cases h with
 |d x v h=>
  cases h with
  |agg cs vs hs z J=>
   refine⟨by simp[Ai.cells,D.cells,Value.cells,hs],λi hi=>?_⟩;simp only[Ai.cells,D.cells,DY]at hi;have L:(Ai.cells (.d (.agg cs))).getD i .junk=.d (cs.getD i EO):=by simp[Ai.cells,D.cells,List.getD,hi]
   have q:i<vs.size:=AB
   have I:(Value.cells (.agg vs)).toList.getD i undef=vs.getD i undef:=aNY
   rw[L,I];exact⟨z i hi,.d _ _ (J i hi)⟩
  |lit v=>
   have h1:=hl (.d (.lit v)) (by simp[Ai.cells,D.cells]);have e:v.cells= #[v]:=by cases v<;>first|rfl|(simp[Ai.leaf,D.leaf,Value.oneCell']at h1)
   refine⟨by simp[Ai.cells,D.cells,e],λi hi=>?_⟩;simp[Ai.cells,D.cells]at hi;subst hi;rw[e];exact⟨h1,.d _ _ (.lit v)⟩
  |sl0 ad cap=>
   refine⟨rfl,λi hi=>?_⟩;simp[Ai.cells,D.cells]at hi;subst hi;exact⟨rfl,.d _ _ (.sl0 ad cap)⟩
  |sl es b off cap size h1 h2 h3 u M O=>
   refine⟨rfl,λi hi=>?_⟩;simp[Ai.cells,D.cells]at hi;subst hi;exact⟨rfl,.d _ _ (.sl es b off cap size h1 h2 h3 u M O)⟩
  |ref cs off b o h1 h2 h3 u=>
   refine⟨rfl,λi hi=>?_⟩;simp[Ai.cells,D.cells]at hi;subst hi;exact⟨rfl,.d _ _ (.ref cs off b o h1 h2 h3 u)⟩
  |fn f first cap vs us h1 h2 h3 u=>
   refine⟨rfl,λi hi=>?_⟩;simp[Ai.cells,D.cells]at hi;subst hi;exact⟨rfl,.d _ _ (.fn f first cap vs us h1 h2 h3 u)⟩
  |TI t x v h1=>
   refine⟨rfl,λi hi=>?_⟩;simp[Ai.cells,D.cells]at hi;subst hi;exact⟨rfl,.d _ _ (.TI t x v h1)⟩
 |ptr k off b s h=>
  exact⟨rfl,λi hi=>by simp[Ai.cells]at hi;subst hi;exact⟨rfl,.ptr k off b s h⟩⟩
 |aS k ad n cap s h=>
  exact⟨rfl,λi hi=>by simp[Ai.cells]at hi;subst hi;exact⟨rfl,.aS k ad n cap s h⟩⟩
 |mF k i off b n cap s h=>
  exact⟨rfl,λj hi=>by simp[Ai.cells]at hi;subst hi;exact⟨rfl,.mF k i off b n cap s h⟩⟩
 |fn f first cap vs us h1 h2 h3 u=>
  exact⟨rfl,λi hi=>by simp[Ai.cells]at hi;subst hi;exact⟨rfl,.fn f first cap vs us h1 h2 h3 u⟩⟩
 |mp k v s hl h=>
  have e:v.cells= #[v]:=by cases v<;>first|rfl|(simp[Value.oneCell']at hl)
  exact⟨by simp[Ai.cells,e],λj hi=>by simp[Ai.cells]at hi;subst hi;rw[e];exact⟨rfl,.mp k v s hl h⟩⟩
 |clip xs ad h=>exact⟨rfl,λi hi=>by simp[Ai.cells]at hi;subst hi;exact⟨rfl,.clip xs ad h⟩⟩
 |yE k ad n cap s h=>exact⟨rfl,λi hi=>by simp[Ai.cells]at hi;subst hi;exact⟨rfl,.yE k ad n cap s h⟩⟩
 |eP xs vs h1 h2=>have :=hl (.eP xs) (by simp[Ai.cells]);simp[Ai.leaf]at this
 |ag xs vs h1 z h2=>
  refine⟨by simp[Ai.cells,Value.cells,h1],λi hi=>?_⟩;have q:i<vs.size:=by rw[h1];exact hi
  have I:(Value.cells (.agg vs)).toList.getD i undef=vs.getD i undef:=aNY
  rw[I];exact⟨z i hi,h2 i hi⟩
 |junk v=>have :=hl .junk (by simp[Ai.cells]);simp[Ai.leaf]at this
variable {ys:AA α}{z:BG}
def aAU (w:BQ):∀b,EF (CP.v ⟨.pointer (some ⟨w.heap.size,0,none⟩),0⟩)=some b->b=w.heap.size:=λb j=>by simpa[EF]using j.symm
def CG.eff {x}(h:∀(C:FK) (ok:Nat->Prop) (H:AA CP) (a:Act) (w:BQ),Dz C ok H es w->(∀n∈ns,R ok w H n.2 (a.eval n.1))->
  ∃v w' ok' H',((execOp a.eval o).run P w=.ok (.value v) w'\/(v=undef/\(execOp a.eval o).run P w=.ok .skip w'))/\FT ok w ok' w'/\Names H H'/\Dz C ok' H' es' w'/\R ok' w' H' x v):CG P o ns es x es':=by
 intro C ok H a w Q hm u;obtain⟨v,w',ok',H',j,h1,h2,h3,q⟩:=h C ok H a w hm u;unfold Oper.wp;rcases j with j|⟨rfl,j⟩
 ·rw[j];exact⟨v,ok',H',rfl,h1,h2,h3,q⟩
 rw[j];exact⟨undef,ok',H',rfl,h1,h2,h3,q⟩
def aas {v}(hl:v.cells.all Ai.leaf=true)(q:o.op=.box t x:=by exact rfl):CG P o [(x,v)] es (.ptr es.length 0) (es++[.box v.cells]):=
 .eff λC ok H a w hm u=>by
  have h1:=N7 u;simp only at h1
  have j:Fp ok (w.alloc (.cells (a.eval x).cells t)) (H++[⟨.pointer (some ⟨w.heap.size,0,none⟩),0⟩]) ⟨.pointer (some ⟨w.heap.size,0,none⟩),0⟩ (.box v.cells):=
   ⟨w.heap.size,(a.eval x).cells,t,rfl,WR w _,(h1.anc hl).mono (λb j=>⟨j,Lr _ _ _ (hm.lQ b j)⟩) (IK _ _)⟩
  obtain⟨h2,h3⟩:=hm.push (.cells (a.eval x).cells t) ⟨.pointer (some ⟨w.heap.size,0,none⟩),0⟩ _ (aAU w) j;refine⟨_,_,ok,_,.inl ?_,h3,IK _ _,h2,.ptr _ _ w.heap.size 0 Ql⟩;simp[execOp,q,Instr.box,newVar,newRow]
def QK :BG->D
 | .slice none 0 0=>.sl []
 |v=>.lit v
def tK v:EL ok w (QK v) v:=by
 unfold QK;split
 ·exact .sl0 none 0
 exact .lit v
def zh (h:v.oneCell'=true):(QK v).leaf=true:=by
 unfold QK;split
 ·rfl
 exact h
def Gp (z:BG):AA Ai:=z.cells.toList.map λv=>.d (QK v)
def acI (q:(P.info? t).bind (·.zero)=some z)(hl:z.cells.all (·.oneCell')=true)(u:o.op=.alloc t:=by exact rfl):CG P o [] es (.ptr es.length 0) (es++[.box (Gp z)]):=
 .eff λC ok H a w hm M=>by
  have I:Fp ok (w.alloc (.cells z.cells t)) (H++[⟨.pointer (some ⟨w.heap.size,0,none⟩),0⟩]) ⟨.pointer (some ⟨w.heap.size,0,none⟩),0⟩ (.box (Gp z)):=by
   refine⟨w.heap.size,z.cells,t,rfl,WR w _,by simp[Gp],λi hi=>?_⟩;simp only[Gp,DY,VD]at hi;have J:(Gp z).getD i .junk=.d (QK z.cells[i]):=by simp[Gp,List.getD,hi]
   have L:z.cells.toList.getD i undef=z.cells[i]:=OH
   rw[J,L];exact⟨zh ((YU.1 hl) _ BU),.d _ _ (tK _)⟩
  obtain⟨h2,h3⟩:=hm.push (.cells z.cells t) ⟨.pointer (some ⟨w.heap.size,0,none⟩),0⟩ _ (aAU w) I;refine⟨_,_,ok,_,.inl ?_,h3,IK _ _,h2,.ptr _ _ w.heap.size 0 Ql⟩;obtain⟨i,hi,j⟩:=mJ.1 q;simp[execOp,u,Instr.alloc,zeroValue,typeInfo,hi,j,newVar,newRow]
def OB {l:AA BX}{a x}(q:k<l.length)(h:(l.set k a)[j]? =some x):(j=k/\x=a)\/(j≠k/\l[j]? =some x):=by
 grind
def Dz.upd (hm:Dz C ok H es w){M e}(hk:es[k]? =some M)(I:M.live=true)(hh:H[k]? =some h)(hb:EF h.v=some b)(hos:w'.os=w.os)(J:w'.tape=w.tape)(O:w'.output=w.output)(hsize:w'.heap.size=w.heap.size)(z:∀c,c≠b->w'.heap[c]? =w.heap[c]?)(he:FT ok w ok w'->Fp ok w' H h e):Dz C ok H (es.set k e) w'/\FT ok w ok w':=by
 have U:=hm.blk k M h b hk I hh hb;have hg:FT ok w ok w':=λc q=>⟨q,z c (λe=>U.1 (e▸q))⟩
 refine hm.change (λc=>c=b) hos J O AB (λc _ q=>z c q) (λc q _=>by subst q;exact⟨U.1,U.2.2⟩) (λ_ h=>h) (λ_ h=>.inl h) (.refl _) jB ?_;intro j e' h' hj u;have Y:k<es.length:=(I9.1 hk).1;rcases OB Y hj with⟨rfl,rfl⟩|⟨L,Z⟩
 ·rw[hh]at u;obtain rfl:=E5 u;refine .inr ⟨he hg,λ_ c q=>?_⟩;rw[hb]at q;obtain rfl:=E5 q;refine⟨U.1,AB,U.2.2,λk' e'' h'' L hk' hl' aMv aMw=>L ?_⟩;rcases OB Y hk' with⟨rfl,_⟩|⟨_,hk''⟩
  ·rfl
  exact hm.J6 k' j e'' M h'' h b hk'' hk hl' I aMv hh aMw hb
 refine .inl ⟨Z,u,λhl c q hcb=>L ?_⟩;subst hcb;exact hm.J6 j k e' M h' h c Z hk hl I u hh q hb
def aGR (w:BQ)g cs k(h:k≠g):(w.setRow g cs).heap[k]? =w.heap[k]? :=setRow_other w g k cs h
def setAt (cs:AA α)(off:Nat)(ys:AA α):AA α:=cs.take off++ys++cs.drop (off+ys.length)
def UL {cs}(h:off+ys.length<=cs.length):(setAt cs off ys).length=cs.length:=by simp[setAt];omega
def bf {cs}(h:off+ys.length<=cs.length)i z:(setAt cs off ys).getD i z=if off<=i/\i<off+ys.length then ys.getD (i-off) z else cs.getD i z:=by
 unfold setAt;have h1:(cs.take off).length=off:=Ei
 by_cases hi:i<off
 ·grind
 by_cases j:i<off+ys.length
 ·rw[ET AB];simp only[List.getD]
  grind
 rw[Ee AB]
 grind
def aWs {v}(hk:es[k]? =some (.box cs))(hl:v.cells.all Ai.leaf=true)(hs:∀w,(sizeOf t).run P w=.ok n w)(hn:v.cells.length=n)(hle:off+n<=cs.length)(ho:o.op=.store t x y:=by exact rfl):
 CG P o [(x,.ptr k off),(y,v)] es .junk (es.set k (.box (setAt cs off v.cells))):=
 .eff λC ok H a w hm I=>by
  have h1:=(Fe I).1;have h2:=(Fe I).2;simp only at h1 h2;generalize he:a.eval x=u at h1;obtain⟨h,hh,U⟩:=Hr hm.ent hm.hlen hk;obtain⟨b,vs,T,hb,q,J,L⟩:=U;have j:=h2.anc hl;cases h1 with
  |ptr _ _ M s hH=>
   rw[hh]at hH;obtain rfl:=E5 hH;simp at hb;subst hb;have z:(a.eval y).cells.toList.length=n:=by rw[j.1,hn]
   have aSI:vs.size=cs.length:=a1E
   have Y:(a.eval y).cells.size=n:=aI
   have hst:=aFe (P:=P) M off T (a.eval y).cells.toList 0 vs w q (by rw[z];omega) (λu hu=>by
    obtain⟨i,hi,rfl⟩:=GY hu;have O:=j.2 i (by rw[←j.1];exact hi);have :=O.2.leaf O.1
    rwa [a2V hi]at this)
   simp only[QB]at hst;have hlt:M<w.heap.size:=(Ip.1 q).1
   obtain⟨h3,h4⟩:=hm.upd (e:=.box (setAt cs off v.cells)) (w':=w.setRow M (vs.toList.take off++(a.eval y).cells.toList++vs.toList.drop (off+(a.eval y).cells.toList.length)).toArray) hk rfl hh rfl rfl rfl rfl aGc (λc hc=>aGR _ _ _ _ hc) (λhg=>by
    refine⟨M,_,T,rfl,wM w M vs _ T (0,0) q,?_,λi hi=>?_⟩
    ·have Z:(vs.toList.take off++(a.eval y).cells.toList++vs.toList.drop (off+(a.eval y).cells.toList.length))=setAt vs.toList off (a.eval y).cells.toList:=rfl;rw[Z,a6A,UL (by have :=vs.length_toList;omega),UL AB];simpa using J
    have Z:(vs.toList.take off++(a.eval y).cells.toList++vs.toList.drop (off+(a.eval y).cells.toList.length))=setAt vs.toList off (a.eval y).cells.toList:=rfl;rw[UL AB]at hi;rw[Z,a6A,bf (by have :=vs.length_toList;omega),bf AB,z,hn];split
    ·have O:=j.2 (i-off) AB;exact⟨O.1,O.2.mono hg (.refl _)⟩
    exact⟨(L i hi).1,(L i hi).2.mono hg (.refl _)⟩)
   refine⟨undef,_,ok,H,.inr ⟨rfl,?_⟩,h4,.refl _,h3,.junk _⟩;simp only[execOp,ho,he,Instr.storeAt,Instr.sureAddr,storeVar,GK,Hy,Gi,hs,Y,ne_eq,not_true_eq_false,Lc,hst]
def YS x es:flat (x::es)=x.cells.map .d++flat es:=Ui
def kn xs ys:flat (xs++ys)=flat xs++flat ys:=Ui
def U2 {size}:∀{es:AA D},(∀x∈es,x.cells.length=size)->(flat es).length=es.length*size
 | [],_=>Ui
 |x::es,h=>by
  rw[YS,Ef,DY,h x BU,U2 (λy j=>h y (I7 _ j)),Gh,ig,Vy]
def flat_get {size}:∀{es:AA D},(∀x∈es,x.cells.length=size)->∀i j,i<es.length->j<size->(flat es).getD (i*size+j) .junk=.d ((es.getD i EO).cells.getD j EO)
 | [],_,i,j,hi,_=>Tm
 |x::es,h,0,j,_,q=>by
  have u:=h x BU;rw[YS,Nat.zero_mul,LC]
  grind
 |x::es,h,i+1,j,hi,q=>by
  have u:=h x BU;have z:=flat_get (λy I=>h y (I7 _ I)) i j IZ q;rw[YS];simp only[List.getD]at z ⊢;rw[Qg (by simp[u,ig];omega)]
  grind
variable {g m:Nat}{ty:Bz}{x:BG}{xs ys:AA D}
structure YC (w:World) (v:Value) (m size:Nat) (news:List Value):Prop where
 len:news.length=m*size
 one:∀u∈news,u.oneCell'=true
 at_:(∃ad c,v=.slice (some ad) m c/\∀(j:Nat) (u:Value),news[j]? =some u->w.cell? (ad.add j)=some u)\/(∃c,v=.slice none 0 c/\m=0)
def kL H(h:EL ok w (.sl ys) v)(hs:∀x∈ys,x.cells.length=size):
 ∃z,YC w v ys.length size z/\Hd ok w H (flat ys) z:=by
 cases h with
 |sl0 ad cap=>
  refine⟨[],⟨BU,BU,?_⟩,Ui,λi hi=>a7U⟩;cases ad with
  |none=>exact .inr ⟨cap,rfl,rfl⟩
  |some ad=>exact .inl ⟨ad,cap,rfl,λj u h=>JD⟩
 |sl _ b off cap q hcap hok hs' hf hx hc=>
  by_cases hy:ys=[]
  ·subst hy;refine⟨[],⟨BU,BU,.inl ⟨⟨b,off,none⟩,cap,rfl,λj u h=>JD⟩⟩,Ui,λi hi=>a7U⟩
  have J:0<ys.length:=lG.2 hy;have hsz:q=size:=by rw[←hs' 0 J];exact hs _ (by simp[List.getD,J])
  subst hsz;have hl:=U2 hs
  have key:∀k,k<ys.length*q->∃i j,k=i*q+j/\i<ys.length/\j<q:=by
   intro k I
   have hp:0<q:=by
    rcases V8 q with h0|h0
    ·rw[h0,Nat.mul_zero]at I;omega
    exact h0
   exact⟨k/q,k % q,by rw[WJ];exact(a2a k q).symm,uS (by rwa [WJ]at I),qG _ hp⟩
  let z:AA BG:=(List.range (ys.length*q)).map λk=>cellAt w b (off+k)
  have L:z.length=ys.length*q:=by simp[z]
  have O:∀k,k<ys.length*q->z.getD k undef=cellAt w b (off+k):=by
   intro k I;simp[z,List.getD,I]
  have M:Hd ok w H (flat ys) z:=by
   refine⟨by rw[L,hl],λk I=>?_⟩;rw[hl]at I;obtain⟨i,j,rfl,hi,U⟩:=key k I;rw[flat_get hs i j hi U,O _ I];exact⟨hf i hi j U,.d _ _ (hc i hi j U)⟩
  refine⟨z,⟨L,λu hu=>?_,.inl ⟨⟨b,off,none⟩,cap,rfl,λk u I=>?_⟩⟩,M⟩
  ·obtain⟨k,I,rfl⟩:=GY hu;have h5:=M.2 k (by rw[←M.1];exact I);have :=h5.2.leaf h5.1
   rwa [a2V I]at this
  obtain⟨Y,rfl⟩:=I9.1 I;rw[addr_add];have Z:k<ys.length*q:=by rw[←L];exact Y
  obtain⟨i,j,e,hi,U⟩:=key k Z;have hxx:=hx i hi j U;rw[←e]at hxx;obtain⟨u',hu'⟩:=SB.1 hxx;have :=O k Z;rw[a2V Y]at this;rw[this];simp[cellAt,hu']
structure Gm (P:Program) (t e:TypeId) (size bytes:Nat):Prop where
 und:P.underlying t=some (.slice e)
 info:∃i z,P.info? e=some i/\i.zero=some z/\i.size=size/\i.bytes=bytes/\z.cells.size=size
 pos:0<size
def aRW (P:Ce)(t e size j:Nat):AY:=
 (match P.underlying t with |some (.slice e')=>e'=e|_=>false)&&(match P.info? e with |some i=>i.size=size&&(i.bytes=j)&&(match i.zero with |some z=>z.cells.size=size|none=>false)|none=>false)&&(0<size)
def Ku {P}{t e}(h:aRW P t e size j=true):Gm P t e size j:=by
 unfold aRW at h;simp only[Di,Io]at h;obtain⟨⟨h1,h2⟩,h3⟩:=h;refine⟨?_,?_,h3⟩
 ·split at h1
  ·rename_i e' u;rw[u];simp at h1;rw[h1]
  cases h1
 split at h2
 ·rename_i i hi;simp only[Di,Io]at h2;obtain⟨⟨I,J⟩,q⟩:=h2;split at q
  ·rename_i z L;exact⟨i,z,hi,L,I,J,Xj⟩
  cases q
 cases h2
def akV {O}(hE:Gm P t e size O){xs}(L:w.ownsRow 0 e size v n xs){I}(q:YC w x m size I)(hb:(n+m)*O<=140737488355328)(hn:n+m<=maxLen):
 ∃v' w',(Builtin.append_ #[t,t] ty #[v,x]).run P w=.ok v' w'/\w'.ownsRow 0 e size v' (n+m) (xs++I)/\w.grownBy w' v.ownBlock/\(∀g,EF v'=some g->EF v=some g\/w.heap.size<=g):=by
 obtain⟨i,z,hi,hz,hs,Z,hzs⟩:=hE.info;rcases q.at_ with⟨ad,c,rfl,J⟩|⟨c,rfl,rfl⟩
 ·obtain⟨v',w',hr,ho',hg,hnil⟩:=run_append_own (P:=P) w 0 t ty e i z size O hE.und hi hz hs Z hzs hE.pos v n xs L ad m c I q.len J q.one hn hb (FQ _);refine⟨v',w',hr,ho',hg,λg U=>?_⟩;rcases L.2 with⟨rfl,rfl⟩|⟨g0,cap,cur,rfl,hbg,hg0,hnc,hcm,hcs,htake⟩
  ·have hx:xs=[]:=Hu (by simpa using L.1);subst hx;obtain⟨v2,w2,M,ho2,_,_⟩:=run_append_own (P:=P) w w.heap.size t ty e i z size O hE.und hi hz hs Z hzs hE.pos _ 0 [] (aAO w w.heap.size e size) ad m c I q.len J q.one hn hb (ER _);rw[hr]at M;simp only[Result.ok.injEq]at M;obtain⟨rfl,rfl⟩:=M;rcases ho2.2 with⟨rfl,_⟩|⟨g',_,_,rfl,hle,_⟩
   ·simp[EF]at U
   simp[EF]at U;subst U;exact .inr hle
  by_cases Y:n+m<=cap
  ·have hfit:n*i.size+I.length<=cur.size:=by rw[q.len,hcs,hs,←jW];exact Lu _ Y
   have M:=run_append_room (P:=P) w t ty e i hE.und hi g0 n cap cur hg0 ad m c I (by rw[hs];exact q.len) J q.one Y hfit;rw[hr]at M;simp only[Result.ok.injEq]at M;obtain⟨rfl,rfl⟩:=M;exact .inl U
  have holds:∀(j:Nat) (u:BG),xs[j]? =some u->w.cell? ((⟨g0,0,none⟩:Addr).add j)=some u:=L.cells (g:=g0) rfl;have M:=run_append_grow (P:=P) w t ty e i z hE.und hi hz ⟨g0,0,none⟩ n cap xs (by rw[hs];exact L.1) holds ad m c I (by rw[hs];exact q.len) J AB (by unfold maxLen at hn;omega) (growslice_fits AB (by rw[Z];exact hb));rw[hr]at M;simp only[Result.ok.injEq]at M;obtain⟨rfl,rfl⟩:=M;simp[EF]at U
  grind
 have hnews:I=[]:=Hu (by simpa using q.len);subst hnews;refine⟨v,w,?_,by simpa using L,⟨rfl,rfl,rfl,ER _,λ_ _ _=>rfl⟩,λg hg=>.inl hg⟩;rcases L.2 with⟨rfl,rfl⟩|⟨g,cap,cur,rfl,_,_,hnc,_⟩
 ·simp[Builtin.append_,a6L hE.und,sizeOf,typeInfo,hi,Builtin.lenOf,Builtin.firstCells]
 simp[Builtin.append_,a6L hE.und,sizeOf,typeInfo,hi,Builtin.lenOf,Builtin.firstCells,hnc,storeCells]
def aEH {I}(hE:Gm P t e size I){xs}(u:nM w e size v n xs){q}(j:YC w x m size q)(hb:(n+m)*I<=140737488355328)(hn:n+m<=maxLen):
 ∃v' w',(Builtin.append_ #[t,t] ty #[v,x]).run P w=.ok v' w'/\nM w' e size v' (n+m) (xs++q)/\w.grownBy w' v.ownBlock/\(∀g,EF v'=some g->EF v=some g\/w.heap.size<=g):=by
 rcases u.2 with h|⟨g,cap,U,rfl,h0,Z,hnc,hcm,hcs,htake⟩
 ·obtain⟨v',w',h1,h2,h3,h4⟩:=akV (ty:=ty) hE ⟨u.1,.inl h⟩ j hb hn;exact⟨v',w',h1,.of h2,h3,h4⟩
 obtain⟨i,z,hi,hz,hs,hby,hzs⟩:=hE.info;have hlen:(xs++q).length=(n+m)*size:=by rw[Ef,u.1,j.len,jW]
 rcases j.at_ with⟨ad,c,rfl,L⟩|⟨c,rfl,rfl⟩
 ·by_cases J:n+m<=cap
  ·have O:n*i.size+q.length<=U.size:=by
    rw[j.len,hs,←jW];exact EC (Lu _ J) hcs
   have hr:=run_append_room (P:=P) w t ty e i hE.und hi g n cap U Z ad m c q (by rw[hs];exact j.len) L j.one J O;rw[hs]at hr O;refine⟨_,_,hr,⟨hlen,.inr ⟨g,cap,_,rfl,FQ _,wM w g U _ e _ Z,J,hcm,?_,?_⟩⟩,⟨rfl,rfl,rfl,BU,λk _ hk=>setRow_other w g k _ (λe=>hk (by simp[Value.ownBlock,e]))⟩,λg' M=>.inl M⟩
   ·simp only[a5H,Ef,Hl,Lh,VD];omega
   grind
  obtain⟨v',w',h1,h2,h3⟩:=run_append_arg_grows (P:=P) w t ty e i z size I hE.und hi hz hs hby hzs hE.pos ⟨g,0,none⟩ n cap xs u.1 (u.cells (g:=g) rfl) ad m c q j.len L AB hn hb;refine⟨v',w',h1,.of h2,⟨h3.os,h3.tape,h3.output,h3.size,λk hk _=>h3.block k hk BU⟩,λg' M=>.inr ?_⟩;rcases h2.2 with⟨rfl,_⟩|⟨g2,_,_,rfl,hle2,_⟩
  ·simp[EF]at M
  simp[EF]at M;subst M;exact hle2
 have Y:q=[]:=Hu (by simpa using j.len);subst Y;refine⟨.slice (some ⟨g,0,none⟩) n cap,w,?_,SY,⟨rfl,rfl,rfl,ER _,λ_ _ _=>rfl⟩,λg hg=>.inl hg⟩;simp[Builtin.append_,a6L hE.und,sizeOf,typeInfo,hi,Builtin.lenOf,Builtin.firstCells,hnc,storeCells]
def Dz.turn (hm:Dz C ok H es w){Z e}{h'}(hk:es[k]? =some Z)(M:Z.live=true)(hh:H[k]? =some h)(hos:w'.os=w.os)(O:w'.tape=w.tape)(hout:w'.output=w.output)(U:w.heap.size<=w'.heap.size)(J:∀c,c<w.heap.size->EF h.v≠some c->w'.heap[c]? =w.heap[c]?)(hb':∀g,EF h'.v=some g->g<w'.heap.size/\(EF h.v=some g\/w.heap.size<=g))(he:FT ok w ok w'->Fp ok w' (H++[h']) h' e):Dz C ok (H++[h']) (es.set k .dead++[e]) w'/\FT ok w ok w':=by
 have h0:=λb hb=>hm.blk k Z h b hk M hh hb;have hkl:k<es.length:=(I9.1 hk).1;have hg:FT ok w ok w':=λc I=>⟨I,J c (hm.lQ c I) (λe=>(h0 c e).1 I)⟩
 refine hm.change (λc=>EF h.v=some c) hos O hout U J (λc I _=>⟨(h0 c I).1,(h0 c I).2.2⟩) (λ_ h=>h) (λ_ h=>.inl h) (IK _ _) jB ?_;intro j e' hj' hj u;rcases Xt hj with h1|⟨h1,h2⟩
 ·have hjl:j<H.length:=by rw[hm.hlen];simpa using(I9.1 h1).1
  rw[KH hjl]at u;rcases OB hkl h1 with⟨rfl,rfl⟩|⟨hne,h3⟩
  ·exact .inr ⟨trivial,λh=>H6⟩
  refine .inl ⟨h3,u,λhl c I hcb=>hne ?_⟩;exact hm.J6 j k e' Z hj' h c h3 hk hl M u hh I hcb
 subst h2;have hk2:j=H.length:=by rw[hm.hlen];simpa using h1
 subst hk2;simp at u;subst u;refine .inr ⟨he hg,λ_ c I=>?_⟩;obtain⟨h3,q⟩:=hb' c I;refine⟨λhok=>?_,h3,?_,λk' e'' h'' hne hk' Y z L=>?_⟩
 ·rcases q with q|q
  ·grind
  have :=hm.lQ c hok;omega
 ·rcases q with q|q
  ·exact(h0 c q).2.2
  exact .inl (EC hm.fr.size q)
 rcases Xt hk' with h5|⟨h5,_⟩
 ·have hkl':k'<H.length:=by rw[hm.hlen];simpa using(I9.1 h5).1
  rw[KH hkl']at z;rcases OB hkl h5 with⟨rfl,rfl⟩|⟨hne',h6⟩
  ·cases Y
  rcases q with q|q
  ·exact hne' (hm.J6 k' k e'' Z h'' h c h6 hk Y M z hh L q)
  have :=(hm.blk k' e'' h'' c h6 Y z L).2.1;omega
 grind
def vw {e}{xs}(h:nM w e size v n xs)(j:EF v=some g):g<w.heap.size:=by
 rcases h.2 with⟨rfl,_⟩|⟨u,_,_,rfl,_,q,_⟩
 ·simp[EF]at j
 simp[EF]at j;subst j;exact(Ip.1 q).1
def aKc {e}{xs}(h:nM w e size v n xs):v.ownBlock=EF v:=by
 rcases h.2 with⟨rfl,_⟩|⟨j,_,_,rfl,_⟩<;>rfl
def RJ (j:R ok w H (.aS k) v)(q:H[k]? =some h):v=h.v:=by
 cases j with
 |aS _ ad n cap s u=>
  grind
def aZD (hm:Dz C ok H es w){q}(hE:Gm P t e size q)(hk:es[k]? =some (.arr e size xs))(hv:R ok w H (.aS k) v){j}(L:YC w x ys.length size j)(I:Hd ok w H (flat ys) j)(hys:∀y∈ys,y.cells.length=size)(hb:(xs.length+ys.length)*q<=140737488355328)(hn:xs.length+ys.length<=maxLen):
 ∃v' w' H',(Builtin.append_ #[t,t] ty #[v,x]).run P w=.ok v' w'/\FT ok w ok w'/\Names H H'/\Dz C ok H' (es.set k .dead++[.arr e size (xs++ys)]) w'/\R ok w' H' (.aS es.length) v':=by
 obtain⟨h,hh,hok⟩:=Hr hm.ent hm.hlen hk;obtain rfl:=RJ hv hh;obtain⟨h1,h2,EY,z,hrs⟩:=hok;obtain⟨v',w',hr,J,M,O⟩:=aEH (P:=P) (ty:=ty) hE z L hb hn
 obtain⟨h3,h4⟩:=hm.turn (h':=⟨v',size⟩) (e:=.arr e size (xs++ys)) hk rfl hh M.os M.tape M.output M.size (λc hc hne=>M.block c hc (by rw[aKc z];exact λe=>hne e.symm)) (λg U=>⟨vw J U,O g U⟩) (λY=>by
  refine⟨rfl,λy hy=>?_,EY++j,a1E,?_⟩
  ·rcases Ia.1 hy with h|h
   ·exact h2 y h
   exact hys y h
  have Z:=hrs.mono Y (IK H [⟨v',size⟩]);have a2:=I.mono Y (IK H [⟨v',size⟩]);rw[kn];refine⟨by rw[Ef,Ef,Z.1,a2.1],λi hi=>?_⟩;by_cases u:i<(flat xs).length
  ·have e1:(flat xs++flat ys).getD i .junk=(flat xs).getD i .junk:=by simp[List.getD,KH u]
   have e2:(EY++j).getD i undef=EY.getD i undef:=by simp[List.getD,KH (by rw[Z.1];exact u:i<EY.length)]
   rw[e1,e2];exact Z.2 i u
  have hi3:i-(flat xs).length<(flat ys).length:=aGl
  have e1:(flat xs++flat ys).getD i .junk=(flat ys).getD (i-(flat xs).length) .junk:=by simp[List.getD,Qg (X8 u)]
  have e2:(EY++j).getD i undef=j.getD (i-(flat xs).length) undef:=by simp[List.getD,Qg (by rw[Z.1];omega:EY.length<=i),Z.1]
  rw[e1,e2];exact a2.2 _ hi3)
 refine⟨v',w',_,hr,h4,IK _ _,h3,?_⟩;have hH:(H++[(⟨v',size⟩:CP)])[es.length]? =some ⟨v',size⟩:=Ql
 rcases J.2 with⟨rfl,_⟩|⟨g',c',_,rfl,_⟩
 ·exact .aS _ _ _ _ size hH
 exact .aS _ _ _ _ size hH
def aft {s x}(hE:Gm P t e size j)(M:es[k]? =some (.arr e size xs))(q:∀y∈ys,y.cells.length=size)(O:(xs.length+ys.length)*j<=140737488355328)(U:xs.length+ys.length<=maxLen)(Y:o.op=.call { callee:=.builtin .append,args:= #[s,x],argTypes:= #[t,t] }:=by exact rfl):
 CG P o [(s,.aS k),(x,.d (.sl ys))] es (.aS es.length) (es.set k .dead++[.arr e size (xs++ys)]):=
 .eff λC ok H a w hm u=>by
  have h1:=(Fe u).1;have h2:=(Fe u).2;simp only at h1 h2;have I:EL ok w (.sl ys) (a.eval x):=by cases h2 with |d _ _ h=>exact h
  obtain⟨L,z,J⟩:=kL H I q;obtain⟨v',w',H',Z,r1,r2,r3,r4⟩:=aZD (ty:=o.type) hm hE M h1 z J q O U;refine⟨v',w',ok,H',.inl ?_,r1,r2,r3,r4⟩;simp[execOp,Y,resolve,invoke,builtin,Z]
def a05 (hm:Dz C ok H es w)e size:
 Dz C ok (H++[⟨.slice none 0 0,size⟩]) (es++[.arr e size []]) w/\R ok w (H++[⟨.slice none 0 0,size⟩]) (.aS es.length) (.slice none 0 0):=by
 obtain⟨h,_⟩:=hm.change (ok':=ok) (w':=w) (H':=H++[⟨.slice none 0 0,size⟩]) (es':=es++[.arr e size []]) (λ_=>False) rfl rfl rfl (ER _) (λ_ _ _=>rfl) (λ_ h=>h.elim) (λ_ h=>h) (λ_ h=>.inl h) (IK _ _) jB (by
  intro k e' h' q j;rcases Xt q with h1|⟨h1,h2⟩
  ·have u:k<H.length:=aIW
   rw[KH u]at j;exact .inl ⟨h1,j,λ_ _ _ h=>h⟩
  subst h2;have u:k=H.length:=aCB
  subst u;simp at j;subst j
  exact .inr ⟨⟨rfl,BU,[],⟨BU,.inl ⟨rfl,rfl⟩⟩,Ui,λi hi=>a7U⟩,λ_ b z=>by simp[EF]at z⟩)
 exact⟨h,.aS _ _ _ _ size Ql⟩
def CV e size(j:o.op=.assign (.const (.slice none 0 0)):=by exact rfl):CG P o [] es (.aS es.length) (es++[.arr e size []]):=
 .eff λC ok H a w hm _=>by
  obtain⟨h1,h2⟩:=a05 hm e size;exact⟨.slice none 0 0,w,ok,_,.inl aCp,.refl _ _,IK _ _,h1,h2⟩
def aXF (j:o.op=.assign (.const (.slice none 0 0)):=by exact rfl):CG P o [] es (.d (.sl [])) es:=
 .pure λ_ _ a w _ _ _=>⟨.slice none 0 0,aCp,.d _ _ (.sl0 none 0)⟩
def aZu (j:o.op=.move (.const (.slice none 0 0)):=by exact rfl):CG P o [] es (.d (.sl [])) es:=
 .pure λ_ _ a w _ _ _=>⟨.slice none 0 0,aCp,.d _ _ (.sl0 none 0)⟩
def aPF off:∀(vs:AA BG) (i:Nat) (cells:Bh BG),off+i+vs.length<=cells.size->
 ((vs.zipIdx i).foldl (λcs (p:BG×Nat)=>cs.setIfInBounds (off+p.2) p.1) cells).toList=setAt cells.toList (off+i) vs
 | [],i,cells,h=>by simp[setAt]
 |v::vs,i,cells,h=>by
  simp only[Gh]at h;rw[List.zipIdx_cons,Gf];rw[aPF off vs (i+1) _ Ei];simp only[aJg];have j:off+i<cells.toList.length:=Ei
  unfold setAt;rw[aFr,ET j];have h1:(cells.toList.take (off+i)).length=off+i:=Ei
  have q:(List.take (off+i) cells.toList++v::List.drop (off+i+1) cells.toList).take (off+(i+1))=cells.toList.take (off+i)++[v]:=by
   grind
  have u:(List.take (off+i) cells.toList++v::List.drop (off+i+1) cells.toList).drop (off+(i+1)+vs.length)=cells.toList.drop (off+i+(vs.length+1)):=by
   rw[aBo,h1,a5v AB];have :off+(i+1)+vs.length-(off+i)=vs.length+1:=AB
   rw[this];simp[aCI];congr 1;omega
  rw[q,u];simp
def Oc :AA (Nat×C9)->AA Ai->AA (C9×Ai)
 |(_,x)::j,v::vs=>(x,v)::Oc j vs
 |_,_=>[]
def Ot (place:Nat->AL (Nat×Nat))(n:Nat):AA (Nat×C9)->AA Ai->AY
 |(i,_)::j,v::vs=>(match place i with |some (off,s)=>v.cells.length=s&&(off+s<=n)&&v.cells.all Ai.leaf|none=>false)&&Ot place n j vs
 | [],[]=>true
 |_,_=>false
def MN (place:Nat->AL (Nat×Nat)):AA Ai->AA (Nat×C9)->AA Ai->AA Ai
 |cs,(i,_)::j,v::vs=>MN place (setAt cs ((place i).getD (0,0)).1 v.cells) j vs
 |cs,_,_=>cs
variable {us vs:AA BG}
def Hd.setAt {ys}(h:Hd ok w H cs vs)(k:Hd ok w H ys us)(j:off+ys.length<=cs.length):Hd ok w H (setAt cs off ys) (setAt vs off us):=by
 refine⟨by rw[UL (by rw[h.1,k.1];exact j),UL j,h.1],λi hi=>?_⟩;rw[UL j]at hi;rw[bf j,bf (by rw[h.1,k.1];exact j),k.1];split
 ·exact k.2 _ AB
 exact h.2 i hi
def a01 {ok}{w}{H}{place}{a:Act}:∀(q:AA (Nat×C9)) (vs:AA Ai) (cs:AA Ai) (cells:Bh BG),Hd ok w H cs cells.toList->Ot place cs.length q vs=true->
 (∀n∈Oc q vs,R ok w H n.2 (a.eval n.1))->∃j,Instr.fill place cells (q.map λp=>(p.1,a.eval p.2))=some j/\Hd ok w H (MN place cs q vs) j.toList
 | [],[],cs,cells,I,_,_=>⟨cells,rfl,I⟩
 | [],_::_,_,_,_,h,_=>by simp[Ot]at h
 |_::_,[],_,_,_,h,_=>by simp[Ot]at h
 |(i,x)::q,v::vs,cs,cells,I,h,L=>by
  simp only[Ot,Di]at h;obtain⟨h1,h2⟩:=h;cases hp:place i with
  |none=>
   grind
  |some os=>
   obtain⟨off,s⟩:=os;rw[hp]at h1;simp only[Di,Io]at h1;obtain⟨⟨h3,h4⟩,U⟩:=h1;have M:Hd ok w H v.cells (a.eval x).cells.toList:=(L (x,v) (by simp[Oc])).anc U;have Y:(a.eval x).cells.size=s:=by have :=M.1;simp at this;omega
   have O:cells.size=cs.length:=by simpa using I.1
   have u:((a.eval x).cells.zipIdx.foldl (λcs (p:BG×Nat)=>cs.setIfInBounds (off+p.2) p.1) cells).toList=setAt cells.toList off (a.eval x).cells.toList:=by
    rw[←Array.foldl_toList,Array.toList_zipIdx];exact aPF off (a.eval x).cells.toList 0 cells Ei
   have z:=I.setAt M (off:=off) AB;rw[←u]at z;obtain⟨j,Z,hR⟩:=a01 q vs (setAt cs off v.cells) _ z (by rw[UL AB];exact h2) (λn J=>L n (by simp[Oc,J]));refine⟨j,?_,?_⟩
   ·simp only[Gz,Instr.fill,hp];rw[Ee Ei];exact Z
   simp only[MN,hp,OO];exact hR
def Rn (z:BG)(n:Nat):AA Ai:=(List.range n).map λk=>(Gp z).getD (k % z.cells.size) .junk
def aXO (hl:z.cells.all (·.oneCell')=true)(q:0<z.cells.size):Hd ok w H (Rn z n) (((Array.range n).map (z.cells[· % z.cells.size]!)).toList):=by
 refine⟨by simp[Rn],λi hi=>?_⟩;have j:i<n:=by simpa[Rn]using hi
 have hm:i % z.cells.size<z.cells.size:=qG _ q;have u:(Rn z n).getD i .junk=.d (QK z.cells[i % z.cells.size]):=by simp[Rn,Gp,List.getD,j,hm]
 have I:(((Array.range n).map (z.cells[· % z.cells.size]!)).toList).getD i undef=z.cells[i % z.cells.size]:=by simp[List.getD,j,hm]
 rw[u,I];exact⟨zh ((YU.1 hl) _ BU),.d _ _ (tK _)⟩
def aJV (hl:z.cells.all (·.oneCell')=true):Hd ok w H (Gp z) z.cells.toList:=by
 refine⟨by simp[Gp],λi hi=>?_⟩;simp only[Gp,DY,VD]at hi;have j:(Gp z).getD i .junk=.d (QK z.cells[i]):=by simp[Gp,List.getD,hi]
 have q:z.cells.toList.getD i undef=z.cells[i]:=OH
 rw[j,q];exact⟨zh ((YU.1 hl) _ BU),.d _ _ (tK _)⟩
def aEF {P}{w}:∀(l:AA Field),(∀f∈l,(P.info? f.type).isSome=true)->
 (l.mapM λf=>(do pure (f.offset,←sizeOf f.type):Sem (Nat×Nat))).run P w=.ok (l.map λf=>(f.offset,P.cellsOf f.type)) w
 | [],_=>rfl
 |f::l,h=>by
  obtain⟨i,hi⟩:=SB.1 (h f BU);have j:=aEF (P:=P) (w:=w) l (λg q=>h g (by simp[q]));have hs:(sizeOf f.type).run P w=.ok i.size w:=by simp[sizeOf,typeInfo,hi]
  have u:P.cellsOf f.type=i.size:=by simp[Program.cellsOf,hi]
  simp only[List.mapM_cons,GK,hs,Gi,Hy,j,Gz,u]
structure Jj (P:Program) (t:TypeId) (places:List (Nat×Nat)) (z:Value):Prop where
 fields:∃fs,P.underlying t=some (.struct fs)/\(∀f∈fs.toList,(P.info? f.type).isSome=true)/\(fs.toList.map λf=>(f.offset,P.cellsOf f.type))=places
 zero:(P.info? t).bind (·.zero)=some z
 one:z.cells.all (·.oneCell')=true
def aSF (P:Ce)(t:Bz)(j:AA (Nat×Nat)):AY:=
 match P.underlying t with
 |some (.struct q)=>q.toList.all (λf=>(P.info? f.type).isSome)&&decide ((q.toList.map λf=>(f.offset,P.cellsOf f.type))=j)
 |_=>false
variable {j:AA (Nat×Nat)}
def NM (h:aSF P t j=true)(q:(P.info? t).bind (·.zero)=some z)(h1:z.cells.all (·.oneCell')=true):Jj P t j z:=by
 unfold aSF at h;split at h
 ·rename_i u I;simp only[Di,FW,Io]at h;exact⟨⟨u,I,h.1,h.2⟩,q,h1⟩
 cases h
variable {j q:Bh (Nat×C9)}{len:Nat}
def a8C (q:(P.info? t).bind (·.zero)=some z)w:(zeroValue t).run P w=.ok z w:=by
 obtain⟨i,hi,j⟩:=mJ.1 q;simp[zeroValue,typeInfo,hi,j]
def aWB {l}(h:l.all Ai.Dx=true):l=(KE l).map .d:=by
 rw[FW]at h;unfold KE;rw[fV]
 conv=>lhs;rw[←List.map_id l]
 refine sI λx j=>?_;have :=h x j;cases x<;>first|rfl|(simp[Ai.Dx]at this)
def am7 {j}(Z:Jj P t j z)vs(hp:Ot (λ(i:Nat)=>j[i]?) (Gp z).length q.toList vs=true)(ho:o.op=.build t q:=by exact rfl):
 CG P o (Oc q.toList vs) es (.ag (MN (λ(i:Nat)=>j[i]?) (Gp z) q.toList vs)) es:=
 .pure λok H a w _ _ hn=>by
  obtain⟨⟨U,hu,hf,J⟩,hz,h1⟩:=Z;have L:=a8C (P:=P) hz w;have M:(underlying t).run P w=.ok (.struct U) w:=a4o
  have hm:(U.mapM λf=>(do pure (f.offset,←sizeOf f.type):Sem (Nat×Nat))).run P w=.ok j.toArray w:=by
   rw[aBk];rw[a0a,aEF _ hf,J];rfl
  obtain⟨u,hc,I⟩:=a01 (place:=λ(i:Nat)=>j[i]?) q.toList vs (Gp z) z.cells (aJV (ok:=ok) (w:=w) (H:=H) h1) hp hn;refine⟨.agg u,?_,.ag _ _ (by simpa using I.1) (λi hi=>(I.2 i hi).1) (λi hi=>?_)⟩
  rotate_left
  ·have h3:=(I.2 i hi).2;have O:i<u.size:=by have :=I.1;simp at this;omega
   have Y:u.toList.getD i undef=u.getD i undef:=by simp[List.getD,Array.getD,O]
   grind
  have e:(q.map λ(i,x)=>(i,a.eval x)).toList=q.toList.map λp=>(p.1,a.eval p.2):=BU
  have Y:(λ(i:Nat)=>j.toArray[i]?)=(λ(i:Nat)=>j[i]?):=by funext i;simp
  simp only[execOp,ho,Instr.build,GK,L,M,hm,Gi];rw[e,Y,hc];rfl
def amZ {j}(hS:Jj P t j z)vs(hp:Ot (λ(i:Nat)=>j[i]?) (Gp z).length q.toList vs=true)(hd:(MN (λ(i:Nat)=>j[i]?) (Gp z) q.toList vs).all Ai.Dx=true)(ho:o.op=.build t q:=by exact rfl):
 CG P o (Oc q.toList vs) es (.d (.agg (KE (MN (λ(i:Nat)=>j[i]?) (Gp z) q.toList vs)))) es:=
 .pure λok H a w _ _ hn=>by
  obtain⟨⟨Z,hu,hf,I⟩,hz,h1⟩:=hS;have J:=a8C (P:=P) hz w;have L:(underlying t).run P w=.ok (.struct Z) w:=a4o
  have hm:(Z.mapM λf=>(do pure (f.offset,←sizeOf f.type):Sem (Nat×Nat))).run P w=.ok j.toArray w:=by
   rw[aBk];rw[a0a,aEF _ hf,I];rfl
  obtain⟨u,hc,M⟩:=a01 (place:=λ(i:Nat)=>j[i]?) q.toList vs (Gp z) z.cells (aJV (ok:=ok) (w:=w) (H:=H) h1) hp hn;refine⟨.agg u,?_,.d _ _ ?_⟩
  ·have e:(q.map λ(i,x)=>(i,a.eval x)).toList=q.toList.map λp=>(p.1,a.eval p.2):=BU
   have e2:(λ(i:Nat)=>j.toArray[i]?)=(λ(i:Nat)=>j[i]?):=by funext i;simp
   simp only[execOp,ho,Instr.build,GK,J,L,hm,Gi];rw[e,e2,hc];rfl
  rw[aWB hd]at M;generalize KE (MN (λ(i:Nat)=>j[i]?) (Gp z) q.toList vs)=xs at M ⊢;obtain⟨h2,h3⟩:=M;simp only[DY]at h2 h3
  have hg:∀i,i<xs.length->(xs.map Ai.d).getD i .junk=.d (xs.getD i EO):=by
   grind
  have O:u.size=xs.length:=LP
  refine .agg xs u O ?_ ?_<;>intro i hi
  ·have :=(h3 i hi).1;rw[hg i hi]at this;exact this
  have U:=(h3 i hi).2;rw[hg i hi]at U;have Y:i<u.size:=AB
  have e:u.toList.getD i undef=u.getD i undef:=by simp[List.getD,Array.getD,Y]
  rw[e]at U;cases U with |d _ _ h=>exact h
def am0 {cells}{fr}(u:∀y∈ys,y.cells.length=size)(M:w.heap[b]? =some (.cells cells e fr))(z:ok b)(I:Hd ok w H (flat ys) cells.toList):
 EL ok w (.sl ys) (.slice (some ⟨b,0,none⟩) ys.length ys.length):=by
 have hl:=U2 u;have J:cells.size=ys.length*size:=by have :=I.1;simp at this;omega
 have O:∀i,i<ys.length->ys.getD i EO∈ys:=λi hi=>OH
 have L:∀i j,i<ys.length->j<size->i*size+j<ys.length*size:=by
  intro i j hi q
  calc i*size+j<i*size+size:=AB
   _=(i+1)*size:=by rw[ig]
   _<=ys.length*size:=Lu _ hi
 have U:∀i j,i<ys.length->j<size->w.cell? ⟨b,0+(i*size+j),none⟩=some (cells.toList.getD (i*size+j) undef):=by
  intro i j hi q;have :=L i j hi q;rw[LC];simp[World.cell?,M,J,this,List.getD]
 refine .sl ys b 0 ys.length size (ER _) (λ_ _=>z) (λi hi=>u _ (O i hi)) (λi hi j q=>?_) (λi hi j q=>?_) (λi hi j q=>?_)
 ·have :=(I.2 (i*size+j) (by rw[hl];exact L i j hi q)).1;rw[flat_get u i j hi q]at this;exact this
 ·grind
 have :=(I.2 (i*size+j) (by rw[hl];exact L i j hi q)).2;rw[flat_get u i j hi q]at this;unfold cellAt;rw[U i j hi q];cases this with |d _ _ h=>exact h
def aLG {u}(hE:Gm P t e size u)(hz:(P.info? e).bind (·.zero)=some z)(h1:z.cells.all (·.oneCell')=true)(Y:z.cells.size=size)(hlen:len*size<=16777216){vs}(hp:Ot (λi=>some (i*size,size)) (len*size) j.toList vs=true)(hn:∀n∈Oc j.toList vs,R ok w H n.2 (a.eval n.1)):
 ∃cells,(Instr.buildSlice t len (j.map λ(i,x)=>(i,a.eval x))).run P w=.ok (.slice (some ⟨w.heap.size,0,none⟩) len len) (w.alloc (.cells cells e))/\Hd ok w H (MN (λi=>some (i*size,size)) (Rn z (len*size)) j.toList vs) cells.toList:=by
 obtain⟨i,z',hi,_,hs,_,_⟩:=hE.info;have Z:=a8C (P:=P) hz w;have I:(sizeOf e).run P w=.ok size w:=aF0
 have J:(underlying t).run P w=.ok (.slice e) w:=aEv
 have e0:(j.map λ(i,x)=>(i,a.eval x)).toList=j.toList.map λp=>(p.1,a.eval p.2):=BU
 have hzl:(Rn z (len*size)).length=len*size:=by simp[Rn]
 have L:0<z.cells.size:=by rw[Y];exact hE.pos
 obtain⟨q,hc,hR⟩:=a01 (place:=λi=>some (i*size,size)) j.toList vs (Rn z (len*size)) _ (aXO (ok:=ok) (w:=w) (H:=H) (n:=len*size) h1 L) (by rw[hzl];exact hp) hn;refine⟨q,?_,hR⟩;have M:¬(len*size>2^24):=AB
 by_cases O:len*size=0
 ·have hr0:(Array.range (len*size)).map (λk=>(z.cells[k % z.cells.size]! :BG))= #[]:=by rw[O];simp
  rw[hr0]at hc;have U:(Array.range (len*size)).map (λk=>((#[]:Bh BG)[k % (#[]:Bh BG).size]! :BG))= #[]:=by rw[O];simp
  simp only[Instr.buildSlice,GK,J,Gi,I,M,Lc,Sem.run_ite,O,KT,Hy];simp only[O]at U;rw[U,e0,hc];rfl
 simp only[Instr.buildSlice,GK,J,Gi,I,M,Lc,Sem.run_ite,O,Z,Hy];rw[e0,hc];rfl
def a4U {q}(hE:Gm P t e size q)(M:(P.info? e).bind (·.zero)=some z)(h1:z.cells.all (·.oneCell')=true)(J:z.cells.size=size)(hlen:len*size<=16777216)vs ys(hp:Ot (λi=>some (i*size,size)) (len*size) j.toList vs=true)(L:MN (λi=>some (i*size,size)) (Rn z (len*size)) j.toList vs=flat ys)(hl:ys.length=len)(u:ys.all (λy=>y.cells.length=size)=true)(O:o.op=.buildSlice t len j:=by exact rfl):
 CG P o (Oc j.toList vs) es (.d (.sl ys)) es:=
 .eff λC ok H a w hm U=>by
  obtain⟨cells,Y,I⟩:=aLG hE M h1 J hlen hp U;rw[L]at I;obtain⟨h2,h3⟩:=hm.fresh (.cells cells e);refine⟨.slice (some ⟨w.heap.size,0,none⟩) len len,_,_,H,.inl ?_,h3,.refl _,h2,.d _ _ ?_⟩
  ·simp only[execOp,O,GK,Y,Gi,Hy]
  rw[←hl];exact am0 (H:=H) (λy L=>by rw[FW]at u;simpa using u y L) (WR w _) (.inr rfl) (I.mono h3 (.refl _))
def a7L {q}(hE:Gm P t e size q)(hz:(P.info? e).bind (·.zero)=some z)(h1:z.cells.all (·.oneCell')=true)(U:z.cells.size=size)(hlen:len*size<=16777216)vs ys(hp:Ot (λi=>some (i*size,size)) (len*size) j.toList vs=true)(Y:MN (λi=>some (i*size,size)) (Rn z (len*size)) j.toList vs=flat ys)(hl:ys.length=len)(I:ys.all (λy=>y.cells.length=size)=true)(ho:o.op=.buildSlice t len j:=by exact rfl):
 CG P o (Oc j.toList vs) es (.aS es.length) (es++[.arr e size ys]):=
 .eff λC ok H a w hm hn=>by
  obtain⟨cells,hr,u⟩:=aLG hE hz h1 U hlen hp hn;rw[Y]at u;have J:∀y∈ys,y.cells.length=size:=λy Y=>by rw[FW]at I;simpa using I y Y
  have hfl:=U2 J;have L:cells.size=ys.length*size:=by have :=u.1;simp at this;omega
  have M:=hE.pos
  have Z:ys.length<=16777216:=by
   have :ys.length*1<=ys.length*size:=Nat.mul_le_mul_left _ M
   grind
  obtain⟨h2,h3⟩:=hm.push (.cells cells e) ⟨.slice (some ⟨w.heap.size,0,none⟩) len len,size⟩ (.arr e size ys) (λb O=>by simpa[EF]using O.symm) (by
   refine⟨rfl,J,cells.toList,⟨by simpa using L,.inr ⟨w.heap.size,len,cells,by rw[hl],FQ _,WR w _,AB,oW,QL (by rw[L,hl]),?_⟩⟩,?_⟩
   ·rw[RU Ei]
   exact u.mono (λb O=>⟨O,Lr _ _ _ (hm.lQ b O)⟩) (IK _ _))
  refine⟨.slice (some ⟨w.heap.size,0,none⟩) len len,_,ok,_,.inl ?_,h3,IK _ _,h2,.aS _ _ _ _ size Ql⟩;simp only[execOp,ho,GK,hr,Gi,Hy]
variable {W:BQ}{ats:Bh Bz}{f:FuncId}{fn:Func}
section
variable {φ:Nat->BG->BQ->Prop}{a0:Act}{i:Nat}
variable {d:AL Tmp} {t:Bz} {p:String} {af:Bh Edge} {g:AL (Nat×AY)}
def Enters (P:Ce)(f:FuncId):Prop:=∀args w,(callFunc f args).run P w=.ok (.enter f args) w
def enters_of {c}(q:P.funcs[f]? =some fn)(j:(fn.name== "runtime.NumGoroutine")=false)(u:fn.body=some c):Enters P f:=by
 intro args w;have h1:fn.name≠ "runtime.NumGoroutine" :=Vj
 simp[callFunc,q,h1,u]
def II (P:Ce)(f:FuncId):AY:=match P.funcs[f]? with
 |some fn=> !(fn.name== "runtime.NumGoroutine")&&fn.body.isSome
 |none=>false
def Ux (h:II P f=true):Enters P f:=by
 unfold II at h;cases j:P.funcs[f]? with
 |none=>rw[j]at h;cases h
 |some fn=>
  rw[j]at h;simp only[Di,Vx]at h;obtain⟨c,q⟩:=SB.1 h.2;exact enters_of j h.1 q
def vY {aST}(j:o.op=.call { callee:=.value (.func f),args:=aST,argTypes:=ats }):execOp a.eval o=callFunc f (aST.map a.eval):=by
 have q:a.eval (.func f)=.func (.func f) #[] #[]:=rfl;unfold execOp;simp[j,resolve,Deferred.ofValue,invoke,q]
end
inductive EW where
 |ent (k:Nat)
 |nil (size:Nat)
def EW.hd (H:AA CP):EW->CP
 | .ent k=>H.getD k ⟨undef,0⟩
 | .nil s=>⟨.slice none 0 0,s⟩
def Ai.YM (srcs:AA EW)(n:Nat):Ai->Ai
 | .d x=>.d x
 | .ptr k off=>match srcs[k]? with |some (.ent j)=>.ptr j off|some (.nil _)=>.junk|none=>.ptr (n+(k-srcs.length)) off
 | .aS k=>match srcs[k]? with |some (.ent j)=>.aS j|some (.nil _)=>.junk|none=>.aS (n+(k-srcs.length))
 | .mF k i off=>match srcs[k]? with |some (.ent j)=>.mF j i off|some (.nil _)=>.junk|none=>.mF (n+(k-srcs.length)) i off
 | .mp k=>match srcs[k]? with |some (.ent j)=>.mp j|some (.nil _)=>.junk|none=>.mp (n+(k-srcs.length))
 | .yE k=>match srcs[k]? with |some (.ent j)=>.yE j|some (.nil _)=>.junk|none=>.yE (n+(k-srcs.length))
 | .clip xs=>.clip xs
 |_=>.junk
def Ai.up (srcs:AA EW)(n:Nat):Ai->Ai
 | .eP xs=>.eP (xs.map (Ai.YM srcs n))
 | .fn f fi ca=>.fn f (fi.map (Ai.YM srcs n)) (ca.map (Ai.YM srcs n))
 |x=>x.YM srcs n
def aF4 (srcs:AA EW):Ai->Ai->Prop
 | .d x,y=>y=.d x
 | .ptr k off,y=>∃i,y=.ptr i off/\srcs[i]? =some (.ent k)
 | .mp k,y=>∃i,y=.mp i/\srcs[i]? =some (.ent k)
 |_,_=>False
def a1U (srcs:AA EW):AA Ai->AA Ai->Prop
 |x::xs,y::ys=>aF4 srcs x y/\a1U srcs xs ys
 | [],[]=>True
 |_,_=>False
def xB {srcs}:∀{xs ys:AA Ai},a1U srcs xs ys->xs.length=ys.length
 | [],[],_=>rfl
 |_::xs,_::ys,h=>by simp[xB h.2]
 | [],_::_,h=>h.elim
 |_::_,[],h=>h.elim
def aGd {srcs}:∀{xs ys:AA Ai},a1U srcs xs ys->∀i,i<ys.length->aF4 srcs (xs.getD i .junk) (ys.getD i .junk)
 | [],[],_,i,hi=>Tm
 |_::xs,_::ys,h,0,_=>by simpa using h.1
 |_::xs,_::ys,h,i+1,hi=>by simpa using aGd h.2 i IZ
 | [],_::_,h,_,_=>h.elim
 |_::_,[],h,_,_=>h.elim
def aLQ (srcs:AA EW):Ai->Ai->Prop
 | .fn f fi ca,y=>∃j q,y=.fn f j q/\a1U srcs fi j/\a1U srcs ca q
 | .d x,y=>y=.d x\/(∃i s,x=.lit (.slice none 0 0)/\y=.aS i/\srcs[i]? =some (.nil s))\/(x=.lit (.slice none 0 0)/\y=.d (.sl []))
 | .aS k,y=>∃i,y=.aS i/\srcs[i]? =some (.ent k)
 | .ptr k off,y=>∃i,y=.ptr i off/\srcs[i]? =some (.ent k)
 | .mp k,y=>∃i,y=.mp i/\srcs[i]? =some (.ent k)
 |_,_=>False
def BX.closed:BX->AY
 | .box cs=>cs.all Ai.Dx
 | .loop .. =>false
 |_=>true
variable {e:BX}
def Fp.any (q:Fp ok w H h e)(I:e.closed=true):Fp ok w H2 h e:=by
 cases e with
 |dead=>trivial
 |box cs=>
  obtain⟨b,vs,T,h1,h2,h3,z⟩:=q;refine⟨b,vs,T,h1,h2,h3,λi hi=>⟨(z i hi).1,?_⟩⟩;have u:=(z i hi).2;simp only[BX.closed,FW]at I;have j:=I (cs.getD i .junk) OH;cases J:cs.getD i .junk with
  |d x=>rw[J]at u;cases u with |d _ _ h=>exact .d _ _ h
  |_=>rw[J]at j;simp[Ai.Dx]at j
 |arr e s es=>
  obtain⟨h1,h2,xs,h3,z,u⟩:=q;refine⟨h1,h2,xs,h3,z,λi hi=>⟨(u i hi).1,?_⟩⟩;have j:=(u i hi).2;have hm:(flat es).getD i .junk∈flat es:=OH
  unfold flat at hm ⊢;simp only[WL,FB]at hm;obtain⟨x,_,y,_,L⟩:=hm;unfold flat at j;rw[←L]at j ⊢;cases j with |d _ _ h=>exact .d _ _ h
 |map es=>exact q
 |fK es=>exact q
 |iter es vis=>exact q
 |loop=>cases I
def BX.up (srcs:AA EW)(n:Nat):BX->BX
 | .box cs=>.box (cs.map (Ai.YM srcs n))
 |e=>e
def Ai.avX (srcs:AA EW):Ai->AY
 | .d _=>true
 | .mp k=>match srcs[k]? with |some (.ent _)=>true|_=>false
 | .ptr k _=>match srcs[k]? with |some (.ent _)=>true|_=>false
 |_=>false
def BX.aqk (srcs:AA EW):BX->AY
 | .box cs=>cs.all (Ai.avX srcs)
 | .loop .. =>false
 |_=>true
def BX.asr (srcs:AA EW)(n:Nat):BX->AY
 | .box cs=>cs.all λx=>x.Dx||(x.YM srcs n).leaf
 | .loop .. =>false
 |_=>true
def BX.ag4 srcs n(e:BX):(e.up srcs n).live=e.live:=by cases e<;>rfl
variable {srcs:AA EW}{x:Ai}
def aLH (h:x.Dx=true):x.YM srcs n=x:=by cases x<;>first|rfl|cases h
def BX.aDT (h:e.closed=true):e.up srcs n=e:=by
 cases e with
 |box cs=>
  simp only[BX.closed,FW]at h;show BX.box (cs.map (Ai.YM srcs n))=BX.box cs
  rw[show cs.map (Ai.YM srcs n)=cs from by
   conv=>rhs;rw[←List.map_id cs]
   exact sI λx j=>aLH (h x j)]
 |_=>rfl
def aWe {srcs}{n}:∀{E:AA BX},E.all BX.closed=true->E.map (BX.up srcs n)=E
 | [],_=>rfl
 |e::E,h=>by
  simp only[List.all_cons,Di]at h;rw[Gz,BX.aDT h.1,aWe h.2]
def adR (h:e.closed=true):e.asr srcs n=true:=by
 cases e with
 |box cs=>
  simp only[BX.closed,BX.asr,FW]at h ⊢;intro x j;rw[h x j];rfl
 |loop=>cases h
 |_=>rfl
variable {Hc:AA CP}
def Fp.down (L:∀(j:Nat) (s:EW),srcs[j]? =some s->Hc[j]? =some (EW.hd H s))(hd:e.aqk srcs=true)(u:Fp ok w H h (e.up srcs n)):Fp ok w Hc h e:=by
 cases e with
 |dead=>
  trivial
 |arr=>
  exact u.any rfl
 |map=>
  exact u
 |fK=>
  exact u
 |iter=>
  exact u
 |loop=>
  cases hd
 |box cs=>
  obtain⟨b,vs,T,h1,h2,h3,M⟩:=u;refine⟨b,vs,T,h1,h2,by rw[h3,DY],λi hi=>?_⟩;obtain⟨I,q⟩:=M i a3n;rw[Vo _ _ _ hi]at q I;simp only[BX.aqk,FW]at hd;have z:=hd (cs.getD i .junk) OH;generalize cs.getD i .junk=x at q z I ⊢;generalize vs.toList.getD i undef=v at q ⊢;cases x with
  |d x=>
     exact⟨I,by cases q with |d _ _ h=>exact .d _ _ h⟩
  |mp k=>
   refine⟨rfl,?_⟩;simp only[Ai.avX]at z;simp only[Ai.YM]at q;cases hs:srcs[k]? with
   |none=>
    grind
   |some s=>
    cases s with
    |nil _=>
     grind
    |ent j=>
     rw[hs]at q;cases q with
     |mp _ _ s hl J=>
      refine .mp k _ s hl ?_;rw[L k _ hs];simp[EW.hd,List.getD,J]
  |ptr k off=>
   refine⟨rfl,?_⟩;simp only[Ai.avX]at z;simp only[Ai.YM]at q;cases hs:srcs[k]? with
   |none=>
    grind
   |some s=>
    cases s with
    |nil _=>
     grind
    |ent j=>
     rw[hs]at q;cases q with
     |ptr _ _ b s J=>
      refine .ptr k off b s ?_;rw[L k _ hs];simp[EW.hd,List.getD,J]
  |_=>
    simp[Ai.avX]at z
def O8 (srcs:AA EW)(es E':AA BX):AA BX:=
 (es.zipIdx.map λ(e,j)=>match srcs.findIdx? (λs=>match s with | .ent k=>k==j| .nil _=>false)with |some i=>(E'.getD i .dead).up srcs es.length|none=>e)++(E'.drop srcs.length).map (BX.up srcs es.length)
def TN (srcs:AA EW)(es E E':AA BX):AY:=
 decide (srcs.length=E.length)&&(srcs.length<=E'.length)&&E.all (BX.aqk srcs)&&E'.all (BX.asr srcs es.length)&&
 decide ((srcs.filterMap λs=>match s with | .ent k=>some k| .nil _=>none).Nodup)&&
 ((srcs.zip E').all λp=>match p.1 with | .ent _=>true| .nil _=> !p.2.live)&&(srcs.all λs=>match s with | .ent k=>k<es.length&&(es.getD k .dead).live| .nil _=>true)
def vU (srcs:AA EW)(es:AA BX):AA BX->Prop
 |E=>∀(i:Nat) (s:EW),srcs[i]? =some s->match s with | .ent k=>(E[i]?).map (BX.up srcs es.length)=es[k]? | .nil sz=>∃e,E[i]? =some (.arr e sz [])
def X5 (I:Hc=srcs.map (EW.hd H))(q:∀(i k:Nat),srcs[i]? =some (.ent k)->k<H.length)(J:Names Hc H')(h:R ok w H' x v):R ok w (H++H'.drop srcs.length) (x.YM srcs H.length) v:=by
 have key:∀(k:Nat) (hd:CP),H'[k]? =some hd->(∀(j:Nat),srcs[k]? =some (.ent j)->(H++H'.drop srcs.length)[j]? =some hd)/\(srcs[k]? =none->(H++H'.drop srcs.length)[H.length+(k-srcs.length)]? =some hd):=by
  intro k hd O;refine⟨λj z=>?_,λu=>?_⟩
  ·have L:=q k j z;have h1:Hc[k]? =some (H.getD j ⟨undef,0⟩):=by rw[I,Le,z];rfl
   have h2:=J _ _ h1
   grind
  have M:srcs.length<=k:=SY
  grind
 cases h with
 |d x v h=>
    exact .d x v h
 |ptr k off b s h=>
  obtain⟨h1,h2⟩:=key k _ h;simp only[Ai.YM];split<;>rename_i hs
  ·exact .ptr _ off b s (h1 _ hs)
  ·exact .junk _
  exact .ptr _ off b s (h2 hs)
 |aS k ad n cap s h=>
  obtain⟨h1,h2⟩:=key k _ h;simp only[Ai.YM];split<;>rename_i hs
  ·exact .aS _ ad n cap s (h1 _ hs)
  ·exact .junk _
  exact .aS _ ad n cap s (h2 hs)
 |mF k i off b n cap s h=>
  obtain⟨h1,h2⟩:=key k _ h;simp only[Ai.YM];split<;>rename_i hs
  ·exact .mF _ i off b n cap s (h1 _ hs)
  ·exact .junk _
  exact .mF _ i off b n cap s (h2 hs)
 |mp k v s hl h=>
  obtain⟨h1,h2⟩:=key k _ h;simp only[Ai.YM];split<;>rename_i hs
  ·exact .mp _ v s hl (h1 _ hs)
  ·exact .junk _
  exact .mp _ v s hl (h2 hs)
 |clip xs ad h=>
  exact .clip xs ad h
 |yE k ad n cap s h=>
  obtain⟨h1,h2⟩:=key k _ h;simp only[Ai.YM];split<;>rename_i hs
  ·exact .yE _ ad n cap s (h1 _ hs)
  ·exact .junk _
  exact .yE _ ad n cap s (h2 hs)
 |fn f first cap vs us hl hm h h'=>
  exact .junk _
 |eP xs vs hl h=>
  exact .junk _
 |ag xs vs hl U h=>
  exact .junk _
 |junk v=>
  exact .junk _
def aVA (q:Hc=srcs.map (EW.hd H))(j:∀(i k:Nat),srcs[i]? =some (.ent k)->k<H.length)(u:Names Hc H')(h:R ok w H' x v):R ok w (H++H'.drop srcs.length) (x.up srcs H.length) v:=by
 cases h with
 |eP xs vs hl h=>exact .eP _ vs jU (λi hi=>aPc)
 |ag xs vs hl z h=>exact .junk _
 |d x v h=>exact X5 q j u (.d x v h)
 |ptr k off b s h=>exact X5 q j u (.ptr k off b s h)
 |aS k ad n cap s h=>exact X5 q j u (.aS k ad n cap s h)
 |mF k i off b n cap s h=>exact X5 q j u (.mF k i off b n cap s h)
 |mp k v s hl h=>exact X5 q j u (.mp k v s hl h)
 |clip xs ad h=>exact X5 q j u (.clip xs ad h)
 |yE k ad n cap s h=>exact X5 q j u (.yE k ad n cap s h)
 |fn f first cap vs us hl hm h h'=>exact .fn f _ _ vs us jU (by simp[hm]) (λi hi=>aPc) (λi hi=>by rw[DY]at hi;rw[Vo _ _ _ hi];exact X5 q j u (h' i hi))
 |junk v=>exact .junk _
def Fp.upw (I:Hc=srcs.map (EW.hd H))(u:∀(i k:Nat),srcs[i]? =some (.ent k)->k<H.length)(J:Names Hc H')(hl:H.length=n)(z:e.asr srcs n=true)(j:Fp ok w H' h e):
 Fp ok w (H++H'.drop srcs.length) h (e.up srcs n):=by
 cases e with
 |dead=>trivial
 |arr=>exact j.any rfl
 |map=>exact j
 |fK=>exact j
 |iter=>exact j
 |loop=>cases z
 |box cs=>
  obtain⟨b,vs,T,h1,h2,h3,L⟩:=j;refine⟨b,vs,T,h1,h2,by rw[h3,DY],λi hi=>?_⟩;rw[DY]at hi;obtain⟨M,O⟩:=L i hi;simp only[BX.asr,FW]at z;have q:=z (cs.getD i .junk) OH;rw[Vo _ _ _ hi];refine⟨?_,by have :=X5 I u J O;rwa [hl]at this⟩;rcases Bool.or_eq_true_iff.1 q with q|q
  ·rw[aLH q];exact M
  exact q
def GL :AA C9->AA Ai->AA (C9×Ai)
 |x::xs,v::vs=>(x,v)::GL xs vs
 |_,_=>[]
def Ob (srcs:AA EW):AA Ai->AA Ai->Prop
 |x::xs,y::ys=>aLQ srcs x y/\Ob srcs xs ys
 | [],[]=>True
 |_,_=>False
def aUY {srcs}:∀{xs ys:AA Ai},Ob srcs xs ys->xs.length=ys.length
 | [],[],_=>rfl
 |_::xs,_::ys,h=>by simp[aUY h.2]
 | [],_::_,h=>h.elim
 |_::_,[],h=>h.elim
variable {ops:AA C9}
def aiU:∀{xs ys:AA Ai},ops.length=xs.length->Ob srcs xs ys->∀i,i<ys.length->∃o x,ops[i]? =some o/\(o,x)∈GL ops xs/\aLQ srcs x (ys.getD i .junk):=by
 induction ops with
 |nil=>
  intro xs ys hl h i hi;cases xs with
  |nil=>cases ys with |nil=>simp at hi|cons _ _=>exact h.elim
  |cons _ _=>simp at hl
 |cons o ops j=>
  intro xs ys hl h i hi;cases xs with
  |nil=>simp at hl
  |cons x xs=>
   cases ys with
   |nil=>exact h.elim
   |cons y ys=>
    cases i with
    |zero=>exact⟨o,x,rfl,by simp[GL],h.1⟩
    |succ i=>
     obtain⟨q,u,h1,h2,h3⟩:=j Ny h.2 i IZ;exact⟨q,u,V9,by simp[GL,h2],YL⟩
def aal:b∈(srcs.filterMap λs=>match s with | .ent k=>EF (H.getD k ⟨undef,0⟩).v| .nil _=>none)↔∃k,.ent k∈srcs/\EF (H.getD k ⟨undef,0⟩).v=some b:=by
 grind
variable {E E':AA BX}{eH fH:AA Ai}{j:Ai}{ops:Bh C9}
def aQx :∀{srcs:AA EW},(srcs.filterMap λs=>match s with | .ent k=>some k| .nil _=>none).Nodup->∀(i j k:Nat),srcs[i]? =some (.ent k)->srcs[j]? =some (.ent k)->i=j
 | [],_,i,j,k,h,_=>JD
 |s::srcs,z,i,j,k,hi,u=>by
  have q:∀(n:Nat),srcs[n]? =some (.ent k)->k∈srcs.filterMap λs=>match s with | .ent k=>some k| .nil _=>none:=λn h=>by
   rw[eX];exact⟨_,Z9 h,rfl⟩
  have I:(srcs.filterMap λs=>match s with | .ent k=>some k| .nil _=>none).Nodup:=by
   grind
  match i,j with
  |0,0=>
   rfl
  |0,j+1=>
   simp at hi u;subst hi;simp only[SK]at z;exact absurd (q j u) (KX.1 z).1
  |i+1,0=>
   simp at hi u;subst u;simp only[SK]at z;exact absurd (q i hi) (KX.1 z).1
  |i+1,j+1=>
    rw[aQx I i j k IZ SY]
def aPX (hm:Dz C ok H es w)srcs{res}(hr:Ej P f fH E res E')(hb:TN srcs es E E'=true)(hE:vU srcs es E)(ha:Ob srcs eH fH){ops}(hl:ops.length=eH.length)(hn:∀n∈GL ops eH,R ok w H n.2 (a.eval n.1)):
 Calls P f (ops.map a.eval).toArray w λe w'=>∃v ok' H',e=.returned v/\FT ok w ok' w'/\Names H H'/\Dz C ok' H' (O8 srcs es E') w'/\R ok' w' H' (res.up srcs es.length) v:=by
 unfold TN at hb;simp only[Di,Io,FW]at hb;obtain⟨⟨⟨⟨⟨⟨hb1,hb2⟩,hb3⟩,hb4⟩,hb5⟩,hb6⟩,hb7⟩:=hb;have hidx:=aQx hb5
 let Hc:=srcs.map (EW.hd H)
 let X:=srcs.filterMap λs=>match s with | .ent k=>EF (H.getD k ⟨undef,0⟩).v| .nil _=>none
 have hX:∀b,b∈X↔∃k,.ent k∈srcs/\EF (H.getD k ⟨undef,0⟩).v=some b:=λb=>aal
 have O:∀(i k:Nat),srcs[i]? =some (.ent k)->k<es.length/\(es.getD k .dead).live=true:=by
  intro i k hi;have :=hb7 _ (Z9 hi);simpa using this
 have hlt:∀(i k:Nat),srcs[i]? =some (.ent k)->k<H.length:=λi k hi=>by rw[hm.hlen];exact(O i k hi).1
 have hHk:∀(k:Nat),k<H.length->H[k]? =some (H.getD k ⟨undef,0⟩):=λk hk=>by simp[List.getD,hk]
 have asu:∀(k:Nat),k<es.length->es[k]? =some (es.getD k .dead):=λk hk=>by simp[List.getD,hk]
 have L:∀b,b∈X->∃(i k:Nat),srcs[i]? =some (.ent k)/\EF (H.getD k ⟨undef,0⟩).v=some b/\¬ok b/\b<w.heap.size/\(C.w0.heap.size<=b\/b∈C.X):=by
  intro b hb;obtain⟨k,hk,hbk⟩:=(hX b).1 hb;obtain⟨i,hi,M⟩:=GY hk;have hi':srcs[i]? =some (.ent k):=by simp[hi,M]
  have :=hm.blk k _ _ b (asu k (O i k hi').1) (O i k hi').2 (hHk k (hlt i k hi')) hbk;exact⟨i,k,hi',hbk,this⟩
 have hmc:Dz ⟨w,ok,X,Hc⟩ ok Hc E w:=by
  refine⟨.refl _ _,λ_ h=>h,λ_ h=>.inl h,hm.lQ,.refl _,by simp[Hc,hb1],?_,?_,?_⟩
  ·intro i e h M I;have hi:i<srcs.length:=aCt
   have hcl:e.aqk srcs=true:=hb3 e (Z9 M);have aMx:∀(j:Nat) (s:EW),srcs[j]? =some s->Hc[j]? =some (EW.hd H s):=λj s hs=>by simp[Hc,hs]
   have hs:srcs[i]? =some srcs[i]:=X7
   have hd:=hE i _ hs;simp only[Hc,Le,hs,Kr,OX]at I;cases hsi:srcs[i]with
   |ent k=>
    rw[hsi]at hd I hs;simp only[EW.hd]at I;subst I;simp only at hd;rw[M,Kr]at hd;exact Fp.down aMx hcl (hm.ent k _ _ hd.symm (hHk k (hlt i k hs)))
   |nil sz=>
    rw[hsi]at hd I;simp only[EW.hd]at I;subst I;obtain⟨e',he'⟩:=hd;rw[M]at he';obtain rfl:=E5 he';exact⟨rfl,BU,[],⟨BU,.inl ⟨rfl,rfl⟩⟩,Ui,λi hi=>a7U⟩
  ·intro i e h b M J I z;have hi:i<srcs.length:=aCt
   have hs:srcs[i]? =some srcs[i]:=X7
   simp only[Hc,Le,hs,Kr,OX]at I;cases hsi:srcs[i]with
   |ent k=>
    rw[hsi]at I hs;simp only[EW.hd]at I;subst I;have hbX:b∈X:=(hX b).2 ⟨k,Z9 hs,z⟩;obtain⟨_,_,_,_,h1,h2,_⟩:=L b hbX;exact⟨h1,h2,.inr hbX⟩
   |nil sz=>
    rw[hsi]at I;simp only[EW.hd]at I;subst I;simp[EF]at z
  intro i j e e' h h' b M he' J U I hh' z Y;have hi:i<srcs.length:=aCt
  have hj:j<srcs.length:=by rw[hb1];exact(I9.1 he').1
  have hs:srcs[i]? =some srcs[i]:=X7
  have hs':srcs[j]? =some srcs[j]:=by simp[hj]
  simp only[Hc,Le,hs,Kr,OX]at I;simp only[Hc,Le,hs',Kr,OX]at hh';cases hsi:srcs[i]with
  |nil sz=>rw[hsi]at I;simp only[EW.hd]at I;subst I;simp[EF]at z
  |ent k=>
   cases hsj:srcs[j]with
   |nil sz=>rw[hsj]at hh';simp only[EW.hd]at hh';subst hh';simp[EF]at Y
   |ent k'=>
    rw[hsi]at I hs;rw[hsj]at hh' hs';simp only[EW.hd]at I hh';subst I;subst hh';have hkk:=hm.J6 k k' _ _ _ _ b (asu k (O i k hs).1) (asu k' (O j k' hs').1) (O i k hs).2 (O j k' hs').2 (hHk k (hlt i k hs)) (hHk k' (hlt j k' hs')) z Y;subst hkk;exact hidx i j k hs hs'
 have hargs:∀i,i<fH.length->R ok w Hc (fH.getD i .junk) ((ops.map a.eval).toArray.getD i undef):=by
  intro i hi;obtain⟨op,x,ho,hmem,Z⟩:=aiU hl ha i hi;have hR:=hn _ hmem
  have e:(ops.map a.eval).toArray.getD i undef=a.eval op:=by
   obtain⟨h1,h2⟩:=I9.1 ho;simp[Array.getD,h1,h2]
  rw[e];simp only at hR;generalize fH.getD i .junk=y at Z ⊢;generalize a.eval op=u at hR ⊢;have hHc:∀(j:Nat) (s:EW),srcs[j]? =some s->Hc[j]? =some (EW.hd H s):=λj s hs=>by simp[Hc,hs]
  cases x with
  |d x=>
   rcases Z with rfl|⟨j,s,rfl,rfl,hs⟩|⟨rfl,rfl⟩
   ·cases hR with |d _ _ h=>exact .d _ _ h
   ·have :=hR.lit;rw[this];exact .aS j none 0 0 s (hHc j _ hs)
   have :=hR.lit;rw[this];exact .d _ _ (.sl0 none 0)
  |aS k=>
   obtain⟨j,rfl,hs⟩:=Z;cases hR with
   |aS _ ad n cap s hH=>
    refine .aS j ad n cap s ?_;rw[hHc j _ hs];simp[EW.hd,List.getD,hH]
  |ptr k off=>
   obtain⟨j,rfl,hs⟩:=Z;cases hR with
   |ptr _ _ b s hH=>
    refine .ptr j off b s ?_;rw[hHc j _ hs];simp[EW.hd,List.getD,hH]
  |mp k=>
   obtain⟨j,rfl,hs⟩:=Z;cases hR with
   |mp _ _ s hl hH=>
    refine .mp j _ s hl ?_;rw[hHc j _ hs];simp[EW.hd,List.getD,hH]
  |fn f fi ca=>
   obtain⟨fi',ca',rfl,h1,h2⟩:=Z
   have one:∀(x y:Ai) (v:BG),aF4 srcs x y->R ok w H x v->R ok w Hc y v:=by
    intro x y v hxy hx;cases x with
    |d x=>obtain rfl:=hxy;cases hx with |d _ _ h=>exact .d _ _ h
    |mp k=>
     obtain⟨j,rfl,hs⟩:=hxy;cases hx with
     |mp _ _ s hl hH=>
      refine .mp j _ s hl ?_;rw[hHc j _ hs];simp[EW.hd,List.getD,hH]
    |ptr k off=>
     obtain⟨j,rfl,hs⟩:=hxy;cases hx with
     |ptr _ _ b s hH=>
      refine .ptr j off b s ?_;rw[hHc j _ hs];simp[EW.hd,List.getD,hH]
    |_=>exact hxy.elim
   cases hR with
   |fn _ _ _ vs us hl1 hl2 h3 h4=>
    refine .fn f fi' ca' vs us (by rw[hl1,xB h1]) (by rw[hl2,xB h2]) (λi hi=>?_) (λi hi=>?_)
    ·exact one _ _ _ (aGd h1 i hi) (h3 i (by rw[xB h1];exact hi))
    exact one _ _ _ (aGd h2 i hi) (h4 i (by rw[xB h2];exact hi))
  |_=>exact Z.elim
 refine(hr ok X Hc w _ hmc (by simp[hl,aUY ha]) hargs).mono ?_;rintro e w' ⟨v,ok',H',rfl,q,hR⟩;have hgr:FT ok w ok' w':=λb hb=>⟨q.Dq b hb,q.fr.block b (hm.lQ b hb) (λhbX=>by obtain⟨_,_,_,_,h1,_⟩:=L b hbX;exact h1 hb)⟩
 have aRS:srcs.length<=H'.length:=by rw[q.hlen];exact hb2
 refine⟨v,ok',H++H'.drop srcs.length,rfl,hgr,IK _ _,?_,by have :=aVA rfl hlt q.names hR;rwa [hm.hlen]at this⟩
 let idx:Nat->AL Nat:=λj=>srcs.findIdx? (λs=>match s with | .ent k=>k==j| .nil _=>false)
 have aLe:∀(j i:Nat),idx j=some i->srcs[i]? =some (.ent j):=by
  intro j i h;simp only[idx,aMS]at h;obtain⟨h1,h2,_⟩:=h;have :srcs[i]? =some srcs[i]:=mV
  cases hs:srcs[i]with
  |ent k=>rw[hs]at h2 this;simp at h2;rw[this,h2]
  |nil _=>rw[hs]at h2;simp at h2
 have aLf:∀(j:Nat),idx j=none->∀(i:Nat),srcs[i]? ≠some (.ent j):=by
  intro j h i hi;simp only[idx,List.findIdx?_eq_none_iff]at h;have :=h _ (Z9 hi);simp at this
 have hlow:∀(j:Nat),j<es.length->(O8 srcs es E')[j]? =some (match idx j with |some i=>(E'.getD i .dead).up srcs es.length|none=>es.getD j .dead):=by
  intro j hj;unfold O8;rw[KH (by simpa using hj)];simp only[Le,List.getElem?_zipIdx,asu j hj,Kr,LC];rfl
 have aJE:(O8 srcs es E').length=es.length+(E'.length-srcs.length):=by simp[O8]
 have hhigh:∀(j:Nat),es.length<=j->(O8 srcs es E')[j]? =(E'[srcs.length+(j-es.length)]?).map (BX.up srcs es.length):=by
  intro j hj;unfold O8;rw[Qg (by simpa using hj),Le,Vk];simp
 have aLg:∀(j:Nat),j<es.length->(H++H'.drop srcs.length)[j]? =H[j]? :=λj hj=>KH (by rw[hm.hlen];exact hj)
 have aJF:∀(j:Nat),es.length<=j->(H++H'.drop srcs.length)[j]? =H'[srcs.length+(j-es.length)]? :=by
  intro j hj;rw[Qg (by rw[hm.hlen];exact hj),Vk,hm.hlen]
 have hcls:∀(j:Nat) (e:BX) (h:CP),(O8 srcs es E')[j]? =some e->e.live=true\/True->(H++H'.drop srcs.length)[j]? =some h->
  (∃(i:Nat) (e0:BX),e=e0.up srcs es.length/\E'[i]? =some e0/\H'[i]? =some h/\((j<es.length/\srcs[i]? =some (.ent j))\/(es.length<=j/\i=srcs.length+(j-es.length))))\/(j<es.length/\es[j]? =some e/\H[j]? =some h/\∀(i:Nat),srcs[i]? ≠some (.ent j)):=by
  intro j e h M _ I;by_cases hj:j<es.length
  ·rw[hlow j hj]at M;rw[aLg j hj]at I;cases hi:idx j with
   |none=>
    rw[hi]at M;simp only[OX]at M;exact .inr ⟨hj,by rw[asu j hj,M],I,aLf j hi⟩
   |some i=>
    rw[hi]at M;simp only[OX]at M;have hs:=aLe j i hi;have hil:i<srcs.length:=(I9.1 hs).1;have hiE:i<E'.length:=AB
    refine .inl ⟨i,_,M.symm,by simp[List.getD,hiE],?_,.inl ⟨hj,hs⟩⟩;refine q.names i h ?_;simp only[Hc,Le,hs,Kr,EW.hd];simp[List.getD,I]
  rw[hhigh j AB]at M;rw[aJF j AB]at I;rw[dR]at M;obtain⟨e0,M,rfl⟩:=M;exact .inl ⟨_,_,rfl,M,I,.inr ⟨AB,rfl⟩⟩
 have hold:∀(j:Nat) (e:BX) (h:CP) (b:Nat),es[j]? =some e->H[j]? =some h->(∀(i:Nat),srcs[i]? ≠some (.ent j))->e.live=true->EF h.v=some b->b<w.heap.size/\b∉X/\¬ok b/\(C.w0.heap.size<=b\/b∈C.X):=by
  intro j e h b M I hno J z;have h1:=hm.blk j e h b M J I z;refine⟨h1.2.1,λhbX=>?_,h1.1,h1.2.2⟩;obtain⟨i,k,hs,hbk,_⟩:=L b hbX;have :=hm.J6 j k e _ h _ b M (asu k (O i k hs).1) J (O i k hs).2 I (hHk k (hlt i k hs)) z hbk;subst this;exact hno i hs
 have asv:∀(i:Nat) (e:BX) (h:CP) (b:Nat),E'[i]? =some e->H'[i]? =some h->e.live=true->EF h.v=some b->¬ok' b/\b<w'.heap.size/\(w.heap.size<=b\/b∈X):=λi e h b M I J z=>q.blk i e h b M J I z;refine⟨⟨q.fr.os.trans hm.fr.os,q.fr.tape.trans hm.fr.tape,q.fr.output.trans hm.fr.output,EC hm.fr.size q.fr.size,λk hk hx=>?_⟩,λb hb=>q.Dq b (hm.Dq b hb),?_,q.lQ,hm.names.trans (IK _ _),?_,?_,?_,?_⟩
 ·have hkw:k<w.heap.size:=YT hk hm.fr.size
  rw[q.fr.block k hkw (λhkX=>by
   obtain⟨_,_,_,_,_,_,h⟩:=L k hkX;rcases h with h|h
   ·omega
   exact hx h)]
  exact hm.fr.block k hk hx
 ·intro b hb;rcases q.Dt b hb with h|h|h
  ·exact hm.Dt b h
  ·exact .inr (.inl (EC hm.fr.size h))
  obtain⟨_,_,_,_,_,_,h⟩:=L b h;exact .inr h
 ·rw[aJE,Ef,Lh,hm.hlen,q.hlen]
 ·intro j e h M I;rcases hcls j e h M (.inr trivial) I with⟨i,e0,rfl,h1,h2,_⟩|⟨_,h1,h2,h3⟩
  ·exact Fp.upw rfl hlt q.names hm.hlen (hb4 e0 (Z9 h1)) (q.ent i e0 h h1 h2)
  refine(hm.ent j e h h1 h2).mono hgr (IK _ _) (λJ b z=>?_);have h4:=hold j e h b h1 h2 h3 J z;exact q.fr.block b h4.1 h4.2.1
 ·intro j e h b M J I z;rcases hcls j e h M (.inr trivial) I with⟨i,e0,rfl,h1,h2,_⟩|⟨_,h1,h2,h3⟩
  ·have h4:=asv i e0 h b h1 h2 aJi z;refine⟨h4.1,h4.2.1,?_⟩;rcases h4.2.2 with h5|h5
   ·exact .inl (EC hm.fr.size h5)
   obtain⟨_,_,_,_,_,_,h⟩:=L b h5;exact h
  have h4:=hold j e h b h1 h2 h3 J z;refine⟨λhok'=>?_,YT h4.1 q.fr.size,h4.2.2.2⟩;rcases q.Dt b hok' with h5|h5|h5
  ·exact h4.2.2.1 h5
  ·have :w.heap.size<=b:=h5;omega
  exact h4.2.1 h5
 intro j j' e e' h h' b M he' J U I hh' z Y;rcases hcls j e h M (.inr trivial) I with⟨i,e0,rfl,h1,h2,h3⟩|⟨_,h1,h2,h3⟩
 ·rcases hcls j' e' h' he' (.inr trivial) hh' with⟨i',e0',rfl,h1',h2',h3'⟩|⟨_,h1',h2',h3'⟩
  ·have hii:=q.J6 i i' e0 e0' h h' b h1 h1' aJi (by rw[BX.ag4]at U;exact U) h2 h2' z Y;subst hii;rcases h3 with⟨_,h4⟩|⟨h4,h5⟩
   ·rcases h3' with⟨_,h4'⟩|⟨h4',h5'⟩
    ·rw[h4]at h4';simpa using h4'
    have :=(I9.1 h4).1;omega
   rcases h3' with⟨_,h4'⟩|⟨h4',h5'⟩
   ·have :=(I9.1 h4').1;omega
   omega
  have h4:=hold j' e' h' b h1' h2' h3' U Y;rcases(asv i e0 h b h1 h2 aJi z).2.2 with h5|h5
  ·omega
  exact absurd h5 h4.2.1
 rcases hcls j' e' h' he' (.inr trivial) hh' with⟨i',e0',rfl,h1',h2',h3'⟩|⟨_,h1',h2',h3'⟩
 ·have h4:=hold j e h b h1 h2 h3 J z;rcases(asv i' e0' h' b h1' h2' (by rw[BX.ag4]at U;exact U) Y).2.2 with h5|h5
  ·omega
  exact absurd h5 h4.2.1
 exact hm.J6 j j' e e' h h' b h1 h1' J U h2 h2' z Y
def aO1 srcs(q:Ej P f fH E j E')(u:II P f=true)(z:TN srcs es E E'=true)(hE:vU srcs es E)(ha:Ob srcs eH fH)(hl:ops.toList.length=eH.length)(I:o.op=.call { callee:=.value (.func f),args:=ops,argTypes:=ats }:=by exact rfl):CG P o (GL ops.toList eH) es (j.up srcs es.length) (O8 srcs es E'):=by
 intro C ok H a w Q hm J;unfold Oper.wp;rw[vY I,Ux u,jS];have e:ops.map a.eval=(ops.toList.map a.eval).toArray:=a9r
 rw[e];refine(aPX hm srcs q z hE ha hl J).mono ?_;rintro e w' ⟨v,ok',H',rfl,h1,h2,h3,L⟩;exact⟨v,ok',H',rfl,h1,h2,h3,L⟩
def Ad (n:Int):D:=.lit (.int .i64 n)
def Dl (n:Int):D:=.lit (.int .u8 n)
def E9 (b:AY):D:=.lit (.bool b)
def DX (s:BL):D:=.lit (.string s)
def BP (e:α->D)(l:AA α):D:=.sl (l.map e)
def Ar (x:D):AA Ai:=x.cells.map .d
def Ak (l:AA α)(i:Int):AL α:=if 0<=i then l[i.toNat]? else none
def D5 (j:Nat)(l m:AA α):AL (AA α):=if(l.length+m.length)*j<=140737488355328 then some (l++m)else none
def Ic (s:BL)(i:Int):AL Int:=if 0<=i then(s[i.toNat]?).map λc=>(c.toNat:Int)else none
def I8 (l:AA α)(lo hi:Int):AL (AA α):=if 0<=lo/\lo<=hi/\hi<=l.length then some ((l.drop lo.toNat).take (hi.toNat-lo.toNat))else none
def Oi (s:BL)(lo hi:Int):AL BL:=if 0<=lo/\lo<=hi/\hi<=s.size then some (s.extract lo.toNat hi.toNat)else none
def Jg (j:Nat)(z:α)(n c:Int):AL (AA α):=if 0<=n/\n<=c/\(j:Int)*c<=140737488355328 then some (List.replicate n.toNat z)else none
variable {x:α}
def Gl (h:Ak l i=some x):0<=i/\l[i.toNat]? =some x:=by
 unfold Ak at h;split at h
 ·exact⟨‹_›,h⟩
 cases h
variable {β:Type}
def aaA {i:Nat}(f:α->β)(h:l[i]? =some x):(l.map f)[i]? =some (f x):=by simp[h]
def Ru {b}{y z}(j:b=true)(h:(cond b x y)=z):x=z:=by subst j;exact h
def Rl {b}{y z}(j:b=false)(h:(cond b x y)=z):y=z:=by subst j;exact h
def Du {x}{f:α->AL β}{z}(h:x.bind f=some z):∃a,x=some a/\f a=some z:=mJ.1 h
def Am :Nat:=9223372036854775808
variable {e:Bz}{hi lo:AL C9}{l:Int}{r:BL}{s:Nat}{x:C9}
def akf enc(l:AA α)(j:P.underlying t=some (.slice e))(q:o.op=.call { callee:=.builtin .len,args:= #[x],argTypes:= #[t] }:=by exact rfl):
 CG P o [(x,.d (BP enc l))] es (.d (Ad l.length)) es:=by
 have :=aPI (es:=es) (xs:=l.map enc) j q;rw[DY]at this;exact this
def Kt enc(l:AA α)(j:es[k]? =some (.arr e' s (l.map enc)))(q:P.underlying t=some (.slice e))(u:o.op=.call { callee:=.builtin .len,args:= #[x],argTypes:= #[t] }:=by exact rfl):
 CG P o [(x,.aS k)] es (.d (Ad l.length)) es:=by
 have :=alC j q u;rw[DY]at this;exact this
def aiA s(j:P.underlying t=some .string)(q:o.op=.call { callee:=.builtin .len,args:= #[x],argTypes:= #[t] }:=by exact rfl):
 CG P o [(x,.d (DX s))] es (.d (Ad s.size)) es:=am2 j q
def bW {k}enc{l}{a:α}(h:Ak l i=some a)(j:P.underlying t=some (.slice e))(q:Em P e agg size)(hs:(enc a).cells.length=size)(u:o.op=.indexAddr t x y:=by exact rfl):
 CG P o [(x,.d (BP enc l)),(y,.d (.lit (.int k i)))] es (.d (.ref (enc a).cells 0)) es:=
 yh j q (Gl h).1 (aaA enc (Gl h).2) hs u
def IC enc{l}{a:α}(h:Ak l i=some a)(j:es[k]? =some (.arr e' size (l.map enc)))(q:P.underlying t=some (.slice e))(u:Em P e agg size)(z:o.op=.indexAddr t x y:=by exact rfl):
 CG P o [(x,.aS k),(y,.d (.lit (.int kd i)))] es (.mF k i.toNat 0) es:=
 afG j q u (Gl h).1 (by have :=(I9.1 (Gl h).2).1;simpa using this) z
def abG {s}{n}(h:Ic s i=some n):∃c,0<=i/\s[i.toNat]? =some c/\n=c.toNat:=by
 unfold Ic at h;split at h
 ·grind
 cases h
def Lp {k}{n}{s}(h:Ic s i=some n)(j:P.underlying t=some .string)(q:o.op=.index t x y:=by exact rfl):
 CG P o [(x,.d (DX s)),(y,.d (.lit (.int k i)))] es (.d (Dl n)) es:=by
 obtain⟨c,u,h1,rfl⟩:=abG h;exact alA j u h1 q
def a0A {l m r:AA α}(h:D5 b l m=some r):r=l++m/\(l.length+m.length)*b<=140737488355328:=by
 unfold D5 at h;split at h
 ·grind
 cases h
def a6U (j:0<b)(h:n*b<=140737488355328):n<=maxLen:=by
 have :n*1<=n*b:=Nat.mul_le_mul_left _ j;unfold maxLen;omega
def Dk {s}{j}enc{l m r:AA α}(h:D5 j l m=some r)(hE:Gm P t e size j)(q:es[k]? =some (.arr e size (l.map enc)))(u:∀a,(enc a).cells.length=size)(z:0<j)(I:o.op=.call { callee:=.builtin .append,args:= #[s,x],argTypes:= #[t,t] }:=by exact rfl):
 CG P o [(s,.aS k),(x,.d (BP enc m))] es (.aS es.length) (es.set k .dead++[.arr e size (r.map enc)]):=by
 obtain⟨rfl,h2⟩:=a0A h;have :=aft (ys:=m.map enc) hE q (λy J=>by obtain⟨a,_,rfl⟩:=FB.1 J;exact u a) LP (by simpa using a6U z h2) I;rw[←JY]at this;exact this
def amg {s}{lo hi}(h:Oi s lo hi=some r):(0<=lo/\lo<=hi/\hi<=s.size)/\r=s.extract lo.toNat hi.toNat:=by
 unfold Oi at h;split at h
 ·grind
 cases h
def a0u (x:AL C9)(n:Int):AA (C9×Ai):=match x with |some y=>[(y,.d (Ad n))]|none=>[]
def qM {h}{s}(hr:Oi s l h=some r)(hl:lo=none->l=0)(Z:hi=none->h=s.size)(ht:P.underlying t=some .string)(J:o.op=.slice t x lo hi none:=by exact rfl):
 CG P o ((x,.d (DX s))::(a0u lo l++a0u hi h)) es (.d (DX r)) es:=
 .pure λok H a w _ _ M=>by
  obtain⟨⟨O,h1,h2⟩,rfl⟩:=amg hr;have q:=(M (x,.d (DX s)) BU).lit;simp only at q;have L:(underlying t).run P w=.ok .string w:=aC4
  refine⟨.string (s.extract l.toNat h.toNat),?_,.d _ _ (.lit _)⟩;have u:∀y,lo=some y->a.eval y=.int .i64 l:=λy e=>(M (y,.d (Ad l)) a9E).lit;have I:∀y,hi=some y->a.eval y=.int .i64 h:=λy e=>(M (y,.d (Ad h)) a9E).lit;have e1:((0:Int)<=h/\h<=(s.size:Int)):=⟨AB,h2⟩
  have e2:((0:Int)<=l/\l<=(h.toNat:Int)):=⟨O,AB⟩
  cases lo with
  |none=>
   have U:=hl rfl;subst U;cases hi with
   |none=>
    have j:=Z rfl;subst j;simp[execOp,J,q,Instr.sliceAt,Instr.slice,L,Instr.sliceBounds]
   |some y=>
    simp[execOp,J,q,Instr.sliceAt,Instr.slice,L,Instr.sliceBounds,Instr.sliceBound,I y rfl,asIntOf,e1]
  |some z=>
   cases hi with
   |none=>
    have j:=Z rfl;subst j;have Y:((0:Int)<=l/\l<=(s.size:Int)):=⟨O,AB⟩
    simp[execOp,J,q,Instr.sliceAt,Instr.slice,L,Instr.sliceBounds,Instr.sliceBound,u z rfl,asIntOf,Y]
   |some y=>
    simp[execOp,J,q,Instr.sliceAt,Instr.slice,L,Instr.sliceBounds,Instr.sliceBound,u z rfl,I y rfl,asIntOf,e1];intro hc;have :=hc O;omega
def aNK {l r:AA α}{lo hi}(h:I8 l lo hi=some r):(0<=lo/\lo<=hi/\hi<=l.length)/\r=(l.drop lo.toNat).take (hi.toNat-lo.toNat):=by
 unfold I8 at h;split at h
 ·grind
 cases h
def aOl {ad}{cap l h}(Y:EL ok w (.sl xs) (.slice ad xs.length cap))(hs:∀x∈xs,x.cells.length=size)(h1:l<=h)(h2:h<=xs.length):
 EL ok w (.sl ((xs.drop l).take (h-l))) (.slice (if cap=l then ad else ad.map (·.add (l*size))) (h-l) (cap-l)):=by
 have hlen:((xs.drop l).take (h-l)).length=h-l:=Ei
 by_cases Z:h-l=0
 ·have :(xs.drop l).take (h-l)=[]:=by rw[Z];rfl
  rw[this,Z];exact .sl0 _ _
 have I:0<xs.length:=AB
 generalize hn:xs.length=n at Y;cases Y with
 |sl0=>
  simp at I
 |sl _ b off _ q hcap J L hf hx hc=>
  have M:q=size:=by
   grind
  subst M;have O:cap≠l:=AB
  rw[Ee O];simp only[Kr,addr_add]
  have U:∀i,i<h-l->((xs.drop l).take (h-l)).getD i EO=xs.getD (l+i) EO:=by
   intro i hi;simp[List.getD,U4 hi,Vk]
  have u:∀i j,off+l*q+(i*q+j)=off+((l+i)*q+j):=by
   grind
  have :=EL.sl ((xs.drop l).take (h-l)) b (off+l*q) (cap-l) q (ok:=ok) (w:=w) (by rw[hlen];omega) (λh1 h2=>J (by rw[hlen]at h1;omega) h2) (λi hi=>by rw[hlen]at hi;rw[U i hi];exact L _ AB)
   (λi hi j z=>by rw[hlen]at hi;rw[U i hi];exact hf _ AB j z) (λi hi j z=>by rw[hlen]at hi;rw[u];exact hx _ AB j z)
   (λi hi j z=>by rw[hlen]at hi;rw[U i hi,u];exact hc _ AB j z)
  rw[hlen]at this;exact this
def SE {h}enc{xs r:AA α}(hr:I8 xs l h=some r)(hl:lo=none->l=0)(hh:hi=none->h=xs.length)(ht:P.underlying t=some (.slice e))(O:Em P e agg size)(hc:∀a,(enc a).cells.length=size)(U:o.op=.slice t x lo hi none:=by exact rfl):CG P o ((x,.d (BP enc xs))::(a0u lo l++a0u hi h)) es (.d (BP enc r)) es:=
 .pure λok H a w _ _ hn=>by
  obtain⟨⟨h0,h1,h2⟩,rfl⟩:=aNK hr;have hx:=hn (x,.d (BP enc xs)) BU;simp only at hx;generalize Y:a.eval x=v at hx;have Z:(underlying t).run P w=.ok (.slice e) w:=aC4
  have L:∀y,lo=some y->a.eval y=.int .i64 l:=λy e=>(hn (y,.d (Ad l)) a9E).lit;have M:∀y,hi=some y->a.eval y=.int .i64 h:=λy e=>(hn (y,.d (Ad h)) a9E).lit;have u:EL ok w (.sl (xs.map enc)) v:=by cases hx with |d _ _ h=>exact h
  have I:∃ad cap,v=.slice ad (xs.map enc).length cap/\(xs.map enc).length<=cap:=by
   generalize hys:xs.map enc=ys at u;cases u with
   |sl0 ad cap=>
    grind
   |sl _ b off cap size j=>
    grind
  obtain⟨ad,cap,rfl,j⟩:=I;have q:=aOl (l:=l.toNat) (h:=h.toNat) u (size:=size) (λy hy=>aEg) AB Ei;rw[←iU,←Yw]at q;rw[DY]at j;refine⟨_,?_,.d _ _ q⟩;have e1:((0:Int)<=h/\h<=(cap:Int)):=⟨AB,AB⟩
  cases lo with
  |none=>
   have hl0:=hl rfl;subst hl0;cases hi with
   |none=>
    have J:=hh rfl;subst J;simp[execOp,U,Y,Instr.sliceAt,Instr.slice,Z,Instr.sliceBounds,O.size]
   |some y=>
    simp[execOp,U,Y,Instr.sliceAt,Instr.slice,Z,Instr.sliceBounds,Instr.sliceBound,M y rfl,asIntOf,e1,O.size]
  |some z=>
   cases hi with
   |none=>
    have J:=hh rfl;subst J;have e2':((0:Int)<=l/\l<=(xs.length:Int)):=⟨h0,AB⟩
    simp[execOp,U,Y,Instr.sliceAt,Instr.slice,Z,Instr.sliceBounds,Instr.sliceBound,L z rfl,asIntOf,e2',O.size]
   |some y=>
    simp[execOp,U,Y,Instr.sliceAt,Instr.slice,Z,Instr.sliceBounds,Instr.sliceBound,L z rfl,M y rfl,asIntOf,e1,O.size];intro hc';have :=hc' h0;omega
def pX (P:Ce)(t:Bz)(f off:Nat)(agg:AY)(n:Nat):AY:=
 match P.underlying t with
 |some (.struct q)=>match q[f]? with
  |some j=>j.offset=off&&aCq P j.type agg n
  |none=>false
 |_=>false
def ah7 {f}{cs}(hp:pX P t f off agg n=true)(hn:off+n<=cs.length)(h1:agg=false->n=1)(M:o.op=.field t x f:=by exact rfl):CG P o [(x,.d (.agg cs))] es (.d (Qz agg cs off n)) es:=
 .pure λok H a w _ _ I=>by
  have J:=N7 I;simp only at J;generalize O:a.eval x=v at J;unfold pX at hp;split at hp
  ·rename_i Z hu;split at hp
   ·rename_i j U;simp only[Di,Io]at hp;obtain⟨rfl,q⟩:=hp;have q:=G5 q;have u:(underlying t).run P w=.ok (.struct Z) w:=a4o
    cases J with
    |d _ _ h=>
     cases h with
     |agg _ vs hl L Y=>
      cases agg with
      |false=>
       have :=h1 rfl;subst this;have z:j.offset<vs.size:=AB
       refine⟨vs[j.offset],?_,?_⟩
       ·simp[execOp,M,O,Instr.field,u,U,asAgg,part,q.agg,z]
       have :=Y j.offset AB;simp[Array.getD,z]at this;exact .d _ _ this
      |true=>
       refine⟨.agg (vs.extract j.offset (j.offset+n)),?_,?_⟩
       ·simp[execOp,M,O,Instr.field,u,U,asAgg,part,q.agg,q.size]
       simp only[Qz,KT];have hlen:((cs.drop j.offset).take n).length=n:=Ei
       have hg:∀i,i<n->((cs.drop j.offset).take n).getD i EO=cs.getD (j.offset+i) EO:=by
        grind
       refine .d _ _ (.agg _ _ (by rw[hlen];simp;omega) ?_ ?_)<;>intro i hi<;>rw[hlen]at hi<;>rw[hg i hi]
       ·exact L _ AB
       have :=Y (j.offset+i) AB
       have e:(vs.extract j.offset (j.offset+n)).getD i undef=vs.getD (j.offset+i) undef:=by
        have h3:j.offset+i<vs.size:=AB
        have h4:i<(vs.extract j.offset (j.offset+n)).size:=Ei
        have h5:i<min (j.offset+n) vs.size-j.offset:=AB
        simp[Array.getD,h3,h5]
       rw[e];exact this
   cases hp
  cases hp
def Ai.flat:Ai->AY
 | .d (.lit _)=>true
 | .eP xs=>xs.all λx=>match x with | .d (.lit _)=>true|_=>false
 |_=>false
def aUs (es:AA BX):Ai->Ai->Prop
 | .d x,y=>y=.d x
 | .aS k,y=>∃e s xs,es[k]? =some (.arr e s xs)/\y=.d (.sl xs)
 |_,_=>False
def iH (es:AA BX):AA Ai->AA Ai->Prop
 |x::xs,y::ys=>aUs es x y/\iH es xs ys
 | [],[]=>True
 |_,_=>False
def aI0 :∀{xs ys:AA Ai},iH es xs ys->xs.length=ys.length
 | [],[],_=>rfl
 |_::xs,_::ys,h=>by simp[aI0 h.2]
 | [],_::_,h=>h.elim
 |_::_,[],h=>h.elim
def aRc {ops}:∀{xs ys:AA Ai},ops.length=xs.length->iH es xs ys->∀i,i<ys.length->∃o x,ops[i]? =some o/\(o,x)∈GL ops xs/\aUs es x (ys.getD i .junk):=by
 induction ops with
 |nil=>
  intro xs ys hl h i hi;cases xs with
  |nil=>cases ys with |nil=>simp at hi|cons _ _=>exact h.elim
  |cons _ _=>simp at hl
 |cons o ops j=>
  intro xs ys hl h i hi;cases xs with
  |nil=>simp at hl
  |cons x xs=>
   cases ys with
   |nil=>exact h.elim
   |cons y ys=>
    cases i with
    |zero=>exact⟨o,x,rfl,by simp[GL],h.1⟩
    |succ i=>
     obtain⟨q,u,h1,h2,h3⟩:=j Ny h.2 i IZ;exact⟨q,u,V9,by simp[GL,h2],YL⟩
def oz {e}(he:Fp ok w H h (.arr e s xs))(z:∀b,ok b->ok' b)(M:∀b,EF h.v=some b->ok' b):EL ok' w (.sl xs) h.v:=by
 obtain⟨h1,h2,ys,⟨h3,h4⟩,h5⟩:=he;rcases h4 with⟨L,h7⟩|⟨g,cap,u,L,h7,h8,h9,h10,O,U⟩
 ·rw[Hu h7,L];exact .sl0 none 0
 rw[L];have I:=M g (by rw[L];rfl);have J:=U2 h2
 have Y:∀i j,i<xs.length->j<s->i*s+j<xs.length*s:=by
  intro i j hi q
  calc i*s+j<i*s+s:=AB
   _=(i+1)*s:=by rw[ig]
   _<=xs.length*s:=Lu _ hi
 have hcur:xs.length*s<=u.size:=by
  exact EC (Lu _ h9) O
 have hc:∀i j,i<xs.length->j<s->w.cell? ⟨g,0+(i*s+j),none⟩=some (ys.getD (i*s+j) undef):=by
  intro i j hi q;have Z:=Y i j hi q;rw[LC]
  have e1:ys.getD (i*s+j) undef=u[i*s+j]' AB:=by
   rw[←U];simp[List.getD,U4 Z,show i*s+j<u.size by omega]
  rw[e1];simp[World.cell?,h8,show i*s+j<u.size by omega]
 have hg:∀i,i<xs.length->xs.getD i EO∈xs:=λi hi=>OH
 refine .sl xs g 0 cap s h9 (λ_ _=>I) (λi hi=>h2 _ (hg i hi)) (λi hi j q=>?_) (λi hi j q=>?_) (λi hi j q=>?_)
 ·have :=(h5.2 (i*s+j) (by rw[J];exact Y i j hi q)).1;rw[flat_get h2 i j hi q]at this;exact this
 ·rw[hc i j hi q];rfl
 have :=(h5.2 (i*s+j) (by rw[J];exact Y i j hi q)).2;rw[flat_get h2 i j hi q]at this;unfold cellAt;rw[hc i j hi q];cases this with |d _ _ h=>exact h.mono (λb M=>⟨z b M,rfl⟩)
def fJ {I}(hr:Ej P f fH [] I [])(hf:II P f=true)(z:I.flat=true)(ha:iH es eH fH)(hl:ops.toList.length=eH.length)(ho:o.op=.call { callee:=.value (.func f),args:=ops,argTypes:=ats }:=by exact rfl):CG P o (GL ops.toList eH) es I es:=by
 intro C ok H a w Q hm hn;unfold Oper.wp;rw[vY ho,Ux hf,jS];have e:ops.map a.eval=(ops.toList.map a.eval).toArray:=a9r
 rw[e]
 let J:Nat->Prop:=λb=>b<w.heap.size
 have hmc:Dz ⟨w,J,[],[]⟩ J [] [] w:=
  ⟨.refl _ _,λ_ h=>h,λ_ h=>.inl h,λ_ h=>h,.refl _,rfl,λk e h L _=>yB,λk e h b L=>yB,λk k' e e' h h' b L=>yB⟩
 refine(hr J [] [] w _ hmc (by simp[hl,aI0 ha]) (λi hi=>?_)).mono ?_
 ·obtain⟨op,x,ho',U,j⟩:=aRc hl ha i hi;have O:=hn _ U
  have e:(ops.toList.map a.eval).toArray.getD i undef=a.eval op:=by
   obtain⟨h1,h2⟩:=I9.1 ho';have h3:i<ops.size:=V9
   have Y:ops[i]=op:=LP
   simp[Array.getD,h3,Y]
  rw[e];simp only at O;generalize fH.getD i .junk=y at j;generalize a.eval op=u at O;cases x with
  |d x=>
   obtain rfl:=j;cases O with |d _ _ h=>exact .d _ _ (h.mono (λb M=>⟨hm.lQ b M,rfl⟩))
  |aS k=>
   obtain⟨e',s,xs,hk,rfl⟩:=j;obtain⟨h,hh,hok⟩:=Hr hm.ent hm.hlen hk;obtain rfl:=RJ O hh;exact .d _ _ (oz hok (λb M=>hm.lQ b M) (λb M=>(hm.blk k _ h b hk rfl hh M).2.1))
  |_=>exact j.elim
 rintro e w' ⟨v,ok',H',rfl,q,O⟩;have Z:∀b,b<w.heap.size->¬False->w'.heap[b]? =w.heap[b]? :=λb M _=>q.fr.block b M BU;obtain⟨h1,h2⟩:=hm.change (ok':=ok) (H':=H) (es':=es) (w':=w') (λ_=>False) q.fr.os q.fr.tape q.fr.output q.fr.size Z (λ_ h=>h.elim) (λ_ h=>h) (λ_ h=>.inl h) (.refl _) hm.hlen (λk e h L hh=>.inl ⟨L,hh,λ_ _ _ h=>h⟩);refine⟨v,ok,H,rfl,h2,.refl _,h1,?_⟩;cases O with
 |d x v h=>
  cases x with
  |lit u=>cases h;exact .d _ _ (.lit _)
  |_=>simp[Ai.flat]at z
 |eP xs vs hl' h=>
  refine .eP xs vs hl' (λi hi=>?_);simp only[Ai.flat,FW]at z;have h3:=z (xs.getD i .junk) OH;have Y:=h i hi;generalize xs.getD i .junk=x at h3 Y;generalize vs.getD i undef=u at Y;cases Y with
  |d y _ h5=>
   cases y with
   |lit u=>cases h5;exact .d _ _ (.lit _)
   |_=>simp at h3
  |_=>simp at h3
 |_=>simp[Ai.flat]at z
def Ai.thaw (k:Nat)(xs:AA D):Ai->Ai
 | .aS j=>if j=k then .d (.sl xs)else .aS j
 | .mF j i off=>if j=k then .junk else .mF j i off
 |x=>x
def BN.thaw (σ:BN)(k:Nat)(xs:AA D):BN:=⟨σ.slots.map (Ai.thaw k xs),σ.ents.set k .dead,σ.base⟩
def JI k{e}(hk:σ.ents[k]? =some (.arr e s xs)):∀C ok H a w,Holds C ok H σ a w->∃ok',Holds C ok' H (σ.thaw k xs) a w:=by
 intro C ok H a w u;obtain⟨hd,M,hok⟩:=Hr u.mem.ent u.mem.hlen hk;have I:k<σ.ents.length:=(I9.1 hk).1
 let ok':Nat->Prop:=λb=>ok b\/EF hd.v=some b
 have hblk:=λb q=>u.mem.blk k _ hd b hk rfl M q;have hg:FT ok w ok' w:=λb q=>⟨.inl q,rfl⟩
 refine⟨ok',⟨u.mem.fr,λb q=>.inl (u.mem.Dq b q),?_,?_,u.mem.names,by simp[BN.thaw,u.mem.hlen],?_,?_,?_⟩,by simp[BN.thaw,u.size],u.defers.mono hg,u.base,?_⟩
 ·rintro b (q|q)
  ·exact u.mem.Dt b q
  grind
 ·rintro b (q|q)
  ·exact u.mem.lQ b q
  grind
 ·intro j e' h' he J;rcases OB I he with⟨rfl,rfl⟩|⟨_,L⟩
  ·trivial
  exact(u.mem.ent j e' h' L J).mono hg (.refl _) (λ_ _ _=>rfl)
 ·intro j e' h' b he hl J q;rcases OB I he with⟨rfl,rfl⟩|⟨hne,L⟩
  ·cases hl
  have h3:=u.mem.blk j e' h' b L hl J q;refine⟨λz=>?_,h3.2⟩;rcases z with z|z
  ·exact h3.1 z
  exact hne (u.mem.J6 j k e' _ h' hd b L hk hl rfl J M q z)
 ·intro i j e1 e2 h1 h2 b he1 he2 U Y hh1 hh2 hb1 hb2;rcases OB I he1 with⟨rfl,rfl⟩|⟨_,Z⟩
  ·cases U
  rcases OB I he2 with⟨rfl,rfl⟩|⟨_,aFS⟩
  ·cases Y
  exact u.mem.J6 i j e1 e2 h1 h2 b Z aFS U Y hh1 hh2 hb1 hb2
 intro t ht;simp only[BN.thaw,DY]at ht
 have e1:(σ.thaw k xs).slots.getD t .junk=(σ.slots.getD t .junk).thaw k xs:=by
  simp only[BN.thaw];exact Vo _ _ _ ht
 rw[e1];have O:=(u.slot t ht).mono hg (oP H);generalize σ.slots.getD t .junk=x at O ⊢;generalize a.tmps.getD t undef=v at O ⊢;cases x with
 |aS j=>
  simp only[Ai.thaw];split
  ·rename_i hj;subst hj;obtain rfl:=RJ O M;exact .d _ _ (oz hok (λb q=>.inl q) (λb q=>.inr q))
  exact O
 |mF j i off=>
  simp only[Ai.thaw];split
  ·exact .junk _
  exact O
 |_=>
   exact O
def Ej.view {args}{e}(h:Ej P f args [] (.aS 0) [.arr e s xs]):Ej P f args [] (.d (.sl xs)) []:=by
 intro ok X H w q hm hs ha;refine(h ok X H w q hm hs ha).mono ?_;rintro e' w' ⟨v,ok',H',rfl,j,L⟩;have M:H=[]:=Hu hm.hlen;have hl:H'.length=1:=j.hlen
 match H',hl with
 | [hd],_=>
   obtain rfl:=RJ L (h:=hd) rfl;have I:=j.ent 0 _ hd rfl rfl;have z:=λb z=>j.blk 0 _ hd b rfl rfl rfl z
   let J:Nat->Prop:=λb=>ok' b\/EF hd.v=some b
   refine⟨hd.v,J,[],rfl,⟨j.fr,λb h=>.inl (j.Dq b h),?_,?_,by intro k v O;subst M;simp at O,rfl,λk e h u=>by simp at u,λk e h b u=>by simp at u,λk k' e e' h h' b u=>by simp at u⟩,.d _ _ (oz I (λb h=>.inl h) (λb h=>.inr h))⟩
   ·rintro b (h|h)
    ·exact j.Dt b h
    exact .inr (z b h).2.2
   rintro b (h|h)
   ·exact j.lQ b h
   exact(z b h).2.1
def abV es E'(j:E'.all BX.closed=true):O8 [] es E'=es++E':=by
 unfold O8;simp only[List.findIdx?_nil,Qp,a5t];rw[aWe j];congr 1;apply rO
 grind
variable {res':Ai}
def aEd (z:Ej P f fH [] j E')(I:II P f=true)(q:E'.all BX.closed=true)(ha:Ob [] eH fH)(hl:ops.toList.length=eH.length)(J:j.up [] es.length=res')(L:o.op=.call { callee:=.value (.func f),args:=ops,argTypes:=ats }:=by exact rfl):CG P o (GL ops.toList eH) es res' (es++E'):=by
 have :=aO1 (es:=es) [] z I (by
  have u:E'.all (BX.asr [] es.length)=true:=by
   rw[FW]at q ⊢;exact λe M=>adR (q e M)
  simp[TN,u]) (λi s h=>JD) ha hl L
 rw[abV _ _ q,J]at this;exact this
def aV4 (q:Ej P f fH [] j [])(u:II P f=true)(ha:Ob [] eH fH)(hl:ops.toList.length=eH.length)(z:j.up [] es.length=res')(I:o.op=.call { callee:=.value (.func f),args:=ops,argTypes:=ats }:=by exact rfl):CG P o (GL ops.toList eH) es res' es:=by
 have :=aEd (es:=es) q u rfl ha hl z I
 grind
variable {x y:Code}
section
variable {P:Ce} {σ:BN} {Q:Exit->BN->Prop}
def aEB (P:Ce)(σ:BN):ResultVar->Ai->Prop
 | .tmp t,x=>x=σ.slots.getD t .junk
 | .cell t T,x=>∃k cs agg n,σ.slots.getD t .junk=.ptr k 0/\σ.ents[k]? =some (.box cs)/\cs.all Ai.Dx=true/\Em P T agg n/\n<=cs.length/\(agg=false->n=1)/\x=.d (Qz agg (KE cs) 0 n)
def FU {P}{σ}{t}{x}(h:x=σ.slots.getD t .junk):aEB P σ (.tmp t) x:=h
def ah (P:Ce)(σ:BN):AA ResultVar->AA Ai->Prop
 |r::rs,x::xs=>aEB P σ r x/\ah P σ rs xs
 | [],[]=>True
 |_,_=>False
def pq :AA Ai->Ai
 | [x]=>x
 |xs=>.eP xs
def jD (P:Ce)(fn:Func)(j:Ai)(E':AA BX):Exit->BN->Prop
 | .ret,σ=>∃xs π,ah P σ fn.results.toList xs/\Vw σ.base σ.ents π=true/\j=(pq xs).back π/\E'=U5 σ.ents π
 | .normal,σ=>∃xs π,ah P σ fn.results.toList xs/\Vw σ.base σ.ents π=true/\j=(pq xs).back π/\E'=U5 σ.ents π
 |_,_=>False
def aJ6 (tmps:Bh BG):ResultVar->Sem BG
 | .tmp t=>pure (tmps.getD t undef)
 | .cell t T=>do loadVar T (←asAddr (tmps.getD t undef))
def acg (h:Holds C ok H σ a w){r}{x}(j:aEB P σ r x):
 ∃v,(aJ6 a.tmps r).run P w=.ok v w/\R ok w H x v:=by
 cases r with
 |tmp t=>
  obtain rfl:=j;exact⟨_,rfl,h.aA2 t⟩
 |cell t T=>
  obtain⟨k,cs,agg,n,hs,J,hd,L,hn,h1,rfl⟩:=j;have hp:=hs▸h.aA2 t;obtain⟨M,O,q⟩:=Hr h.mem.ent h.mem.hlen J;obtain⟨b,z,U,Y,Z⟩:=aJ3 q hd;generalize hu:a.tmps.getD t undef=u at hp;cases hp with
  |ptr _ _ b' s I=>
   rw[O]at I;obtain rfl:=E5 I;simp at z;subst z;show ∃v,((do loadVar T (←asAddr (a.tmps.getD t undef)):Sem BG)).run P w=.ok v w/\_;rw[hu];obtain⟨v,j,hD⟩:=a3C L (off:=0) (by rw[a1I];omega) h1 U Y Z;refine⟨v,?_,.d _ _ hD⟩;simp only[Instr.loadAt,Instr.sureAddr,GK,Hy,Gi,LC]at j;simp only[asAddr,GK,Hy,Gi];exact j
def aPv {C}{ok}{H}{a}{w}(h:Holds C ok H σ a w):∀(rs:AA ResultVar) (xs:AA Ai),ah P σ rs xs->
 ∃vs:AA BG,(rs.mapM (aJ6 a.tmps)).run P w=.ok vs w/\vs.length=xs.length/\∀i,i<xs.length->R ok w H (xs.getD i .junk) (vs.getD i undef)
 | [],[],_=>⟨[],rfl,rfl,λi hi=>Tm⟩
 | [],_::_,h'=>h'.elim
 |_::_,[],h'=>h'.elim
 |r::rs,x::xs,h'=>by
  obtain⟨v,q,z⟩:=acg (P:=P) h h'.1;obtain⟨vs,j,hl,u⟩:=aPv h rs xs h'.2;refine⟨v::vs,?_,jU,λi hi=>?_⟩
  ·simp only[List.mapM_cons,GK,q,j,Gi,Hy]
  grind
def ahj (h:Holds C ok H σ a w){xs}(z:ah P σ fn.results.toList xs):
 ∃v,(results fn a.tmps).run P w=.ok v w/\R ok w H (pq xs) v:=by
 obtain⟨vs,q,hl,j⟩:=aPv (P:=P) h _ _ z
 have hm:(results fn a.tmps).run P w=.ok (if h:vs.toArray.size=1 then vs.toArray[0]else .tuple vs.toArray) w:=by
  have e:results fn a.tmps=(do let vs ←fn.results.mapM (aJ6 a.tmps);pure (if h:vs.size=1 then vs[0]else .tuple vs)):=rfl;rw[e,aBk];simp only[GK,a0a,q,Gi,Hy]
 refine⟨_,hm,?_⟩
 match xs,hl,j with
 | [x],hl,j=>
   have h1:vs.toArray.size=1:=Ny
   rw[dif_pos h1];have :=j 0 BU
   have e:vs.getD 0 undef=vs.toArray[0]:=by
    have :0<vs.length:=jU
    simp[List.getD,this]
   rw[e]at this;exact this
 | [],hl,j=>
   have h1:¬vs.toArray.size=1:=by simp at hl;simp[hl]
   rw[dif_neg h1];exact .eP [] _ Ny (λi hi=>Tm)
 |x::y::xs,hl,j=>
  have h1:¬vs.toArray.size=1:=by simp at hl;simp[hl]
  rw[dif_neg h1];refine .eP _ _ Ny (λi hi=>?_);have :=j i hi;have u:i<vs.length:=AB
  have e:vs.toArray.getD i undef=vs.getD i undef:=by simp[Array.getD,List.getD,u]
  rw[e];exact this
def abk {D}{x}(h:w.heap[D]? =some (.deferred x))o:w.cell? ⟨D,o,none⟩=none:=by
 unfold World.cell?;rw[h]
def Holds.take {σ}(Z:∀b,C.ok0 b->b<C.w0.heap.size)(h:Holds C ok H σ a w){D}{Ds}(hd:∀d∈Ds,ok d/\C.w0.heap.size<=d/\w.heap[d]? =some (.deferred (some [])))(hD:ok D/\C.w0.heap.size<=D/\w.heap[D]? =some (.deferred (some [])))(M:(D::Ds).Nodup):
 ∃ok',Holds C ok' H σ { a with defers:=Ds.map λD=>{ target:=.collected D,args:= #[] } } (w.putObj D (.deferred none))/\∀d∈Ds,ok' d/\C.w0.heap.size<=d/\(w.putObj D (.deferred none)).heap[d]? =some (.deferred (some [])):=by
 obtain⟨h1,h2,h3⟩:=hD;have q:∀b,b≠D->(w.putObj D (.deferred none)).heap[b]? =w.heap[b]? :=λb j=>ZF j;have I:∀b o,ok b->(w.cell? ⟨b,o,none⟩).isSome=true->ok b/\b≠D:=λb o j J=>⟨j,λe=>by subst e;rw[abk h3]at J;cases J⟩
 have Y:FT (λb=>ok b/\b≠D) w (λb=>ok b/\b≠D) (w.putObj D (.deferred none)):=λb j=>⟨j,q b j.2⟩
 have O:∀(k:Nat) (e:BX) (hd:CP) (b:Nat),σ.ents[k]? =some e->e.live=true->H[k]? =some hd->EF hd.v=some b->b≠D:=λk e hd b u hl z j U=>(h.mem.blk k e hd b u hl z j).1 (U▸h1)
 have L:∀d∈Ds,(ok d/\d≠D)/\C.w0.heap.size<=d/\(w.putObj D (.deferred none)).heap[d]? =some (.deferred (some [])):=λd hdm=>by
  grind
 refine⟨λb=>ok b/\b≠D,⟨⟨⟨h.mem.fr.os,h.mem.fr.tape,h.mem.fr.output,by simpa[World.putObj]using h.mem.fr.size,λk hk hX=>by rw[q k AB];exact h.mem.fr.block k hk hX⟩,λb j=>⟨h.mem.Dq b j,λe=>by have :=Z b j;omega⟩,λb j=>h.mem.Dt b j.1,λb j=>by simpa[World.putObj]using h.mem.lQ b j.1,h.mem.names,h.mem.hlen,?_,?_,?_⟩,h.size,⟨Ds,rfl,(KX.1 M).2,L⟩,h.base,λt ht=>((h.slot t ht).shrink I).mono Y (.refl _)⟩,L⟩
 ·intro k e hd u z;exact((h.mem.ent k e hd u z).shrink I (λb ms c j J=>⟨j,λe=>by subst e;rw[h3]at J;cases J⟩)).mono Y (.refl _) λhl b j=>q b (O k e hd b u hl z j)
 ·intro k e hd b u hl z j;obtain⟨h4,h5,h6⟩:=h.mem.blk k e hd b u hl z j;exact⟨λhx=>h4 hx.1,by simpa[World.putObj]using h5,h6⟩
 exact h.mem.J6
def aBs {fn}{Rr}{C}(u:∀b,C.ok0 b->b<C.w0.heap.size){H}{σ}(z:∀ok a w,Holds C ok H σ a w->∃v,(results fn a.tmps).run P w=.ok v w/\Rr (.returned v) w):∀(Ds:AA Nat) {ok:Nat->Prop} {a:Act} {w:BQ},Holds C ok H σ a w->(∀d∈Ds,ok d/\C.w0.heap.size<=d/\w.heap[d]? =some (.deferred (some [])))->Ds.Nodup->
  LeavesInM (KA none) 0 P fn a.tmps Rr (Ds.map λD=>{ target:=.collected D,args:= #[] }) .returning w
 | [],ok,a,w,h,_,_=>z ok a w h
 |D::Ds,ok,a,w,h,hd,I=>by
  obtain⟨ok',h',j⟩:=h.take u (λd q=>hd d (I7 _ q)) (hd D (Gv ..)) I;have h2:=aBs u z Ds h' j (KX.1 I).2;exact⟨BU,.inl ⟨D,_,rfl,run_takeDeferred (hd D (Gv ..)).2.2,h2⟩⟩
def Ej.dV {f}{fn}{c}{args}{E E'}{u}(Y:P.funcs[f]? =some fn)(Z:fn.body=some c)(h:Bq P c (.enter args fn.ntmps E) (jD P fn u E')):Ej P f args E u E':=by
 intro ok X H w j hm hs ha;refine(a4T (ro:=none) (n:=0)).1 (aBE Y Z trivial (V7 (h.run none (.inl rfl) ⟨w,ok,X,H⟩ ok H _ w ?_) ?_) rfl)
 ·refine⟨hm,?_,.nil _ _ _,hm.hlen,λt ht=>?_⟩
  ·simp[BN.enter,hs]
  simp only[BN.enter];by_cases e:t<args.length
  ·have U:(args++List.replicate (fn.ntmps-args.length) Ai.junk).getD t .junk=args.getD t .junk:=aBf
   have e2:(j++Array.replicate (fn.ntmps-j.size) undef).getD t undef=j.getD t undef:=by
    simp[KG,Yy (show t<j.size by omega)]
   grind
  have U:(args++List.replicate (fn.ntmps-args.length) Ai.junk).getD t .junk=.junk:=by
   grind
  rw[U];exact .junk _
 rintro e a' w' ⟨ok',H',σ',h1,h2⟩;obtain⟨Ds,I,J,L⟩:=h1.defers
 have key:∀(x:AA Ai) (π:AA (Nat×AY)),ah P σ' fn.results.toList x->Vw σ'.base σ'.ents π=true->u=(pq x).back π->E'=U5 σ'.ents π->
  LeavesInM (KA none) 0 P fn a'.tmps (λe w'=>∃v ok' H',e=.returned v/\Dz ⟨w,ok,X,H⟩ ok' H' E' w'/\R ok' w' H' u v) a'.defers .returning w':=by
  rintro x π z q rfl rfl;rw[I];refine aBs (P:=P) (C:=⟨w,ok,X,H⟩) hm.lQ (λM a2 w2 h3=>?_) Ds h1 L J;obtain⟨v,hv,hR⟩:=ahj (P:=P) h3 z;exact⟨v,hv,v,M,_,rfl,h3.mem.norm π (h3.base▸q),hR.back π⟩
 cases e with
 |ret=>
  obtain⟨x,π,z,q,h3,O⟩:=h2;exact key x π z q h3 O
 |normal=>
  obtain⟨x,π,z,q,h3,O⟩:=h2;exact key x π z q h3 O
 |_=>
   exact h2.elim
def Ec:=@Ej.dV
def Aa (j:Bq P x σ (KD (λs=>Bq P y s Q) Q)):Bq P (.seq x y) σ Q:=Bq.seq _ j (λ_ h=>h)
def Bq.join {x y}(K:BN->Prop)(j:∀s,K s->Bq P y s Q)(q:(∀s,K s->Bq P y s Q)->Bq P x σ (KD (λs=>Bq P y s Q) Q)):Bq P (.seq x y) σ Q:=Bq.seq _ (q j) (λ_ h=>h)
def Cm:=@Bq.join
def OG (j:σ.get c=.d (.lit (.bool true)))(h:Bq P x σ Q):Bq P (.cond c x y) σ Q:=Bq.cond true j (λ_=>h) (λh=>H6)
def Nu (j:σ.get c=.d (.lit (.bool false)))(h:Bq P y σ Q):Bq P (.cond c x y) σ Q:=Bq.cond false j (λh=>H6) (λ_=>h)
def F6 {id}{ops}(hm:P.follows .mixedOrders=true)(j:(VR ops&&YZ ops&&dH ops σ.slots.length&&YO ops)=true)(q:YQ ops bs=true)(h:Fz P ops ops.toList σ rs ess bs σ')(u:Bq P y σ' Q):Bq P (.seq (.region id ops true) y) σ Q:=
 Bq.seq (λs=>s=σ') (.draw hm j q h rfl) (λ_ e=>e▸u)
end
variable {a b:AY}{s:Bz}{x y:C9}
def afx {cs}{y}(j:y=Qz agg cs off n)(q:Em P t agg n)(u:off+n<=cs.length)(h1:agg=false->n=1)(z:o.op=.load t x:=by exact rfl):CG P o [(x,.d (.ref cs off))] es (.d y) es:=j▸aif q u h1 z
def amW {y}(j:y=Qz agg (KE cs) off n)(q:es[k]? =some (.box cs))(hd:cs.all Ai.Dx=true)(u:Em P t agg n)(z:off+n<=cs.length)(h1:agg=false->n=1)(I:o.op=.load t x:=by exact rfl):
 CG P o [(x,.ptr k off)] es (.d y) es:=j▸agO q hd u z h1 I
def alu {f}{cs}{y}(j:y=Qz agg cs off n)(hp:pX P t f off agg n=true)(q:off+n<=cs.length)(h1:agg=false->n=1)(u:o.op=.field t x f:=by exact rfl):CG P o [(x,.d (.agg cs))] es (.d y) es:=j▸ah7 hp q h1 u
def acJ {j}{y}(u:Jj P t j z)vs(I:o.op=.build t q)(J:y=.agg (KE (MN (λ(i:Nat)=>j[i]?) (Gp z) q.toList vs)))(hp:Ot (λ(i:Nat)=>j[i]?) (Gp z).length q.toList vs=true)(hd:(MN (λ(i:Nat)=>j[i]?) (Gp z) q.toList vs).all Ai.Dx=true):CG P o (Oc q.toList vs) es (.d y) es:=J▸amZ u vs hp hd I
def amd {j k}{n}(hs:P.underlying s=some (.int j))(q:P.underlying t=some (.int k))(u:o.op=.convert s t x:=by exact rfl):CG P o [(x,.d (.lit (.int j n)))] es (.d (.lit (.int k (k.wrap n)))) es:=
 aX1 u λw=>by simp[convert,underlying,hs,q,Conv.intToInt]
def aZN {u}(hs:P.underlying s=some .string)(j:P.underlying t=some .string)(q:o.op=.convert s t x:=by exact rfl):CG P o [(x,.d (DX u))] es (.d (DX u)) es:=
 aX1 q λw=>by simp[convert,underlying,hs,j]
def acX (j:P.underlying t=some .bool)(q:o.op=.binOp .eql t x y t':=by exact rfl):CG P o [(x,.d (E9 a)),(y,.d (E9 b))] es (.d (E9 (a==b))) es:=
 Jd (u:=.bool a) (v:=.bool b) (r:=.bool (a==b)) q (λw=>by
  show((do pure (.bool (←Op.equal t (.bool a) (.bool b))):Sem BG)).run P w=_
  simp only[GK,run_equal_bool w t a b j,Gi,Hy]) ⟨rfl,rfl⟩
def aeo (j:P.underlying t=some .bool)(q:o.op=.binOp .neq t x y t':=by exact rfl):CG P o [(x,.d (E9 a)),(y,.d (E9 b))] es (.d (E9 (!(a==b)))) es:=
 Jd (u:=.bool a) (v:=.bool b) (r:=.bool (!(a==b))) q (λw=>by
  show((do pure (.bool (!(←Op.equal t (.bool a) (.bool b)))):Sem BG)).run P w=_
  simp only[GK,run_equal_bool w t a b j,Gi,Hy]) ⟨rfl,rfl⟩
def bn {A Rr:Type}(body:(A->AL Rr)->A->AL Rr):Nat->A->AL Rr
 |0,_=>none
 |n+1,a=>body (bn body n) a
variable {A Rr:Type}{Q:Exit->BN->Prop}
def Dp {q}(S:A->BN)body r a0(hs:CO σ (S a0))(h:Go.Proofs.YtfmoknlmaldmlaaGreat.bn body Am a0=some r)(round:∀(J:BN->Prop) (k:A->AL Rr),(∀σ' a,CO σ' (S a)->k a=some r->J σ')->∀a,body k a=some r->Bq P q (S a) (KD J Q)):Bq P (.loop q) σ Q:=by
 refine Bq.loop (λn s=>∃a,CO s (S a)/\Go.Proofs.YtfmoknlmaldmlaaGreat.bn body n a=some r) Am ⟨a0,hs,h⟩ ?_;rintro n s ⟨a,j,u⟩;refine D6 j ?_;cases n with
 |zero=>cases u
 |succ n=>exact round _ (Go.Proofs.YtfmoknlmaldmlaaGreat.bn body n) (λσ' a h1 h2=>⟨n,Yj n,a,h1,h2⟩) a u
def aQ {A B Rr:Type}(body:(A->B->AL Rr)->A->B->AL Rr):Nat->A->B->AL Rr
 |0,_,_=>none
 |n+1,a,b=>body (aQ body n) a b
variable {B:Type}
def DV {u}(S:A->B->BN)body r a0 q(hs:CO σ (S a0 q))(h:Go.Proofs.YtfmoknlmaldmlaaGreat.aQ body Am a0 q=some r)(round:∀(J:BN->Prop) (k:A->B->AL Rr),(∀σ' a b,CO σ' (S a b)->k a b=some r->J σ')->∀a b,body k a b=some r->Bq P u (S a b) (KD J Q)):Bq P (.loop u) σ Q:=by
 refine Bq.loop (λn s=>∃a b,CO s (S a b)/\Go.Proofs.YtfmoknlmaldmlaaGreat.aQ body n a b=some r) Am ⟨a0,q,hs,h⟩ ?_;rintro n s ⟨a,b,j,z⟩;refine D6 j ?_;cases n with
 |zero=>cases z
 |succ n=>exact round _ (Go.Proofs.YtfmoknlmaldmlaaGreat.aQ body n) (λσ' a b h1 h2=>⟨n,Yj n,a,b,h1,h2⟩) a b z
def iG {A B C Rr:Type}(body:(A->B->C->AL Rr)->A->B->C->AL Rr):Nat->A->B->C->AL Rr
 |0,_,_,_=>none
 |n+1,a,b,c=>body (iG body n) a b c
def QY {z}{C}(S:A->B->C->BN)body r a0 q u(hs:CO σ (S a0 q u))(h:Go.Proofs.YtfmoknlmaldmlaaGreat.iG body Am a0 q u=some r)(round:∀(J:BN->Prop) (k:A->B->C->AL Rr),(∀σ' a b c,CO σ' (S a b c)->k a b c=some r->J σ')->∀a b c,body k a b c=some r->Bq P z (S a b c) (KD J Q)):Bq P (.loop z) σ Q:=by
 refine Bq.loop (λn s=>∃a b c,CO s (S a b c)/\Go.Proofs.YtfmoknlmaldmlaaGreat.iG body n a b c=some r) Am ⟨a0,q,u,hs,h⟩ ?_;rintro n s ⟨a,b,c,j,I⟩;refine D6 j ?_;cases n with
 |zero=>cases I
 |succ n=>exact round _ (Go.Proofs.YtfmoknlmaldmlaaGreat.iG body n) (λσ' a b c h1 h2=>⟨n,Yj n,a,b,c,h1,h2⟩) a b c I
def XM {A B C D Rr:Type}(body:(A->B->C->D->AL Rr)->A->B->C->D->AL Rr):Nat->A->B->C->D->AL Rr
 |0,_,_,_,_=>none
 |n+1,a,b,c,d=>body (XM body n) a b c d
def Bq.XM {P}{σ}{Q}{I}{A B C D Rr}(S:A->B->C->D->BN)body r a0 q u z(hs:CO σ (S a0 q u z))(h:Go.Proofs.YtfmoknlmaldmlaaGreat.XM body Am a0 q u z=some r)(round:∀(J:BN->Prop) (k:A->B->C->D->AL Rr),(∀σ' a b c d,CO σ' (S a b c d)->k a b c d=some r->J σ')->∀a b c d,body k a b c d=some r->Bq P I (S a b c d) (KD J Q)):Bq P (.loop I) σ Q:=by
 refine Bq.loop (λn s=>∃a b c d,CO s (S a b c d)/\Go.Proofs.YtfmoknlmaldmlaaGreat.XM body n a b c d=some r) Am ⟨a0,q,u,z,hs,h⟩ ?_;rintro n s ⟨a,b,c,d,j,L⟩;refine D6 j ?_;cases n with
 |zero=>cases L
 |succ n=>exact round _ (Go.Proofs.YtfmoknlmaldmlaaGreat.XM body n) (λσ' a b c d h1 h2=>⟨n,Yj n,a,b,c,d,h1,h2⟩) a b c d L
def Ed {A B C D E Rr:Type}(body:(A->B->C->D->E->AL Rr)->A->B->C->D->E->AL Rr):Nat->A->B->C->D->E->AL Rr
 |0,_,_,_,_,_=>none
 |n+1,a,b,c,d,e=>body (Ed body n) a b c d e
def a6C {L}{C D E}(S:A->B->C->D->E->BN)body r a0 q u z I(hs:CO σ (S a0 q u z I))(h:Go.Proofs.YtfmoknlmaldmlaaGreat.Ed body Am a0 q u z I=some r)(round:∀(J:BN->Prop) (k:A->B->C->D->E->AL Rr),(∀σ' a b c d e,CO σ' (S a b c d e)->k a b c d e=some r->J σ')->∀a b c d e,body k a b c d e=some r->Bq P L (S a b c d e) (KD J Q)):Bq P (.loop L) σ Q:=by
 refine Bq.loop (λn s=>∃a b c d e,CO s (S a b c d e)/\Go.Proofs.YtfmoknlmaldmlaaGreat.Ed body n a b c d e=some r) Am ⟨a0,q,u,z,I,hs,h⟩ ?_;rintro n s ⟨a,b,c,d,e,j,M⟩;refine D6 j ?_;cases n with
 |zero=>cases M
 |succ n=>exact round _ (Go.Proofs.YtfmoknlmaldmlaaGreat.Ed body n) (λσ' a b c d e h1 h2=>⟨n,Yj n,a,b,c,d,e,h1,h2⟩) a b c d e M
def HY {A B C D E F Rr:Type}(body:(A->B->C->D->E->F->AL Rr)->A->B->C->D->E->F->AL Rr):Nat->A->B->C->D->E->F->AL Rr
 |0,_,_,_,_,_,_=>none
 |n+1,a,b,c,d,e,f=>body (HY body n) a b c d e f
def Bq.HY {P}{σ}{Q}{M}{A B C D E F Rr}(S:A->B->C->D->E->F->BN)body r a0 q u z I L(hs:CO σ (S a0 q u z I L))(h:Go.Proofs.YtfmoknlmaldmlaaGreat.HY body Am a0 q u z I L=some r)(round:∀(J:BN->Prop) (k:A->B->C->D->E->F->AL Rr),(∀σ' a b c d e f,CO σ' (S a b c d e f)->k a b c d e f=some r->J σ')->∀a b c d e f,body k a b c d e f=some r->Bq P M (S a b c d e f) (KD J Q)):Bq P (.loop M) σ Q:=by
 refine Bq.loop (λn s=>∃a b c d e f,CO s (S a b c d e f)/\Go.Proofs.YtfmoknlmaldmlaaGreat.HY body n a b c d e f=some r) Am ⟨a0,q,u,z,I,L,hs,h⟩ ?_;rintro n s ⟨a,b,c,d,e,f,j,O⟩;refine D6 j ?_;cases n with
 |zero=>cases O
 |succ n=>exact round _ (Go.Proofs.YtfmoknlmaldmlaaGreat.HY body n) (λσ' a b c d e f h1 h2=>⟨n,Yj n,a,b,c,d,e,f,h1,h2⟩) a b c d e f O
def aeg {A B C D E F G Rr:Type}(body:(A->B->C->D->E->F->G->AL Rr)->A->B->C->D->E->F->G->AL Rr):Nat->A->B->C->D->E->F->G->AL Rr
 |0,_,_,_,_,_,_,_=>none
 |n+1,a,b,c,d,e,f,g=>body (aeg body n) a b c d e f g
def Bq.aeg {P}{σ}{Q}{O}{A B C D E F G Rr}(S:A->B->C->D->E->F->G->BN)body r a0 q u z I L M(hs:CO σ (S a0 q u z I L M))(h:Go.Proofs.YtfmoknlmaldmlaaGreat.aeg body Am a0 q u z I L M=some r)(round:∀(J:BN->Prop) (k:A->B->C->D->E->F->G->AL Rr),(∀σ' a b c d e f g,CO σ' (S a b c d e f g)->k a b c d e f g=some r->J σ')->∀a b c d e f g,body k a b c d e f g=some r->Bq P O (S a b c d e f g) (KD J Q)):Bq P (.loop O) σ Q:=by
 refine Bq.loop (λn s=>∃a b c d e f g,CO s (S a b c d e f g)/\Go.Proofs.YtfmoknlmaldmlaaGreat.aeg body n a b c d e f g=some r) Am ⟨a0,q,u,z,I,L,M,hs,h⟩ ?_;rintro n s ⟨a,b,c,d,e,f,g,j,U⟩;refine D6 j ?_;cases n with
 |zero=>cases U
 |succ n=>exact round _ (Go.Proofs.YtfmoknlmaldmlaaGreat.aeg body n) (λσ' a b c d e f g h1 h2=>⟨n,Yj n,a,b,c,d,e,f,g,h1,h2⟩) a b c d e f g U
variable {c:Int}
def ady {b}{z:α}{n}{r}(h:Jg b z n c=some r):(0<=n/\n<=c/\(b:Int)*c<=140737488355328)/\r=List.replicate n.toNat z:=by
 unfold Jg at h;split at h
 ·grind
 cases h
def ZV {j}{q}{n}{r}enc(z:α)(h:Jg j z n c=some r)(hE:Gm P t e size j)(hz:(P.info? e).bind (·.zero)=some q)(h1:q.cells.all (·.oneCell')=true)(U:q.cells.size=size)(L:Gp q=(enc z).cells.map .d)(hb:0<j)(ho:o.op=.makeSlice t x y:=by exact rfl):CG P o [(x,.d (Ad n)),(y,.d (Ad c))] es (.aS es.length) (es++[.arr e size (List.map enc r)]):=
 .eff λC ok H a w hm hn=>by
  obtain⟨⟨h0,Y,hbc⟩,rfl⟩:=ady h;have hx:=(Fe hn).1.lit;have hy:=(Fe hn).2.lit;simp only at hx hy;obtain⟨i,z',hi,hz',hs,Z,_⟩:=hE.info;have hzv:i.zero=some q:=by rw[hi]at hz;simpa using hz
  have M:c<=9223372036854775807:=by
   have h2:(1:Int)*c<=(j:Int)*c:=Int.mul_le_mul_of_nonneg_right AB AB;omega
  have hr:=run_make (P:=P) w t e i q hE.und hi hzv .i64 .i64 n c h0 Y (by rw[Z];omega) M;rw[hs]at hr
  let cells:=madeCells q.cells (c.toNat*size)
  have O:=hE.pos;have u:cells.size=c.toNat*size:=size_madeCells _ _;have hlc:(Gp q).length=size:=by simp[Gp,U]
  have I:∀y∈List.map enc (List.replicate n.toNat z),y.cells.length=size:=by
   grind
  have J:=U2 I;have hlen:(List.map enc (List.replicate n.toNat z)).length=n.toNat:=BU
  rw[hlen]at J;have aSJ:n.toNat*size<=c.toNat*size:=Lu _ AB
  have hrs:∀{ok:Nat->Prop} {w:BQ} {H:AA CP},Hd ok w H (flat (List.map enc (List.replicate n.toNat z))) (cells.toList.take (n.toNat*size)):=by
   intro ok w H;refine⟨by rw[J,Hl,VD,u];omega,λk hk=>?_⟩;rw[J]at hk;have hd:=a2a k size;have hq:k/size<n.toNat:=uS (by rwa [WJ]at hk);have hm':k % size<size:=qG _ O;have e0:k=k/size*size+k % size:=by rw[WJ];exact hd.symm
   have e1:(flat (List.map enc (List.replicate n.toNat z))).getD k .junk=.d ((enc z).cells.getD (k % size) EO):=by
    have hg:=flat_get I (k/size) (k % size) (by rw[hlen];exact hq) hm';rw[←e0]at hg;rw[hg]
    grind
   have hcl:(enc z).cells.length=size:=by rw[←hlc,L];simp
   have e2:(Ai.d ((enc z).cells.getD (k % size) EO))=(Gp q).getD (k % size) .junk:=by
    rw[L];have :k % size<(enc z).cells.length:=AB
    grind
   have hmz:k % size<q.cells.size:=AB
   have e3:(cells.toList.take (n.toNat*size)).getD k undef=q.cells[k % size]:=by
    have hk2:k<c.toNat*size:=AB
    have e:cells.toList=(List.range (c.toNat*size)).map λi=>q.cells[i % q.cells.size]! :=by
     show(madeCells q.cells (c.toNat*size)).toList=_;simp[madeCells]
    rw[e];simp only[List.getD,U4 hk]
    grind
   rw[e1,e2,e3];have e4:(Gp q).getD (k % size) .junk=.d (QK q.cells[k % size]):=by simp[Gp,List.getD,hmz]
   rw[e4];exact⟨zh ((YU.1 h1) _ BU),.d _ _ (tK _)⟩
  obtain⟨h2,h3⟩:=hm.push (.cells cells e) ⟨.slice (some ⟨w.heap.size,0,none⟩) n.toNat c.toNat,size⟩ (.arr e size (List.map enc (List.replicate n.toNat z))) (λb hb=>by simpa[EF]using hb.symm) (by
   refine⟨rfl,I,cells.toList.take (n.toNat*size),⟨?_,.inr ⟨w.heap.size,c.toNat,cells,by rw[hlen],FQ _,WR w _,by rw[hlen];omega,oW,QL u.symm,by rw[hlen]⟩⟩,hrs⟩
   rw[hlen,Hl,VD,u];omega)
  refine⟨.slice (some ⟨w.heap.size,0,none⟩) n.toNat c.toNat,_,ok,_,.inl ?_,h3,IK _ _,h2,.aS _ _ _ _ size Ql⟩;simp only[execOp,ho,hx,hy,GK,hr,Gi,Hy];rfl
def gCopy (l m:AA α):AA α:=m.take l.length++l.drop m.length
def ahY {bytes}enc(l m:AA α)(hE:Gm P t e size bytes)(hk:es[k]? =some (.arr e size (List.map enc l)))(hc:∀a,(enc a).cells.length=size)(ho:o.op=.call { callee:=.builtin .copy,args:= #[x,y],argTypes:= #[t,t] }:=by exact rfl):
 CG P o [(x,.aS k),(y,.d (BP enc m))] es .junk (es.set k (.arr e size (List.map enc (gCopy l m)))):=
 .eff λC ok H a w hm hn=>by
  have hx:=(Fe hn).1;have hy:=(Fe hn).2;simp only at hx hy;obtain⟨h,hh,hok⟩:=Hr hm.ent hm.hlen hk;have hxv:=RJ hx hh;obtain⟨i,z',hi,hz',hs,hby,_⟩:=hE.info;have hu:(underlying t).run P w=.ok (.slice e) w:=aEv
  have hsz:(sizeOf e).run P w=.ok size w:=aF0
  have Y:∀(q:AA α),∀y∈q.map enc,y.cells.length=size:=λq y hy=>aEg
  have hyR:EL ok w (.sl (m.map enc)) (a.eval y):=by cases hy with |d _ _ h=>exact h
  obtain⟨z,U,aMy⟩:=kL H hyR (Y m);obtain⟨h1,h2,ys,Z,hrs⟩:=hok;have hlm:(m.map enc).length=m.length:=BU
  have hll:(l.map enc).length=l.length:=BU
  have hnl:z.length=m.length*size:=by rw[U.len,hlm]
  let n:=Nat.min m.length l.length
  have hlenx:(Builtin.lenOf (a.eval y)).run P w=.ok m.length w:=by
   rcases U.at_ with⟨ad,c,e1,_⟩|⟨c,e1,e2⟩
   ·rw[e1];simp[Builtin.lenOf]
   rw[e1];rw[hlm]at e2;simp[Builtin.lenOf,e2]
  have J:(Builtin.firstCells size n (a.eval y)).run P w=.ok (z.take (n*size)).toArray w:=by
   rcases U.at_ with⟨ad,c,e1,hcells⟩|⟨c,e1,e2⟩
   ·rw[e1];refine run_firstCells_some (P:=P) w size n ad _ c (z.take (n*size)) ?_ ?_
    ·rw[Hl,hnl];have :n*size<=m.length*size:=Lu _ (aGC _ _);omega
    intro j v hj;rw[a4E]at hj;split at hj
    ·exact hcells j v hj
    cases hj
   rw[e1];rw[hlm]at e2;have :z=[]:=Hu (by rw[hnl,e2];simp);simp[Builtin.firstCells,this]
  have hone:∀u∈z.take (n*size),u.oneCell'=true:=λu hu=>U.one u (dZ hu);have hn1:n<=m.length:=aGC _ _;have hn2:n<=l.length:=Nat.min_le_right _ _
  have I:(z.take (n*size)).length=n*size:=by
   rw[Hl,hnl];have :n*size<=m.length*size:=Lu _ hn1;omega
  have hgc:gCopy l m=m.take n++l.drop n:=by
   unfold gCopy;by_cases hle:m.length<=l.length
   ·have e1:n=m.length:=lI hle;rw[e1,RU hle,Gw]
   have e1:n=l.length:=Nat.min_eq_right AB;rw[e1,a5v AB,PN]
  have L:(gCopy l m).length=l.length:=by rw[hgc];simp;omega
  rcases Z.2 with⟨hv,hl0⟩|⟨g,cap,M,hv,_,hg,hncap,hcm,hcs,htake⟩
  ·
   rw[hll]at hl0;have hn0:n=0:=AB
   have hl:l=[]:=Hu hl0;have hge:gCopy l m=l:=by rw[hgc,hn0];simp
   rw[hge]
   have hset:es.set k (.arr e size (List.map enc l))=es:=by
    apply rO;intro j;by_cases hj:k=j
    ·subst hj;have hkl:=(I9.1 hk).1;rw[List.getElem?_set_self hkl,hk]
    rw[eU hj]
   rw[hset];refine⟨goInt n,w,ok,H,.inl ?_,.refl _ _,.refl _,hm,.junk _⟩;have e0:Nat.min m.length 0=n:=by rw[hn0];simp
   have hf0:(Builtin.firstCells size 0 (a.eval y)).run P w=.ok #[] w:=by rw[hn0]at J;simpa using J
   simp[execOp,ho,resolve,invoke,builtin,Builtin.copy_,hxv,hv,hu,hlenx,hsz,hf0,hn0]
  ·rw[hll]at hv hncap htake;have hlt:g<w.heap.size:=(Ip.1 hg).1
   have hfit:n*size<=M.size:=by
    exact EC (Lu _ AB) hcs
   have hst:=aFe (P:=P) g 0 e (z.take (n*size)) 0 M w hg (by rw[I];omega) hone;have aFZ:∀y∈(gCopy l m).map enc,y.cells.length=size:=Y _
   obtain⟨h3,h4⟩:=hm.upd (e:=.arr e size (List.map enc (gCopy l m))) (w':=w.setRow g (M.toList.take (0+0)++z.take (n*size)++M.toList.drop (0+0+(z.take (n*size)).length)).toArray) hk rfl hh (by rw[hv];rfl) rfl rfl rfl aGc (λc hc=>aGR _ _ _ _ hc) (λhg'=>by
    refine⟨h1,aFZ,z.take (n*size)++ys.drop (n*size),?_,?_⟩
    ·refine⟨?_,.inr ⟨g,cap,_,by rw[DY,L];exact hv,FQ _,wM w g M _ e (0,0) hg,by rw[DY,L];exact hncap,hcm,?_,?_⟩⟩
     ·simp only[Ef,I,Lh,Z.1,DY,L];have :n*size<=l.length*size:=Lu _ hn2;omega
     ·simp only[QB,a5L,Ir,LC,I];simp only[a5H,Ef,I,Lh,VD];rw[show n*size+(M.size-n*size)=M.size by omega];exact hcs
     simp only[QB,a5L,Ir,LC,I,a6A];rw[DY,L,←htake];rw[aIS,I,RU (by rw[I];exact Lu _ hn2)];congr 1;rw[List.drop_take]
    have ha:=aMy.mono hg' (oP H);have hb:=hrs.mono hg' (oP H);have aMz:=U2 (Y l);have aCa:=U2 (Y m);have aJI:=U2 aFZ;have aSK:n*size<=l.length*size:=Lu _ hn2;have aSL:n*size<=m.length*size:=Lu _ hn1;refine⟨by simp only[aJI,Ef,I,Lh,Z.1,DY,L];omega,λj hj=>?_⟩;rw[aJI,DY,L]at hj;have hpos:=hE.pos;have e0:j=j/size*size+j % size:=by rw[WJ];exact(a2a j size).symm
    have hq:j/size<l.length:=uS (by rwa [WJ]at hj);have hr:j % size<size:=qG _ hpos;have hg3:=flat_get aFZ (j/size) (j % size) (by rw[DY,L];exact hq) hr;rw[←e0]at hg3;by_cases hjn:j<n*size
    ·have hqn:j/size<n:=uS (by rwa [WJ]at hjn);have hg2:=flat_get (Y m) (j/size) (j % size) (by rw[hlm];omega) hr;rw[←e0]at hg2
     have O:((gCopy l m).map enc).getD (j/size) EO=(m.map enc).getD (j/size) EO:=by
      rw[hgc];simp only[List.getD,JY];rw[KH Ei,Yw,U4 hqn]
     rw[hg3,O,←hg2]
     have e5:(z.take (n*size)++ys.drop (n*size)).getD j undef=z.getD j undef:=by
      simp only[List.getD];rw[KH (by rw[I];exact hjn),U4 hjn]
     rw[e5];exact ha.2 j (by rw[aCa,hlm];omega)
    have hqn:n<=j/size:=(Nat.le_div_iff_mul_le hpos).2 AB;have hg1:=flat_get (Y l) (j/size) (j % size) (by rw[hll];exact hq) hr;rw[←e0]at hg1
    have O:((gCopy l m).map enc).getD (j/size) EO=(l.map enc).getD (j/size) EO:=by
     rw[hgc];have hlt':(m.take n).length=n:=Ei
     simp only[List.getD,JY];rw[Qg (by rw[DY,hlt'];exact hqn),DY,hlt',iU,Vk];congr 2;omega
    rw[hg3,O,←hg1]
    have e5:(z.take (n*size)++ys.drop (n*size)).getD j undef=ys.getD j undef:=by
     simp only[List.getD];rw[Qg (by rw[I];omega),I,Vk];congr 2;omega
    rw[e5]
    exact hb.2 j (by rw[aMz,hll];omega))
   refine⟨goInt n,_,ok,H,.inl ?_,h4,.refl _,h3,.junk _⟩;have e0:Nat.min m.length l.length=n:=rfl;simp[execOp,ho,resolve,invoke,builtin,Builtin.copy_,hxv,hv,hu,hlenx,hsz,e0,J];rw[hst];simp
def DI (s:BL):AA Int:=s.data.toList.map λc=>(c.toNat:Int)
def JH s:(DI s).length=s.size:=by unfold DI;rw[DY,VD];rfl
variable {k k':IntKind}{l:AA Int}{r u v:Int}
def a1v :∀(l:AA Int),flat (l.map Dl)=l.map λn=>.d (Dl n)
 | []=>rfl
 |n::l=>by rw[Gz,YS,a1v l];rfl
def adD {u}{i}(ht:P.underlying t=some (.slice e))(hu:P.underlying u=some .string)(hi:P.info? e=some i)(hz:i.zero=some (.int .u8 0))(j:i.size=1)(Z:i.bytes=1){v}{xs}(z:nM w e 1 v n xs)s(M:n+s.size<=maxLen)(J:n+s.size<=140737488355328):
 ∃v' w',(Builtin.append_ #[t,u] ty #[v,.string s]).run P w=.ok v' w'/\nM w' e 1 v' (n+s.size) (xs++Lib.strCells s)/\w.grownBy w' v.ownBlock/\(∀Y,EF v'=some Y->EF v=some Y\/w.heap.size<=Y):=by
 have L:xs.length=n:=by simpa using z.1
 have hlen:(xs++Lib.strCells s).length=(n+s.size)*1:=by rw[Ef,L,Lib.strCells_length,qC]
 rcases z.2 with⟨rfl,rfl⟩|⟨g,cap,cur,rfl,_,hg,hnc,O,hcs,U⟩
 ·have hx:xs=[]:=Hu L;subst hx;obtain⟨v',w',q1,q2,q3,q4⟩:=Lib.run_append_own_string (P:=P) w w.heap.size t u ty e i ht hu hi hz j Z _ 0 [] (aAO w w.heap.size e 1) s M J (ER _);refine⟨v',w',q1,.of q2,q3,λY q=>.inr ?_⟩;rcases q2.2 with⟨rfl,_⟩|⟨g2,_,_,rfl,hle,_⟩
  ·simp[EF]at q
  simp[EF]at q;subst q;exact hle
 rw[qC]at hcs U;by_cases I:n+s.size<=cap
 ·have hr:=Lib.run_append_room_string (P:=P) w t u ty e i ht hu hi j g n cap cur hg s I AB;refine⟨_,_,hr,⟨hlen,.inr ⟨g,cap,_,rfl,FQ _,wM w g cur _ e _ hg,I,O,?_,?_⟩⟩,⟨rfl,rfl,rfl,BU,λk _ hk=>setRow_other w g k _ (λe=>hk (by simp[Value.ownBlock,e]))⟩,λY q=>.inl q⟩
  ·grind
  grind
 have hr:=Lib.run_append_grow_string (P:=P) w t u ty e i (.int .u8 0) ht hu hi hz ⟨g,0,none⟩ n cap xs (by rw[j];simpa using L) (z.cells (g:=g) rfl) s AB (by unfold maxLen at M;omega) (by rw[Z];exact growslice_fits AB AB);have hge:=yZ w (n+s.size) cap e;have O:grownCap w (n+s.size) cap e<=maxLen:=aAt w (n+s.size) cap e M;refine⟨_,_,hr,⟨hlen,.inr ⟨w.heap.size,_,_,rfl,FQ _,WR w.drew _,hge,O,QL ?_,?_⟩⟩,⟨rfl,rfl,rfl,BU,λk hk _=>Lr w.drew _ k hk⟩,λY q=>.inr (by simp[EF]at q;omega)⟩
 ·have hz1:(Value.int IntKind.u8 0).cells.size=1:=rfl;simp only[Array.size_append,a5H,size_zeroCells,hz1,L,Lib.strCells_length];omega
 grind
def abS {s}{u}{k}{r}{j}(h:D5 1 l (DI j)=some r)(hE:Gm P t e 1 1)(hz:(P.info? e).bind (·.zero)=some (.int .u8 0))(hu:P.underlying u=some .string)(hk:es[k]? =some (.arr e 1 (List.map Dl l)))(ho:o.op=.call { callee:=.builtin .append,args:= #[s,x],argTypes:= #[t,u] }:=by exact rfl):CG P o [(s,.aS k),(x,.d (DX j))] es (.aS es.length) (es.set k .dead++[.arr e 1 (List.map Dl r)]):=
 .eff λC ok H a w hm hn=>by
  obtain⟨rfl,hlen⟩:=a0A h;rw[JH,qC]at hlen;have hs:=(Fe hn).1;have hx:=(Fe hn).2.lit;simp only at hs hx;obtain⟨hd,hh,hok⟩:=Hr hm.ent hm.hlen hk;have hsv:=RJ hs hh;obtain⟨h1,h2,ys,I,hrs⟩:=hok;obtain⟨i,z',hi,hz',hs1,hby,_⟩:=hE.info;have hz2:i.zero=some (.int .u8 0):=by rw[hi]at hz;simpa using hz
  have L:(l.map Dl).length=l.length:=BU
  have M:(l.map Dl).length+j.size<=maxLen:=by rw[L];unfold maxLen;omega
  obtain⟨v',w',hr,J,O,U⟩:=adD (P:=P) (ty:=o.type) hE.und hu hi hz2 hs1 hby I j M (by rw[L];exact hlen)
  obtain⟨h3,h4⟩:=hm.turn (h':=⟨v',1⟩) (e:=.arr e 1 (List.map Dl (l++DI j))) hk rfl hh O.os O.tape O.output O.size (λc hc hne=>O.block c hc (by rw[aKc I];exact λe=>hne e.symm)) (λg Y=>⟨vw J Y,U g Y⟩) (λhgr=>by
   refine⟨rfl,λy hy=>by obtain⟨q,_,rfl⟩:=FB.1 hy;rfl,ys++Lib.strCells j,?_,?_⟩
   ·have e:(List.map Dl (l++DI j)).length=(l.map Dl).length+j.size:=by simp[JH]
    rw[e];exact J
   have Z:=hrs.mono hgr (IK H [⟨v',1⟩]);have hfl:(flat (l.map Dl)).length=l.length:=by rw[a1v];simp
   have hcl:(Lib.strCells j)=(DI j).map (.int .u8):=by unfold Lib.strCells DI;rw[fV];rfl
   rw[JY,kn,a1v (DI j),hcl];refine⟨by rw[Ef,Ef,Z.1,DY,DY],λi hi=>?_⟩;by_cases z:i<(flat (l.map Dl)).length
   ·have e1:(flat (l.map Dl)++(DI j).map λn=>Ai.d (Dl n)).getD i .junk=(flat (l.map Dl)).getD i .junk:=by simp[List.getD,KH z]
    have e2:(ys++(DI j).map (Value.int .u8)).getD i undef=ys.getD i undef:=by simp[List.getD,KH (by rw[Z.1];exact z:i<ys.length)]
    rw[e1,e2];exact Z.2 i z
   have hi3:i-(flat (l.map Dl)).length<(DI j).length:=by rw[Ef,DY]at hi;omega
   have e1:(flat (l.map Dl)++(DI j).map λn=>Ai.d (Dl n)).getD i .junk=.d (Dl (DI j)[i-(flat (l.map Dl)).length]):=by simp[List.getD,Qg (X8 z),hi3]
   have e2:(ys++(DI j).map (Value.int .u8)).getD i undef=.int .u8 (DI j)[i-(flat (l.map Dl)).length]:=by simp[List.getD,Qg (by rw[Z.1];omega:ys.length<=i),Z.1,hi3]
   rw[e1,e2]
   exact⟨rfl,.d _ _ (.lit _)⟩)
  have hH:(H++[(⟨v',1⟩:CP)])[es.length]? =some ⟨v',1⟩:=Ql
  refine⟨v',w',ok,_,.inl ?_,h4,IK _ _,h3,?_⟩
  ·simp[execOp,ho,resolve,invoke,builtin,hx,hsv,hr]
  rcases J.2 with⟨rfl,_⟩|⟨g',c',_,rfl,_⟩
  ·exact .aS _ _ _ _ 1 hH
  exact .aS _ _ _ _ 1 hH
def ajL {I J}{s}(hs:P.underlying I=some .string)(hd:P.underlying J=some (.slice e))(O:P.underlying e=some (.int .u8))(U:o.op=.convert I J x:=by exact rfl):CG P o [(x,.d (DX s))] es (.d (BP Dl (DI s))) es:=
 .eff λC ok H a w hm Y=>by
  have M:=(N7 Y).lit;simp only at M;have Z:=run_bytes_of_string (P:=P) w I J e s hs hd O;obtain⟨h1,h2⟩:=hm.drew;obtain⟨h3,h4⟩:=h1.fresh (.cells (bytesRow s (grownCap w s.size 0 e)) e ((bytesRow s (grownCap w s.size 0 e)).size,(bytesRow s (grownCap w s.size 0 e)).size+1));refine⟨.slice (some ⟨w.heap.size,0,none⟩) s.size (grownCap w s.size 0 e),_,_,H,.inl ?_,h2.trans h4,.refl _,h3,.d _ _ ?_⟩
  ·simp only[execOp,U,M,GK,Z,Gi,Hy]
  have q:((DI s).map Dl).length=s.size:=by simp[JH]
  have u:∀i,i<s.size->(w.drew.alloc (.cells (bytesRow s (grownCap w s.size 0 e)) e ((bytesRow s (grownCap w s.size 0 e)).size,(bytesRow s (grownCap w s.size 0 e)).size+1))).cell? ⟨w.heap.size,0+(i*1+0),none⟩=some (.int .u8 ((s.data.toList.getD i 0).toNat)):=by
   intro i hi;have hb:(w.drew.alloc (.cells (bytesRow s (grownCap w s.size 0 e)) e ((bytesRow s (grownCap w s.size 0 e)).size,(bytesRow s (grownCap w s.size 0 e)).size+1))).heap[w.heap.size]? =some (.cells (bytesRow s (grownCap w s.size 0 e)) e ((bytesRow s (grownCap w s.size 0 e)).size,(bytesRow s (grownCap w s.size 0 e)).size+1)):=WR w.drew _;rw[LC,qC,QB];have z:i<s.data.size:=hi
   have hg:(bytesRow s (grownCap w s.size 0 e))[i]? =some (.int .u8 ((s.data.toList.getD i 0).toNat)):=by
    unfold bytesRow;rw[Yy aI];simp[rQ z,List.getD]
   unfold World.cell?;simp only[hb];simpa using hg
  have hl:∀i,i<s.size->((DI s).map Dl).getD i EO=Dl ((s.data.toList.getD i 0).toNat):=by
   intro i hi;have z:i<s.data.size:=hi;simp[DI,List.getD,rQ z]
  have z0:∀j,j<1->j=0:=λj L=>AB
  have :=EL.sl (ok:=λb=>ok b\/b=w.drew.heap.size) (w:=w.drew.alloc (.cells (bytesRow s (grownCap w s.size 0 e)) e ((bytesRow s (grownCap w s.size 0 e)).size,(bytesRow s (grownCap w s.size 0 e)).size+1))) ((DI s).map Dl) w.heap.size 0 (grownCap w s.size 0 e) 1 (by rw[q];exact yZ w s.size 0 e) (λ_ _=>.inr rfl)
   (λi hi=>by rw[q]at hi;rw[hl i hi];rfl)
   (λi hi j L=>by rw[q]at hi;rw[z0 j L,hl i hi];rfl)
   (λi hi j L=>by rw[q]at hi;rw[z0 j L,u i hi];rfl)
   (λi hi j L=>by rw[q]at hi;rw[z0 j L];unfold cellAt;rw[u i hi,hl i hi];exact .lit _)
  rw[q]at this;exact this
def FD (op:BinOp)(k:IntKind)(x y:Int):Int:=
 match op with
 | .and=>k.wrap ((BitVec.ofInt k.bits x&&& BitVec.ofInt k.bits y).toNat)
 | .or=>k.wrap ((BitVec.ofInt k.bits x|||BitVec.ofInt k.bits y).toNat)
 | .xor=>k.wrap ((BitVec.ofInt k.bits x^^^BitVec.ofInt k.bits y).toNat)
 |_=>k.wrap ((BitVec.ofInt k.bits x&&& ~~~(BitVec.ofInt k.bits y)).toNat)
def Sz (j:o.op=.binOp .and t x y t':=by exact rfl):CG P o [(x,.d (.lit (.int k u))),(y,.d (.lit (.int k v)))] es (.d (.lit (.int k (FD .and k u v)))) es:=
 Jd j (λw=>a8Y) ⟨rfl,rfl⟩
def XR (j:o.op=.binOp .or t x y t':=by exact rfl):CG P o [(x,.d (.lit (.int k u))),(y,.d (.lit (.int k v)))] es (.d (.lit (.int k (FD .or k u v)))) es:=
 Jd j (λw=>a8Y) ⟨rfl,rfl⟩
def aVs (j:o.op=.binOp .xor t x y t':=by exact rfl):CG P o [(x,.d (.lit (.int k u))),(y,.d (.lit (.int k v)))] es (.d (.lit (.int k (FD .xor k u v)))) es:=
 Jd j (λw=>a8Y) ⟨rfl,rfl⟩
def aky (j:o.op=.binOp .andNot t x y t':=by exact rfl):CG P o [(x,.d (.lit (.int k u))),(y,.d (.lit (.int k v)))] es (.d (.lit (.int k (FD .andNot k u v)))) es:=
 Jd j (λw=>a8Y) ⟨rfl,rfl⟩
def fA (k:IntKind)(x:Int):Int:=FD .xor k (if k.signed then -1 else k.max) x
def aUz (j:o.op=.unOp .xor t x:=by exact rfl):CG P o [(x,.d (.lit (.int k u)))] es (.d (.lit (.int k (fA k u)))) es:=
 aJh j (λw=>by simp[Op.unary,Op.intBits,fA,FD])
def Qc (op:BinOp)(k:IntKind)(x y:Int):AL Int:=
 if y<0 then none else some (match op with | .shl=>k.wrap (x*2^(min y.toNat k.bits))|_=>x.fdiv (2^(min y.toNat k.bits)))
def a7K (h:Qc .shl k u v=some r)(j:o.op=.binOp .shl t x y t':=by exact rfl):CG P o [(x,.d (.lit (.int k u))),(y,.d (.lit (.int k' v)))] es (.d (.lit (.int k r))) es:=by
 unfold Qc at h;split at h
 ·cases h
 rename_i q;obtain rfl:=E5 h;exact Jd j (λw=>by simp[binOp,Op.shift,q]) ⟨rfl,rfl⟩
def aVo (h:Qc .shr k u v=some r)(j:o.op=.binOp .shr t x y t':=by exact rfl):CG P o [(x,.d (.lit (.int k u))),(y,.d (.lit (.int k' v)))] es (.d (.lit (.int k r))) es:=by
 unfold Qc at h;split at h
 ·cases h
 rename_i q;obtain rfl:=E5 h;exact Jd j (λw=>by simp[binOp,Op.shift,q]) ⟨rfl,rfl⟩
def yu (k:IntKind)(a b:Int):AL Int:=if b=0 then none else some (k.wrap (a.tdiv b))
def Xm (a b:Int):AL Int:=if b=0 then none else some (a.tmod b)
def alO (h:yu k u v=some r)(j:o.op=.binOp .quo t x y t':=by exact rfl):CG P o [(x,.d (.lit (.int k u))),(y,.d (.lit (.int k v)))] es (.d (.lit (.int k r))) es:=by
 unfold yu at h;split at h
 ·cases h
 rename_i q;obtain rfl:=E5 h;exact Jd j (λw=>by simp[binOp,Op.intDiv,q]) ⟨rfl,rfl⟩
def aK6 (h:Xm u v=some r)(j:o.op=.binOp .rem t x y t':=by exact rfl):CG P o [(x,.d (.lit (.int k u))),(y,.d (.lit (.int k v)))] es (.d (.lit (.int k r))) es:=by
 unfold Xm at h;split at h
 ·cases h
 rename_i q;obtain rfl:=E5 h;exact Jd j (λw=>by simp[binOp,Op.intDiv,q]) ⟨rfl,rfl⟩
variable {i k:Nat}{v:BG}
def aTv {e}(O:H[k]? =some h)(z:Fp ok w H h (.arr e size xs))(hi:i<xs.length)(U:R ok w H (.mF k i off) v):
 ∃g cap j ys,h.v=.slice (some ⟨g,0,none⟩) xs.length cap/\w.heap[g]? =some (.cells j e (0,0))/\xs.length<=cap/\cap<=maxLen/\xs.length*size<=j.size/\cap*size<=j.size/\j.toList.take (xs.length*size)=ys/\ys.length=xs.length*size/\Hd ok w H (flat xs) ys/\(∀x∈xs,x.cells.length=size)/\v=.pointer (some ⟨g,i*size+off,none⟩):=by
 obtain⟨h1,h2,ys,⟨h3,Y⟩,Z⟩:=z;rcases Y with⟨u,h7⟩|⟨g,cap,j,u,h7,h8,L,I,q,J⟩
 ·omega
 refine⟨g,cap,j,ys,u,h8,L,I,EC (Lu _ L) q,q,J,h3,Z,h2,?_⟩;cases U with
 |mF _ _ _ b n c s M=>
  rw[O]at M;obtain rfl:=E5 M;simp only[pS,OX,Addr.mk.injEq]at u;simp only at h1;rw[u.1.1,h1]
def aPl {j}(hi:i<n)(q:j<size):i*size+j<n*size:=
 calc i*size+j<i*size+size:=AB
  _=(i+1)*size:=by rw[ig]
  _<=n*size:=Lu _ hi
def KC {e}{y}enc{l}{a:α}(hy:y=Qz agg (enc a).cells off n)(hk:es[k]? =some (.arr e size (List.map enc l)))(ha:l[i]? =some a)(hT:Em P t agg n)(hn:off+n<=(enc a).cells.length)(h1:agg=false->n=1)(ho:o.op=.load t x:=by exact rfl):CG P o [(x,.mF k i off)] es (.d y) es:=
 .pure λok H ac w M hl Y=>by
  have hx:=N7 Y;simp only at hx;subst hy;obtain⟨h,hh,Z⟩:=Hr M hl hk;obtain⟨O,hia⟩:=I9.1 ha;have q:i<(List.map enc l).length:=dB
  obtain⟨g,cap,z,ys,e1,e2,e3,e4,e5,e5',e6,e7,e8,e9,e10⟩:=aTv hh Z q hx;have J:(List.map enc l).getD i EO=enc a:=by simp[List.getD,O,hia]
  have hsz:(enc a).cells.length=size:=by
   grind
  have hfl:=U2 e9
  have u:∀j,j<size->w.cell? ⟨g,i*size+j,none⟩=some (ys.getD (i*size+j) undef):=by
   intro j L;have I:=aPl q L;have hcur:(List.map enc l).length*size<=z.size:=e5;have h15:i*size+j<z.size:=AB
   have e11:ys.getD (i*size+j) undef=z[i*size+j]'(h15):=by
    rw[←e6]
    grind
   rw[e11];simp[World.cell?,e2,show i*size+j<z.size by omega]
  have U:∀j,j<size->((enc a).cells.getD j EO).leaf=true/\EL ok w ((enc a).cells.getD j EO) (ys.getD (i*size+j) undef):=by
   intro j L;have I:=e8.2 (i*size+j) (by rw[hfl];exact aPl q L);rw[flat_get e9 i j q L,J]at I;refine⟨I.1,?_⟩;cases I.2 with |d _ _ h=>exact h
  obtain⟨v,hr,hD⟩:=a3C (ok:=ok) (w:=w) (b:=g) (p:=i*size) (cs:=(enc a).cells) hT hn h1 (λj L=>(U j AB).1) (λj L=>by rw[u j AB];rfl) (λj L=>by unfold cellAt;rw[u j AB];exact(U j AB).2);exact⟨v,by simp only[execOp,ho,e10,GK,hr,Gi,Hy],.d _ _ hD⟩
def V5 {e}enc{l}{a a':α}{v}(hk:es[k]? =some (.arr e size (List.map enc l)))(ha:l[i]? =some a)(hl:v.cells.all Ai.leaf=true)(hs:∀w,(sizeOf t).run P w=.ok n w)(hn:v.cells.length=n)(hle:off+n<=(enc a).cells.length)(hset:(enc a').cells.map Ai.d=setAt ((enc a).cells.map Ai.d) off v.cells)(hc:∀b,(enc b).cells.length=size)(ho:o.op=.store t x y:=by exact rfl):
 CG P o [(x,.mF k i off),(y,v)] es .junk (es.set k (.arr e size (List.map enc (l.set i a')))):=
 .eff λC ok H J w hm hn'=>by
  have h1:=(Fe hn').1;have h2:=(Fe hn').2;simp only at h1 h2;obtain⟨h,hh,hok⟩:=Hr hm.ent hm.hlen hk;obtain⟨Y,hia⟩:=I9.1 ha;have aMA:i<(List.map enc l).length:=by simpa using Y
  have hok1:=hok.1;obtain⟨g,cap,z,ys,e1,e2,e3,e4,e5,e5',e6,e7,e8,e9,e10⟩:=aTv hh hok aMA h1;have I:=h2.anc hl;have hll:(List.map enc l).length=l.length:=BU
  rw[hll]at e1 e3 e6 e7;have hea:(enc a).cells.length=size:=hc a;have Z:(J.eval y).cells.toList.length=n:=by rw[I.1,hn]
  have hsz:(J.eval y).cells.size=n:=by simpa using Z
  have hcur:l.length*size<=z.size:=by simpa using e5
  have hend:i*size+off+n<=l.length*size:=by
   have :(i+1)*size<=l.length*size:=Lu _ Y
   grind
  have hst:=aFe (P:=P) g (i*size+off) e (J.eval y).cells.toList 0 z w e2 (by rw[Z];omega) (λu hu=>by
   obtain⟨j,L,rfl⟩:=GY hu;have h5:=I.2 j (by rw[←I.1];exact L);have :=h5.2.leaf h5.1
   rwa [a2V L]at this)
  simp only[QB]at hst;have O:∀(q:AA α),∀y∈q.map enc,y.cells.length=size:=λq y hy=>aEg
  obtain⟨h3,h4⟩:=hm.upd (e:=.arr e size (List.map enc (l.set i a'))) (w':=w.setRow g (z.toList.take (i*size+off)++(J.eval y).cells.toList++z.toList.drop (i*size+off+(J.eval y).cells.toList.length)).toArray) hk rfl hh (by rw[e1];rfl) rfl rfl rfl aGc (λc hc=>aGR _ _ _ _ hc) (λhg'=>by
   have esz:(setAt z.toList (i*size+off) (J.eval y).cells.toList).length=z.toList.length:=UL (by have :=z.length_toList;omega);refine⟨hok1,O _,setAt ys (i*size+off) (J.eval y).cells.toList,⟨?_,.inr ⟨g,cap,_,by simp;exact e1,FQ _,wM w g z _ e (0,0) e2,by simpa using e3,e4,?_,?_⟩⟩,?_⟩
   ·rw[UL AB];simpa using e7
   ·have h9:(setAt z.toList (i*size+off) (J.eval y).cells.toList).toArray.size=z.size:=by rw[a5H,esz];simp
    show _<=(setAt z.toList (i*size+off) (J.eval y).cells.toList).toArray.size;rw[h9];exact e5'
   ·rw[a6A];show(setAt z.toList (i*size+off) (J.eval y).cells.toList).take _=_;rw[←e6];have hlen':(List.map enc (l.set i a')).length=l.length:=BU
    rw[hlen'];apply rO;intro j;have hcl:=z.length_toList;by_cases L:j<l.length*size
    ·have a1:((setAt z.toList (i*size+off) (J.eval y).cells.toList).take (l.length*size))[j]? =some ((setAt z.toList (i*size+off) (J.eval y).cells.toList).getD j undef):=by
      rw[U4 L];simp[List.getD,show j<(setAt z.toList (i*size+off) (J.eval y).cells.toList).length by rw[esz];omega]
     have tl:(z.toList.take (l.length*size)).length=l.length*size:=Ei
     have sl:(setAt (z.toList.take (l.length*size)) (i*size+off) (J.eval y).cells.toList).length=l.length*size:=by rw[UL AB,tl]
     have a2:(setAt (z.toList.take (l.length*size)) (i*size+off) (J.eval y).cells.toList)[j]? =some ((setAt (z.toList.take (l.length*size)) (i*size+off) (J.eval y).cells.toList).getD j undef):=by
      simp[List.getD,show j<(setAt (z.toList.take (l.length*size)) (i*size+off) (J.eval y).cells.toList).length by omega]
     rw[a1,a2,bf AB,bf AB];congr 1;split
     ·rfl
     simp[List.getD,U4 L]
    have tl:(z.toList.take (l.length*size)).length=l.length*size:=Ei
    have sl:(setAt (z.toList.take (l.length*size)) (i*size+off) (J.eval y).cells.toList).length=l.length*size:=by rw[UL AB,tl]
    rw[Oe Ei,Oe AB]
   have hb:=e8.mono hg' (oP H);have hcr:=I.mono hg' (oP H);have hfl:=U2 (O l);have aCa:=U2 (O (l.set i a'));refine⟨by rw[UL AB,e7,aCa];simp,λj L=>?_⟩;rw[aCa]at L;simp only[DY,jT]at L
   have hpos:0<size:=by
    rcases V8 size with h0|h0
    ·rw[h0,Nat.mul_zero]at L;omega
    exact h0
   have e0:j=j/size*size+j % size:=by rw[WJ];exact(a2a j size).symm
   have hq:j/size<l.length:=uS (by rwa [WJ]at L);have hr:j % size<size:=qG _ hpos
   have hdiv:j/size=i↔i*size<=j/\j<i*size+size:=by
    rw[Nat.div_eq_iff hpos,WJ];omega
   rw[Z]at hb hcr;generalize j/size=qd at e0 hq hdiv;generalize j % size=M at e0 hr;have hg3:=flat_get (O (l.set i a')) qd M (by simpa using hq) hr;rw[←e0]at hg3;have hg1:=flat_get (O l) qd M (by simpa using hq) hr;rw[←e0]at hg1;rw[hg3,bf AB,Z];by_cases U:qd=i
   ·have hnew:(List.map enc (l.set i a')).getD (qd) EO=enc a':=by rw[U];simp[List.getD,Y]
    have hold:(List.map enc l).getD (qd) EO=enc a:=by rw[U];simp[List.getD,Y,hia]
    rw[hnew];have aSM:(enc a').cells.length=size:=hc a'
    have e11:Ai.d ((enc a').cells.getD (M) EO)=(setAt ((enc a).cells.map Ai.d) off v.cells).getD (M) .junk:=by
     rw[←hset];simp[List.getD,show M<(enc a').cells.length by omega]
    rw[e11,bf (by rw[DY,hn];exact hle),hn];have hji:j=i*size+M:=by rw[←U];exact e0
    by_cases hin:off<=M/\M<off+n
    ·rw[ET hin,ET AB];have :j-(i*size+off)=M-off:=AB
     rw[this];exact hcr.2 _ AB
    rw[Ee hin,Ee AB];have e12:((enc a).cells.map Ai.d).getD (M) .junk=.d ((enc a).cells.getD (M) EO):=by simp[List.getD,show M<(enc a).cells.length by omega]
    rw[e12,←hold,←hg1];exact hb.2 j (by rw[hfl];simpa using L)
   have hsame:(List.map enc (l.set i a')).getD (qd) EO=(List.map enc l).getD (qd) EO:=by
    simp[List.getD,eU (Ne.symm U)]
   have hnot:¬(i*size+off<=j/\j<i*size+off+n):=by
    rintro⟨ha1,ha2⟩;exact U (hdiv.2 ⟨AB,AB⟩)
   rw[Ee hnot,hsame,←hg1]
   exact hb.2 j (by rw[hfl];simpa using L))
  refine⟨undef,_,ok,H,.inr ⟨rfl,?_⟩,h4,.refl _,h3,.junk _⟩;simp only[execOp,ho,e10,Instr.storeAt,Instr.sureAddr,storeVar,GK,Hy,Gi,hs,hsz,ne_eq,not_true_eq_false,Lc,hst]
def Ai.XO (k:Nat)(cs:AA D):Ai->Ai
 | .ptr j off=>if j=k then .d (.ref cs off)else .ptr j off
 |x=>x
def BN.XO (σ:BN)(k:Nat)(cs:AA D):BN:=⟨σ.slots.map (Ai.XO k cs),σ.ents.set k .dead,σ.base⟩
def TK k(hk:σ.ents[k]? =some (.box cs))(hd:cs.all Ai.Dx=true):∀C ok H a w,Holds C ok H σ a w->∃ok',Holds C ok' H (σ.XO k (KE cs)) a w:=by
 intro C ok H a w q;obtain⟨h,M,hok⟩:=Hr q.mem.ent q.mem.hlen hk;have I:k<σ.ents.length:=(I9.1 hk).1;obtain⟨b0,O,hf,hx,hc⟩:=aJ3 hok hd
 let ok':Nat->Prop:=λb=>ok b\/EF h.v=some b
 have hblk:=λb u=>q.mem.blk k _ h b hk rfl M u;have hg:FT ok w ok' w:=λb u=>⟨.inl u,rfl⟩
 refine⟨ok',⟨q.mem.fr,λb u=>.inl (q.mem.Dq b u),?_,?_,q.mem.names,by simp[BN.XO,q.mem.hlen],?_,?_,?_⟩,by simp[BN.XO,q.size],q.defers.mono hg,q.base,?_⟩
 ·rintro b (u|u)
  ·exact q.mem.Dt b u
  grind
 ·rintro b (u|u)
  ·exact q.mem.lQ b u
  grind
 ·intro j e' h' he J;rcases OB I he with⟨rfl,rfl⟩|⟨_,L⟩
  ·trivial
  exact(q.mem.ent j e' h' L J).mono hg (.refl _) (λ_ _ _=>rfl)
 ·intro j e' h' b he hl J u;rcases OB I he with⟨rfl,rfl⟩|⟨hne,L⟩
  ·cases hl
  have h3:=q.mem.blk j e' h' b L hl J u;refine⟨λz=>?_,h3.2⟩;rcases z with z|z
  ·exact h3.1 z
  exact hne (q.mem.J6 j k e' _ h' h b L hk hl rfl J M u z)
 ·intro i j e1 e2 h1 h2 b he1 he2 U Y hh1 hh2 hb1 hb2;rcases OB I he1 with⟨rfl,rfl⟩|⟨_,Z⟩
  ·cases U
  rcases OB I he2 with⟨rfl,rfl⟩|⟨_,aFS⟩
  ·cases Y
  exact q.mem.J6 i j e1 e2 h1 h2 b Z aFS U Y hh1 hh2 hb1 hb2
 intro t ht;simp only[BN.XO,DY]at ht
 have e1:(σ.XO k (KE cs)).slots.getD t .junk=(σ.slots.getD t .junk).XO k (KE cs):=by
  simp only[BN.XO];exact Vo _ _ _ ht
 rw[e1];have hR:=(q.slot t ht).mono hg (oP H);generalize σ.slots.getD t .junk=x at hR ⊢;generalize a.tmps.getD t undef=v at hR ⊢;cases x with
 |ptr j off=>
  simp only[Ai.XO];split
  ·rename_i hj;subst hj;cases hR with
   |ptr _ _ b s hH=>
    rw[M]at hH;obtain rfl:=E5 hH;simp at O;subst O;have :=EL.ref (ok:=ok') (w:=w) (KE cs) off b 0 (λ_=>.inr rfl) hf hx (λj hj=>(hc j hj).mono hg);rw[LC]at this;exact .d _ _ this
  exact hR
 |_=>
   exact hR
variable {fn:Fn}{u:Ai}
section
variable {γ:Type}
def yw {ok}{w}{H}{a:Act}:∀{xs:AA C9} {vs:AA Ai},xs.length=vs.length->(∀n∈GL xs vs,R ok w H n.2 (a.eval n.1))->∀i,i<vs.length->R ok w H (vs.getD i .junk) ((xs.map a.eval).getD i undef)
 | [],[],_,_,i,hi=>Tm
 | [],_::_,h,_,_,_=>JD
 |_::_,[],h,_,_,_=>JD
 |x::xs,v::vs,h,j,0,_=>by simpa using j (x,v) (by simp[GL])
 |x::xs,v::vs,h,j,i+1,hi=>by
  have :=yw Oa (λn q=>j n (by simp[GL,q])) i IZ;simpa using this
def Po {j}q(hl:j.toList.length=q.length)(z:o.op=.makeFunc fn #[] j:=by exact rfl):CG P o (GL j.toList (q.map .d)) es (.d (.fn fn [] q)) es:=
 .pure λok H a w _ _ I=>by
  refine⟨.func fn #[] (j.map a.eval),by simp[execOp,z,Instr.makeFunc],.d _ _ (.fn fn [] q #[] _ rfl Ny (λi hi=>Tm) (λi hi=>?_))⟩;have h1:=yw (xs:=j.toList) (vs:=q.map .d) Ny I i IZ;have J:(q.map Ai.d).getD i .junk=.d (q.getD i EO):=OH
  have u:i<j.size:=by
    have :j.size=q.length:=Ny
    omega
  have L:(j.toList.map a.eval).getD i undef=(j.map a.eval).getD i undef:=by simp[List.getD,Array.getD,u]
  rw[J,L]at h1;cases h1 with |d _ _ h=>exact h
def aS3 (hm:Dz C ok H es w){z:AA D}(Z:Ej P f (z.map .d) [] u [])q(hs:q.size=z.length)(O:∀i,i<z.length->EL ok w (z.getD i EO) (q.getD i undef))(J:u.up [] es.length=u):
 Calls P f q w λe w'=>∃v ok' H',e=.returned v/\FT ok w ok' w'/\Names H H'/\Dz C ok' H' es w'/\R ok' w' H' u v:=by
 have U:Dz ⟨w,ok,[],[]⟩ ok [] [] w:=
  ⟨.refl _ _,λ_ h=>h,λ_ h=>.inl h,hm.lQ,.refl _,rfl,λk e h I _=>by simp at I,λk e h b I=>by simp at I,λk k' e e' h h' b I=>by simp at I⟩
 refine(Z ok [] [] w q U zA (λi hi=>?_)).mono ?_
 ·have L:i<z.length:=IZ
  have e1:(z.map Ai.d).getD i .junk=.d (z.getD i EO):=by simp[List.getD,L]
  rw[e1];exact .d _ _ (O i L)
 rintro e w' ⟨v,ok',H',rfl,j,hR⟩;have Y:H'=[]:=Hu j.hlen
 obtain⟨h1,h2⟩:=hm.change (ok':=ok') (H':=H) (es':=es) (w':=w') (λ_=>False) j.fr.os j.fr.tape j.fr.output j.fr.size (λb M _=>j.fr.block b M BU) (λ_ h=>h.elim) j.Dq (λb M=>by
  rcases j.Dt b M with h|h|h
  ·exact .inl h
  ·exact .inr ⟨h,j.lQ b M⟩
  simp at h) (.refl _) hm.hlen (λk e h I hh=>.inl ⟨I,hh,λ_ _ _ h=>h⟩)
 refine⟨v,ok',H,rfl,h2,.refl _,h1,?_⟩;have :=aVA (srcs:=[]) (H:=H) (Hc:=[]) (H':=H') rfl (λi k h=>JD) (λk v O=>by simp at O) hR;rw[hm.hlen,J,Y]at this;simpa using this
def aBQ j cs{q}(hr:Ej P f ((j++cs).map .d) [] q [])(hf:II P f=true)(hl:ops.toList.length=j.length)(J:q.up [] es.length=q)(ho:o.op=.call { callee:=.value x,args:=ops,argTypes:=ats }:=by exact rfl):CG P o ((x,.d (.fn (.func f) [] cs))::GL ops.toList (j.map .d)) es q es:=by
 intro C ok H a w Q hm hn;have L:=hn (x,.d (.fn (.func f) [] cs)) BU;simp only at L;have z:=yw (xs:=ops.toList) (vs:=j.map .d) Ny (λn M=>hn n (I7 _ M));generalize hv:a.eval x=v at L;cases L with
 |d _ _ h=>
  cases h with
  |fn _ _ _ vs us O U h1 h2=>
   have Y:vs= #[]:=rY dB;subst Y;unfold Oper.wp
   have he:(execOp a.eval o).run P w=.ok (.enter f ((ops.map a.eval)++us)) w:=by
    have :=Ux hf (ops.map a.eval++us) w;simp[execOp,ho,resolve,hv,Deferred.ofValue,invoke,this]
   rw[he,jS];have Z:(ops.map a.eval).size=j.length:=Ny
   refine(aS3 hm hr _ (by simp[Z,U]) (λi hi=>?_) J).mono ?_
   ·by_cases u:i<j.length
    ·have h3:=z i SY;have e1:(j.map Ai.d).getD i .junk=.d (j.getD i EO):=aGG
     have I:i<ops.size:=aRg
     have e2:(ops.toList.map a.eval).getD i undef=(ops.map a.eval++us).getD i undef:=by
      simp[List.getD,KG,Yy,I]
     have e3:(j++cs).getD i EO=j.getD i EO:=by simp[List.getD,KH u]
     rw[e1,e2]at h3;rw[e3];cases h3 with |d _ _ h=>exact h
    have I:i-j.length<cs.length:=aGl
    have e3:(j++cs).getD i EO=cs.getD (i-j.length) EO:=by simp[List.getD,Qg (X8 u)]
    have e4:(ops.map a.eval++us).getD i undef=us.getD (i-j.length) undef:=by
     simp only[KG]
     grind
    rw[e3,e4];exact h2 _ I
   rintro e w' ⟨v,ok',H',rfl,h3,h4,h5,h6⟩;exact⟨v,ok',H',rfl,h3,h4,h5,h6⟩
def U0 (P:Ce)(j:α->D)(q:β->D)(d:D)(g:α->AL β):Prop:=∃f cs,d=.fn (.func f) [] cs/\II P f=true/\∀a b,g a=some b->Ej P f (([j a]++cs).map .d) [] (.d (q b)) []
def bH (P:Ce)(j:α->D)(q:β->D)(u:γ->D)(d:D)(g:α->β->AL γ):Prop:=∃f cs,d=.fn (.func f) [] cs/\II P f=true/\∀a b c,g a b=some c->Ej P f (([j a,q b]++cs).map .d) [] (.d (u c)) []
def Res (P:Ce)(j:β->D)(d:D)(g:AL β):Prop:=∃f cs,d=.fn (.func f) [] cs/\II P f=true/\∀b,g=some b->Ej P f (cs.map .d) [] (.d (j b)) []
def vC {j}{q}{d}{g:α->AL β}{a}{b}(hd:U0 P j q d g)(h:g a=some b)(u:o.op=.call { callee:=.value x,args:= #[y],argTypes:=ats }:=by exact rfl):
 CG P o [(x,.d d),(y,.d (j a))] es (.d (q b)) es:=by
 obtain⟨f,cs,rfl,z,I⟩:=hd;exact aBQ [j a] cs (I a b h) z rfl rfl u
def jd {z}{j}{q}{u}{d}{g:α->β->AL γ}{a}{b}{c}(hd:bH P j q u d g)(h:g a b=some c)(I:o.op=.call { callee:=.value x,args:= #[y,z],argTypes:=ats }:=by exact rfl):
 CG P o [(x,.d d),(y,.d (j a)),(z,.d (q b))] es (.d (u c)) es:=by
 obtain⟨f,cs,rfl,J,L⟩:=hd;exact aBQ [j a,q b] cs (L a b c h) J rfl rfl I
def a3p {j}{d}{g}{b:β}(hd:Res P j d g)(h:g=some b)(q:o.op=.call { callee:=.value x,args:= #[],argTypes:=ats }:=by exact rfl):
 CG P o [(x,.d d)] es (.d (j b)) es:=by
 obtain⟨f,cs,rfl,u,z⟩:=hd;exact aBQ [] cs (z b h) u rfl rfl q
end
variable {S:AA EW}{ca fi:AA D}{t:Nat}{ys:Bh BG}
def a8e {v}e size(h:CG P o ((.const (.slice none 0 0),.aS es.length)::ns) (es++[.arr e size []]) v es'):CG P o ns es v es':=by
 intro C ok H a w Q hm z;obtain⟨h1,h2⟩:=a05 hm e size;refine Oper.wp_mono ?_ (h C ok _ a w Q h1 (λn j=>?_))
 ·rintro a' w' ⟨v',ok',H',I,J,q,u,L⟩;exact⟨v',ok',H',I,J,(IK _ _).trans q,u,L⟩
 rcases FP.1 j with rfl|j
 ·exact h2
 exact(z n j).mono (.refl _ _) (IK _ _)
def R.ak6 (h:R ok w H (.d (.agg (us.map .lit))) v):v=.agg us.toArray:=by
 cases h with
 |d _ _ h=>
  cases h with
  |agg _ vs hl _ h=>
   congr 1;apply iF
   ·simpa using hl
   intro i h1 h2;have hi:i<(us.map D.lit).length:=AB
   have h3:=h i hi;have j:i<us.length:=IZ
   have q:(us.map D.lit).getD i EO=.lit (us[i]):=tX
   have z:vs.getD i undef=vs[i]:=by simp[Array.getD,h1]
   rw[q,z]at h3;generalize vs[i]=u at h3;cases h3;simp
structure Vq (P:Program) (n:Nat) (t:TypeId) (us vs:List Value) (b:Bool):Prop where
 run:∀(d:Nat) (w:World),(Op.equalIn (d+n) t (.agg us.toArray) (.agg vs.toArray)).run P w=.ok b w
def Gn {t}{cs}(j:Em P t false size)(h:cs[off]? =some v)w:(part t cs off).run P w=.ok v w:=by
 simp[part,j.agg,h]
def XE (d:Nat)(xs ys:Bh BG):AA (Bz×Nat)->Sem AY
 | []=>pure true
 |f::j=>do
  let a ←part f.1 xs f.2
  let b ←part f.1 ys f.2
  let r ←Op.equalIn d f.1 a b
  if(!r)=true then pure false else XE d xs ys j
def aSB d xs ys:∀(j:AA Field),j.all (λf=>f.name != "_")=true->Op.eqFields d xs ys j=XE d xs ys (j.map λf=>(f.type,f.offset))
 | [],_=>rfl
 |f::j,h=>by
  simp only[List.all_cons,Di,bne_iff_ne,ne_eq]at h;simp only[Op.eqFields,Gz,XE,ne_eq,h.1,not_false_eq_true,KT,aSB d xs ys j h.2]
def aX {t}{xs}{l}(j:P.underlying t=some (.struct (P.fieldsOf t)))(hp:P.stoodInHeld t=false)(q:(P.fieldsOf t).toList.all (λf=>f.name != "_")=true)(hl:(P.fieldsOf t).toList.map (λf=>(f.type,f.offset))=l)(h:(XE d xs ys l).run P w=.ok b w):(Op.equalIn (d+1) t (.agg xs) (.agg ys)).run P w=.ok b w:=by
 rw[run_equalIn_struct w d t xs ys j hp,aSB _ _ _ _ q,hl,h]
def Zn d xs ys w:(XE d xs ys []).run P w=.ok true w:=by simp[XE]
def Lj {xs}{t}{j}{a b}{r rs}(ha:(part t xs off).run P w=.ok a w)(q:(part t ys off).run P w=.ok b w)(u:(Op.equalIn d t a b).run P w=.ok r w)(hs:(XE d xs ys j).run P w=.ok rs w):(XE d xs ys ((t,off)::j)).run P w=.ok (r&&rs) w:=by
 unfold XE;simp only[GK,ha,q,u,Gi];cases r<;>simp[hs]
def afT {t}us vs(h:Vq P n t us vs b)(hd:n<=10000)(u:P.eqGuardType P.depth t=false)(z:o.op=.binOp .eql t x y t':=by exact rfl):
 CG P o [(x,.d (.agg (us.map .lit))),(y,.d (.agg (vs.map .lit)))] es (.d (E9 b)) es:=
 .pure λ_ _ a w _ _ q=>⟨.bool b,by
  have h1:=(Fe q).1.ak6;have h2:=(Fe q).2.ak6;simp only at h1 h2;have j:(eqGuard .eql t x y (.agg us.toArray) (.agg vs.toArray)).run P w=.ok () w:=by simp[eqGuard,u]
  simp only[execOp,z,h1,h2,GK,j,Gi,Hy,run_eql_struct,(by have :=h.run (10000-n) w;rwa [Nat.sub_add_cancel hd]at this:(Op.equalIn 10000 t (.agg us.toArray) (.agg vs.toArray)).run P w=.ok b w)],.d _ _ (.lit _)⟩
def jw {t}us vs(h:Vq P n t us vs b)(hd:n<=10000)(u:P.eqGuardType P.depth t=false)(z:o.op=.binOp .neq t x y t':=by exact rfl):
 CG P o [(x,.d (.agg (us.map .lit))),(y,.d (.agg (vs.map .lit)))] es (.d (E9 (!b))) es:=
 .pure λ_ _ a w _ _ q=>⟨.bool (!b),by
  have h1:=(Fe q).1.ak6;have h2:=(Fe q).2.ak6;simp only at h1 h2;have j:(eqGuard .neq t x y (.agg us.toArray) (.agg vs.toArray)).run P w=.ok () w:=by simp[eqGuard,u]
  simp only[execOp,z,h1,h2,GK,j,Gi,Hy,run_neq_struct,(by have :=h.run (10000-n) w;rwa [Nat.sub_add_cancel hd]at this:(Op.equalIn 10000 t (.agg us.toArray) (.agg vs.toArray)).run P w=.ok b w)],.d _ _ (.lit _)⟩
def Tz (l:AA Int):BL:=l.foldl (λr n=>r.push (UInt8.ofNat n.toNat)) ByteArray.empty
def aYa {j}(h:Hd ok w H (flat (l.map Dl)) j):j=l.map (.int .u8):=by
 rw[a1v]at h;apply Y4
 ·simpa using h.1
 intro i h1 h2;have hi:i<(l.map λn=>Ai.d (Dl n)).length:=LP
 have h3:=(h.2 i hi).2;have q:i<l.length:=IZ
 have u:(l.map λn=>Ai.d (Dl n)).getD i .junk=.d (Dl l[i]):=by simp[List.getD,q]
 have z:j.getD i undef=j[i]:=by simp[List.getD,h1]
 rw[u,z]at h3;have :=h3.lit;simpa using this
def ae7 (h:YC w v m 1 (l.map (.int .u8))):(Conv.bytesToString v).run P w=.ok (.string (Tz l)) w:=by
 rcases h.at_ with⟨ad,c,rfl,j⟩|⟨c,rfl,hm⟩
 ·refine run_bytesToString w ad m c l ?_;have hl:=h.len;have :=aW3 (P:=P) w ad (l.map (Value.int .u8)) j
  grind
 have hl:=h.len;rw[hm,Nat.zero_mul,DY]at hl;rw[Hu hl];simp[Conv.bytesToString,Tz]
def Value.isSlice:BG->AY
 | .slice _ _ _=>true
 |_=>false
def aZP {j}(h:YC w v m size j):Value.isSlice v=true:=by
 rcases h.at_ with⟨_,_,rfl,_⟩|⟨_,rfl,_⟩<;>rfl
def alL {t}{r}(hs:P.underlying s=some (.slice e))(j:P.underlying e=some (.int .u8))(q:P.underlying t=some .string)(u:Value.isSlice v=true)(h:(Conv.bytesToString v).run P w=.ok (.string r) w):(convert s t v).run P w=.ok (.string r) w:=by
 cases v<;>simp[Value.isSlice]at u
 simp[convert,underlying,hs,j,q,h]
def aLM {t}(hs:P.underlying s=some (.slice e))(z:P.underlying e=some (.int .u8))(I:P.underlying t=some .string)(J:o.op=.convert s t x:=by exact rfl):
 CG P o [(x,.d (BP Dl l))] es (.d (DX (Tz l))) es:=
 .pure λok H a w _ _ L=>by
  have h1:=N7 L;simp only at h1;generalize M:a.eval x=v at h1;refine⟨.string (Tz l),?_,.d _ _ (.lit _)⟩;cases h1 with
  |d _ _ h=>
   obtain⟨u,j,q⟩:=kL H h (size:=1) (λy O=>by obtain⟨n,_,rfl⟩:=FB.1 O;rfl);obtain rfl:=aYa q;have hsl:=aZP j;simp[execOp,J,M,alL hs z I hsl (ae7 j)]
def Qu {firsts j}{fi ca}(hl:firsts.toList.length=fi.length)(hm:j.toList.length=ca.length)(z:o.op=.makeFunc fn firsts j:=by exact rfl):
 CG P o (GL firsts.toList fi++GL j.toList ca) es (.fn fn fi ca) es:=
 .pure λok H a w _ _ q=>by
  have key:∀(xs:Bh C9) (vs:AA Ai),xs.toList.length=vs.length->(∀n∈GL xs.toList vs,R ok w H n.2 (a.eval n.1))->∀i,i<vs.length->R ok w H (vs.getD i .junk) ((xs.map a.eval).getD i undef):=by
   intro xs vs hl q i hi;have h1:=yw hl q i hi
   have u:i<xs.size:=by
     have :xs.size=vs.length:=Ny
     omega
   have I:(xs.toList.map a.eval).getD i undef=(xs.map a.eval).getD i undef:=by simp[List.getD,Array.getD,u]
   grind
  refine⟨.func fn (firsts.map a.eval) (j.map a.eval),by simp[execOp,z,Instr.makeFunc],.fn fn fi ca _ _ Ny a5E (key _ _ hl λn h=>q n (by simp[h])) (key _ _ hm λn h=>q n (by simp[h]))⟩
def aEs :∀{xs:AA C9} {vs:AA Ai} {ys:AA C9} {us:AA Ai},xs.length=vs.length->GL (xs++ys) (vs++us)=GL xs vs++GL ys us
 | [],[],_,_,_=>rfl
 | [],_::_,_,_,h=>JD
 |_::_,[],_,_,h=>JD
 |x::xs,v::vs,ys,us,h=>by simp[GL,aEs (xs:=xs) (vs:=vs) Oa]
def aHR {ok}{w}{H}{a:Act}:∀{us:AA BG} {vs:AA Ai},us.length=vs.length->(∀i,i<vs.length->R ok w H (vs.getD i .junk) (us.getD i undef))->∀n∈GL (us.map Operand.const) vs,R ok w H n.2 (a.eval n.1)
 | [],[],_,_,n,j=>by simp[GL]at j
 | [],_::_,h,_,_,_=>JD
 |_::_,[],h,_,_,_=>JD
 |u::us,v::vs,hl,h,n,j=>by
  simp only[Gz,GL,FP]at j;rcases j with rfl|j
  ·have :=h 0 BU;simp at this;exact this
  exact aHR (us:=us) (vs:=vs) Ny (λi hi=>by simpa using h (i+1) IZ) n j
def aOV srcs{fi ca}(L:Ej P f fH E u E')(M:II P f=true)(O:TN srcs es E E'=true)(hE:vU srcs es E)(ha:Ob srcs (fi++eH++ca) fH)(hl:ops.toList.length=eH.length)(U:o.op=.call { callee:=.value x,args:=ops,argTypes:=ats }:=by exact rfl):
 CG P o ((x,.fn (.func f) fi ca)::GL ops.toList eH) es (u.up srcs es.length) (O8 srcs es E'):=by
 intro C ok H a w Q hm J;have I:=J (x,.fn (.func f) fi ca) BU;simp only at I;generalize Y:a.eval x=v at I;cases I with
 |fn _ _ _ vs us q z h1 h2=>
  unfold Oper.wp
  have Z:(execOp a.eval o).run P w=.ok (.enter f ((vs++ops.map a.eval)++us)) w:=by
   have :=Ux M (vs++ops.map a.eval++us) w;rw[Array.append_assoc]at this;simp[execOp,U,resolve,Y,Deferred.ofValue,invoke,this]
  rw[Z,jS]
  have e:vs++ops.map a.eval++us=((vs.toList.map Operand.const++ops.toList++us.toList.map Operand.const).map a.eval).toArray:=by
   apply aSD;simp[aC3,Act.eval]
  rw[e];have l1:(vs.toList.map Operand.const).length=fi.length:=Xj
  refine(aPX hm srcs L O hE ha (by simp at hl;simp[q,z,hl]) (a:=a) ?_).mono ?_
  ·rw[aEs (by simp at hl;simp[q,hl]),aEs l1];intro n j;simp only[Ia]at j;rcases j with(j|j)|j
   ·exact aHR Xj (λi hi=>by have :=h1 i hi;simpa[List.getD,KG]using this) n j
   ·exact J n (I7 _ j)
   exact aHR aI (λi hi=>by have :=h2 i hi;simpa[List.getD,KG]using this) n j
  rintro e w' ⟨v,ok',H',rfl,h3,h4,h5,h6⟩;exact⟨v,ok',H',rfl,h3,h4,h5,h6⟩
def R.dfn {f}(h:R ok w H (.d (.fn f fi ca)) v):R ok w H (.fn f (fi.map .d) (ca.map .d)) v:=by
 cases h with
 |d _ _ h=>
  cases h with
  |fn _ _ _ vs us h1 h2 h3 u=>
   refine .fn f _ _ vs us V9 LP (λi hi=>?_) (λi hi=>?_)
   ·have j:i<fi.length:=IZ
    have q:(fi.map Ai.d).getD i .junk=.d (fi.getD i EO):=tX
    rw[q];exact .d _ _ (h3 i j)
   have j:i<ca.length:=IZ
   have q:(ca.map Ai.d).getD i .junk=.d (ca.getD i EO):=tX
   rw[q];exact .d _ _ (u i j)
def agd srcs(u:Ej P f fH E j E')(z:II P f=true)(I:TN srcs es E E'=true)(hE:vU srcs es E)(ha:Ob srcs (fi.map .d++eH++ca.map .d) fH)(hl:ops.toList.length=eH.length)(J:o.op=.call { callee:=.value x,args:=ops,argTypes:=ats }:=by exact rfl):
 CG P o ((x,.d (.fn (.func f) fi ca))::GL ops.toList eH) es (j.up srcs es.length) (O8 srcs es E'):=by
 intro C ok H a w Q hm L;refine aOV (fi:=fi.map .d) (ca:=ca.map .d) srcs u z I hE ha hl J C ok H a w Q hm (λn q=>?_);rcases FP.1 q with rfl|q
 ·exact R.dfn (L (x,.d (.fn (.func f) fi ca)) BU)
 grind
def TF (S:AA EW)(es:AA BX):AA EW->AA BX->Prop
 |s::srcs,e::E=>(match s with | .ent k=>es[k]? =some (e.up S es.length)| .nil sz=>∃t,e=.arr t sz [])/\TF S es srcs E
 | [],_=>True
 |_::_,[]=>False
def O1 {es}{e}(h:es[k]? =some (e.up S es.length))(hs:TF S es srcs E):TF S es (.ent k::srcs) (e::E):=⟨h,hs⟩
def anJ {es}{sz}(hs:TF S es srcs E):TF S es (.nil sz::srcs) (.arr t sz []::E):=⟨⟨t,rfl⟩,hs⟩
def aT8 {S}{es}:∀{srcs:AA EW} {E:AA BX},TF S es srcs E->∀(i:Nat) (s:EW),srcs[i]? =some s->match s with | .ent k=>(E[i]?).map (BX.up S es.length)=es[k]? | .nil sz=>∃e,E[i]? =some (.arr e sz [])
 | [],_,_,i,s,hs=>by simp at hs
 |_::_,[],h,_,_,_=>h.elim
 |s::srcs,e::E,h,0,j,hs=>by
  simp at hs;subst hs;have h1:=h.1;cases s with
  |ent k=>
   grind
  |nil sz=>
   grind
 |s::srcs,e::E,h,i+1,j,hs=>by
  have :=aT8 h.2 i j zA;cases j with
  |ent k=>
   simpa using this
  |nil sz=>
   simpa using this
def aBL {es}(h:TF srcs es srcs E):vU srcs es E:=aT8 h
def aSv srcs(q:Ej P f fH E j E')(u:II P f=true)(z:TN srcs es E E'=true)(hE:TF srcs es srcs E)(ha:Ob srcs eH fH)(hl:ops.toList.length=eH.length)(I:res'=j.up srcs es.length)(J:o.op=.call { callee:=.value (.func f),args:=ops,argTypes:=ats }:=by exact rfl):CG P o (GL ops.toList eH) es res' (O8 srcs es E'):=I▸aO1 srcs q u z (aBL hE) ha hl J
def an2 srcs fi ca(q:Ej P f fH E j E')(u:II P f=true)(z:TN srcs es E E'=true)(hE:TF srcs es srcs E)(ha:Ob srcs (fi++eH++ca) fH)(hl:ops.toList.length=eH.length)(I:res'=j.up srcs es.length)(J:o.op=.call { callee:=.value x,args:=ops,argTypes:=ats }:=by exact rfl):
 CG P o ((x,.fn (.func f) fi ca)::GL ops.toList eH) es res' (O8 srcs es E'):=I▸aOV srcs q u z (aBL hE) ha hl J
def af0 srcs fi ca(q:Ej P f fH E j E')(u:II P f=true)(z:TN srcs es E E'=true)(hE:TF srcs es srcs E)(ha:Ob srcs (fi.map .d++eH++ca.map .d) fH)(hl:ops.toList.length=eH.length)(I:res'=j.up srcs es.length)(J:o.op=.call { callee:=.value x,args:=ops,argTypes:=ats }:=by exact rfl):
 CG P o ((x,.d (.fn (.func f) fi ca))::GL ops.toList eH) es res' (O8 srcs es E'):=I▸agd srcs q u z (aBL hE) ha hl J
structure Turns (v:Value) (w w':World):Prop where
 os:w'.os=w.os
 tape:w'.tape=w.tape
 output:w'.output=w.output
 size:w.heap.size<=w'.heap.size
 block:∀c,c<w.heap.size->EF v≠some c->w'.heap[c]? =w.heap[c]?
def Turns.refl v w:Turns v w w:=⟨rfl,rfl,rfl,ER _,λ_ _ _=>rfl⟩
def Turns.aF1 {o c}{s}(h:w.grownBy w' (some g)):Turns (.slice (some ⟨g,o,s⟩) n c) w w':=
 ⟨h.os,h.tape,h.output,h.size,λk q j=>h.block k q (λe=>j (by cases e;rfl))⟩
def EL.TR {u}(h:EL ok w (.lit u) v):v=u:=by cases h;rfl
def aIM :∀(l:AA Int),flat (l.map Ad)=l.map λn=>.d (Ad n)
 | []=>rfl
 |n::l=>by rw[Gz,YS,aIM l];rfl
def a3i:Fp ok w H h (.arr e 1 (List.map Ad l))↔h.size=1/\nM w e 1 h.v l.length (l.map (.int .i64)):=by
 constructor
 ·rintro⟨h1,_,xs,h3,q,u⟩;refine⟨h1,?_⟩;rw[DY]at h3
  have :xs=l.map (.int .i64):=by
   rw[aIM]at q u;rw[DY]at q;refine Y4 (by simp[q]) λi hi J=>?_;have j:i<l.length:=AB
   have z:=(u i Vj).2;simp only[List.getD,Le,ES j,Kr,OO,ES hi]at z;cases z with |d _ _ h=>rw[EL.TR h];simp
  grind
 rintro⟨h1,h3⟩;refine⟨h1,λx I=>?_,l.map (.int .i64),by rw[DY];exact h3,?_⟩
 ·obtain⟨n,_,rfl⟩:=FB.1 I;rfl
 rw[aIM];refine⟨BU,λi hi=>?_⟩;have j:i<l.length:=IZ
 simp only[List.getD,Le,ES j,Kr,OO];exact⟨rfl,.d _ _ (.lit _)⟩
variable {j:Bh BG}
def aRA (hs:j.size=1):j= #[j.getD 0 undef]:=by
 refine iF (by simp[hs]) λi h1 h2=>?_;simp at h2;subst h2;simp[Array.getD,hs]
variable {r:AA Int}
def Ej.aIf (h:∀(v:BG) (w:BQ),nM w e 1 v l.length (l.map (.int .i64))->Calls P f #[v] w λx w'=>x=.returned (.tuple #[])/\nM w' e 1 v r.length (r.map (.int .i64))/\Turns v w w'):
 Ej P f [.aS 0] [.arr e 1 (List.map Ad l)] (.eP []) [.arr e 1 (List.map Ad r)]:=by
 intro ok X H w Z hm hs ha;have h0:=ha 0 Bl;rw[aRA hs];obtain⟨hd,M,O⟩:=Hr hm.ent hm.hlen (k:=0) rfl;obtain hv:=RJ h0 M;rw[hv];obtain⟨hz,U⟩:=a3i.1 O;refine(h hd.v w U).mono ?_;rintro x w' ⟨rfl,I,z⟩;have q:=λb J=>hm.blk 0 _ hd b rfl rfl M J
 have hg:=hm.change (ok':=ok) (H':=H) (w':=w') (es':=[.arr e 1 (List.map Ad r)]) (λc=>EF hd.v=some c) z.os z.tape z.output z.size z.block (λc hc _=>⟨(q c hc).1,(q c hc).2.2⟩) (λ_ h=>h) (λ_ h=>.inl h) (.refl _) hm.hlen (by
  intro k e' h' j L
  match k,j with
  |0,j=>
   simp at j;subst j;rw[M]at L;obtain rfl:=E5 L;refine .inr ⟨a3i.2 ⟨hz,I⟩,λ_ b J=>⟨(q b J).1,YT (q b J).2.1 z.size,(q b J).2.2,λk' e'' h'' Y u=>?_⟩⟩
   match k',u with
   |0,_=>exact absurd rfl Y
   |k'+1,u=>simp at u
  |k+1,j=>simp at j)
 exact⟨_,ok,H,rfl,hg.1,.eP [] #[] rfl (λi hi=>Tm)⟩
def Ej.turned (h:∀(v:BG) (w:BQ),nM w e 1 v l.length (l.map (.int .i64))->Calls P f #[v] w λx w'=>∃v',x=.returned v'/\nM w' e 1 v' r.length (r.map (.int .i64))/\Turns v w w'/\∀g,EF v'=some g->EF v=some g\/w.heap.size<=g):
 Ej P f [.aS 0] [.arr e 1 (List.map Ad l)] (.aS 1) [.dead,.arr e 1 (List.map Ad r)]:=by
 intro ok X H w L hm hs ha;have U:=ha 0 Bl;rw[aRA hs];obtain⟨hd,M,I⟩:=Hr hm.ent hm.hlen (k:=0) rfl;obtain Y:=RJ U M;rw[Y];obtain⟨hz,J⟩:=a3i.1 I;refine(h hd.v w J).mono ?_;rintro x w' ⟨v',rfl,j,q,u⟩;have z:=hm.turn (e:=.arr e 1 (List.map Ad r)) (h':=⟨v',1⟩) (w':=w') (k:=0) rfl rfl M q.os q.tape q.output q.size q.block (λg z=>⟨vw j z,u g z⟩) (λ_=>a3i.2 ⟨rfl,j⟩);refine⟨v',ok,H++[⟨v',1⟩],rfl,z.1,?_⟩;have hl:H.length=1:=hm.hlen;have O:(H++[(⟨v',1⟩:CP)])[1]? =some ⟨v',1⟩:=by rw[←hl];simp
 rcases j.2 with⟨rfl,_⟩|⟨g,cap,Z,rfl,_⟩
 ·exact .aS 1 _ _ _ 1 O
 exact .aS 1 _ _ _ 1 O
def Ej.plain {j}(O:∀ok w H,R ok w H j v)(h:∀w,Calls P f vs.toArray w λx w'=>x=.returned v/\Below w.heap.size w w'):Ej P f (vs.map λu=>.d (.lit u)) [] j []:=by
 intro ok X H w q hm hs ha
 have e:q=vs.toArray:=by
  refine iF zA λi h1 h2=>?_;have z:i<vs.length:=LP
  have h3:=ha i aI;simp only[List.getD,Le,ES z,Kr,OO]at h3;cases h3 with |d _ _ h=>have :=EL.TR h;simpa[Array.getD,h1]using this
 rw[e];refine(h w).mono ?_;rintro x w' ⟨rfl,I⟩
 have U:=hm.change (ok':=ok) (H':=H) (w':=w') (es':=[]) (λ_=>False) I.os I.tape I.output I.size (λc L _=>I.block c L) (λ_ h=>h.elim) (λ_ h=>h) (λ_ h=>.inl h) (.refl _) hm.hlen (by
  intro k e' h' J M
  simp at J)
 grind
variable {ops:Bh Oper}
def Chain.aEb {l O}(h:Chain P ops l σ σ'){H0}{Q}:
 ∀{ok:Nat->Prop} {H:AA CP} {a:Act} {w:BQ},Holds C ok H σ a w->Names H0 H->(∀ok' H' a' w',Holds C ok' H' σ' a' w'->Names H0 H'->wpListIn (KA ro) 0 P ops Q O a' w')->wpListIn (KA ro) 0 P ops Q (l++O) a w:=by
 induction h with
 |nil σ=>
  grind
 | @op o rest σ σ' ns x d U Y J hd k L=>
   intro ok H a w j q M;subst hd;rw[aT];unfold wpListIn;rw[ET (Wp j J)];refine kG ?_ (U.inR ro C ok H a w Q j.mem (λn z=>Yo Y n z▸j.get n.1));rintro a' w' ⟨v,ok',H',rfl,I,u,hm,Z⟩;exact L (j.put o.dst I u hm Z) (q.trans u) M
 | @oe o rest σ σ' ns x es' d E U he Y J hd k L=>
   intro ok H a w j q M;subst hd;subst he;rw[aT];unfold wpListIn;rw[ET (Wp j J)];refine kG ?_ (U.inR ro C ok H a w Q j.mem (λn z=>Yo Y n z▸j.get n.1));rintro a' w' ⟨v,ok',H',rfl,I,u,hm,Z⟩;exact L (j.put o.dst I u hm Z) (q.trans u) M
 | @skip o rest σ σ' d J hd k L=>
   intro ok H a w j q M;subst hd;rw[aT];unfold wpListIn;rw[Ee aDK];exact⟨λ_ _=>trivial,L (j.put o.dst (.refl _ _) (.refl _) j.mem (.d _ _ (.lit _))) q M⟩
 | @any o rest σ σ' x d hs hd k L=>
   intro ok H a w j q M;subst hd;rw[aT];unfold wpListIn;rcases hs.1 with⟨ns,U,Y,_,J⟩|⟨rfl,_,J⟩
   ·rw[ET (Wp j J)];refine kG ?_ (U.inR ro C ok H a w Q j.mem (λn z=>Yo Y n z▸j.get n.1));rintro a' w' ⟨v,ok',H',rfl,I,u,hm,Z⟩;exact L (j.put o.dst I u hm Z) (q.trans u) M
   rw[Ee aDK];exact⟨λ_ _=>trivial,L (j.put o.dst (.refl _ _) (.refl _) j.mem (.d _ _ (.lit _))) q M⟩
 | @asn o rest σ σ' x E bar d hs hd k L=>
   intro ok H a w j q M;subst hd;rw[aT];unfold wpListIn;rcases hs.1 with⟨ns,U,Y,_,J⟩|⟨rfl,rfl,J⟩
   ·rw[ET (Wp j J)];refine kG ?_ (U.inR ro C ok H a w Q j.mem (λn z=>Yo Y n z▸j.get n.1));rintro a' w' ⟨v,ok',H',rfl,I,u,hm,Z⟩;exact L (j.put o.dst I u hm Z) (q.trans u) M
   rw[Ee aDK];exact⟨λ_ _=>trivial,L (j.put o.dst (.refl _ _) (.refl _) j.mem (.d _ _ (.lit _))) q M⟩
 |conv σ2 hc k L=>
  intro ok H a w j q M;obtain⟨ok',hh'⟩:=hc C ok H a w j;exact L hh' q M
variable {e t':Nat}{es:AA D}{q:Oper}
def Bq.aCc {I}{id}k(j:ops.toList.drop k=[q])(h:Chain P ops (ops.toList.take k) σ I)(M:q.op=.binOp .eql t x (.const (.slice none 0 0)) t')(hd:q.dst=some d)(O:q.guard=none)(U:P.underlying t=some (.slice e))(Y:I.get x=.d (.sl es))(Z:∀b,(es≠[]->b=false)->Q .normal (I.uq (some d) (.d (.lit (.bool b))))):Bq P (.region id ops false) σ Q:=by
 refine⟨λro _ C ok H a w hh=>wpIn_region_list ?_⟩;rw[←Vf k ops.toList,j];refine h.aEb hh (.refl H) λok' H' a' w' h1 _=>?_;have z:=Y▸h1.get x
 obtain⟨b,hb,hr⟩:∃b,(es≠[]->b=false)/\(execOp a'.eval q).run P w'=.ok (.value (.bool b)) w':=by
  cases z with
  |d _ _ z=>
   generalize u:a'.eval x=v at z
   have key:∀(ad:AL Addr) (n c:Nat),v=.slice ad n c->(execOp a'.eval q).run P w'=.ok (.value (.bool ad.isNone)) w':=λad n c J=>by
    have L:(eqGuard .eql t x (.const (.slice none 0 0)) (.slice ad n c) (.slice none 0 0)).run P w'=.ok () w':=by simp[eqGuard]
    have e0:a'.eval (.const (.slice none 0 0))=.slice none 0 0:=rfl;rw[J]at u;simp only[execOp,M,u,e0,GK,L,Gi,Lib.run_eql_slice_nil w' t e ad n c 0 0 U,Hy]
   cases z with
   |sl0 ad cap=>
    grind
   |sl es b off cap size=>
    grind
 unfold wpListIn;rw[ET (by unfold Region.wanted;rw[O])];unfold Oper.wpIn;rw[pW _ _ _ (by rw[M];intro c h;cases h),hr,Oper.uponIn_value];refine⟨λ_ _=>trivial,?_⟩;unfold wpListIn;exact⟨ok',H',_,by rw[hd];exact h1.put (some d) (.refl _ _) (.refl _) h1.mem (.d _ _ (.lit _)),Z b hb⟩
def ou {u}{id}{y}k(j:ops.toList.drop k=[q])(h:Chain P ops (ops.toList.take k) σ u)(I:q.op=.binOp .eql t x (.const (.slice none 0 0)) t')(hd:q.dst=some d)(J:q.guard=none)(L:P.underlying t=some (.slice e))(M:u.get x=.d (.sl es))(O:∀b,(es≠[]->b=false)->Bq P y (u.uq (some d) (.d (.lit (.bool b)))) Q):Bq P (.seq (.region id ops false) y) σ Q:=
 Bq.seq (λs=>∃b,(es≠[]->b=false)/\s=u.uq (some d) (.d (.lit (.bool b)))) (Bq.aCc k j h I hd J L M λb z=>⟨b,z,rfl⟩) (by rintro _ ⟨b,z,rfl⟩;exact O b z)
def sJ {l}{e:α->D}(h:List.map e l≠[]->true=false):l=[]:=by
 cases l with
 |nil=>
  rfl
 |cons a l=>
  grind
def aOG {α}{p:Nat->α->Prop}:∀n,(∀i,i<n->∃x,p i x)->∃l:AA α,l.length=n/\∀i (h:i<l.length),p i l[i]
 |0,_=>⟨[],rfl,λi h=>JD⟩
 |n+1,h=>by
  obtain⟨l,h1,h2⟩:=aOG n (λi hi=>h i AB);obtain⟨x,j⟩:=h n AB;refine⟨l++[x],mV,λi hi=>?_⟩
  grind
def pieces :AA Nat->Nat->AA BG->AA BG
 | [],_,_=>[]
 |n::r,o,cs=>(cs.drop o).take n++pieces r (o+n) cs
def pieces_eq :∀(ns:AA Nat) (o:Nat) (cs:AA BG),cs.length=o+ns.sum->pieces ns o cs=cs.drop o
 | [],o,cs,h=>by simp at h;simp[pieces,h]
 |n::r,o,cs,h=>by
  simp only[a1l]at h;unfold pieces;rw[pieces_eq r (o+n) cs AB,←aCI,Vf]
def EH (w:BQ)(q:AA D)(cs:AA BG):Prop:=cs.length=q.length/\∀j,j<q.length->(q.getD j EO).leaf=true/\EL (λb=>b<w.heap.size) w (q.getD j EO) (cs.getD j undef)
def EH.nil w:EH w [] []:=⟨rfl,λj h=>JD⟩
variable {cs:AA BG}
def EH.append {q}(h:EH w q cs)(k:EH w es us):EH w (q++es) (cs++us):=by
 refine⟨by simp[h.1,k.1],λj J=>?_⟩;by_cases e:j<q.length
 ·have u:(q++es).getD j EO=q.getD j EO:=aBf
  have z:(cs++us).getD j undef=cs.getD j undef:=by simp[List.getD,KH (show j<cs.length by rw[h.1];exact e)]
  rw[u,z];exact h.2 j e
 have I:j-q.length<es.length:=sK
 have u:(q++es).getD j EO=es.getD (j-q.length) EO:=by simp[List.getD,Qg (X8 e)]
 have z:(cs++us).getD j undef=us.getD (j-q.length) undef:=by
  have h1:=h.1
  grind
 rw[u,z];exact k.2 _ I
variable {x:D}
section
variable {H:Type}{enc:Bz×BG->H}{spare:Nat->AY}{held:AY}{t:Bz}
def aPG (enc:Bz×BG->H)(P:Ce)(w:BQ)(base:Nat)(spare:Nat->AY)(held:AY)(t:Bz)(e:α->D)(V:α->Prop):Prop:=
 ∀Am cs x,DataW.trod enc P w base spare held Am t cs=some x->∃a:α,V a/\EH w (e a).cells cs
def EH.one {w}(q:x.cells=[x])(hl:x.leaf=true)(h:EL (λb=>b<w.heap.size) w x v):EH w x.cells [v]:=by
 rw[q];refine⟨rfl,λj u=>?_⟩
 grind
def aXp {k}(j:P.underlying t=some (.int k)):aPG enc P w base spare held t (λn=>D.lit (.int k n)) (λn:Int=>k.min<=n/\n<=k.max):=by
 intro Am cs x h;obtain⟨n,rfl, -,q⟩:=DataW.trod_int j h;exact⟨n,by simpa[Lit.wf]using q,.one rfl rfl (.lit _)⟩
def aae (j:P.underlying t=some .bool):aPG enc P w base spare held t E9 (λ_=>True):=by
 intro Am cs x h;obtain⟨n,rfl, -⟩:=DataW.trod_bool j h;exact⟨n,trivial,.one rfl rfl (.lit _)⟩
def VW {j}{Am}{x}(q:P.underlying t=some (.struct j))(h:DataW.trod enc P w base spare held Am t cs=some x)n(u:P.cellsOf t=n):cs.length=n:=by
 obtain⟨xs,k, -, -,hlen, -⟩:=DataW.trod_struct q h;rw[hlen,u]
def VF {j}ns(hl:cs.length=ns.sum)(h:EH w j (pieces ns 0 cs)):EH w j cs:=by
 rw[pieces_eq ns 0 cs AB]at h;simpa using h
end
def aN7 {j}{cs}(q:x=.agg j)(h:EH w x.cells (Value.agg cs).cells.toList):EL (λb=>b<w.heap.size) w x (.agg cs):=by
 subst q;have h':EH w j cs.toList:=h
 exact .agg j cs (by simpa using h'.1) (λi hi=>(h'.2 i hi).1) λi hi=>by
  have :=(h'.2 i hi).2;simpa[KG,List.getD]using this
def Ej.start (h:Ej P f (xs.map .d) [] (.d x) [])(hs:j.size=xs.length)(ha:∀i,i<xs.length->EL (λb=>b<W.heap.size) W (xs.getD i EO) (j.getD i undef)):
 Calls P f j W λe W'=>∃v ok,e=.returned v/\EL ok W' x v/\Below W.heap.size W W':=by
 refine(h (λb=>b<W.heap.size) [] [] W j ⟨.refl _ _,λ_ h=>h,λ_ h=>.inl h,λ_ h=>h,.refl _,rfl,λk e h q=>by simp at q,λk e h b q=>by simp at q,λk k' e e' h h' b q=>by simp at q⟩ zA (λi hi=>?_)).mono ?_
 ·have u:i<xs.length:=IZ
  have :(xs.map Ai.d).getD i .junk=.d (xs.getD i EO):=aGG
  rw[this];exact .d _ _ (ha i u)
 rintro e W' ⟨v,ok',H',rfl,hm,z⟩;cases z with
 |d _ _ z=>exact⟨v,ok',rfl,z,hm.fr.below⟩
def Ej.law (h:Ej P f (xs.map .d) [] (.d (E9 true)) [])(hs:j.size=xs.length)(ha:∀i,i<xs.length->EL (λb=>b<W.heap.size) W (xs.getD i EO) (j.getD i undef)):
 Calls P f j W λe W'=>e=.returned (.bool true)/\Below W.heap.size W W':=by
 refine(h.start hs ha).mono ?_;rintro e W' ⟨v,ok,rfl,q,u⟩;exact⟨by rw[EL.TR q],u⟩
def EP (l:AA Int)(x:Int):AY:=l.contains x
variable {x:Int}
def La:EP l x=true↔x∈l:=by unfold EP;simp
def Pz:EP l x=false↔x∉l:=by unfold EP;simp
def put (l:AA Int)(x:Int):AA Int:=if EP l x then l else l.takeWhile (decide<| · <x)++x::l.dropWhile (decide<| · <x)
def FY (l:AA Int):AA Int:=l.foldl put []
def JL (a b:AA Int):AA Int:=b.foldl put (FY a)
def PY (a b:AA Int):AA Int:=(FY a).filter (λx=> !EP b x)
abbrev Inc (l:AA Int):Prop:=l.Pairwise (· < ·)
def aaX:∀y∈l.takeWhile (decide<| · <x),y<x:=by
 intro y j;have :=List.all_takeWhile (l:=l) (p:=(decide<| · <x));rw[FW]at this;simpa using this y j
def aTa :∀{l:AA Int} {x:Int},Inc l->∀y∈l.dropWhile (decide<| · <x),x<=y
 | [],x,_,y,j=>uj
 |a::l,x,h,y,j=>by
  have h':=QZ.1 h;by_cases ha:a<x
  ·rw[aMP (by simpa using ha)]at j;exact aTa h'.2 y j
  rw[aN4 (by simpa using ha)]at j;rcases FP.1 j with rfl|j
  ·omega
  have :=h'.1 y j;omega
variable {y:Int}
def Xc:y∈put l x↔y∈l\/y=x:=by
 unfold put;split
 ·rename_i h;have j:x∈l:=La.1 h;constructor
  ·exact .inl
  rintro(h|rfl)
  ·exact h
  exact j
 have e:l.takeWhile (decide<| · <x)++l.dropWhile (decide<| · <x)=l:=yL
 have :y∈l↔y∈l.takeWhile (decide<| · <x)\/y∈l.dropWhile (decide<| · <x):=by
  conv=>lhs;rw[←e]
  exact Ia
 rw[this,Ia,FP];constructor
 ·rintro(h|h|h)
  ·exact .inl (.inl h)
  ·exact .inr h
  exact .inl (.inr h)
 rintro((h|h)|h)
 ·exact .inl h
 ·exact .inr (.inr h)
 exact .inr (.inl h)
def TP (h:Inc l):Inc (put l x):=by
 unfold put;split
 ·exact h
 rename_i z;have j:x∉l:=λh=>z (La.2 h)
 have hd:∀y∈l.dropWhile (decide<| · <x),x<y:=by
  intro y u;have h1:=aTa h y u;have h2:y∈l:=(aJH _).mem u;have :y≠x:=λe=>j (e▸h2);omega
 refine Zd.2 ⟨h.sublist (List.takeWhile_sublist _),QZ.2 ⟨hd,h.sublist (aJH _)⟩,?_⟩;intro a ha b q;have h1:=aaX a ha;rcases FP.1 q with rfl|q
 ·exact h1
 have :=hd b q;omega
def aJa:∀{j:AA Int} {y:Int},y∈l.foldl put j↔y∈j\/y∈l:=by
 induction l with
 |nil=>intro j y;simp
 |cons a l q=>intro j y;rw[Gf,q,Xc,FP,or_assoc]
def a9B:∀{j:AA Int},Inc j->Inc (l.foldl put j):=by
 induction l with
 |nil=>intro j h;exact h
 |cons a l q=>intro j h;exact q (TP h)
def MR:y∈FY l↔y∈l:=by unfold FY;rw[aJa];simp
def Nz l:Inc (FY l):=a9B List.Pairwise.nil
def DU :∀{a b:AA Int},Inc a->Inc b->(∀x,x∈a↔x∈b)->a=b
 | [],[],_,_,_=>rfl
 | [],b::bs,_,_,h=>by have :=(h b).2 BU;simp at this
 |a::aST,[],_,_,h=>by have :=(h a).1 BU;simp at this
 |a::aST,b::bs,ha,z,h=>by
  have j:=QZ.1 ha;have q:=QZ.1 z
  have e:a=b:=by
   rcases FP.1 ((h a).1 BU)with h1|h1
   ·exact h1
   rcases FP.1 ((h b).2 BU)with h2|h2
   ·exact h2.symm
   have :=j.1 b h2;have :=q.1 a h1;omega
  subst e;congr 1;refine DU j.2 q.2 λx=>?_;have u:=h x;rw[FP,FP]at u;constructor
  ·intro h1;rcases u.1 (.inr h1)with rfl|h2
   ·exact absurd (j.1 x h1) AB
   exact h2
  intro h1;rcases u.2 (.inr h1)with rfl|h2
  ·exact absurd (q.1 x h1) AB
  exact h2
def aY5 (h:Inc l):FY l=l:=DU (Nz l) h λ_=>MR
def tZ a b:JL a b=FY (a++b):=by unfold JL FY;rw[Uw]
variable {a:AA Int}
def XK {b}:x∈JL a b↔x∈a\/x∈b:=by rw[tZ,MR,Ia]
def a0B a b:Inc (JL a b):=by rw[tZ];exact Nz _
def aDV {b}:x∈PY a b↔x∈a/\x∉b:=by unfold PY;rw[Hg,MR];simp[EP]
def aHn a b:Inc (PY a b):=(Nz a).sublist Vd
def akt (EY:AA Int):∀m,m<=EY.length->∀x,x∈Lib.compactUpTo EY.toArray m↔x∈EY.take m:=by
 intro m
 induction m with
 |zero=>intro _ x;simp[Lib.compactUpTo]
 |succ m u=>
  intro hm x;rw[Lib.compactUpTo_succ,Ia,u AB,MX AB,Ia];have z:EY.toArray[m]! =EY[m]' AB:=by simp[show m<EY.length by omega]
  by_cases q:Lib.keeps EY.toArray m=true
  ·rw[ET q,z]
  rw[Ee q];have j:Lib.keeps EY.toArray m=false:=Xj
  have I:m≠0:=by intro e;subst e;simp[Lib.keeps]at j
  have J:EY[m]' AB=EY[m-1]' AB:=by
   simp[Lib.keeps,I]at j;simpa[show m<EY.length by omega,show m-1<EY.length by omega]using j
  constructor
  ·intro h;rcases h with h|h
   ·exact .inl h
   simp at h
  rintro(h|h)
  ·exact .inl h
  refine .inl ?_;simp at h;subst h;rw[J];rw[aRZ];exact⟨m-1,AB,rfl⟩
def aly (EY:AA Int)(hs:EY.Pairwise (· <= ·)):∀m,m<=EY.length->Inc (Lib.compactUpTo EY.toArray m)/\∀x∈Lib.compactUpTo EY.toArray m,∃i,∃_:i<m,∃h2:i<EY.length,x=EY[i]:=by
 intro m
 induction m with
 |zero=>intro _;refine⟨by simp[Lib.compactUpTo],λx q=>by simp[Lib.compactUpTo]at q⟩
 |succ m L=>
  intro hm;obtain⟨h1,h2⟩:=L AB;have M:EY.toArray[m]! =EY[m]' AB:=by simp[show m<EY.length by omega]
  rw[Lib.compactUpTo_succ];by_cases u:Lib.keeps EY.toArray m=true
  ·rw[ET u,M];refine⟨Zd.2 ⟨h1,BU,?_⟩,?_⟩
   ·intro a ha b J;simp at J;subst J;obtain⟨i,hi,O,rfl⟩:=h2 a ha
    have z:∀j,(U:j<m)->EY[j]' AB<=EY[m-1]' AB:=by
     intro j U;by_cases e:j=m-1
     ·subst e;omega
     exact JU.1 hs j (m-1) AB AB AB
    have h3:=z i hi;have Y:=JU.1 hs (m-1) m AB AB AB
    have Z:EY[m]' AB≠EY[m-1]' AB:=by
     have I:m≠0:=AB
     simp[Lib.keeps,I]at u;simpa[show m<EY.length by omega,show m-1<EY.length by omega]using u
    omega
   intro x q;rcases Ia.1 q with q|q
   ·obtain⟨i,a,b,c⟩:=h2 x q;exact⟨i,AB,b,c⟩
   simp at q;exact⟨m,AB,AB,q⟩
  rw[Ee u,Tv];refine⟨h1,λx q=>?_⟩;obtain⟨i,a,b,c⟩:=h2 x q;exact⟨i,AB,b,c⟩
def aEk l:Lib.compact (l.mergeSort λx y=>x<=y)=FY l:=by
 have hs:(l.mergeSort λx y=>x<=y).Pairwise (· <= ·):=by
  have :=List.pairwise_mergeSort (le:=λx y:Int=>x<=y) (by intro a b c;simp;omega) (by intro a b;simp;omega) l;exact this.imp (by intro a b h;simpa using h)
 refine DU (aly _ hs _ (ER _)).1 (Nz l) λx=>?_;rw[MR];unfold Lib.compact;rw[akt _ _ (ER _),Gw];exact List.mem_mergeSort
def dK {R}(o:AL R)(Q:R->Prop):Prop:=∃r,o=some r/\Q r
section
variable {R:Type}{Q:R->Prop}
def dK.ret {r}(h:Q r):dK (some r) Q:=⟨r,rfl,h⟩
def dK.bind {o:AL A}{f}{P}(h:dK o P)(k:∀x,P x->dK (f x) Q):dK (o.bind f) Q:=by
 obtain⟨x,rfl,j⟩:=h;exact k x j
def dK.mono {o}{P}(h:dK o P)(k:∀r,P r->Q r):dK o Q:=by
 obtain⟨x,rfl,j⟩:=h;exact⟨x,rfl,k x j⟩
def dK.bif {x y}(h1:b=true->dK x Q)(h2:b=false->dK y Q):dK (cond b x y) Q:=by
 grind
def dK.eq {o}{r:R}(h:dK o (· =r)):o=some r:=by obtain⟨x,rfl,rfl⟩:=h;rfl
def dK.of {o}{r:R}(h:o=some r):dK o (· =r):=⟨r,h,rfl⟩
def a2N (l:AA α)(i:Nat):Ak l (i:Int)=l[i]? :=by unfold Ak;rw[ET (aDO i)];simp
def CQ {l:AA α}(h:i<l.length):Ak l (i:Int)=some l[i]:=by rw[a2N];simp[h]
def Dw {b}{l m:AA α}(h:(l.length+m.length)*b<=140737488355328):D5 b l m=some (l++m):=by unfold D5;rw[ET h]
def bF {l:AA α}{lo hi}(h1:lo<=hi)(h2:hi<=l.length):I8 l (lo:Int) (hi:Int)=some ((l.drop lo).take (hi-lo)):=by
 unfold I8;rw[ET ⟨AB,AB,AB⟩];simp
def wrap_succ (i:Nat)(h:i<9223372036854775807):Au ((i:Int)+1)=((i+1:Nat):Int):=by
 rw[ZN];omega
def Nr (h1: -9223372036854775808<=x)(h2:x<=9223372036854775807):Au x=x:=by
 rw[ZN];omega
def aMl {body}(I:Nat->A->Prop)(hs:∀m a k,I m a->(∀j a',j<m->I j a'->dK (k a') Q)->dK (body k a) Q):
 ∀n m a,m<n->I m a->dK (bn body n a) Q
 |0,m,a,h,_=>AB
 |n+1,m,a,h,hi=>hs m a _ hi λj a' h' q=>aMl I hs n j a' AB q
def ZX {body}(I:Nat->A->B->Prop)(hs:∀m a b k,I m a b->(∀j a' q,j<m->I j a' q->dK (k a' q) Q)->dK (body k a b) Q):
 ∀n m a b,m<n->I m a b->dK (aQ body n a b) Q
 |0,m,a,b,h,_=>AB
 |n+1,m,a,b,h,hi=>hs m a b _ hi λj a' q h' u=>ZX I hs n j a' q AB u
def ay {body}N(j:N<Am)(I:Nat->Prop)(q:I 0)(hs:∀i k,i<N->I i->(I (i+1)->dK (k ((i+1:Nat):Int)) Q)->dK (body k (i:Int)) Q)(z:∀k,I N->dK (body k (N:Int)) Q):dK (bn body Am 0) Q:=by
 refine aMl (body:=body) (Q:=Q) (λm a=>∃i:Nat,a=i/\i+m=N/\I i) ?_ Am N 0 j ⟨0,rfl,AB,q⟩;rintro m a k ⟨i,rfl,hm,hi⟩ u;by_cases e:i<N
 ·exact hs i k e hi λh=>u (m-1) _ AB ⟨i+1,rfl,AB,h⟩
 have :i=N:=AB
 grind
def JJ {body}N(j:N<Am)(I:Nat->A->Prop){a0}(q:I 0 a0)(hs:∀i a k,i<N->I i a->(∀a',I (i+1) a'->dK (k a' ((i+1:Nat):Int)) Q)->dK (body k a (i:Int)) Q)(z:∀a k,I N a->dK (body k a (N:Int)) Q):dK (aQ body Am a0 0) Q:=by
 refine ZX (body:=body) (Q:=Q) (λm a b=>∃i:Nat,b=i/\i+m=N/\I i a) ?_ Am N a0 0 j ⟨0,rfl,AB,q⟩;rintro m a b k ⟨i,rfl,hm,hi⟩ u;by_cases e:i<N
 ·exact hs i a k e hi λa' h=>u (m-1) _ _ AB ⟨i+1,rfl,AB,h⟩
 have :i=N:=AB
 grind
end
end Go.Proofs.YtfmoknlmaldmlaaGreat
