/- Part 1 of the laws' proofs (short forms by wip/shrink2.py). -/
import Derived.Test.YtfmoknlmaldmlaaGreatRows
import Derived.WalkSpells
import Derived.WalkLawsBesides
import Derived.Lib.Hide
import Derived.Laws.AppendOwnNone
import Derived.Laws.CopyOwn
import Derived.RangeFuncRecord
import Derived.Lib.OwnBridge
import Derived.Sort.OwnSortedInts
import Derived.ProofKit
import Derived.Shelf.Small.Strs
import Derived.Shelf.Strings.Shaped
import Derived.Shelf.Sort.Plain
import Derived.Shelf.Slices.Turned
import Derived.Shelf.Slices.Clone
import Derived.Shelf.Slices.Cells
import Derived.Shelf.Slices.In.SortNone
import Derived.Shelf.Slices.Empties
import Derived.Shelf.SlSortCmp.NoneTotal
import Derived.Shelf.Spec.SlicesInsertGrow
set_option linter.defProp false
set_option linter.unnecessarySimpa false
set_option linter.unusedSectionVars false
set_option linter.unusedVariables false
set_option linter.unusedSimpArgs false
namespace Go.Proofs.YtfmoknlmaldmlaaGreat
open Go.RowKit Go.Proofs.Tryz
abbrev A8.{u}:=List.{u}
abbrev AB.{u}:=Option.{u}
abbrev BO:=ByteArray
abbrev BI:=Value
abbrev Ba:=World
abbrev Bh.{u}:=Array.{u}
abbrev CB:=Operand
abbrev Cm:=Program
abbrev Bz:=TypeId
abbrev AX:=Bool
abbrev AV (n:Nat):Nat×AX:=(n,true)
section
variable {p:Prop}
def CJ (h:p:=by exact λh=>AZ<|Ch):p:=h
def Eo (h:p:=by exact Bq.exit<|AZ<|Ch):p:=h
def JE (h:p:=by exact Bq.exit<|AZ<|V6):p:=h
def YD (h:p:=by exact DJ<|I _ _ (Ae [AV 0]) h):p:=h
def Sz (h:p:=by exact DJ<|I _ _ (Ae []) h):p:=h
def UF (h:p:=by exact DJ<|I _ _ _ (Ae [AV 0]) h):p:=h
def XY (h:p:=by exact Ns AA<|Ns AA<|Ns AA<|Ns AA<|trivial):p:=h
def UK (h:p:=by exact DJ<|z _ _ (Ae []) h):p:=h
def X8 (h:p:=by exact DJ<|z _ _ _ (Ae [AV 0]) h):p:=h
def Zr (h:p:=by exact DJ<|J _ _ (Ae []) h):p:=h
def a3n (h:p:=by exact .nil<|Or.inl ⟨(),(CQ h).symm,(⟨[],[],trivial,AA,AA,AA⟩)⟩):p:=h
def aRo (h:p:=by exact .aW<|AZ<|Bq.ret<|by rw[←CQ h];exact⟨[DY ({ j with Content:=q })],[],⟨⟨1,BD (BF ({ j with Content:=q })),true,29,AA,AA,AA,IY,Dt AA,RG,AA⟩,trivial⟩,AA,AA,AA⟩):p:=h
def uo (h:p:=by exact DJ<|J _ _ _ (Ae [AV 0,AV 1]) h):p:=h
def mV (h:p:=by exact DJ<|J _ _ _ (Ae [AV 0]) h):p:=h
def aSe (h:p:=by exact λu=>AZ<|Bo h (λh=>u _ ⟨(j==12),Ae [],h⟩) λh=>AZ<|Bo h (λh=>u _ ⟨(j==13),Ae [],h⟩) λh=>DJ<|u _ ⟨(j==14),Ae [],h⟩):p:=h
def aUY (h:p:=by exact λu=>AZ<|Bo h (λh=>u _ ⟨(j==5),Ae [],h⟩) λh=>AZ<|Bo h (λh=>u _ ⟨(j==8),Ae [],h⟩) λh=>DJ<|u _ ⟨(j==10),Ae [],h⟩):p:=h
def yN (h:p:=by exact DJ<|u _ _ _ (Ae [AV 0]) h):p:=h
def a1B (h:p:=by exact DJ<|I _ _ (Ae [AV 0,AV 1]) h):p:=h
def yF (h:p:=by exact λh=>Bq.exit<|u _ ⟨Ae [],h⟩):p:=h
def aPm (h:p:=by exact λh=>Bq.ret<|⟨.inr rfl,(Yb u).slots,(.ready,none),.normal,AA,rfl,(x1 _ ⟨z,I,Ae [AV 2,AV 6],h⟩)⟩):p:=h
def aGY (h:p:=by exact .aN<|DJ<|J _ _ _ (Ae [AV 1]) h):p:=h
def a6z (h:p:=by exact AZ<|by cases h;exact .ret (Et [])):p:=h
def Zy (h:p:=by exact AZ<|AZ<|Ch):p:=h
def aPj (h:p:=by exact Bq.ret<|⟨.inr rfl,(Y4 j z).slots,(.ready,none),.normal,AA,rfl,(O _ ⟨Y,Z,Ae [AV 0,AV 1],h⟩)⟩):p:=h
def aKx (h:p:=by exact .aN<|DJ<|z _ _ _ (Ae [(0,false),AV 2]) h):p:=h
def JO (h:p:=by exact BJ h CJ λh=>AZ<|Ch):p:=h
def a0I (h:p:=by exact AZ<|BJ h CJ λh=>YD):p:=h
def aEE (h:p:=by exact .aY<|BJ h CJ λh=>DJ<|J _ _ (Ae [AV 0]) h):p:=h
def xG (h:p:=by exact .aW<|BJ h CJ λh=>Sz):p:=h
def wM (h:p:=by exact DJ<|I _ _ _ (Ae []) h):p:=h
def aDh (h:p:=by exact DJ<|z _ _ _ (Ae [AV 0,AV 1]) h):p:=h
def aD4 (h:p:=by exact DJ<|I _ _ _ (Ae [AV 0,AV 1]) h):p:=h
def a7V (h:p:=by exact .aY<|BJ h CJ λh=>Zr):p:=h
def a5h (h:p:=by exact .aY<|BJ h CJ λh=>Sz):p:=h
def qQ (h:p:=by exact λh=>AZ<|V6):p:=h
def tq (h:p:=by exact .aN<|z _ ⟨j,Ae [],h⟩):p:=h
def aKE (h:p:=by exact .aN<|DJ<|I _ _ _ (Ae [AV 1]) h):p:=h
def aDu (h:p:=by exact .aW<|AZ<|BJ h CJ λh=>UK):p:=h
def aCa (h:p:=by exact DJ<|Y _ _ _ (Ae [AV 0]) h):p:=h
def aWs (h:p:=by exact BJ h CJ λh=>DJ<|J _ _ (Ae [AV 0,AV 1]) h):p:=h
def aMk (h:p:=by exact λh=>Bq.block<|DJ<|z _ _ (Ae [(0,false),AV 1]) h):p:=h
def aMy (h:p:=by exact .f (x:=.aS 1) (EL [.ent 0] [.aS 0,AY z] (aO1 M))<|aGY):p:=h
def aFb (h:p:=by exact .aN<|z _ ⟨u,Ae [AV 2],h⟩):p:=h
def aCf (h:p:=by exact .aY<|BJ h CJ λh=>UK):p:=h
def aJE (h:p:=by exact .aY<|BJ h CJ λh=>YD):p:=h
end
section
variable {p:Prop}
def AA (h:p:=by kernel_rfl):p:=h
def AL (h:p:=by omega):p:=h
def Ch (h:p:=by cases h;exact .ret (Et [])):p:=h
def D9 (h:p:=by cases h;kernel_rfl):p:=h
def Bj (h:p:=by decide):p:=h
def Bf (h:p:=by simp):p:=h
def V6 (h:p:=by cases h;exact .ret (Et [AV 0])):p:=h
def GR (h:p:=by simp only[Oe];omega):p:=h
def Ej (h:p:=by simp;omega):p:=h
def a4m (h:p:=by rw[←CQ h];exact⟨[DY Fj,Af false],[],⟨⟨0,BD (BF Fj),true,29,by kernel_rfl,by kernel_rfl,by kernel_rfl,IY,Dt (by kernel_rfl),(by intro z;cases z),by kernel_rfl⟩,Gq (by kernel_rfl),trivial⟩,by kernel_rfl,by kernel_rfl,by kernel_rfl⟩):p:=h
def KA (h:p:=by cases h;exact .ret (Et [AV 1])):p:=h
def a6i (h:p:=by rw[←CQ h];exact⟨[DY q,Af true],[],⟨⟨0,BD (BF q),true,29,by kernel_rfl,by kernel_rfl,by kernel_rfl,IY,Dt (by kernel_rfl),(by intro z;cases z),by kernel_rfl⟩,Gq (by kernel_rfl),trivial⟩,by kernel_rfl,by kernel_rfl,by kernel_rfl⟩):p:=h
def LX (h:p:=by cases h;exact .ret (Et [AV 2])):p:=h
def Yk (h:p:=by rw[←CQ h];exact⟨[],[AV 0],trivial,by kernel_rfl,by kernel_rfl,by kernel_rfl⟩):p:=h
def IW (h:p:=by simpa using hi):p:=h
def O7 (h:p:=by obtain⟨a,_,rfl⟩:=Ez.1 q;rfl):p:=h
def lR (h:p:=by subst e;have h:=i;exact AO h λq j h=>.a 2<|.ca (a4D j)<|.aW<|by cases h;kernel_rfl):p:=h
def aWE (h:p:=by rintro s ⟨q,hs,h⟩;exact bn hs<|AZ<|Bq.ret<|by rw[←CQ h];exact⟨[Iy q],[],⟨⟨0,BD (FN q),true,9,by kernel_rfl,by kernel_rfl,by kernel_rfl,Zh,Dt (by kernel_rfl),(by intro u;cases u),by kernel_rfl⟩,trivial⟩,by kernel_rfl,by kernel_rfl,by kernel_rfl⟩):p:=h
def Zw (h:p:=by cases h;exact .ret (Et [AV 0,AV 1,AV 2,AV 3])):p:=h
def aWA (h:p:=by rintro s ⟨L,hs,h⟩;exact bn hs<|Dc h (λh=>a6z) λh=>AO h λz u h=>AP 2<|.ca (aVE u)<|.aW<|BJ h (λh=>a6z) λh=>Zr):p:=h
def RG (h:p:=by intro z;cases z):p:=h
def Gv (h:p:=by cases h):p:=h
def L9 (h:p:=by simpa using h2):p:=h
def aC (h:p:=by simpa using z):p:=h
def apU (h:p:=by rw[←CQ h];exact⟨[Iy q],[],⟨⟨0,BD (FN q),true,9,by kernel_rfl,by kernel_rfl,by kernel_rfl,Zh,Dt (by kernel_rfl),(by intro u;cases u),by kernel_rfl⟩,trivial⟩,by kernel_rfl,by kernel_rfl,by kernel_rfl⟩):p:=h
def NJ (h:p:=by intro I;cases I):p:=h
def a5L (h:p:=by subst e;have h:=i;exact AO h λq j h=>.a 2<|.p (LZ (k:=.i64) j IB)<|.aW<|by cases h;kernel_rfl):p:=h
def OD (h:p:=by simp[List.getD,hi]):p:=h
def JB (h:p:=by simp at h):p:=h
def Ln (h:p:=by rw[Ei];omega):p:=h
def NM (h:p:=by simpa using hl):p:=h
def uX (h:p:=by have :=hb (k+1) y (by simpa using z);simpa[Ur,WQ 1 k]using this):p:=h
def uw (h:p:=by have :=hl (k+1) (by simpa using hk);simpa[Ur,WQ 1 k]using this):p:=h
def a0m (h:p:=by have :=M (k+1) y (by simpa using z);simpa[Ur,WQ 1 k]using this):p:=h
def uU (h:p:=by have :=O (k+1) y (by simpa using z);simpa[Ur,WQ 1 k]using this):p:=h
def SG (h:p:=by simp only[Q7];omega):p:=h
def OB (h:p:=by decide+kernel):p:=h
def VE (h:p:=by simp only[Ei,Oe];omega):p:=h
def Q9 (h:p:=by rw[←hm.hlen];simp):p:=h
def OG (h:p:=by simpa using h):p:=h
def kE (h:p:=by cases h;exact .ret (Et [(0,false),AV 1])):p:=h
def aN8 (h:p:=by rintro s ⟨z,hs,h⟩;exact bn hs<|BJ h (λh=>a6z) λh=>a6z):p:=h
def Oj (h:p:=by rw[bP];omega):p:=h
def kN (h:p:=by have :Ar=9223372036854775808:=rfl;omega):p:=h
def aEa (h:p:=by rintro s ⟨J,hs,h⟩;exact bn hs<|AZ<|by cases h;exact .ret (Et [AV 0])):p:=h
def ZI (h:p:=by obtain⟨a,_,rfl⟩:=Ez.1 j;rfl):p:=h
def aI (h:p:=by first|exact L|kernel_rfl):p:=h
def oP (h:p:=by cases h;exact .ret (Et [AV 3])):p:=h
def VQ (h:p:=by intro q;cases q):p:=h
def Vx (h:p:=by intro hh;cases hh):p:=h
def aPx (h:p:=by rw[←CQ h];exact⟨[],[AV 0,AV 1,AV 2,AV 3],trivial,by kernel_rfl,by kernel_rfl,by kernel_rfl⟩):p:=h
def Rf (h:p:=by simpa using u):p:=h
def aH9 (h:p:=by rintro s ⟨L,hs,h⟩;exact bn hs<|UF):p:=h
def nT (h:p:=by simp[Act.eval,Array.replicate]):p:=h
def cZ (h:p:=by rw[H6];omega):p:=h
def aML (h:p:=by subst e;have h:=i;exact .a 2<|AO h λq u h=>.mg 12 3 (Af q) (.bi u)<|.aW<|by cases h;kernel_rfl):p:=h
def VG (h:p:=by simpa using h1):p:=h
def Tz (h:p:=by simpa using e):p:=h
def XT (h:p:=by rw[JD]at h;exact h):p:=h
def Yx (h:p:=by rw[JD];exact aF4 hs):p:=h
def Qh (h:p:=by rw[ahP];rfl):p:=h
def Xz (h:p:=by intro M;cases M):p:=h
def aPp (h:p:=by subst e;have h:=i;exact AO h λq j h=>.a 4<|.ca (aYi j)<|.aW<|by cases h;kernel_rfl):p:=h
def aOv (h:p:=by subst e;have h:=i;exact AO h λq j h=>.a 4<|.ca (ahB j)<|.aW<|by cases h;kernel_rfl):p:=h
def aRX (h:p:=by subst e;have h:=i;exact AO h λq j h=>.a 4<|.ca (ad7 j)<|.aW<|by cases h;kernel_rfl):p:=h
def aNC (h:p:=by subst e;have h:=i;exact AO h λq j h=>.a 4<|.ca (agM j)<|.aW<|by cases h;kernel_rfl):p:=h
def a0i (h:p:=by simpa using(hl 0 (by simp)).symm):p:=h
def Ve (h:p:=by simpa using h3):p:=h
def Vp (h:p:=by simpa using j):p:=h
def V7 (h:p:=by rw[hl];rfl):p:=h
def Tf (h:p:=by simp at hi):p:=h
def YF (h:p:=by simpa using q):p:=h
def a3r (h:p:=by cases h;exact .ret (Et [AV 4])):p:=h
def jZ (h:p:=by simp[Ar];omega):p:=h
def aJn (h:p:=by rw[alloc_eq_grow,alloc_eq_grow,grow_grow];rfl):p:=h
def aTu (h:p:=by rintro s ⟨M,hs,h⟩;exact bn hs<|UF):p:=h
def aD5 (h:p:=by rw[ha];exact EK (Lu _ _) (by rw[H6];omega)):p:=h
def VO (h:p:=by simp[flat]):p:=h
def ZL (h:p:=by rw[Df];omega):p:=h
def nK (h:p:=by unfold maxLen;omega):p:=h
def aJ8 (h:p:=by cases h;exact .ret (Et [AV 0,AV 1])):p:=h
def Yh (h:p:=by simpa using O):p:=h
def a3S (h:p:=by simp only[aVo];split<;>omega):p:=h
def ig (h:p:=by simp[hm.hlen]):p:=h
def a6s (h:p:=by rw[Ei];simp only[Oe];omega):p:=h
def a7v (h:p:=by simpa using M 0 x (by simp)):p:=h
def oL (h:p:=by rw[j]at h;exact h):p:=h
def Yr (h:p:=by rw[ha,Gy]):p:=h
def ni (h:p:=by simp at J;omega):p:=h
def aHD (h:p:=by rw[z rfl b (by rw[h1];rfl)];exact h2):p:=h
def aHC (h:p:=by obtain⟨b,_,rfl⟩:=Ez.1 hy;exact hc b):p:=h
def tX (h:p:=by rw[h1];rfl):p:=h
def uj (h:p:=by rw[ha,Df,H6];omega):p:=h
def WL (h:p:=by simp[hi]):p:=h
def a1s (h:p:=by simp[binOp,Op.intBits,F8]):p:=h
def aAx (h:p:=by simp only[GK];simp;omega):p:=h
def aR1 (h:p:=by rw[Df]at hi;rw[Va _ _ _ hi];exact WB q j u (h i hi)):p:=h
def aTs (h:p:=by subst e;have h:=i;exact Dq.aW<|by cases h;kernel_rfl):p:=h
def a6w (h:p:=by rw[h3.keys];simp[CV,aGx]):p:=h
def oJ (h:p:=by simpa using q2):p:=h
def a4s (h:p:=by simp[Act.eval,Act.put]):p:=h
def aIf (h:p:=by simpa using O 0 σ.ents (by simp)):p:=h
def vG (h:p:=by simp[List.getD,j]):p:=h
def aM9 (h:p:=by rw[Df]at hi;rw[Va _ _ _ hi];exact(h i hi).vI π):p:=h
def jf (h:p:=by simpa using I):p:=h
def aHh (h:p:=by intro u;cases u):p:=h
def sZ (h:p:=by intro J;cases J):p:=h
def a4l (h:p:=by simp[Op.bytesLess]at h):p:=h
def Mem (h:p:=by intro h;cases h):p:=h
def aES (h:p:=by rw[hm.hlen];exact(I5.1 h1).1):p:=h
def aOM (h:p:=by simpa using(by omega:i<(ops.map a.eval).size)):p:=h
def aAM (h:p:=by rw[World.cell?,j];rfl):p:=h
def a7J (h:p:=by constructor<;>omega):p:=h
def aqr (h:p:=by simpa using hk):p:=h
def a0U (h:p:=by simpa using hs):p:=h
def aOr (h:p:=by rw[h2];exact⟨rfl,rfl,rfl,Eb _,λ_ _=>rfl⟩):p:=h
def aVe (h:p:=by cases h;exact .ret (Et [(0,false),AV 5])):p:=h
def aUf (h:p:=by rw[ha];exact EK (aO _ _) (by rw[H6];omega)):p:=h
def aHy (h:p:=by rw[←h.len];exact(Ir.1 h1).1):p:=h
def aLO (h:p:=by obtain⟨a,_,rfl⟩:=Ez.1 u;rfl):p:=h
def aVI (h:p:=by have :=vX s ⟨k,key,0⟩;unfold Fh at *;omega):p:=h
def a7j (h:p:=by rw[map_take hi,ha]):p:=h
def aKz (h:p:=by simp[sizeOf,typeInfo,hi,hs]):p:=h
def a1P (h:p:=by simp[underlying,hu]):p:=h
def aCK (h:p:=by first|exact J|kernel_rfl):p:=h
def aQq (h:p:=by simp[Value.cells,List.getD,Array.getD,q]):p:=h
def fO (h:p:=by simp[hl]):p:=h
def aLA (h:p:=by have :=eq_of_beq h;omega):p:=h
def a5p (h:p:=by simpa using this):p:=h
def a02 (h:p:=by simpa using J):p:=h
def aDR (h:p:=by rw[hb1];exact(I5.1 M).1):p:=h
def aHi (h:p:=by rw[Bd.af9]at J;exact J):p:=h
def a7i (h:p:=by rw[Df];exact hi):p:=h
def aTv (h:p:=by unfold Ll at j;rw[ES hl]at j;exact j):p:=h
def aTc (h:p:=by simp[Array.getD,hil]at hf ⊢;exact hf):p:=h
def aHJ (h:p:=by simp[underlying,hE.und]):p:=h
def aS7 (h:p:=by obtain⟨a,_,rfl⟩:=Ez.1 hy;exact hc a):p:=h
def aVg (h:p:=by unfold UA at j;rw[Ei,Ei]at j;omega):p:=h
def dc (h:p:=by cases h'):p:=h
def a5o (h:p:=by simpa using hm):p:=h
def aQ1 (h:p:=by rw[zu];exact fuel_lt (by decide)):p:=h
def aQe (h:p:=by simp[stepG,stepG.exec,Frame.atR]):p:=h
def aKZ (h:p:=by simp[List.getD,bT e]):p:=h
def a5c (h:p:=by simp[flat]at hi):p:=h
def aEC (h:p:=by simp[List.getD,KJ e]):p:=h
def aJR (h:p:=by simpa[EF]using q.symm):p:=h
def aA7 (h:p:=by rw[JQ];omega):p:=h
def aJf (h:p:=by have :=h.len';omega):p:=h
def jm (h:p:=by simp[h1]):p:=h
def aHQ (h:p:=by rw[hm.hlen];exact h1):p:=h
def aBw (h:p:=by simp[World.setRow]):p:=h
def aKs (h:p:=by have :=h.len;omega):p:=h
def aAb (h:p:=by apply aS0;simp):p:=h
def uS (h:p:=by rw[e];rfl):p:=h
def wI (h:p:=by rw[z];rfl):p:=h
def a5W (h:p:=by simp[go_sem]):p:=h
def a6C (h:p:=by rw[JD];exact h):p:=h
def a2X (h:p:=by simpa using hp):p:=h
def aIq (h:p:=by rw[Ei];simp;omega):p:=h
def aCY (h:p:=by simp[underlying,ht]):p:=h
def aD8 (h:p:=by rw[Ei,Oe];omega):p:=h
def aGS (h:p:=by have :=Nc h1;omega):p:=h
def aHf (h:p:=by rw[←h.len];exact hi):p:=h
def aKa (h:p:=by simp[execOp,j];rfl):p:=h
def aHk (h:p:=by simp[underlying,j]):p:=h
def aHO (h:p:=by simp[underlying,q]):p:=h
def aDf (h:p:=by rw[Ei]at hi;omega):p:=h
def aJt (h:p:=by rw[bP];simp;omega):p:=h
def aKS (h:p:=by simp[List.getD,u]):p:=h
def a7a (h:p:=by simp[xk,e]):p:=h
def a0V (h:p:=by simp at L):p:=h
def aHP (h:p:=by rw[aDq j J];simp):p:=h
def wV (h:p:=by simp at j):p:=h
def yG (h:p:=by simp at z):p:=h
def aH8 (h:p:=by rw[I]at q;omega):p:=h
def aLR (h:p:=by intro L;cases L):p:=h
def aIY (h:p:=by intro U;cases U):p:=h
end
abbrev D6:=Value.int .i64
def Ad:=@Option.bind_some
def BG:=@congrArg
def BR:=@cond_false
def Dt:=@Nat.le_of_ble_eq_true
def Ei:=@List.length_append
def Bl:=@cond_true
def ES:=@List.getElem?_eq_getElem
def Df:=@List.length_map
def Dj:=@Bool.and_eq_true
def Oe:=@List.length_singleton
def E5:=@Option.some.inj
def EY:=@List.getElem_mem
def Ho:=@List.eq_nil_of_length_eq_zero
def Ez:=@List.mem_map
def EK:=@Nat.le_trans
def I5:=@List.getElem?_eq_some_iff
def FQ:=@List.all_eq_true
def Ir:=@Array.getElem?_eq_some_iff
def G8:=@List.getElem_of_mem
def H6:=@List.length_take
def Eb:=@Nat.le_refl
def J9:=@List.pairwise_iff_getElem
def GK:=@List.length_cons
def Gt:=@List.mem_cons_self
def Gy:=@List.take_length
def GU:=@Go.Result.andThen_ok
def FP:=@List.mem_cons
def G7:=@List.not_mem_nil
def FU:=@Bool.not_true
def Fv:=@List.foldl_cons
def Jt:=@Array.getD_eq_getD_getElem?
def IZ:=@List.mem_cons_of_mem
def KJ:=@List.getElem?_append_left
def F7:=@Nat.zero_le
def Gx:=@List.mem_filter
def Nv:=@List.take_succ_eq_append_getElem
def GX:=@Bool.true_and
def G9:=@Go.Sem.run_bind
def Gs:=@List.map_cons
def Iz:=@decide_eq_true_eq
def I8:=@List.mem_append
def IC:=@decide_eq_false
def JI:=@List.mem_singleton
def J6:=@Go.Proofs.Tryz.underlying3
def Lu:=@List.length_filter_le
def JU:=@List.append_assoc
def JQ:=@List.nil_append
def NW:=@List.drop_eq_getElem_cons
def Hg:=@Go.Sem.run_pure
def Ea:=@if_pos
def JV:=@List.any_eq_true
def La:=@Nat.mul_le_mul_right
def Eh:=@if_neg
def JY:=@List.map_append
def Q7:=@List.length_nil
abbrev Aw:=IntKind.i64.wrap
def bP (n:Int):Aw n=(n+9223372036854775808)%18446744073709551616-9223372036854775808:=Go.IntKind.wrap_i64 n
def LH:=@List.getElem?_map
def QG:=@List.getElem?_append_right
def Jl:=@Bool.not_false
def Nc:=@of_decide_eq_false
def KN:=@List.nodup_cons
def KD:=@Option.map_some
def Oo:=@List.getElem?_eq_none
def Lh:=@Go.RowKit.Below.heap_alloc
def Ld:=@List.length_drop
def Ur:=@Nat.add_assoc
def KL:=@decide_eq_true
def WQ:=@Nat.add_comm
def SX:=@Option.isSome_iff_exists
def Vg:=@Array.getElem?_setIfInBounds_ne
def Qj:=@List.take_of_length_le
def Qi:=@Go.MapKept.run_getObj_map
def OM:=@Option.some.injEq
def Ov:=@List.flatMap_cons
def TI:=@List.getElem?_take_of_lt
def Nz:=@Option.getD_some
def Ws:=@Array.all_eq_true_iff_forall_mem
def Ky:=@Nat.zero_add
def Ug:=@List.mem_of_find?_eq_some
def Oi:=@Go.Proofs.Tryz.underlying9
def P7:=@of_decide_eq_true
def QB:=@List.pairwise_cons
def PL:=@List.drop_length
def Px:=@List.getElem_map
def Ox:=@Bool.eq_iff_iff
def QD:=@Go.Proofs.Tryz.underlying38
def Qy:=@List.filter_append
def NV:=@Bool.or_false
def SB:=@Option.toList_some
def X5:=@List.nodup_iff_pairwise_ne
def Ny:=@Bool.and_true
def UU:=@List.take_append_drop
def TU:=@Bool.false_eq_true
def Uz:=@Array.length_toList
def VD:=@List.filterMap_cons
def Uc:=@List.filter_sublist
def bF:=@Array.getElem?_append_left
def MZ:=@beq_iff_eq
def Ux:=@Nat.eq_zero_or_pos
def Wv:=@Go.World.putObj_heap_same
def RZ:=@List.append_nil
def V9:=@Bool.not_eq_true'
def Uk:=@List.foldl_append
def Us:=@List.take_add_one
def V3:=@Go.Proofs.Tryz.underlying45
def LP:=@if_false
def YS:=@Go.World.putObj_heap_other
def Qv:=@Bool.false_or
def bT:=@List.getElem?_set_ne
def Pz:=@Nat.add_zero
def QJ:=@Nat.le_of_eq
def Vd:=@List.getElem?_drop
def pO:=@Array.eq_empty_of_size_eq_zero
def TF:=@Go.run_equalIn_int
def Um:=@List.mem_flatMap
def VK:=@List.foldlM_cons
def VH:=@List.filter_cons
def VJ:=@beq_self_eq_true
def KP:=@if_true
def Wi:=@Go.Proofs.Tryz.underlying32
def ah:=@Array.getElem?_modify
def Qk:=@Bool.or_true
def YI:=@Nat.lt_of_lt_of_le
def fA:=@List.getElem?_cons_zero
def Z7:=@List.mem_of_getElem?
def YU:=@List.mem_of_mem_take
def Yt:=@List.pairwise_append
def sF:=@List.takeWhile_append_dropWhile
def eA:=@Option.map_eq_some_iff
def dM:=@List.findIdx_lt_length
def XI:=@Int.toNat_natCast
def YH:=@List.findIdx_cons
def Y6:=@bne_self_eq_false
def X6:=@Go.Proofs.Tryz.underlying34
def lY:=@Classical.byContradiction
def oV:=@Array.getElem?_eq_getElem
def fQ:=@List.filterMap_append
def X7:=@Nat.le_of_not_lt
def XM:=@List.ext_getElem
def VZ:=@Go.heap_alloc_new
def Qs:=@Go.wpS_region
def l9:=@Option.bind_eq_some_iff
def lV:=@List.getElem?_cons_succ
def jw:=@decide_eq_false_iff_not
def Zn:=@List.pairwise_map
def Z9:=@List.any_eq_false
def Zp:=@List.filter_congr
def Xr:=@List.find?_cons
def Vz:=@Prod.mk.injEq
def uZ:=@List.getD_eq_getElem?_getD
def Z4:=@Bool.not_eq_true
def ZN:=@Nat.lt_succ_self
def aP:=@List.cons_append
def Zk:=@Go.Proofs.Tryz.underlying4
def dX:=@List.mem_filterMap
def qF:=@Array.toArray_toList
def Vl:=@Nat.mul_comm
def ZT:=@Bool.or_eq_true
def kQ:=@Go.World.alloc_heap_new
def gZ:=@List.getElem_take
def lN:=@List.length_pos_iff
def pq:=@List.map_congr_left
def nP:=@Array.getElem?_push
def nS:=@List.filter_eq_self
def aG:=@List.nodup_nil
def yV:=@Array.getElem?_toList
def jX:=@List.length_set
def iw:=@Go.Oper.upon_enter
def a0u:=@Go.Lib.wpList_append_run
def gQ:=@Nat.not_lt_zero
def aV:=@List.map_take
def kR:=@Go.Value.slice.injEq
def ku:=@List.ext_getElem?
def aGx:=@Function.comp_def
def qO:=@List.nodup_append
def vV:=@Nat.div_lt_of_lt_mul
def zo:=@List.mem_append_left
def aEz:=@List.set_eq_take_append_cons_drop
def Ui:=@Go.wpIn_mono
def fG:=@Go.Oper.wpIn_mono
def Qd:=@Go.wpS_seq
def fU:=@Go.wp_region_list
def pI:=@Go.IntKind.wrap_u64
def a2z:=@List.getElem_append_left
def iy:=@List.map_drop
def VY:=@Go.mem_ready
def aDS:=@List.eq_nil_iff_forall_not_mem
def kJ:=@beq_false_of_ne
def jr:=@Go.IntKind.wrap_u8
def qI:=@List.sum_append
def vC:=@Go.Proofs.Tryz.underlying102
def aB6:=@List.drop_of_length_le
def a15:=@List.findIdx_le_length
def uN:=@Go.Proofs.Tryz.underlying27
def uT:=@Nat.lt_trichotomy
def SPr:=@Go.Proofs.Tryz.underlying22
def rE:=@Go.Proofs.Tryz.underlying79
def lu:=@List.mem_range
def dR:=@Nat.succ_mul
def jP:=@List.map_map
def a4T:=@Nat.eq_of_beq_eq_true
def aFI:=@Array.getElem?_setIfInBounds
def a2j:=@List.mem_append_right
def a4Y:=@Bool.or_eq_false_iff
def aFs:=@Array.toList_setIfInBounds
def jk:=@Go.Oper.semAt_eq
def gu:=@Nat.add_mul
def a5N:=@List.toList_toArray
def aK4:=@Array.mapM_eq_mapM_toList
def yh:=@Nat.min_eq_left
def qx:=@Go.Proofs.Tryz.zeroValue3
def zX:=@List.take_left'
def xU:=@List.find?_some
def a1o:=@List.getElem?_take
def a7s:=@Go.grownCap_le_maxLen
def kW:=@Go.Addr.add_lit
def kK:=@Nat.lt_or_ge
def aBH:=@List.find?_eq_none
def uD:=@Bool.false_and
def aIi:=@List.pairwise_singleton
def a3i:=@Go.World.ownsRow_nil
def a3R:=@List.size_toArray
def aA0:=@Go.Proofs.Tryz.underlying82
def aM5:=@List.findIdx?_eq_some_iff_getElem
def aIE:=@List.filter_eq_nil_iff
def nX:=@Nat.mul_one
def aDT:=@List.dropWhile_sublist
def aLM:=@List.not_of_lt_findIdx
def aFB:=@ByteArray.size_extract
def uh:=@List.sum_cons
def a3h:=@Go.Proofs.Tryz.underlying5
def a5m:=@List.perm_middle
def dP:=@Array.ext
def a1G:=@Nat.div_add_mod
def qR:=@Nat.mod_lt
def sV:=@Go.Proofs.Tryz.sizeOf3
def a5v:=@Go.Proofs.Tryz.zeroValue5
def a7U:=@Go.Proofs.Tryz.zeroValue9
def a5w:=@Go.Proofs.Tryz.zeroValue4
def a7T:=@List.cons.injEq
def aTh:=@List.Nodup.length_le_of_subset
def aAg:=@List.range_succ
def aCn:=@List.mem_of_mem_drop
def yj:=@Bool.not_not
def aJy:=@Go.callsIn_of_wp_marks
def aCN:=@List.reverse_append
def aAR:=@Go.run_underlying
def a1H:=@List.drop_zero
def a1a:=@List.take_zero
def a1j:=@Nat.mul_le_mul
def yL:=@Go.setRow_heap
def yM:=@Go.Sem.run_map
def a0F:=@Go.grownCap_ge
def rU:=@Go.Proofs.Tryz.isAgg3
def aVo:=@Nat.min_def
def aVP:=@Go.run_loadCells_list
def aCh:=@Int.natCast_nonneg
def aOt:=@Array.getElem?_append_right
def aHz:=@Go.MapKept.heap_alloc
def aLG:=@Go.run_equalIn_string
def aIM:=@Nat.eq_or_lt_of_le
def aQl:=@List.dropWhile_cons_of_pos
def aUq:=@List.dropWhile_cons_of_neg
def aBa:=@Go.callsD_of_wpS
def aT0:=@Int.tmod_eq_emod_of_nonneg
def aEt:=@Go.run_storeCells_at
def aEr:=@List.getElem_drop
def aKB:=@List.find?_append
def aS0:=@Array.ext'
def aW3:=@List.mem_take_iff_getElem
def aSK:=@List.getElem?_zip_eq_some
def aLK:=@Go.World.size_alloc
def a3a:=@List.map_set
def qY:=@Go.wpS_cond
def a4O:=@getElem!_pos
def aFF:=@List.getElem_zip
def aGX:=@List.map_reverse
def aCj:=@Nat.min_le_left
def aJ2:=@List.any_append
def a2L:=@Nat.one_mul
def a1p:=@Int.le_refl
def aFr:=@List.drop_drop
def aFO:=@List.take_take
def addr_add (b o j:Nat):(⟨b,o,none⟩:Addr).add j=⟨b,o+j,none⟩:=by
 unfold Addr.add;split<;>simp_all
section
variable {P:Cm} {ops:Bh Oper} {rest:A8 Oper} {o:Oper} {a:Act} {w:Ba} {Q:Exit->Act->Ba->Prop}
def aaM (w:Ba)(ty:Bz)(b off:Nat)(cs:Bh BI)(hA:(isAgg ty).run P w=.ok true w)(z:(sizeOf ty).run P w=.ok cs.size w)(I:∀j,j<cs.size->w.cell? ⟨b,off+j,none⟩=some (cs.getD j undef)):(loadVar ty ⟨b,off,none⟩).run P w=.ok (.agg cs) w:=by
 have hl:(loadCells ⟨b,off,none⟩ cs.toList.length).run P w=.ok cs.toList.toArray w:=
  aVP (P:=P) w ⟨b,off,none⟩ cs.toList (λj v q=>by
   rw[addr_add]
   have u:j<cs.size:=by
    have :=(I5.1 q).1;simpa using this
   rw[I j u];simp only[yV]at q;simp[Array.getD,u]at q ⊢
   exact q)
 simp only[Uz,qF]at hl;simp only[loadVar,G9,hA,z,GU,KP,hl,Hg]
end
inductive D where
 |lit (v:Value)
 |agg (cs:List D)
 |sl (es:List D)
 |ref (cs:List D) (off:Nat)
 |fn (f:Fn) (first cap:List D)
 |Si (t:TypeId) (x:D)
def D.cells:D->A8 D
 | .agg cs=>cs
 |x=>[x]
def D.leaf:D->AX
 | .lit v=>v.oneCell'
 | .agg _=>false
 |_=>true
abbrev EP :D:=.lit undef
abbrev cellAt (w:Ba)(b o:Nat):BI:=(w.cell? ⟨b,o,none⟩).getD undef
inductive EN (ok:Nat->Prop) (w:World):D->Value->Prop
 |lit (v:Value):EN ok w (.lit v) v
 |agg (cs:List D) (vs:Array Value) (hl:vs.size=cs.length) (hf:∀i,i<cs.length->(cs.getD i EP).leaf=true)
  (h:∀i,i<cs.length->EN ok w (cs.getD i EP) (vs.getD i undef)):EN ok w (.agg cs) (.agg vs)
 |sl0 (ad:Option Addr) (cap:Nat):EN ok w (.sl []) (.slice ad 0 cap)
 |sl (es:List D) (b off cap size:Nat) (hcap:es.length<=cap) (hok:0<es.length->0<size->ok b) (hs:∀i,i<es.length->(es.getD i EP).cells.length=size)
  (hf:∀i,i<es.length->∀j,j<size->((es.getD i EP).cells.getD j EP).leaf=true)
  (hx:∀i,i<es.length->∀j,j<size->(w.cell? ⟨b,off+(i*size+j),none⟩).isSome=true)
  (hc:∀i,i<es.length->∀j,j<size->EN ok w ((es.getD i EP).cells.getD j EP) (cellAt w b (off+(i*size+j)))):
  EN ok w (.sl es) (.slice (some ⟨b,off,none⟩) es.length cap)
 |ref (cs:List D) (off b o:Nat) (hok:0<cs.length->ok b) (hf:∀i,i<cs.length->(cs.getD i EP).leaf=true)
  (hx:∀j,j<cs.length->(w.cell? ⟨b,o+j,none⟩).isSome=true)
  (hc:∀j,j<cs.length->EN ok w (cs.getD j EP) (cellAt w b (o+j))):EN ok w (.ref cs off) (.pointer (some ⟨b,o+off,none⟩))
 |fn (f:Fn) (first cap:List D) (vs us:Array Value) (hl:vs.size=first.length) (hm:us.size=cap.length)
  (h:∀i,i<first.length->EN ok w (first.getD i EP) (vs.getD i undef)) (h':∀i,i<cap.length->EN ok w (cap.getD i EP) (us.getD i undef)):
  EN ok w (.fn f first cap) (.func f vs us)
 |Si (t:TypeId) (x:D) (v:Value) (h:EN ok w x v):EN ok w (.Si t x) (.iface t v)
def FM (ok:Nat->Prop)(w:Ba)(ok':Nat->Prop)(w':Ba):Prop:=∀b,ok b->ok' b/\w'.heap[b]? =w.heap[b]?
def FM.refl (ok:Nat->Prop)(w:Ba):FM ok w ok w:=λ_ h=>⟨h,rfl⟩
def FM.trans {ok j q:Nat->Prop}{w z I:Ba}(h:FM ok w j z)(k:FM j z q I):FM ok w q I:=
 λb u=>⟨(k b (h b u).1).1,((k b (h b u).1).2).trans (h b u).2⟩
def FM.cell {ok ok':Nat->Prop}{w w':Ba}(h:FM ok w ok' w'){b o:Nat}(j:ok b):w'.cell? ⟨b,o,none⟩=w.cell? ⟨b,o,none⟩:=
 World.cell?_of_block (w:=w) (a:=⟨b,o,none⟩) (h b j).2
variable {ok ok':Nat->Prop}{v:BI}{w w':Ba}
def EN.mono (I:FM ok w ok' w'){x:D}(h:EN ok w x v):EN ok' w' x v:=by
 induction h with
 |lit v=>exact .lit v
 |agg cs vs hl J _ z=>exact .agg cs vs hl J z
 |sl0 ad cap=>exact .sl0 ad cap
 |sl es b off cap size L q hs J M _ z=>
  have h1:∀i j,i<es.length->j<size->ok b:=λi j hi u=>q AL AL;refine .sl es b off cap size L (λh2 h3=>(I b (q h2 h3)).1) hs J (λi hi j u=>?_) (λi hi j u=>?_)
  ·rw[I.cell (h1 i j hi u)];exact M i hi j u
  unfold cellAt;rw[I.cell (h1 i j hi u)];exact z i hi j u
 |ref cs off b o q J M _ z=>
  refine .ref cs off b o (λh2=>(I b (q h2)).1) J (λj u=>?_) (λj u=>?_)
  ·rw[I.cell (q AL)];exact M j u
  unfold cellAt;rw[I.cell (q AL)];exact z j u
 |fn f first cap vs us hl hm _ _ z O=>exact .fn f first cap vs us hl hm z O
 |Si t x v _ z=>exact .Si t x v z
def EN.shrink (hs:∀b o,ok b->(w.cell? ⟨b,o,none⟩).isSome=true->ok' b){x:D}(h:EN ok w x v):EN ok' w x v:=by
 induction h with
 |lit v=>exact .lit v
 |agg cs vs hl u _ j=>exact .agg cs vs hl u j
 |sl0 ad cap=>exact .sl0 ad cap
 |sl es b off cap size z q J u I _ j=>exact .sl es b off cap size z (λh2 h3=>hs b _ (q h2 h3) (I 0 h2 0 h3)) J u I j
 |ref cs off b o q u I _ j=>exact .ref cs off b o (λh2=>hs b _ (q h2) (I 0 h2)) u I j
 |fn f first cap vs us hl hm _ _ j L=>exact .fn f first cap vs us hl hm j L
 |Si t x v _ j=>exact .Si t x v j
def EN.leaf {ok:Nat->Prop}{w:Ba}{x:D}{v:BI}(h:EN ok w x v)(hl:x.leaf=true):v.oneCell'=true:=by
 cases h<;>first|rfl|exact hl|(simp[D.leaf]at hl)
inductive Ag where
 |d (x:D)
 |ptr (k off:Nat)
 |aS (k:Nat)
 |lW (k i off:Nat)
 |fn (f:Fn) (first cap:List Ag)
 |mp (k:Nat)
 |clip (xs:List D)
 |xW (k:Nat)
 |eX (vs:List Ag)
 |ag (vs:List Ag)
 |junk
def Ag.leaf:Ag->AX
 | .d x=>x.leaf
 | .eX _| .ag _| .junk=>false
 |_=>true
def Ag.cells:Ag->A8 Ag
 | .d x=>x.cells.map .d
 | .ag xs=>xs
 |x=>[x]
inductive Bd where
 |dead
 |box (cs:List Ag)
 |arr (e:TypeId) (size:Nat) (es:List D)
 |map (es:List (Value×D))
 |fE (es:List (Value×D))
 |iter (es:List (Value×D)) (vis:List Nat)
 |loop (tm:Array Value) (slots:List Ag) (rc:Array Tmp×Code×Code) (st:LoopState) (pe:Option Code)
def Bd.live:Bd->AX
 | .dead=>false
 |_=>true
structure CO where
 v:Value
 size:Nat:=0
inductive R (ok:Nat->Prop) (w:World) (H:List CO):Ag->Value->Prop
 |d (x:D) (v:Value) (h:EN ok w x v):R ok w H (.d x) v
 |ptr (k off b s:Nat) (h:H[k]? =some ⟨.pointer (some ⟨b,0,none⟩),s⟩):R ok w H (.ptr k off) (.pointer (some ⟨b,off,none⟩))
 |aS (k:Nat) (ad:Option Addr) (n cap s:Nat) (h:H[k]? =some ⟨.slice ad n cap,s⟩):R ok w H (.aS k) (.slice ad n cap)
 |lW (k i off b n cap s:Nat) (h:H[k]? =some ⟨.slice (some ⟨b,0,none⟩) n cap,s⟩):R ok w H (.lW k i off) (.pointer (some ⟨b,i*s+off,none⟩))
 |fn (f:Fn) (first cap:List Ag) (vs us:Array Value) (hl:vs.size=first.length) (hm:us.size=cap.length) (h:∀i,i<first.length->R ok w H (first.getD i .junk) (vs.getD i undef))
  (h':∀i,i<cap.length->R ok w H (cap.getD i .junk) (us.getD i undef)):R ok w H (.fn f first cap) (.func f vs us)
 |mp (k:Nat) (v:Value) (s:Nat) (hl:v.oneCell'=true) (h:H[k]? =some ⟨v,s⟩):R ok w H (.mp k) v
 |clip (xs:List D) (ad:Option Addr) (h:EN ok w (.sl xs) (.slice ad xs.length xs.length)):R ok w H (.clip xs) (.slice ad xs.length xs.length)
 |xW (k:Nat) (ad:Option Addr) (n cap s:Nat) (h:H[k]? =some ⟨.slice ad n cap,s⟩):R ok w H (.xW k) (.slice ad n n)
 |eX (xs:List Ag) (vs:Array Value) (hl:vs.size=xs.length) (h:∀i,i<xs.length->R ok w H (xs.getD i .junk) (vs.getD i undef)):R ok w H (.eX xs) (.tuple vs)
 |ag (xs:List Ag) (vs:Array Value) (hl:vs.size=xs.length) (hf:∀i,i<xs.length->(xs.getD i .junk).leaf=true) (h:∀i,i<xs.length->R ok w H (xs.getD i .junk) (vs.getD i undef)):R ok w H (.ag xs) (.agg vs)
 |junk (v:Value):R ok w H .junk v
def Names (H H':A8 CO):Prop:=∀(k:Nat) (v:CO),H[k]? =some v->H'[k]? =some v
def Names.refl (H:A8 CO):Names H H:=λ_ _ h=>h
def lK:=@Names.refl
variable {H H2:A8 CO}
def Names.trans {H1:A8 CO}(h:Names H H1)(k:Names H1 H2):Names H H2:=λi v j=>k i v (h i v j)
def Names.push (H H':A8 CO):Names H (H++H'):=λk v h=>by
 grind
def II:=@Names.push
def R.mono {ok ok':Nat->Prop}{w w':Ba}{H H':A8 CO}(z:FM ok w ok' w')(j:Names H H'){x:Ag}{v:BI}(h:R ok w H x v):R ok' w' H' x v:=by
 induction h with
 |d x v h=>exact .d x v (h.mono z)
 |ptr k off b s h=>exact .ptr k off b s (j _ _ h)
 |aS k ad n cap s h=>exact .aS k ad n cap s (j _ _ h)
 |lW k i off b n cap s h=>exact .lW k i off b n cap s (j _ _ h)
 |fn f first cap vs us hl hm _ _ q u=>exact .fn f first cap vs us hl hm q u
 |mp k v s hl h=>exact .mp k v s hl (j _ _ h)
 |clip xs ad h=>exact .clip xs ad (h.mono z)
 |xW k ad n cap s h=>exact .xW k ad n cap s (j _ _ h)
 |eX xs vs hl _ q=>exact .eX xs vs hl q
 |ag xs vs hl I _ q=>exact .ag xs vs hl I q
 |junk v=>exact .junk v
def R.shrink {ok ok':Nat->Prop}{w:Ba}(hs:∀b o,ok b->(w.cell? ⟨b,o,none⟩).isSome=true->ok' b){H:A8 CO}{x:Ag}{v:BI}(h:R ok w H x v):R ok' w H x v:=by
 induction h with
 |d x v h=>exact .d x v (h.shrink hs)
 |ptr k off b s h=>exact .ptr k off b s h
 |aS k ad n cap s h=>exact .aS k ad n cap s h
 |lW k i off b n cap s h=>exact .lW k i off b n cap s h
 |fn f first cap vs us hl hm _ _ j q=>exact .fn f first cap vs us hl hm j q
 |mp k v s hl h=>exact .mp k v s hl h
 |clip xs ad h=>exact .clip xs ad (h.shrink hs)
 |xW k ad n cap s h=>exact .xW k ad n cap s h
 |eX xs vs hl _ j=>exact .eX xs vs hl j
 |ag xs vs hl u _ j=>exact .ag xs vs hl u j
 |junk v=>exact .junk v
def R.leaf {ok:Nat->Prop}{w:Ba}{H:A8 CO}{x:Ag}{v:BI}(h:R ok w H x v)(hl:x.leaf=true):v.oneCell'=true:=by
 cases h with
 |d x v h=>exact h.leaf hl
 |eX=>simp[Ag.leaf]at hl
 |ag=>simp[Ag.leaf]at hl
 |junk=>simp[Ag.leaf]at hl
 |mp k v s hl h=>exact hl
 |_=>rfl
def Gz (ok:Nat->Prop)(w:Ba)(H:A8 CO)(xs:A8 Ag)(vs:A8 BI):Prop:=
 vs.length=xs.length/\∀i,i<xs.length->(xs.getD i .junk).leaf=true/\R ok w H (xs.getD i .junk) (vs.getD i undef)
def Gz.mono {ok ok':Nat->Prop}{w w':Ba}{H H':A8 CO}(j:FM ok w ok' w')(q:Names H H'){xs:A8 Ag}{vs:A8 BI}(h:Gz ok w H xs vs):Gz ok' w' H' xs vs:=
 ⟨h.1,λi hi=>⟨(h.2 i hi).1,(h.2 i hi).2.mono j q⟩⟩
def Gz.shrink {ok ok':Nat->Prop}{w:Ba}(hs:∀b o,ok b->(w.cell? ⟨b,o,none⟩).isSome=true->ok' b){H:A8 CO}{xs:A8 Ag}{vs:A8 BI}(h:Gz ok w H xs vs):Gz ok' w H xs vs:=
 ⟨h.1,λi hi=>⟨(h.2 i hi).1,(h.2 i hi).2.shrink hs⟩⟩
def flat (es:A8 D):A8 Ag:=es.flatMap λx=>x.cells.map .d
def nC (w:Ba)(e:Bz)(size:Nat)(v:BI)(n:Nat)(xs:A8 BI):Prop:=
 xs.length=n*size/\
 ((v=.slice none 0 0/\n=0)\/
  ∃g cap j,v=.slice (some ⟨g,0,none⟩) n cap/\0<=g/\w.heap[g]? =some (.cells j e (0,0))/\n<=cap/\cap<=maxLen/\cap*size<=j.size/\j.toList.take (n*size)=xs)
variable {e:Bz}{n size:Nat}{xs:A8 BI}
def nC.of {base:Nat}(h:w.ownsRow base e size v n xs):nC w e size v n xs:=by
 refine⟨h.1,?_⟩;rcases h.2 with h2|⟨g,cap,j,h2,h3,q,u,z,I,J⟩
 ·exact .inl h2
 grind
def nC.cells (h:nC w e size v n xs){g:Nat}(z:v.ownBlock=some g):∀j u,xs[j]? =some u->w.cell? ((⟨g,0,none⟩:Addr).add j)=some u:=by
 intro j u O;rcases h.2 with⟨rfl,_⟩|⟨I,cap,J,rfl,_,L,_,_,_,M⟩
 ·simp[Value.ownBlock]at z
 simp[Value.ownBlock]at z;subst z;have q:(⟨I,0,none⟩:Addr).add j=⟨I,j,none⟩:=by unfold Addr.add;split<;>simp_all
 rw[q,cell_of_row w I j J e (0,0) L]
 grind
structure Kt (ok:Nat->Prop) (w:World) (es:List (Value×D)) (ms:Array MapEntry) (clock:Nat):Prop where
 len:ms.size=es.length
 ent:∀(i:Nat) (e:Value×D) (m:MapEntry),es[i]? =some e->ms[i]? =some m->m.key=e.1/\EN ok w e.2 m.val/\m.born<clock
 inc:∀(i j:Nat) (m n:MapEntry),i<j->ms[i]? =some m->ms[j]? =some n->m.born<n.born
def TQ (ms:Bh MapEntry)(clock:Nat):Prop:=clock=ms.size/\∀(i:Nat) (e:MapEntry),ms[i]? =some e->e.born=i
def Fl (ok:Nat->Prop)(w:Ba)(H:A8 CO)(h:CO):Bd->Prop
 | .dead=>True
 | .box cs=>∃b vs T,h.v=.pointer (some ⟨b,0,none⟩)/\w.heap[b]? =some (.cells vs T (0,0))/\Gz ok w H cs vs.toList
 | .arr e size es=>h.size=size/\(∀x∈es,x.cells.length=size)/\∃xs,nC w e size h.v es.length xs/\Gz ok w H (flat es) xs
 | .map es=>∃b ms clock,h.v=.map (some b)/\w.heap[b]? =some (.map ms clock)/\Kt ok w es ms clock
 | .fE es=>∃b ms clock,h.v=.map (some b)/\w.heap[b]? =some (.map ms clock)/\Kt ok w es ms clock/\TQ ms clock
 | .iter es vis=>∃bi q ms clock seen,h.v=.pointer (some ⟨bi,0,none⟩)/\w.heap[bi]? =some (.mapIter (some q) clock seen clock)/\ok q/\w.heap[q]? =some (.map ms clock)/\Kt ok w es ms clock/\
  seen.size=vis.length/\∀(j i:Nat),vis[j]? =some i->∃e,ms[i]? =some e/\seen[j]? =some e.born
 | .loop tm slots rc st u=>∃l fn D,h.v=.func (.yield l) #[] #[]/\w.heap[l]? =some (.loop { state:=st,pending:=u,fn,tmps:=tm,params:=rc.1,assign:=rc.2.1,body:=rc.2.2,defers:=D })/\tm.size=slots.length/\∀t,t<slots.length->R ok w H (slots.getD t .junk) (tm.getD t undef)
def EF :BI->AB Nat
 | .pointer (some a)=>some a.block
 | .slice (some a) _ _=>some a.block
 | .map (some b)=>some b
 | .func (.yield l) _ _=>some l
 |_=>none
structure yR (w0:World) (X:List Nat) (w:World):Prop where
 os:w.os=w0.os
 tape:w.tape=w0.tape
 output:w.output=w0.output
 size:w0.heap.size<=w.heap.size
 block:∀k,k<w0.heap.size->k∉X->w.heap[k]? =w0.heap[k]?
def yR.refl (w:Ba)(X:A8 Nat):yR w X w:=⟨rfl,rfl,rfl,Eb _,λ_ _ _=>rfl⟩
def yR.below {w0:Ba}(h:yR w0 [] w):Below w0.heap.size w0 w:=⟨h.os,h.tape,h.output,h.size,λk j=>h.block k j Bf⟩
structure FC where
 w0:World
 ok0:Nat->Prop
 X:List Nat
 H0:List CO
structure Dz (C:FC) (ok:Nat->Prop) (H:List CO) (es:List Bd) (w:World):Prop where
 fr:yR C.w0 C.X w
 CS:∀b,C.ok0 b->ok b
 CU:∀b,ok b->C.ok0 b\/C.w0.heap.size<=b\/b∈C.X
 lH:∀b,ok b->b<w.heap.size
 names:Names C.H0 H
 hlen:H.length=es.length
 ent:∀(k:Nat) (e:Bd) (h:CO),es[k]? =some e->H[k]? =some h->Fl ok w H h e
 blk:∀(k:Nat) (e:Bd) (h:CO) (b:Nat),es[k]? =some e->e.live=true->H[k]? =some h->EF h.v=some b->¬ok b/\b<w.heap.size/\(C.w0.heap.size<=b\/b∈C.X)
 Jk:∀(k k':Nat) (e e':Bd) (h h':CO) (b:Nat),es[k]? =some e->es[k']? =some e'->e.live=true->e'.live=true->H[k]? =some h->H[k']? =some h'->EF h.v=some b->EF h'.v=some b->k=k'
def Fl.mono {ok ok':Nat->Prop}{w w':Ba}{H H':A8 CO}{h:CO}{e:Bd}(q:FM ok w ok' w')(L:Names H H')(z:e.live=true->∀b,EF h.v=some b->w'.heap[b]? =w.heap[b]?)(I:Fl ok w H h e):Fl ok' w' H' h e:=by
 cases e with
 |dead=>trivial
 |box cs=>
  obtain⟨b,vs,T,h1,h2,h3⟩:=I;exact⟨b,vs,T,h1,aHD,h3.mono q L⟩
 |arr e s es=>
  obtain⟨h1,h2,xs,⟨h3,j⟩,u⟩:=I;refine⟨h1,h2,xs,⟨h3,?_⟩,u.mono q L⟩;rcases j with j|⟨g,cap,M,J,O,Y,Z⟩
  ·exact .inl j
  exact .inr ⟨g,cap,M,J,O,by rw[z rfl g (by rw[J];rfl)];exact Y,Z⟩
 |map es=>
  obtain⟨b,ms,clock,h1,h2,h3⟩:=I;exact⟨b,ms,clock,h1,aHD,h3.len,λi e m hi hm=>⟨(h3.ent i e m hi hm).1,(h3.ent i e m hi hm).2.1.mono q,(h3.ent i e m hi hm).2.2⟩,h3.inc⟩
 |fE es=>
  obtain⟨b,ms,clock,h1,h2,h3,j⟩:=I;exact⟨b,ms,clock,h1,aHD,⟨h3.len,λi e m hi hm=>⟨(h3.ent i e m hi hm).1,(h3.ent i e m hi hm).2.1.mono q,(h3.ent i e m hi hm).2.2⟩,h3.inc⟩,j⟩
 |iter es vis=>
  obtain⟨bi,U,ms,clock,seen,h1,h2,h3,j,u,J,O⟩:=I;exact⟨bi,U,ms,clock,seen,h1,by rw[z rfl bi tX];exact h2,(q U h3).1,by rw[(q U h3).2];exact j,⟨u.len,λi e m hi hm=>⟨(u.ent i e m hi hm).1,(u.ent i e m hi hm).2.1.mono q,(u.ent i e m hi hm).2.2⟩,u.inc⟩,J,O⟩
 |loop tm slots rc st pe=>
  obtain⟨l,fn,D,h1,h2,h3,j⟩:=I;exact⟨l,fn,D,h1,by rw[z rfl l tX];exact h2,h3,λt ht=>(j t ht).mono q L⟩
def Fl.shrink {ok ok':Nat->Prop}{w:Ba}(hs:∀b o,ok b->(w.cell? ⟨b,o,none⟩).isSome=true->ok' b)(z:∀(b:Nat) (ms:Bh MapEntry) (c:Nat),ok b->w.heap[b]? =some (.map ms c)->ok' b){H:A8 CO}{h:CO}{e:Bd}(q:Fl ok w H h e):Fl ok' w H h e:=by
 cases e with
 |dead=>trivial
 |box cs=>
  obtain⟨b,vs,T,h1,h2,h3⟩:=q;exact⟨b,vs,T,h1,h2,h3.shrink hs⟩
 |arr e s es=>
  obtain⟨h1,h2,xs,h3,j⟩:=q;exact⟨h1,h2,xs,h3,j.shrink hs⟩
 |map es=>
  obtain⟨b,ms,clock,h1,h2,h3⟩:=q;exact⟨b,ms,clock,h1,h2,h3.len,λi e m hi hm=>⟨(h3.ent i e m hi hm).1,(h3.ent i e m hi hm).2.1.shrink hs,(h3.ent i e m hi hm).2.2⟩,h3.inc⟩
 |fE es=>
  obtain⟨b,ms,clock,h1,h2,h3,u⟩:=q;exact⟨b,ms,clock,h1,h2,⟨h3.len,λi e m hi hm=>⟨(h3.ent i e m hi hm).1,(h3.ent i e m hi hm).2.1.shrink hs,(h3.ent i e m hi hm).2.2⟩,h3.inc⟩,u⟩
 |iter es vis=>
  obtain⟨bi,I,ms,clock,seen,h1,h2,h3,u,j,J,L⟩:=q;exact⟨bi,I,ms,clock,seen,h1,h2,z I ms clock h3 u,u,⟨j.len,λi e m hi hm=>⟨(j.ent i e m hi hm).1,(j.ent i e m hi hm).2.1.shrink hs,(j.ent i e m hi hm).2.2⟩,j.inc⟩,J,L⟩
 |loop tm slots rc st O=>
  obtain⟨l,fn,D,h1,h2,h3,u⟩:=q;exact⟨l,fn,D,h1,h2,h3,λt M=>(u t M).shrink hs⟩
variable {h:CO}
def Fl.drew {e:Bd}(j:Fl ok w H h e):Fl ok { w with drawn:=n } H h e:=
 Fl.mono (w:=w) (ok:=ok) (λ_ q=>⟨q,rfl⟩) (.refl _) (λ_ _ _=>rfl) j
def CM (P:Cm)(o:Oper)(ns:A8 (CB×Ag))(es:A8 Bd)(x:Ag)(es':A8 Bd):Prop:=
 ∀(C:FC) (ok:Nat->Prop) (H:A8 CO) (a:Act) (w:Ba) (Q:Exit->Act->Ba->Prop),
  Dz C ok H es w->(∀n∈ns,R ok w H n.2 (a.eval n.1))->
  o.wp P a w (λa' w'=>∃v ok' H',a'=a.put o.dst v/\FM ok w ok' w'/\Names H H'/\Dz C ok' H' es' w'/\R ok' w' H' x v) Q
variable {P:Cm}{es:A8 Bd}{ns:A8 (CB×Ag)}{o:Oper}{x:Ag}
def CM.pure (h:∀(ok:Nat->Prop) (H:A8 CO) (a:Act) (w:Ba),(∀(k:Nat) (e:Bd) (h:CO),es[k]? =some e->H[k]? =some h->Fl ok w H h e)->H.length=es.length->(∀n∈ns,R ok w H n.2 (a.eval n.1))->∃v,(execOp a.eval o).run P w=.ok (.value v) w/\R ok w H x v):CM P o ns es x es:=by
 intro C ok H a w Q hm j;obtain⟨v,q,u⟩:=h ok H a w hm.ent hm.hlen j;unfold Oper.wp;rw[q];exact⟨v,ok,H,rfl,.refl _ _,.refl _,hm,u⟩
structure BQ where
 slots:List Ag
 ents:List Bd
 base:Nat:=0
def BQ.get (σ:BQ):CB->Ag
 | .tmp t=>σ.slots.getD t .junk
 | .const v=>.d (.lit v)
 | .global g=>.d (.lit (.pointer (some ⟨g,0,none⟩)))
 | .func f=>.d (.fn (.func f) [] [])
def BQ.put (σ:BQ)(d:AB Tmp)(x:Ag)(es:A8 Bd):BQ:=
 ⟨match d with |some t=>σ.slots.set t x|none=>σ.slots,es,σ.base⟩
def BQ.tV (σ:BQ)(d:AB Tmp)(x:Ag):BQ:=
 ⟨match d with |some t=>σ.slots.set t x|none=>σ.slots,σ.ents,σ.base⟩
def BQ.ard (σ:BQ)(d:AB Tmp)(x:Ag):σ.tV d x=σ.put d x σ.ents:=rfl
def Marks (C:FC)(ok:Nat->Prop)(w:Ba)(j:A8 Deferred):Prop:=
 ∃Ds:A8 Nat,j=Ds.map (λD=>{ target:=.collected D,args:= #[] })/\Ds.Nodup/\∀D∈Ds,ok D/\C.w0.heap.size<=D/\w.heap[D]? =some (.deferred (some []))
def Marks.nil (C:FC)(ok:Nat->Prop)(w:Ba):Marks C ok w []:=⟨[],rfl,aG,λ_ h=>Gv⟩
variable {C:FC}
def Marks.mono {q:A8 Deferred}(h:Marks C ok w q)(u:FM ok w ok' w'):Marks C ok' w' q:=by
 obtain⟨Ds,h1,h2,h3⟩:=h;exact⟨Ds,h1,h2,λD j=>⟨(u D (h3 D j).1).1,(h3 D j).2.1,((u D (h3 D j).1).2).trans (h3 D j).2.2⟩⟩
structure Holds (C:FC) (ok:Nat->Prop) (H:List CO) (σ:BQ) (a:Act) (w:World):Prop where
 mem:Dz C ok H σ.ents w
 size:a.tmps.size=σ.slots.length
 defers:Marks C ok w a.defers
 base:C.H0.length=σ.base
 slot:∀t,t<σ.slots.length->R ok w H (σ.slots.getD t .junk) (a.tmps.getD t undef)
def aSG {l:A8 Ag}{t:Nat}(h:¬t<l.length):l.getD t .junk=.junk:=by
 simp[List.getD,Oo (X7 h)]
variable {a:Act}{σ:BQ}
def Holds.get (h:Holds C ok H σ a w)(x:CB):R ok w H (σ.get x) (a.eval x):=by
 cases x with
 |tmp t=>
  show R ok w H (σ.slots.getD t .junk) (a.tmps.getD t undef);by_cases j:t<σ.slots.length
  ·exact h.slot t j
  rw[aSG j];exact .junk _
 |const v=>exact .d _ _ (.lit v)
 |global g=>exact .d _ _ (.lit _)
 |func f=>exact .d _ _ (.fn (.func f) [] [] #[] #[] rfl rfl (λi hi=>Tf) (λi hi=>Tf))
def Holds.put {C:FC}{ok ok':Nat->Prop}{H H':A8 CO}{σ:BQ}{a:Act}{w w':Ba}(h:Holds C ok H σ a w)(d:AB Tmp){x:Ag}{v:BI}{es':A8 Bd}(q:FM ok w ok' w')(I:Names H H')(hm:Dz C ok' H' es' w')(J:R ok' w' H' x v):Holds C ok' H' (σ.put d x es') (a.put d v) w':=by
 cases d with
 |none=>exact⟨hm,h.size,h.defers.mono q,h.base,λt j=>(h.slot t j).mono q I⟩
 |some d=>
  refine⟨hm,by simp[BQ.put,Act.put,h.size],h.defers.mono q,h.base,λt j=>?_⟩;simp only[BQ.put,jX]at j;simp only[BQ.put,Act.put];by_cases e:d=t
  ·subst e;have u:(σ.slots.set d x).getD d .junk=x:=vG
   have z:(a.tmps.setIfInBounds d v).getD d undef=v:=by simp[Array.getD,h.size,j]
   rw[u,z];exact J
  have u:(σ.slots.set d x).getD t .junk=σ.slots.getD t .junk:=aKZ
  have z:(a.tmps.setIfInBounds d v).getD t undef=a.tmps.getD t undef:=by simp[Jt,Vg e]
  rw[u,z];exact(h.slot t j).mono q I
def Ag.vI (π:A8 (Nat×AX)):Ag->Ag
 | .d x=>.d x
 | .ptr k off=>match π.idxOf? (k,true)with |some j=>.ptr j off|none=>.junk
 | .aS k=>match π.idxOf? (k,true)with |some j=>.aS j|none=>.junk
 | .lW k i off=>match π.idxOf? (k,true)with |some j=>.lW j i off|none=>.junk
 | .mp k=>match π.idxOf? (k,true)with |some j=>.mp j|none=>.junk
 | .xW k=>match π.idxOf? (k,true)with |some j=>.xW j|none=>.junk
 | .clip xs=>.clip xs
 |_=>.junk
def Ag.back (π:A8 (Nat×AX)):Ag->Ag
 | .fn f first cap=>.fn f (first.map (Ag.vI π)) (cap.map (Ag.vI π))
 | .eX vs=>.eX (vs.map (Ag.vI π))
 |x=>x.vI π
def Bd.back (π:A8 (Nat×AX)):Bd->Bd
 | .dead=>.dead
 | .box cs=>.box (cs.map (Ag.vI π))
 | .arr e s es=>.arr e s es
 | .map es=>.map es
 | .fE es=>.fE es
 | .iter es vis=>.iter es vis
 | .loop tm slots rc st j=>.loop tm (slots.map (Ag.back π)) rc st j
variable {j k:Nat}{π:A8 (Nat×AX)}
def yC (q:π.idxOf? (k,true)=some j)(u:H[k]? =some h):(π.map λp=>H.getD p.1 ⟨undef,0⟩)[j]? =some h:=by
 rw[List.idxOf?,aM5]at q
 grind
def R.vI {ok:Nat->Prop}{w:Ba}{H:A8 CO}(π:A8 (Nat×AX)){x:Ag}{v:BI}(h:R ok w H x v):R ok w (π.map λp=>H.getD p.1 ⟨undef,0⟩) (x.vI π) v:=by
 cases h with
 |d x v h=>exact .d x v h
 |ptr k off b s h=>
  simp only[Ag.vI];split<;>rename_i j q
  ·exact .ptr _ off b s (yC q h)
  exact .junk _
 |aS k ad n cap s h=>
  simp only[Ag.vI];split<;>rename_i j q
  ·exact .aS _ ad n cap s (yC q h)
  exact .junk _
 |lW k i off b n cap s h=>
  simp only[Ag.vI];split<;>rename_i j q
  ·exact .lW _ i off b n cap s (yC q h)
  exact .junk _
 |mp k v s hl h=>
  simp only[Ag.vI];split<;>rename_i j q
  ·exact .mp _ v s hl (yC q h)
  exact .junk _
 |clip xs ad h=>exact .clip xs ad h
 |xW k ad n cap s h=>
  simp only[Ag.vI];split<;>rename_i j q
  ·exact .xW _ ad n cap s (yC q h)
  exact .junk _
 |fn f first cap vs us hl hm h h'=>exact .junk _
 |eX xs vs hl h=>exact .junk _
 |ag xs vs hl u h=>exact .junk _
 |junk v=>exact .junk _
def Va (f:Ag->Ag)(l:A8 Ag)(i:Nat)(h:i<l.length):(l.map f).getD i .junk=f (l.getD i .junk):=by
 simp[List.getD,h]
def R.back (π:A8 (Nat×AX))(h:R ok w H x v):R ok w (π.map λp=>H.getD p.1 ⟨undef,0⟩) (x.back π) v:=by
 cases h with
 |fn f first cap vs us hl hm h h'=>
  exact .fn f _ _ vs us fO (by simp[hm]) (λi hi=>aM9) (λi hi=>by rw[Df]at hi;rw[Va _ _ _ hi];exact(h' i hi).vI π)
 |eX xs vs hl h=>exact .eX _ vs fO (λi hi=>aM9)
 |ag xs vs hl j h=>exact .junk _
 |d x v h=>exact(R.d x v h).vI π
 |ptr k off b s h=>exact(R.ptr k off b s h).vI π
 |aS k ad n cap s h=>exact(R.aS k ad n cap s h).vI π
 |lW k i off b n cap s h=>exact(R.lW k i off b n cap s h).vI π
 |mp k v s hl h=>exact(R.mp k v s hl h).vI π
 |clip xs ad h=>exact(R.clip xs ad h).vI π
 |xW k ad n cap s h=>exact(R.xW k ad n cap s h).vI π
 |junk v=>exact .junk _
def Bd.backOk (π:A8 (Nat×AX)):Bd->AX
 | .box cs=>cs.all λx=>(x.vI π).leaf
 |_=>true
def WC (base:Nat)(es:A8 Bd)(π:A8 (Nat×AX)):AX:=
 π.all (λp=>p.1<es.length)&&decide ((π.filterMap λp=>if p.2 then some p.1 else none).Nodup)&&((π.take base).map (·.1)==List.range base)&&π.all λp=>(es.getD p.1 .dead).backOk π
def U0 (es:A8 Bd)(π:A8 (Nat×AX)):A8 Bd:=π.map λp=>if p.2 then(es.getD p.1 .dead).back π else .dead
def aP0 :∀{π:A8 (Nat×AX)},(π.filterMap λp=>if p.2 then some p.1 else none).Nodup->∀(i j k:Nat),π[i]? =some (k,true)->π[j]? =some (k,true)->i=j
 | [],_,i,j,k,h,_=>JB
 |p::π,z,i,j,k,hi,u=>by
  have q:∀(n:Nat),π[n]? =some (k,true)->k∈π.filterMap λp=>if p.2 then some p.1 else none:=λn h=>by
   grind
  have I:(π.filterMap λp=>if p.2 then some p.1 else none).Nodup:=by
   grind
  match i,j with
  |0,0=>
   rfl
  |0,j+1=>
   simp at hi u;subst hi;simp only[VD,KP]at z;exact absurd (q j u) (KN.1 z).1
  |i+1,0=>
   simp at hi u;subst u;simp only[VD,KP]at z;exact absurd (q i hi) (KN.1 z).1
  |i+1,j+1=>
    rw[aP0 I i j k IW Rf]
def Fl.back {ok:Nat->Prop}{w:Ba}{H:A8 CO}{h:CO}{e:Bd}(π:A8 (Nat×AX))(I:e.backOk π=true)(j:Fl ok w H h e):Fl ok w (π.map λp=>H.getD p.1 ⟨undef,0⟩) h (e.back π):=by
 cases e with
 |dead=>trivial
 |box cs=>
  obtain⟨b,vs,T,h1,h2,h3,q⟩:=j;refine⟨b,vs,T,h1,h2,Ve,λi hi=>?_⟩;rw[Df]at hi;rw[Va _ _ _ hi];refine⟨?_,(q i hi).2.vI π⟩;simp only[Bd.backOk,FQ]at I;exact I _ OD
 |arr e s es=>
  obtain⟨h1,h2,xs,h3,q,J⟩:=j;refine⟨h1,h2,xs,h3,q,λi hi=>⟨(J i hi).1,?_⟩⟩;have u:=(J i hi).2;have hm:(flat es).getD i .junk∈flat es:=OD
  unfold flat at hm ⊢;simp only[Um,Ez]at hm;obtain⟨x,_,y,_,L⟩:=hm;unfold flat at u;rw[←L]at u ⊢;cases u with |d _ _ h=>exact .d _ _ h
 |map es=>exact j
 |fE es=>exact j
 |iter es vis=>exact j
 |loop tm slots rc st M=>
  obtain⟨l,fn,D,h1,h2,h3,q⟩:=j;refine⟨l,fn,D,h1,h2,Ve,λt z=>?_⟩;rw[Df]at z;rw[Va _ _ _ z];exact(q t z).back π
def aRh {e:Bd}:(e.back π).live=e.live:=by cases e<;>rfl
def Dz.norm (hm:Dz C ok H es w)(π:A8 (Nat×AX))(U:WC C.H0.length es π=true):
 Dz C ok (π.map λp=>H.getD p.1 ⟨undef,0⟩) (U0 es π) w:=by
 unfold WC at U;simp only[Dj,Iz,MZ,FQ]at U;obtain⟨⟨⟨hlt,hnd⟩,hpre⟩,hbk⟩:=U
 have u:∀(j:Nat) (h:CO),(π.map λp=>H.getD p.1 ⟨undef,0⟩)[j]? =some h->∃p,π[j]? =some p/\p.1<es.length/\H[p.1]? =some h:=by
  intro j h q;rw[LH]at q;cases hp:π[j]? with
  |none=>rw[hp]at q;simp at q
  |some p=>
   rw[hp]at q;have z:p.1<es.length:=hlt p (Z7 hp);refine⟨p,rfl,z,?_⟩;have hkH:p.1<H.length:=by rw[hm.hlen];exact z
   simp[List.getD,hkH]at q ⊢;exact q
 have I:∀(j:Nat) (p:Nat×AX) (e:Bd),(U0 es π)[j]? =some e->π[j]? =some p->p.1<es.length->(p.2=false/\e=.dead)\/(p.2=true/\∃M,es[p.1]? =some M/\e=M.back π/\p∈π):=by
  intro j p e q hp z;unfold U0 at q;rw[LH,hp]at q;cases Z:p.2 with
  |false=>simp[Z]at q;exact .inl ⟨rfl,q.symm⟩
  |true=>
   simp[Z,List.getD,z]at q;exact .inr ⟨rfl,es[p.1],by simp[z],q.symm,Z7 hp⟩
 refine⟨hm.fr,hm.CS,hm.CU,hm.lH,?_,by simp[U0],?_,?_,?_⟩
 ·intro k v hv;have z:k<C.H0.length:=(I5.1 hv).1;have h1:((π.take C.H0.length).map (·.1))[k]? =some k:=by rw[hpre];simp[z]
  rw[LH,TI z]at h1;have h2:=hm.names k v hv;cases hp:π[k]? with
  |none=>rw[hp]at h1;simp at h1
  |some p=>
   rw[hp]at h1;have hpk:p.1=k:=VG
   rw[LH,hp];simp[List.getD,hpk,h2]
 ·intro j e h q hh;obtain⟨p,hp,z,hH⟩:=u j h hh;rcases I j p e q hp z with⟨_,rfl⟩|⟨_,M,J,rfl,L⟩
  ·trivial
  refine(hm.ent p.1 M h J hH).back π ?_;have :=hbk p L;simpa[List.getD,J]using this
 ·intro j e h b q hl hh Z;obtain⟨p,hp,z,hH⟩:=u j h hh;rcases I j p e q hp z with⟨_,rfl⟩|⟨_,M,J,rfl,L⟩
  ·cases hl
  rw[aRh]at hl;exact hm.blk p.1 M h b J hl hH Z
 intro j j' e e' h h' b q hj' hl Y hh hh' Z hb';obtain⟨p,hp,z,hH⟩:=u j h hh;obtain⟨p',hp',hk',hH'⟩:=u j' h' hh';rcases I j p e q hp z with⟨_,rfl⟩|⟨hpt,M,J,rfl,L⟩
 ·cases hl
 rcases I j' p' e' hj' hp' hk' with⟨_,rfl⟩|⟨O,e0',aLr,rfl,hmem'⟩
 ·cases Y
 rw[aRh]at hl Y;have hkk:=hm.Jk p.1 p'.1 M e0' h h' b J aLr hl Y hH hH' Z hb';obtain⟨k,bb⟩:=p;obtain⟨k',bb'⟩:=p';simp only at hkk hpt O;subst hkk;subst hpt;subst O;exact aP0 hnd j j' k hp hp'
def NI (π:A8 (Nat×AX)):A8 AX->A8 Ag->A8 Ag
 |_,[]=>[]
 |true::m,x::xs=>x.back π::NI π m xs
 |false::m,_::xs=>.junk::NI π m xs
 | [],_::xs=>.junk::NI π [] xs
def a3l (π:A8 (Nat×AX)):∀(m:A8 AX) (l:A8 Ag),(NI π m l).length=l.length
 |_,[]=>by unfold NI;rfl
 |true::m,x::xs=>by simp[NI,a3l π m xs]
 |false::m,x::xs=>by simp[NI,a3l π m xs]
 | [],x::xs=>by simp[NI,a3l π [] xs]
def a3o (π:A8 (Nat×AX)):∀(m:A8 AX) (l:A8 Ag) (t:Nat),(NI π m l).getD t .junk=(l.getD t .junk).back π\/(NI π m l).getD t .junk=.junk
 |_,[],t=>by unfold NI;right;simp
 |true::m,x::xs,0=>by left;simp[NI]
 |false::m,x::xs,0=>by right;simp[NI]
 | [],x::xs,0=>by right;simp[NI]
 |true::m,x::xs,t+1=>by simpa[NI]using a3o π m xs t
 |false::m,x::xs,t+1=>by simpa[NI]using a3o π m xs t
 | [],x::xs,t+1=>by simpa[NI]using a3o π [] xs t
def a3M (σ S:BQ):Prop:=∃(m:A8 AX) (π:A8 (Nat×AX)),WC σ.base σ.ents π=true/\S=⟨NI π m σ.slots,U0 σ.ents π,σ.base⟩
variable {S:BQ}
def Holds.aLs (h:Holds C ok H σ a w)(hs:a3M σ S):∃H',Holds C ok H' S a w:=by
 obtain⟨m,π,j,rfl⟩:=hs;refine⟨π.map λp=>H.getD p.1 ⟨undef,0⟩,h.mem.norm π (h.base▸j),by simp[a3l,h.size],h.defers,h.base,λt q=>?_⟩;rcases a3o π m σ.slots t with e|e
 ·simp only[e];exact(h.get (.tmp t)).back π
 simp only[e];exact .junk _
def CP (σ S:BQ):Prop:=∀(C:FC) (ok:Nat->Prop) (H:A8 CO) (a:Act) (w:Ba),Holds C ok H σ a w->∃ok' H',Holds C ok' H' S a w
def a3M.sub (h:a3M σ S):CP σ S:=λ_ ok _ _ _ j=>let⟨H',h'⟩:=j.aLs h;⟨ok,H',h'⟩
def an8 (j:BQ)(h:∀C ok H a w,Holds C ok H σ a w->∃ok',Holds C ok' H j a w)(k:CP j S):CP σ S:=λC _ H a w q=>let⟨ok',h'⟩:=h C _ H a w q;k C ok' H a w h'
variable {d:AB Tmp}{i:Nat}
section
variable {P:Cm} {ops:Bh Oper} {Q:Exit->Act->Ba->Prop}
def toCome (j:Bh AX):Nat:=(j.toList.filter (!·)).length
def toCome_set {j:Bh AX}(hi:i<j.size)(h:j.getD i true=false):toCome (j.setIfInBounds i true)+1=toCome j:=by
 unfold toCome;have hl:j.toList[i]' IW=false:=by simpa[Array.getD,hi]using h
 have e:j.toList=j.toList.take i++false::j.toList.drop (i+1):=by
  rw[←hl,List.getElem_cons_drop,UU]
 have q:(j.setIfInBounds i true).toList=j.toList.take i++true::j.toList.drop (i+1):=by
  rw[aFs,aEz,Ea IW]
 rw[q]
 conv=>rhs;rw[e]
 simp[Qy];omega
def written (ops:Bh Oper):A8 Tmp:=ops.toList.filterMap (·.dst)
def Y2 (ops:Bh Oper):AX:=(List.range ops.size).all λi=>(List.range ops.size).all λj=>i==j||match(ops[i]?).bind (·.dst),(ops[j]?).bind (·.dst)with
 |some d,some q=>d != q
 |_,_=>true
def Zj (ops:Bh Oper)(n:Nat):AX:=(written ops).all λd=>d<n
def aiP (h:Y2 ops=true):∀(i j:Nat) (o q:Oper) (d:Tmp),ops[i]? =some o->ops[j]? =some q->o.dst=some d->q.dst=some d->i=j:=by
 intro i j o q d h1 h2 h3 u;unfold Y2 at h;rw[FQ]at h;have hi:i<ops.size:=(Ir.1 h1).1;have z:j<ops.size:=(Ir.1 h2).1;have :=h i IW;rw[FQ]at this;have :=this j aC;rw[h1,h2]at this;simp[h3,u]at this;exact this
def acU {d:Tmp}(h:ops[i]? =some o)(hd:o.dst=some d):d∈written ops:=by
 unfold written;rw[dX]
 exact⟨o,by
  have⟨hi,j⟩:=Ir.1 h
  rw[←j];exact Array.getElem_mem_toList hi,hd⟩
def aiI {d:Tmp}(h:d<a.tmps.size):(a.put (some d) v).tmps.getD d undef=v:=by
 simp[Act.put,Array.getD,h]
def afA {d t:Tmp}(h:d≠t):(a.put (some d) v).tmps.getD t undef=a.tmps.getD t undef:=by
 simp[Act.put,Jt,Vg h]
def size_put:(a.put d v).tmps.size=a.tmps.size:=by cases d<;>simp[Act.put]
def aYK:(a.put d v).defers=a.defers:=by cases d<;>rfl
end
def XU (ops:Bh Oper)(σ:BQ)(g:AB (Nat×AX)):Prop:=g=none\/
 ∃j q d b,g=some (j,q)/\(ops[j]?).bind (·.dst)=some d/\σ.slots.getD d .junk=.d (.lit (.bool b))/\b=q
def Zm (ops:Bh Oper)(σ:BQ)(g:AB (Nat×AX)):Prop:=
 ∃j q d v,g=some (j,q)/\(ops[j]?).bind (·.dst)=some d/\σ.slots.getD d .junk=.d (.lit v)/\(v=.bool (!q)\/v=undef)
variable {g:AB (Nat×AX)}{ops:Bh Oper}
def afJ (j:Nat)(q:AX)(d:Nat)(b:AX)(u:g=some (j,q))(hd:(ops[j]?).bind (·.dst)=some d)(hs:σ.slots.getD d .junk=.d (.lit (.bool b)))(z:b= !q):Zm ops σ g:=⟨j,q,d,_,u,hd,hs,.inl (by rw[z])⟩
def aYr (j:Nat)(q:AX)(d:Nat)(u:g=some (j,q))(hd:(ops[j]?).bind (·.dst)=some d)(hs:σ.slots.getD d .junk=.d (.lit undef)):Zm ops σ g:=⟨j,q,d,_,u,hd,hs,.inr rfl⟩
variable {u:BI}
def R.bool (h:R ok w H (.d (.lit u)) v):v=u:=by
 cases h with |d _ _ h=>cases h;rfl
variable {d:Nat}
def air (h:Holds C ok H σ a w)(u:(ops[j]?).bind (·.dst)=some d)(z:σ.slots.getD d .junk=.d (.lit v)):yielded ops a.tmps j=(match v with | .bool b=>some b|_=>none):=by
 have hd:d<σ.slots.length:=by
  grind
 have q:=(z▸h.slot d hd).bool
 have hs:a.tmps[d]? =some v:=by
  have :d<a.tmps.size:=by rw[h.size];exact hd
  simp[Array.getD,this]at q;simp[this,q]
 unfold yielded;rw[u];simp only[Ad,hs];cases v<;>rfl
variable {b:AX}
def aYs (h:Holds C ok H σ a w)(u:(ops[j]?).bind (·.dst)=some d)(z:σ.slots.getD d .junk=.d (.lit (.bool b))):yielded ops a.tmps j=some b:=by
 have hd:d<σ.slots.length:=by
  grind
 have q:=(z▸h.slot d hd).bool
 have hs:a.tmps[d]? =some (.bool b):=by
  have :d<a.tmps.size:=by rw[h.size];exact hd
  simp[Array.getD,this]at q;simp[this,q]
 unfold yielded;rw[u];simp only[Ad,hs]
def VW (h:Holds C ok H σ a w)(q:XU ops σ o.guard):Region.wanted o (yielded ops a.tmps)=true:=by
 unfold Region.wanted;rcases q with q|⟨j,u,d,b,q,z,I,rfl⟩
 ·rw[q]
 rw[q];show(yielded ops a.tmps j==some b)=true;rw[aYs h z I];simp
def aDq (h:Holds C ok H σ a w)(u:Zm ops σ o.guard):Region.wanted o (yielded ops a.tmps)=false:=by
 unfold Region.wanted;obtain⟨j,q,d,v,u,z,I,J⟩:=u;rw[u];show(yielded ops a.tmps j==some q)=false;rw[air h z I];rcases J with rfl|rfl
 ·simp
 rfl
def needs (σ:BQ):A8 (CB×Ag)->Prop
 | []=>True
 |n::ns=>σ.get n.1=n.2/\needs σ ns
def Yf {σ:BQ}:∀{ns:A8 (CB×Ag)},needs σ ns->∀n∈ns,σ.get n.1=n.2
 | [],_,n,h=>JB
 |m::ns,j,n,h=>by
  rcases FP.1 h with rfl|h
  ·exact j.1
  exact Yf j.2 n h
def tmpsOf (o:Oper):A8 Tmp:=o.op.operands.toList.filterMap λ| .tmp t=>some t|_=>none
def Oh (ns:A8 (CB×Ag)):A8 Tmp:=ns.filterMap λn=>match n.1 with | .tmp t=>some t|_=>none
def RP (P:Cm)(ops:Bh Oper)(σ:BQ)(x:Ag)(E:A8 Bd)(bar:AX)(o:Oper):Prop:=
 ((∃ns,CM P o ns σ.ents x E/\needs σ ns/\(Oh ns).all (tmpsOf o).contains=true/\XU ops σ o.guard)\/(x=.d (.lit undef)/\E=σ.ents/\Zm ops σ o.guard))/\(bar=false->E=σ.ents)
def aPA (h:CM P o ns σ.ents x σ.ents)(j:needs σ ns)(q:XU ops σ o.guard)(u:(Oh ns).all (tmpsOf o).contains=true):RP P ops σ x σ.ents false o:=
 ⟨.inl ⟨ns,h,j,u,q⟩,λ_=>rfl⟩
variable {es':A8 Bd}
def CM.cast {j:Ag}(h:CM P o ns es x es')(e:x=j):CM P o ns es j es':=e▸h
def aSj {c:AX}(h:some b=some c):Ag.d (.lit (.bool b))=Ag.d (.lit (.bool c)):=by rw[E5 h]
def Ju (ro:AB Nat):Fence:={ fn:=λ_=>True,depth:=none,alive:=false,round:=ro }
variable {args:Bh BI}{ro:AB Nat}
def aBk {f:FuncId}{R:Ending->Ba->Prop}:CallsIn (Ju ro) n P f args w R↔Calls P f args w R:=
 callsIn_wide (n:=n)
def aix {j:String}{R:BI->Ba->Prop}(h:Rows P j args w R):RowsIn (Ju ro) n P j args w R:=
 λc cs _=>let⟨v,w',r,s⟩:=h c cs;⟨v,w',r,(stepsIn_wide (P:=P)).2 s⟩
def CM.aG8 (h:CM P o ns es x es')(hm:Dz C ok H es w)(u:∀n∈ns,R ok w H n.2 (a.eval n.1)):∀c,o.op≠ .defer c:=by
 intro c z;have j:=h C ok H a w (λ_ _ _=>False) hm u;unfold Oper.wp execOp at j;rw[z]at j;simp only[G9]at j;cases q:(resolve a.eval c o.type).run P w with
 |ok d w'=>
  rw[q]at j;simp only[Result.andThen]at j;obtain⟨v,_,_,I,_⟩:=j;have :=BG (λa=>a.defers.length) I;cases J:o.dst<;>simp[Act.put,J]at this
 |halt x w'=>
  rw[q]at j;cases x<;>exact j
def CM.inR (h:CM P o ns es x es')(ro:AB Nat)(C:FC)(ok:Nat->Prop)(H:A8 CO)(a:Act)(w:Ba)(Q:Exit->Act->Ba->Prop)(hm:Dz C ok H es w)(j:∀n∈ns,R ok w H n.2 (a.eval n.1)):
 o.wpIn (Ju ro) 0 P a w (λa' w'=>∃v ok' H',a'=a.put o.dst v/\FM ok w ok' w'/\Names H H'/\Dz C ok' H' es' w'/\R ok' w' H' x v) Q:=by
 have h1:=h C ok H a w Q hm j;refine⟨λ_ _=>trivial,?_⟩;rw[jk _ _ _ (h.aG8 hm j)];unfold Oper.wp at h1;generalize(execOp a.eval o).run P w=r at h1;cases r with
 |ok n w'=>
  cases n<;>first
   |exact h1
   |exact h1.elim
   |exact⟨λh=>Gv,aBk.2 h1⟩
   |exact⟨λh=>Gv,aix h1⟩
 |halt x w'=>cases x<;>exact h1
inductive Chain (P:Program) (ops:Array Oper):List Oper->BQ->BQ->Prop
 |nil (σ:BQ):Chain P ops [] σ σ
 |op {o:Oper} {rest:List Oper} {σ σ':BQ} {ns:List (Operand×Ag)} {x:Ag} (d:Option Tmp) (h:CM P o ns σ.ents x σ.ents) (hn:needs σ ns) (hg:XU ops σ o.guard) (hd:o.dst=d)
  (k:Chain P ops rest (σ.tV d x) σ'):Chain P ops (o::rest) σ σ'
 |oe {o:Oper} {rest:List Oper} {σ σ':BQ} {ns:List (Operand×Ag)} {x:Ag} {es':List Bd} (d:Option Tmp) (E:List Bd) (h:CM P o ns σ.ents x es') (he:es'=E) (hn:needs σ ns) (hg:XU ops σ o.guard) (hd:o.dst=d)
  (k:Chain P ops rest (σ.put d x E) σ'):Chain P ops (o::rest) σ σ'
 |skip {o:Oper} {rest:List Oper} {σ σ':BQ} (d:Option Tmp) (hg:Zm ops σ o.guard) (hd:o.dst=d) (k:Chain P ops rest (σ.tV d (.d (.lit undef))) σ'):Chain P ops (o::rest) σ σ'
 |any {o:Oper} {rest:List Oper} {σ σ':BQ} {x:Ag} (d:Option Tmp) (h:RP P ops σ x σ.ents false o) (hd:o.dst=d) (k:Chain P ops rest (σ.tV d x) σ'):Chain P ops (o::rest) σ σ'
 |arh {o:Oper} {rest:List Oper} {σ σ':BQ} {x:Ag} {E:List Bd} {bar:Bool} (d:Option Tmp) (h:RP P ops σ x E bar o) (hd:o.dst=d) (k:Chain P ops rest (σ.put d x E) σ'):Chain P ops (o::rest) σ σ'
 |conv {rest:List Oper} {σ σ':BQ} (σ2:BQ) (h:∀C ok H a w,Holds C ok H σ a w->∃ok',Holds C ok' H σ2 a w) (k:Chain P ops rest σ2 σ'):Chain P ops rest σ σ'
def Qn :Code->AX
 | .seq a b=>Qn a&&Qn b
 | .cond _ a b=>Qn a&&Qn b
 | .block _ a=>Qn a
 | .loop a=>Qn a
 | .scope a=>Qn a
 | .rangeFunc .. =>false
 |_=>true
def wS (ro:AB Nat)(c:Code):Prop:=ro=none\/Qn c=true
variable {c x y:Code}
def wS.two (h:wS ro c)(e:Qn c=(Qn x&&Qn y)):wS ro x/\wS ro y:=by
 rcases h with h|h
 ·exact⟨.inl h,.inl h⟩
 rw[e,Dj]at h;exact⟨.inr h.1,.inr h.2⟩
def adr (P:Cm)(c:Code)(σ:BQ)(Q:Exit->BQ->Prop):Prop:=
 ∀(ro:AB Nat),wS ro c->∀(C:FC) (ok:Nat->Prop) (H:A8 CO) (a:Act) (w:Ba),Holds C ok H σ a w->c.wpIn (Ju ro) 0 P (λe a' w'=>∃ok' H' σ',Holds C ok' H' σ' a' w'/\Q e σ') a w
structure Bq (P:Program) (c:Code) (σ:BQ) (Q:Exit->BQ->Prop):Prop where
 run:adr P c σ Q
section
variable {P:Cm} {σ σ':BQ} {Q:Exit->BQ->Prop}
def Bq.mono {Q':Exit->BQ->Prop}(h:Bq P c σ Q)(j:∀e σ,Q e σ->Q' e σ):Bq P c σ Q':=
 ⟨λro q C ok H a w u=>Ui (h.run ro q C ok H a w u) λ_ _ _ ⟨ok',H',σ',h1,h2⟩=>⟨ok',H',σ',h1,j _ _ h2⟩⟩
def Bq.skip (h:Q .normal σ):Bq P .skip σ Q:=⟨λ_ _ _ ok H a w j=>wpIn_skip ⟨ok,H,σ,j,h⟩⟩
def Ew:=@Bq.skip
def Bq.label {l:Nat}(h:Q .normal σ):Bq P (.label l) σ Q:=⟨λ_ _ _ ok H a w j=>wpIn_label ⟨ok,H,σ,j,h⟩⟩
def Bq.exit {i:Nat}(h:Q (.exit i) σ):Bq P (.exit i) σ Q:=⟨λ_ _ _ ok H a w j=>wpIn_exit ⟨ok,H,σ,j,h⟩⟩
def Cj:=@Bq.exit
def Bq.ret (h:Q .ret σ):Bq P .ret σ Q:=⟨λ_ _ _ ok H a w j=>wpIn_ret ⟨ok,H,σ,j,h⟩⟩
def F5:=@Bq.ret
def Js (K:BQ->Prop)(Q:Exit->BQ->Prop):Exit->BQ->Prop
 | .normal,σ=>K σ
 |e,σ=>Q e σ
def Bq.seq (K:BQ->Prop)(q:Bq P x σ (Js K Q))(u:∀σ',K σ'->Bq P y σ' Q):Bq P (.seq x y) σ Q:=⟨λro j C ok H a w z=>
 wpIn_seq (Ui (q.run ro (j.two rfl).1 C ok H a w z) (by
  rintro e a' w' ⟨ok',H',σ',h1,h2⟩;cases e with
  |normal=>exact(u σ' h2).run ro (j.two rfl).2 C ok' H' a' w' h1
  |_=>exact⟨ok',H',σ',h1,h2⟩))⟩
def Bq.seq1 (j:BQ)(q:Bq P x σ (Js (λσ'=>σ'=j) Q))(u:Bq P y j Q):Bq P (.seq x y) σ Q:=Bq.seq _ q (λ_ e=>e▸u)
def Bq.cond {c:CB}(b:AX)(u:σ.get c=.d (.lit (.bool b)))(z:b=true->Bq P x σ Q)(I:b=false->Bq P y σ Q):Bq P (.cond c x y) σ Q:=by
 refine⟨λro q C ok H a w j=>?_⟩;have e:=(u▸j.get c).bool;exact wpIn_cond_split e (λh=>(z h).run ro (q.two rfl).1 C ok H a w j) (λh=>(I h).run ro (q.two rfl).2 C ok H a w j)
def aNY (i:Nat)(Q:Exit->BQ->Prop):Exit->BQ->Prop
 | .exit j,σ=>if j=i then Q .normal σ else Q (.exit j) σ
 |e,σ=>Q e σ
def Bq.block {i:Nat}{c:Code}(h:Bq P c σ (aNY i Q)):Bq P (.block i c) σ Q:=⟨λro u C ok H a w z=>
 wpIn_block (Ui (h.run ro u C ok H a w z) (by
  rintro e a' w' ⟨ok',H',σ',h1,h2⟩;cases e with
  |exit j=>
   show if j=i then _ else _
   simp only[aNY]at h2;split<;>rename_i q
   ·rw[Ea q]at h2;exact⟨ok',H',σ',h1,h2⟩
   rw[Eh q]at h2;exact⟨ok',H',σ',h1,h2⟩
  |_=>exact⟨ok',H',σ',h1,h2⟩))⟩
def Am:=@Bq.block
def aZL {P:Cm}{Q:Exit->Act->Ba->Prop}(I:Nat->Act->Ba->Prop)(round:∀n a w,I n a w->c.wpIn (Ju ro) 0 P (Exit.then (λa' w'=>∃m,m<n/\I m a' w') Q) a w):∀n a w,I n a w->(Code.loop c).wpIn (Ju ro) 0 P Q a w:=by
 intro n a w Z b k cs J L M
 have key:∀n a w,I n a w->∃e a' w',Q e a' w'/\ArrivesIn (Machine.fenced P (Ju ro)) P (lone (b.atR a (.code c::.inLoop c::k)) cs w) b k cs e a' w':=by
  intro n
  induction n using Nat.strongRecOn with
  |_ n ih=>
   intro a w hI;obtain⟨e,u,z,j,harr⟩:=round n a w hI b (.inLoop c::k) cs J L M;cases e with
   |normal=>
    obtain⟨m,O,U⟩:=j;obtain⟨e₂,a₂,w₂,Y,q⟩:=ih m O u z U;exact⟨e₂,a₂,w₂,Y,.of_steps (StepsIn.trans harr (.one (fenced_calm L M rfl) stepR_inLoop)) q⟩
   |exit id=>exact⟨_,u,z,j,.pass (x:=.inLoop c) rfl (λ_ _=>.inl Bf) harr⟩
   |goto l=>exact⟨_,u,z,j,.pass (x:=.inLoop c) rfl (λ_ _=>.inl Bf) harr⟩
   |ret=>exact⟨_,u,z,j,.pass (x:=.inLoop c) rfl (λ_ _=>.inl Bf) harr⟩
   |panic ch=>exact⟨_,u,z,j,.pass (x:=.inLoop c) rfl (λ_ _=>.inl Bf) harr⟩
   |outgrown=>exact⟨_,u,z,j,.pass (x:=.inLoop c) rfl (λ_ _=>.inl Bf) harr⟩
 obtain⟨e,a',w',j,harr⟩:=key n a w Z;exact⟨e,a',w',j,.of_steps (.one (fenced_calm L M rfl) stepR_loop) harr⟩
def Bq.loop (I:Nat->BQ->Prop)(n:Nat)(h:I n σ)(round:∀n σ,I n σ->Bq P c σ (Js (λσ'=>∃m,m<n/\I m σ') Q)):Bq P (.loop c) σ Q:=by
 refine⟨λro u C ok H a w j=>?_⟩;refine aZL (λn a w=>∃ok H σ,Holds C ok H σ a w/\I n σ) ?_ n a w ⟨ok,H,σ,j,h⟩;rintro n a w ⟨ok,H,σ,j,z⟩;refine Ui ((round n σ z).run ro u C ok H a w j) ?_;rintro e a' w' ⟨ok',H',σ',h1,h2⟩;cases e with
 |normal=>obtain⟨m,hm,q⟩:=h2;exact⟨m,hm,ok',H',σ',h1,q⟩
 |_=>exact⟨ok',H',σ',h1,h2⟩
end
def bn {P:Cm}{σ S:BQ}{Q:Exit->BQ->Prop}{c:Code}(hs:CP σ S)(h:Bq P c S Q):Bq P c σ Q:=⟨λro j C ok H a w q=>by
 obtain⟨ok',H',h'⟩:=hs C ok H a w q
 exact h.run ro j C ok' H' a w h'⟩
def DK:=@bn
section
variable {P:Cm} {ops:Bh Oper} {Q:Exit->Act->Ba->Prop}
def aPc {F:Fence}(I:Bh AX->Act->Ba->Prop)(j:∀l a w,I l a w->l.size=ops.size)(u:∀l a w,I l a w->∀i,i∈Region.ready .any ops l->wpOpIn F n P ops Q i (λa' w'=>I (l.setIfInBounds i true) a' w') a w)(q:∀l a w,I l a w->Region.ready .any ops l=[]->Q .normal a w):
 ∀(Ar:Nat) l a w,toCome l<=Ar->I l a w->wpAnyIn F n P .any ops Q Ar l a w:=by
 intro Ar
 induction Ar with
 |zero=>
  intro l a w O L
  have U:Region.ready .any ops l=[]:=by
   unfold Region.ready;rw[aIE];intro i hi;have z:i<l.size:=by rw[j l a w L];simpa using hi
   have Y:l.toList.filter (!·)=[]:=Ho (by unfold toCome at O;omega);rw[aIE]at Y;have :=Y (l[i]) Bf;have M:l[i]=true:=a5p
   simp[Array.getD,z,M]
  exact⟨U,q l a w L U⟩
 |succ Ar Z=>
  intro l a w O L;refine⟨q l a w L,λi hi=>?_⟩;have J:=hi;unfold Region.ready at J;rw[Gx]at J;have z:i<l.size:=by rw[j l a w L];simpa using J.1
  have hf:l.getD i true=false:=by
   grind
  have hs:=toCome_set z hf;exact wpOpIn_mono (λa' w' h=>Z _ a' w' AL h) (u l a w L i hi)
end
def Jb (o:Oper)(j:Nat):AX:=o.after.toList.any λe=>e.on=j&&Region.binds .any e
def XR (ops:Bh Oper):AX:=(List.range ops.size).all λi=>match ops[i]? with
 |some o=>((List.range ops.size).all λj=>match(ops[j]?).bind (·.dst)with
  |some d=> !(tmpsOf o).contains d||Jb o j||(match ops[j]? with |some q=>Jb q i|none=>false)
  |none=>true)&&(match o.guard with |some (j,_)=>Jb o j|none=>true)
 |none=>true
inductive Fp (P:Program) (ops:Array Oper):List Oper->BQ->List Ag->List (List Bd)->List Bool->BQ->Prop
 |nil (σ:BQ):Fp P ops [] σ [] [] [] σ
 |op {o:Oper} {rest:List Oper} {σ σ':BQ} {ns:List (Operand×Ag)} {x:Ag} {rs:List Ag} {ess:List (List Bd)} {bs:List Bool} (d:Option Tmp) (h:CM P o ns σ.ents x σ.ents) (hn:needs σ ns)
  (hg:XU ops σ o.guard) (hd:o.dst=d) (ht:(Oh ns).all (tmpsOf o).contains=true) (k:Fp P ops rest (σ.tV d x) rs ess bs σ'):Fp P ops (o::rest) σ (x::rs) (σ.ents::ess) (false::bs) σ'
 |oe {o:Oper} {rest:List Oper} {σ σ':BQ} {ns:List (Operand×Ag)} {x:Ag} {es':List Bd} {rs:List Ag} {ess:List (List Bd)} {bs:List Bool} (d:Option Tmp) (E:List Bd) (h:CM P o ns σ.ents x es') (he:es'=E) (hn:needs σ ns)
  (hg:XU ops σ o.guard) (hd:o.dst=d) (ht:(Oh ns).all (tmpsOf o).contains=true) (k:Fp P ops rest (σ.put d x E) rs ess bs σ'):Fp P ops (o::rest) σ (x::rs) (E::ess) (true::bs) σ'
 |any {o:Oper} {rest:List Oper} {σ σ':BQ} {x:Ag} {rs:List Ag} {ess:List (List Bd)} {bs:List Bool} (d:Option Tmp) (h:RP P ops σ x σ.ents false o) (hd:o.dst=d) (k:Fp P ops rest (σ.tV d x) rs ess bs σ'):Fp P ops (o::rest) σ (x::rs) (σ.ents::ess) (false::bs) σ'
 |arh {o:Oper} {rest:List Oper} {σ σ':BQ} {x:Ag} {E:List Bd} {bar:Bool} {rs:List Ag} {ess:List (List Bd)} {bs:List Bool} (d:Option Tmp) (h:RP P ops σ x E bar o) (hd:o.dst=d) (k:Fp P ops rest (σ.put d x E) rs ess bs σ'):Fp P ops (o::rest) σ (x::rs) (E::ess) (bar::bs) σ'
 |skip {o:Oper} {rest:List Oper} {σ σ':BQ} {rs:List Ag} {ess:List (List Bd)} {bs:List Bool} (d:Option Tmp) (hg:Zm ops σ o.guard) (hd:o.dst=d) (k:Fp P ops rest (σ.tV d (.d (.lit undef))) rs ess bs σ'):Fp P ops (o::rest) σ (.d (.lit undef)::rs) (σ.ents::ess) (false::bs) σ'
variable {Q:Exit->BQ->Prop}{bs:A8 AX}{ess:A8 (A8 Bd)}{l:A8 Oper}{rs:A8 Ag}{sl:A8 Nat}{σ':BQ}
section
variable {P:Cm} {ops:Bh Oper} {es:A8 Bd}
def Gp (ops:Bh Oper)(σ0:BQ)(r:Nat->Ag)(ev:Nat->A8 Bd):Nat->BQ
 |0=>σ0
 |i+1=>match ops[i]? with
  |some o=>(Gp ops σ0 r ev i).put o.dst (r i) (ev i)
  |none=>Gp ops σ0 r ev i
def Fp.aIF (N:Nat)(h:Fp P ops l σ rs ess bs σ')(σ0:BQ)(r:Nat->Ag)(ev:Nat->A8 Bd)(bar:Nat->AX):∀i,(∀k:Nat,k<l.length->l[k]? =ops[i+k]?)->i+l.length=N->σ=Gp ops σ0 r ev i->
 (∀(k:Nat) y,rs[k]? =some y->r (i+k)=y)->(∀(k:Nat) y,ess[k]? =some y->ev (i+k)=y)->(∀(k:Nat) y,bs[k]? =some y->bar (i+k)=y)->
 (∀j (o:Oper),i<=j->j<N->ops[j]? =some o->RP P ops (Gp ops σ0 r ev j) (r j) (ev j) (bar j) o)/\σ'=Gp ops σ0 r ev N:=by
 induction h with
 |nil σ=>
  intro i hl J I M _ _;have :i=N:=a02
  subst this;exact⟨λj o Z L ho=>AL,I⟩
 | @op o rest σ σ' ns x rs ess bs d ho hn hg hd ht k ih=>
   intro i hl J I M O hb;subst hd;have U:ops[i]? =some o:=a0i
   have Y:r i=x:=a7v
   have u:ev i=σ.ents:=aIf
   obtain⟨h1,h2⟩:=ih (i+1) (λk hk=>uw) ni (by
    rw[BQ.ard];simp only[Gp,U,Y,u];rw[←I]) (λk y z=>a0m)
    (λk y z=>uU) (λk y z=>uX)
   refine⟨λj o' Z L q=>?_,h2⟩;by_cases e:i=j
   ·subst e;rw[U]at q;obtain rfl:=E5 q;exact⟨.inl ⟨ns,by rw[Y,u,←I];exact ho,I▸hn,ht,I▸hg⟩,λ_=>by rw[u,←I]⟩
   exact h1 j o' AL L q
 | @oe o rest σ σ' ns x es' rs ess bs d E ho hE hn hg hd ht k ih=>
   intro i hl J I M O hb;subst hd;subst hE;have U:ops[i]? =some o:=a0i
   have Y:r i=x:=a7v
   have u:ev i=es':=by simpa using O 0 es' Bf
   have hbr:bar i=true:=by simpa using hb 0 true Bf
   obtain⟨h1,h2⟩:=ih (i+1) (λk hk=>uw) ni (by
    simp only[Gp,U,Y,u];rw[←I]) (λk y z=>a0m)
    (λk y z=>uU) (λk y z=>uX)
   refine⟨λj o' Z L q=>?_,h2⟩;by_cases e:i=j
   ·subst e;rw[U]at q;obtain rfl:=E5 q;exact⟨.inl ⟨ns,by rw[Y,u,←I];exact ho,I▸hn,ht,I▸hg⟩,λhf=>by rw[hbr]at hf;cases hf⟩
   exact h1 j o' AL L q
 | @any o rest σ σ' x rs ess bs d hs hd k ih=>
   intro i hl J I M O hb;subst hd;have U:ops[i]? =some o:=a0i
   have Y:r i=x:=a7v
   have u:ev i=σ.ents:=aIf
   obtain⟨h1,h2⟩:=ih (i+1) (λk hk=>uw) ni (by
    rw[BQ.ard];simp only[Gp,U,Y,u];rw[←I]) (λk y z=>a0m)
    (λk y z=>uU) (λk y z=>uX)
   refine⟨λj o' Z L q=>?_,h2⟩;by_cases e:i=j
   ·subst e;rw[U]at q;obtain rfl:=E5 q;refine⟨?_,λ_=>by rw[u,←I]⟩;rw[Y,u,←I];exact hs.1
   exact h1 j o' AL L q
 | @arh o rest σ σ' x E br rs ess bs d hs hd k ih=>
   intro i hl J I M O hb;subst hd;have U:ops[i]? =some o:=a0i
   have Y:r i=x:=a7v
   have u:ev i=E:=by simpa using O 0 E Bf
   have hbr:bar i=br:=by simpa using hb 0 br Bf
   obtain⟨h1,h2⟩:=ih (i+1) (λk hk=>uw) ni (by
    simp only[Gp,U,Y,u];rw[←I]) (λk y z=>a0m)
    (λk y z=>uU) (λk y z=>uX)
   refine⟨λj o' Z L q=>?_,h2⟩;by_cases e:i=j
   ·subst e;rw[U]at q;obtain rfl:=E5 q;rw[Y,u,hbr,←I];exact hs
   exact h1 j o' AL L q
 | @skip o rest σ σ' rs ess bs d hg hd k ih=>
   intro i hl J I M O hb;subst hd;have U:ops[i]? =some o:=a0i
   have Y:r i=.d (.lit undef):=by simpa using M 0 (.d (.lit undef)) Bf
   have u:ev i=σ.ents:=aIf
   obtain⟨h1,h2⟩:=ih (i+1) (λk hk=>uw) ni (by
    rw[BQ.ard];simp only[Gp,U,Y,u];rw[←I]) (λk y z=>a0m)
    (λk y z=>uU) (λk y z=>uX)
   refine⟨λj o' Z L q=>?_,h2⟩;by_cases e:i=j
   ·subst e;rw[U]at q;obtain rfl:=E5 q;exact⟨.inr ⟨Y,by rw[u,←I],I▸hg⟩,λ_=>by rw[u,←I]⟩
   exact h1 j o' AL L q
def Fp.facts (h:Fp P ops l σ rs ess bs σ')(σ0:BQ)(r:Nat->Ag)(ev:Nat->A8 Bd)(bar:Nat->AX):∀i,(∀k:Nat,l[k]? =ops[i+k]?)->i+l.length=ops.size->σ=Gp ops σ0 r ev i->
 (∀(k:Nat) y,rs[k]? =some y->r (i+k)=y)->(∀(k:Nat) y,ess[k]? =some y->ev (i+k)=y)->(∀(k:Nat) y,bs[k]? =some y->bar (i+k)=y)->
 (∀j (o:Oper),i<=j->ops[j]? =some o->RP P ops (Gp ops σ0 r ev j) (r j) (ev j) (bar j) o)/\σ'=Gp ops σ0 r ev ops.size:=by
 intro i hl q u z I J;obtain⟨h1,h2⟩:=h.aIF ops.size σ0 r ev bar i (λk _=>hl k) q u z I J
 grind
def a1y {σ0:BQ}{r:Nat->Ag}{ev:Nat->A8 Bd}{t:Nat}:∀i,(∀j (o:Oper),j<i->ops[j]? =some o->o.dst≠some t)->(Gp ops σ0 r ev i).slots.getD t .junk=σ0.slots.getD t .junk
 |0,_=>rfl
 |i+1,h=>by
  have q:=a1y (σ0:=σ0) (r:=r) (ev:=ev) i (λj o J u=>h j o AL u);simp only[Gp];split
  ·rename_i o u;have z:=h i o AL u;cases hd:o.dst with
   |none=>exact q
   |some d=>
    have I:d≠t:=λe=>z (by rw[hd,e]);show((Gp ops σ0 r ev i).slots.set d (r i)).getD t .junk=_;rw[←q];simp[List.getD,bT I]
  exact q
def qo {σ0:BQ}{r:Nat->Ag}{ev:Nat->A8 Bd}:∀i,(Gp ops σ0 r ev i).slots.length=σ0.slots.length
 |0=>rfl
 |i+1=>by
  simp only[Gp];split
  ·rename_i o j;cases hd:o.dst with
   |none=>exact qo i
   |some d=>show((Gp ops σ0 r ev i).slots.set d (r i)).length=_;rw[jX];exact qo i
  exact qo i
def a3m {σ0:BQ}{r:Nat->Ag}{ev:Nat->A8 Bd}:∀i,(Gp ops σ0 r ev i).base=σ0.base
 |0=>rfl
 |i+1=>by
  simp only[Gp];split
  ·exact a3m i
  exact a3m i
def aAE {σ0:BQ}{r:Nat->Ag}{ev:Nat->A8 Bd}(q:∀(i j:Nat) (o u:Oper) (d:Tmp),ops[i]? =some o->ops[j]? =some u->o.dst=some d->u.dst=some d->i=j){t j:Nat}{o:Oper}(z:ops[j]? =some o)(hd:o.dst=some t)(O:t<σ0.slots.length):
 ∀i,j<i->(Gp ops σ0 r ev i).slots.getD t .junk=r j
 |0,h=>AL
 |i+1,h=>by
  by_cases e:j=i
  ·subst e;simp only[Gp,z,hd];have hl:t<(Gp ops σ0 r ev j).slots.length:=by rw[qo];exact O
   show((Gp ops σ0 r ev j).slots.set t (r j)).getD t .junk=_;simp[List.getD,hl]
  have I:=aAE (r:=r) (ev:=ev) q z hd O i AL;simp only[Gp];split
  ·rename_i u J;cases L:u.dst with
   |none=>exact I
   |some d=>
    have M:d≠t:=λe'=>e (q j i o u t z J hd (by rw[L,e']));show((Gp ops σ0 r ev i).slots.set d (r i)).getD t .junk=_;rw[←I];simp[List.getD,bT M]
  exact I
def aa2 (h:XR ops=true):∀(i:Nat) (o:Oper),ops[i]? =some o->(∀(j:Nat) (q:Oper) (d:Tmp),ops[j]? =some q->q.dst=some d->d∈tmpsOf o->Jb o j=true\/Jb q i=true)/\(∀j b,o.guard=some (j,b)->Jb o j=true):=by
 intro i o u;unfold XR at h
 grind
def Xd (ops:Bh Oper)(bs:A8 AX):AX:=(List.range ops.size).all λi=> !(bs.getD i false)||
 (((List.range i).all λj=>(List.range (i+1)).any λm=>j<m&&(match ops[m]? with |some o=>Jb o j|none=>false))&&
  ((List.range ops.size).all λk=> !decide (i<k)||(List.range k).any λm=>i<=m&&(match ops[k]? with |some o=>Jb o m|none=>false)))
def abo (h:Xd ops bs=true)(hi:i<ops.size)(L:bs.getD i false=true){D:Nat->Prop}(hd:∀(j:Nat) (o:Oper),ops[j]? =some o->D j->∀m,Jb o m=true->D m)(M:∀(o:Oper),ops[i]? =some o->∀m,Jb o m=true->D m):∀j,j<i->D j:=by
 unfold Xd at h;rw[FQ]at h;have h1:=h i IW;simp only[L,FU,Qv,Dj,FQ]at h1
 have key:∀n j,i-j<=n->j<i->D j:=by
  intro n
  induction n with
  |zero=>intro j h2 h3;omega
  |succ n O=>
   intro j h2 h3;have I:=h1.1 j Ve;rw[JV]at I;obtain⟨m,hm,J⟩:=I;simp only[lu]at hm;simp only[Dj,Iz]at J;obtain⟨Y,q⟩:=J;have u:m<ops.size:=AL
   have z:ops[m]? =some ops[m]:=by simp[u]
   rw[z]at q;by_cases e:m=i
   ·subst e;exact M _ z j q
   exact hd m _ z (O m AL AL) j q
 exact λj U=>key (i-j) j (Eb _) U
def UJ (ops:Bh Oper):AX:=(List.range ops.size).all λi=>match ops[i]? with
 |some o=>o.after.toList.all λ(e:Edge)=> !Region.binds .any e||(e.on<i)
 |none=>true
def a0Q (h:UJ ops=true):∀(i:Nat) (o:Oper),ops[i]? =some o->∀e∈o.after.toList,Region.binds .any e=true->e.on<i:=by
 intro i o j e q u;unfold UJ at h
 grind
def U5 (ops:Bh Oper)(bs:A8 AX)(sl:A8 Nat):AX:=(List.range ops.size).all λi=> !(bs.getD i false)||(!sl.contains i&&
 ((List.range i).all λj=>sl.contains j||(List.range (i+1)).any λm=>(decide (j<m)&& !sl.contains m)&&(match ops[m]? with |some o=>Jb o j|none=>false))&&
  ((List.range ops.size).all λk=> !decide (i<k)||(List.range k).any λm=>i<=m&&(match ops[k]? with |some o=>Jb o m|none=>false)))
def aHN (h:U5 ops bs sl=true)(hi:i<ops.size)(O:bs.getD i false=true){D:Nat->Prop}(hd:∀(j:Nat) (o:Oper),ops[j]? =some o->D j->∀m,Jb o m=true->D m)(U:∀(o:Oper),ops[i]? =some o->∀m,Jb o m=true->D m):∀j,j<i->sl.contains j=false->D j:=by
 unfold U5 at h;rw[FQ]at h;have h1:=h i IW;simp only[O,FU,Qv,Dj,FQ]at h1
 have key:∀n j,i-j<=n->j<i->sl.contains j=false->D j:=by
  intro n
  induction n with
  |zero=>
   grind
  |succ n Y=>
   intro j h2 h3 q;have L:=h1.1.2 j Ve;rw[q,Qv,JV]at L;obtain⟨m,hm,M⟩:=L;simp only[lu]at hm;simp only[Dj,Iz,V9]at M;obtain⟨⟨h6,u⟩,z⟩:=M;have I:m<ops.size:=AL
   have J:ops[m]? =some ops[m]:=by simp[I]
   rw[J]at z;by_cases e:m=i
   ·subst e;exact U _ J j z
   exact hd m _ J (Y m AL AL u) j z
 exact λj Z hs=>key (i-j) j (Eb _) Z hs
def aiG (h:U5 ops bs sl=true)(hi:i<ops.size)(U:bs.getD i false=true){D:Nat->Prop}(hd:∀(j:Nat) (o:Oper),ops[j]? =some o->D j->∀m,Jb o m=true->D m):
 ∀k,i<k->∀(o:Oper),ops[k]? =some o->(∀m,Jb o m=true->D m)->D i:=by
 unfold U5 at h;rw[FQ]at h;have h1:=h i IW;simp only[U,FU,Qv,Dj,FQ]at h1;intro k
 induction k using Nat.strongRecOn with
 |_ k Y=>
  intro I o L q;have Z:k<ops.size:=(Ir.1 L).1;have M:=h1.2 k (by simpa using Z);simp only[I,decide_true,FU,Qv,JV]at M;obtain⟨m,hm,O⟩:=M;simp only[lu]at hm;simp only[Dj,Iz,L]at O;obtain⟨h6,h7⟩:=O;have u:=q m h7;by_cases e:m=i
  ·subst e;exact u
  have J:m<ops.size:=AL
  have z:ops[m]? =some ops[m]:=by simp[J]
  exact Y m hm AL _ z (hd m _ z u)
def aNd (h:U5 ops bs sl=true)(hi:i<ops.size)(j:bs.getD i false=true):sl.contains i=false:=by
 unfold U5 at h
 grind
def Bq.az8 (M:(UJ ops&&Y2 ops&&Zj ops σ.slots.length&&XR ops)=true)(sl:A8 Nat)(O:U5 ops bs sl=true)(h:Fp P ops ops.toList σ rs ess bs σ')(hsl:∀i,i∈sl->bs.getD i false=false/\∀m,i<=m->m<=ops.size->∀o,ops[i]? =some o->RP P ops ⟨(Gp ops σ (λi=>rs.getD i .junk) (λi=>ess.getD i []) i).slots,(Gp ops σ (λi=>rs.getD i .junk) (λi=>ess.getD i []) m).ents,σ.base⟩ (rs.getD i .junk) (Gp ops σ (λi=>rs.getD i .junk) (λi=>ess.getD i []) m).ents false o)(ro:AB Nat)(C:FC)(ok:Nat->Prop)(H:A8 CO)(a:Act)(w:Ba)(hh:Holds C ok H σ a w)(Q:Exit->Act->Ba->Prop)(hQ:∀ok' H' a' w',Holds C ok' H' σ' a' w'->Q .normal a' w'):wpAnyIn (Ju ro) 0 P .any ops Q ops.size (Array.replicate ops.size false) a { w with drawn:=w.drawn+1 }:=by
 simp only[Dj]at M;obtain⟨⟨⟨he,hd⟩,hs⟩,hc⟩:=M;have aA2:=a0Q he;have hinj:=aiP hd;have M:=aa2 hc
 have au2:∀(i:Nat) (o:Oper) (d:Tmp),ops[i]? =some o->o.dst=some d->d<σ.slots.length:=by
  intro i o d h1 h2;unfold Zj at hs;rw[FQ]at hs;simpa using hs d (acU h1 h2)
 let r:Nat->Ag:=λi=>rs.getD i .junk
 let ev:Nat->A8 Bd:=λi=>ess.getD i []
 let bar:Nat->AX:=λi=>bs.getD i false
 obtain⟨avz,hend⟩:=h.facts σ r ev bar 0 (λk=>Bf) Bf rfl (λk y hy=>by simp[r,List.getD,hy]) (λk y hy=>by simp[ev,List.getD,hy]) (λk y hy=>by simp[bar,List.getD,hy])
 let U:Nat->BQ:=Gp ops σ r ev
 have hU:∀i,i<ops.size->(U (i+1)).ents=ev i:=by
  intro i hi;have L:ops[i]? =some ops[i]:=WL
  show(Gp ops σ r ev (i+1)).ents=_;simp only[Gp,L];rfl
 have hconst:∀n lo,(∀b,lo<=b->b<lo+n->bar b=false)->lo+n<=ops.size->(U (lo+n)).ents=(U lo).ents:=by
  intro n
  induction n with
  |zero=>intro lo _ _;rfl
  |succ n ih=>
   intro lo z hle;have h1:=ih lo (λb h1 h2=>z b h1 AL) AL;have hi:lo+n<ops.size:=AL
   have L:ops[lo+n]? =some ops[lo+n]:=WL
   have h2:=(avz (lo+n) _ AL L).2 (z (lo+n) AL AL);rw[←Ur,hU _ hi,h2];exact h1
 have Y:∀lo hi,lo<=hi->hi<=ops.size->(∀b,lo<=b->b<hi->bar b=false)->(U hi).ents=(U lo).ents:=by
  intro lo hi h1 h2 h3;obtain⟨n,rfl⟩:=Nat.exists_eq_add_of_le h1;exact hconst n lo h3 h2
 let I:Bh AX->Act->Ba->Prop:=λl a w=>l.size=ops.size/\∃ok H m,m<=ops.size/\(∀b,bar b=true->b<ops.size->(l.getD b false=true↔b<m))/\Dz C ok H (U m).ents w/\a.tmps.size=σ.slots.length/\Marks C ok w a.defers/\
  (∀t,t<σ.slots.length->(∀(j:Nat) (o:Oper),ops[j]? =some o->o.dst=some t->l.getD j false=false)->R ok w H (σ.slots.getD t .junk) (a.tmps.getD t undef))/\
  (∀(i:Nat) (o:Oper) (d:Tmp),ops[i]? =some o->o.dst=some d->l.getD i false=true->R ok w H (r i) (a.tmps.getD d undef))/\
  (∀(j:Nat) (o:Oper),ops[j]? =some o->l.getD j false=true->∀i,Jb o i=true->l.getD i false=true)
 refine aPc I (λl a w h=>h.1) ?_ ?_ ops.size _ _ _ ?_ ?_
 ·rintro l a w ⟨h1,ok,H,m,avA,J,hmem0,hsz,hdf,h5,h6,h7⟩ i hi;unfold Region.ready at hi;rw[Gx]at hi;obtain⟨hi1,hi2⟩:=hi;have hi':i<ops.size:=by simpa using hi1
  have L:ops[i]? =some ops[i]:=by simp[hi']
  simp only[Dj]at hi2;have aA3:=hi2.2;rw[L]at aA3;simp only[KD,Nz]at aA3;have aIG:=λe he=>(Ws.1 aA3) e he
  have Z:∀j,Jb ops[i] j=true->l.getD j false=true/\j<i:=by
   intro j u;unfold Jb at u;rw[JV]at u;obtain⟨e,hee,u⟩:=u;simp only[Dj,Iz]at u;have :=aIG e (by simpa using hee);simp only[u.2,FU,Qv]at this;rw[u.1]at this;exact⟨this,u.1▸aA2 i _ L e hee u.2⟩
  have hself:l.getD i false=false:=by
   have h8:=hi2.1;have hil:i<l.size:=AL
   simp[Array.getD,hil]at h8 ⊢;exact h8
  have ari:∀(j:Nat) (o:Oper),ops[j]? =some o->l.getD j false=true->∀m,Jb o m=true->l.getD m false=true:=λj o u hl m hm=>h7 j o u hl m hm
  have hEi:(i<=m->sl.contains i=false)->(U i).ents=(U m).ents:=λhns=>by
   by_cases him:i<=m
   ·refine(Y i m him avA (λb h2 h3=>?_)).symm;rw[←Z4];intro z;have hbl:=(J b z AL).2 h3;by_cases e:b=i
    ·subst e;rw[hself]at hbl;cases hbl
    have :=aHN O (show b<ops.size by omega) z (D:=λj=>l.getD j false=true) ari (λo L m hm=>ari b o L hbl m hm) i AL (hns him);rw[hself]at this;cases this
   refine Y m i AL AL (λb h2 h3=>?_);rw[←Z4];intro z;have :=aiG O (show b<ops.size by omega) z (D:=λj=>l.getD j false=true) ari i h3 _ L (λm hm=>(Z m hm).1);exact absurd ((J b z AL).1 this) AL
  obtain⟨E0,E1,hmem,hfact,hE1,hE2⟩:∃E0 E1,Dz C ok H E0 w/\RP P ops ⟨(U i).slots,E0,σ.base⟩ (r i) E1 (bar i) ops[i]/\(bar i=false->E1=(U m).ents)/\(bar i=true->E1=ev i):=by
   by_cases hs:i<=m/\i∈sl
   ·have h9:=hsl i hs.2;refine⟨(U m).ents,(U m).ents,hmem0,?_,λ_=>rfl,λz=>?_⟩
    ·rw[show bar i=false from h9.1];exact h9.2 m hs.1 avA _ L
    rw[show bar i=false from h9.1]at z;cases z
   have hE:=hEi (λhim=>by
    rw[←Z4]
    intro hc;exact hs ⟨him,by simpa using hc⟩)
   refine⟨(U i).ents,ev i,by rw[hE];exact hmem0,?_,λz=>?_,λ_=>rfl⟩
   ·have hf:=avz i ops[i] AL L;have hbase:(U i).base=σ.base:=a3m i;have :U i=⟨(U i).slots,(U i).ents,σ.base⟩:=by rw[←hbase]
    exact this▸hf
   rw[(avz i _ AL L).2 z];exact hE
  have hread:∀t,t∈tmpsOf ops[i]->R ok w H ((Gp ops σ r ev i).slots.getD t .junk) (a.tmps.getD t undef):=by
   intro t ht;by_cases hw:∃(j:Nat) (o:Oper),ops[j]? =some o/\o.dst=some t
   ·obtain⟨j,o,u,q⟩:=hw;rcases(M i _ L).1 j o t u q ht with hce|hce
    ·obtain⟨hdj,hji⟩:=Z j hce;rw[aAE hinj u q (au2 j o t u q) i hji];exact h6 j o t u q hdj
    have hij:i<j:=by
     unfold Jb at hce;rw[JV]at hce;obtain⟨e,hee,hce⟩:=hce;simp only[Dj,Iz]at hce;exact hce.1▸aA2 j _ u e hee hce.2
    rw[a1y i (λj' o' hj' ho' hd'=>by have :=hinj j j' o o' t u ho' q hd';omega)];refine h5 t (au2 j o t u q) (λj' o' ho' hd'=>?_);have hjj:=hinj j j' o o' t u ho' q hd';subst hjj;rw[←Z4];intro hd;rw[h7 j o u hd i hce]at hself;cases hself
   have hw':∀(j:Nat) (o:Oper),ops[j]? =some o->o.dst≠some t:=λj o h1 h2=>hw ⟨j,o,h1,h2⟩;rw[a1y i (λj o _ u=>hw' j o u)];by_cases htn:t<σ.slots.length
   ·exact h5 t htn (λj o u q=>absurd q (hw' j o u))
   rw[aSG htn];exact .junk _
  have aCP:∀j d v,Jb ops[i] j=true->(ops[j]?).bind (·.dst)=some d->(Gp ops σ r ev i).slots.getD d .junk=.d (.lit v)->yielded ops a.tmps j=(match v with | .bool b=>some b|_=>none):=by
   intro j d v u q z;cases hoj:ops[j]? with
   |none=>rw[hoj]at q;simp at q
   |some oj=>
    rw[hoj]at q;simp only[Ad]at q;obtain⟨hdj,hji⟩:=Z j u;have hdn:=au2 j oj d hoj q;rw[aAE hinj hoj q hdn i hji]at z;have hv:=(z▸h6 j oj d hoj q hdj).bool
    have hs:a.tmps[d]? =some v:=by
     have :d<a.tmps.size:=by rw[hsz];exact hdn
     simp[Array.getD,this]at hv;simp[this,hv]
    unfold yielded;rw[hoj];simp only[Ad,q,hs];cases v<;>rfl
  have hput:∀(x:Ag) (v:BI) (ok':Nat->Prop) (H':A8 CO) (w':Ba),x=r i->FM ok w ok' w'->Names H H'->Dz C ok' H' E1 w'->R ok' w' H' x v->I (l.setIfInBounds i true) (a.put ops[i].dst v) w':=by
   intro x v ok' H' w' hx hgr hnm hmem' hR;subst hx
   have hother:∀(d t:Nat),ops[i].dst=some d->d≠t->(a.put ops[i].dst v).tmps.getD t undef=a.tmps.getD t undef:=by
    intro d t hd hne;rw[hd];exact afA hne
   obtain⟨m',aKc,aG9,aKd⟩:∃m',m'<=ops.size/\(∀b,bar b=true->b<ops.size->((l.setIfInBounds i true).getD b false=true↔b<m'))/\Dz C ok' H' (U m').ents w':=by
    have hget:∀b,b≠i->(l.setIfInBounds i true).getD b false=l.getD b false:=λb z=>by
     simp only[Jt,Vg (Ne.symm z)]
    have aKe:(l.setIfInBounds i true).getD i false=true:=by simp[Array.getD,h1,hi']
    cases hbi:bar i with
    |false=>
     refine⟨m,avA,λb z hbs=>?_,?_⟩
     ·have hne:b≠i:=λe=>by subst e;rw[hbi]at z;cases z
      rw[hget b hne];exact J b z hbs
     rw[←hE1 hbi];exact hmem'
    |true=>
     refine⟨i+1,AL,λb z hbs=>?_,by rw[hU i hi',←hE2 hbi];exact hmem'⟩;by_cases e:b=i
     ·subst e;rw[aKe];simp
     rw[hget b e];constructor
     ·intro hbl;apply lY;intro hn;have :=aHN O hbs z (D:=λj=>l.getD j false=true) ari (λo L m hm=>ari b o L hbl m hm) i AL (aNd O hi' hbi);rw[hself]at this;cases this
     intro hlt;exact aHN O hi' hbi (D:=λj=>l.getD j false=true) ari (λo ho' m hm=>by rw[L]at ho';obtain rfl:=E5 ho';exact(Z m hm).1) b AL (aNd O hbs z)
   refine⟨jm,ok',H',m',aKc,aG9,aKd,by rw[size_put];exact hsz,by rw[aYK];exact hdf.mono hgr,?_,?_,?_⟩
   ·intro t ht hno
    have hne:ops[i].dst≠some t:=by
     intro e;have :=hno i _ L e;simp[Array.getD,h1,hi']at this
    have hold:(a.put ops[i].dst v).tmps.getD t undef=a.tmps.getD t undef:=by
     cases hdi:ops[i].dst with
     |none=>rfl
     |some d=>exact hdi▸hother d t hdi (λe=>hne (by rw[hdi,e]))
    rw[hold];refine(h5 t ht (λj o u q=>?_)).mono hgr hnm;have hij:i≠j:=λe=>by subst e;rw[L]at u;obtain rfl:=E5 u;exact hne q
    have :=hno j o u q;simpa only[Jt,Vg hij]using this
   ·intro k o d hk hkd hl;by_cases hik:i=k
    ·subst hik;rw[L]at hk;obtain rfl:=E5 hk;rw[hkd,aiI (by rw[hsz];exact au2 i _ d L hkd)];exact hR
    have hl':l.getD k false=true:=by
     simp only[Jt,Vg hik]at hl ⊢;exact hl
    have :=(h6 k o d hk hkd hl').mono hgr hnm;cases hdst:ops[i].dst with
    |none=>exact this
    |some d'=>
     have hne:d'≠d:=λe=>hik (hinj i k _ _ d' L hk hdst (e▸hkd));rw[←hdst,hother d' d hdst hne];exact this
   intro j o u hl k hk;have hil:i<l.size:=AL
   by_cases hik:i=k
   ·subst hik;simp[Array.getD,hil]
   have hkk:l.getD k false=true:=by
    by_cases hij:i=j
    ·subst hij;rw[L]at u;obtain rfl:=E5 u;exact(Z k hk).1
    have hl':l.getD j false=true:=by
     simp only[Jt,Vg hij]at hl ⊢;exact hl
    exact h7 j o u hl' k hk
   simp only[Jt,Vg hik]at hkk ⊢;exact hkk
  unfold wpOpIn;rw[L];show if Region.wanted ops[i] (yielded ops a.tmps)=true then _ else _
  rcases hfact.1 with⟨ns,hop,aA4,hnt,hg⟩|⟨hx,hev,hg⟩
  ·have hwant:Region.wanted ops[i] (yielded ops a.tmps)=true:=by
    unfold Region.wanted;rcases hg with hg|⟨j,want,d,b,hg,u,z,rfl⟩
    ·rw[hg]
    rw[hg];show(yielded ops a.tmps j==some b)=true;rw[aCP j d _ ((M i _ L).2 j b hg) u z];simp
   rw[Ea hwant];refine fG ?_ (hop.inR ro C ok H a w _ hmem (λn hn=>?_))
   ·rintro a' w' ⟨v,ok',H',rfl,hgr,hnn,hm',hx⟩;exact hput _ v ok' H' w' rfl hgr hnn hm' hx
   have hnv:=Yf aA4 n hn;obtain⟨x,y⟩:=n;simp only at hnv ⊢;subst hnv;cases x with
   |tmp t=>
    refine hread t ?_;rw[FQ]at hnt
    have :t∈Oh ns:=by
     unfold Oh;rw[dX];exact⟨_,hn,rfl⟩
    simpa using hnt t this
   |const v=>exact .d _ _ (.lit v)
   |global g=>exact .d _ _ (.lit _)
   |func f=>exact .d _ _ (.fn (.func f) [] [] #[] #[] rfl rfl (λi hi=>Tf) (λi hi=>Tf))
  have hwant:Region.wanted ops[i] (yielded ops a.tmps)=false:=by
   unfold Region.wanted;obtain⟨j,want,d,v,hg,u,z,hv⟩:=hg;rw[hg];show(yielded ops a.tmps j==some want)=false;rw[aCP j d _ ((M i _ L).2 j want hg) u z];rcases hv with rfl|rfl
   ·simp
   rfl
  rw[Eh (by rw[hwant];simp)];exact⟨λ_ _=>trivial,hput _ _ ok H w hx.symm (.refl _ _) (.refl _) (by rw[hev];exact hmem) (.d _ _ (.lit _))⟩
 ·rintro l a w ⟨h1,ok,H,m,avA,J,hmem,hsz,hdf,h5,h6,h7⟩ hr
  have hall:∀n i,i<n->i<ops.size->l.getD i false=true:=by
   intro n
   induction n with
   |zero=>intro i hi;omega
   |succ n ih=>
    intro i hi hi2;by_cases hn:i<n
    ·exact ih i hn hi2
    have hin:i=n:=AL
    subst hin;rw[←Bool.not_eq_false];intro hf;have L:ops[i]? =some ops[i]:=by simp[hi2]
    have hmem:i∈Region.ready .any ops l:=by
     unfold Region.ready;rw[Gx];refine⟨by simpa using hi2,?_⟩;have hil:i<l.size:=AL
     have hf':l.getD i true=false:=aTc
     rw[hf',L];simp only[Jl,GX,KD,Nz];rw[Ws];intro e he;cases hbe:Region.binds .any e with
     |false=>simp
     |true=>
      have hlt:=aA2 i _ L e (by simpa using he) hbe;rw[ih e.on AL AL];simp
    rw[hr]at hmem;simp at hmem
  refine hQ ok H _ _ ?_;subst hend
  have hE:(U ops.size).ents=(U m).ents:=Y m ops.size avA (Eb _) (λb h2 h3=>by
   rw[←Z4];intro z
   exact absurd ((J b z h3).1 (hall (b+1) b AL h3)) AL)
  refine⟨by show Dz C ok H (U ops.size).ents w;rw[hE];exact hmem,by rw[qo];exact hsz,hdf,by rw[a3m];exact hh.base,λt ht=>?_⟩;rw[qo]at ht;by_cases hw:∃(j:Nat) (o:Oper),ops[j]? =some o/\o.dst=some t
  ·obtain⟨j,o,u,q⟩:=hw;have hjn:j<ops.size:=(Ir.1 u).1;rw[aAE hinj u q ht ops.size hjn];exact h6 j o t u q (hall (j+1) j AL hjn)
  have hw':∀(j:Nat) (o:Oper),ops[j]? =some o->o.dst≠some t:=λj o h1 h2=>hw ⟨j,o,h1,h2⟩;rw[a1y ops.size (λj o _ u=>hw' j o u)];exact h5 t ht (λj o u q=>absurd q (hw' j o u))
 ·unfold toCome;simp
 refine⟨Bf,ok,H,0,F7 _,λb z _=>by simp[Array.getD],?_,hh.size,hh.defers.mono (λb z=>⟨z,rfl⟩),λt ht _=>?_,λi o d _ _ hl=>?_,λj o _ hl=>?_⟩
 ·exact⟨⟨hh.mem.fr.os,hh.mem.fr.tape,hh.mem.fr.output,hh.mem.fr.size,hh.mem.fr.block⟩,hh.mem.CS,hh.mem.CU,hh.mem.lH,hh.mem.names,hh.mem.hlen,λk e h h1 h2=>(hh.mem.ent k e h h1 h2).drew,hh.mem.blk,hh.mem.Jk⟩
 ·exact R.mono (w:=w) (ok:=ok) (w':={ w with drawn:=w.drawn+1 }) (λb z=>⟨z,rfl⟩) (.refl _) (hh.slot t ht)
 ·simp[Array.getD]at hl
 simp[Array.getD]at hl
def Bq.aA5 {id:Nat}(hm:P.follows .mixedOrders=true)(j:(UJ ops&&Y2 ops&&Zj ops σ.slots.length&&XR ops)=true)(sl:A8 Nat)(q:U5 ops bs sl=true)(h:Fp P ops ops.toList σ rs ess bs σ')(hsl:∀i,i∈sl->bs.getD i false=false/\∀m,i<=m->m<=ops.size->∀o,ops[i]? =some o->RP P ops ⟨(Gp ops σ (λi=>rs.getD i .junk) (λi=>ess.getD i []) i).slots,(Gp ops σ (λi=>rs.getD i .junk) (λi=>ess.getD i []) m).ents,σ.base⟩ (rs.getD i .junk) (Gp ops σ (λi=>rs.getD i .junk) (λi=>ess.getD i []) m).ents false o)(u:Q .normal σ'):Bq P (.region id ops true) σ Q:=
 ⟨λro _ C ok H a w z=>wpIn_region_any hm (Bq.az8 j sl q h hsl ro C ok H a w z _ λok' H' _ _ h=>⟨ok',H',σ',h,u⟩)⟩
def aRK (h:Xd ops bs=true):U5 ops bs []=true:=by
 unfold U5;unfold Xd at h;simpa using h
def Bq.draw {id:Nat}{σ σ':BQ}{Q:Exit->BQ->Prop}{rs:A8 Ag}{ess:A8 (A8 Bd)}{bs:A8 AX}(hm:P.follows .mixedOrders=true)(j:(UJ ops&&Y2 ops&&Zj ops σ.slots.length&&XR ops)=true)(q:Xd ops bs=true)(h:Fp P ops ops.toList σ rs ess bs σ')(u:Q .normal σ'):Bq P (.region id ops true) σ Q:=
 Bq.aA5 hm j [] (aRK q) h (λ_ hi=>absurd hi G7) u
def DV:=@Bq.draw
end
def Ee (P:Cm)(f:FuncId)(args:A8 Ag)(E:A8 Bd)(q:Ag)(E':A8 Bd):Prop:=
 ∀(ok:Nat->Prop) (X:A8 Nat) (H:A8 CO) (w:Ba) (j:Bh BI),Dz ⟨w,ok,X,H⟩ ok H E w->j.size=args.length->(∀i,i<args.length->R ok w H (args.getD i .junk) (j.getD i undef))->
  Calls P f j w λe w'=>∃v ok' H',e=.returned v/\Dz ⟨w,ok,X,H⟩ ok' H' E' w'/\R ok' w' H' q v
def Holds.az9 (h:Holds C ok H σ a w)(t:Nat):R ok w H (σ.slots.getD t .junk) (a.tmps.getD t undef):=h.get (.tmp t)
def BQ.enter (args:A8 Ag)(n:Nat)(E:A8 Bd):BQ:=⟨args++List.replicate (n-args.length) .junk,E,E.length⟩
def R.lit (h:R ok w H (.d (.lit u)) v):v=u:=by
 cases h with |d _ _ h=>cases h;rfl
structure El (P:Program) (t:TypeId) (agg:Bool) (size:Nat):Prop where
 agg:∀w,(isAgg t).run P w=.ok agg w
 size:∀w,(sizeOf t).run P w=.ok size w
def aD6 (P:Cm)(t:Bz)(agg:AX)(size:Nat):AX:=
 (match P.underlying t with |some (.struct _)|some (.array _ _)=>agg|some _=> !agg|none=>false)&&(match P.info? t with |some i=>i.size=size|none=>false)
variable {agg:AX}{t:Bz}
def Fq (h:aD6 P t agg size=true):El P t agg size:=by
 unfold aD6 at h;simp only[Dj]at h;refine⟨λw=>?_,λw=>?_⟩
 ·have h1:=h.1;cases j:P.underlying t with
  |none=>
   grind
  |some d=>
   rw[j]at h1;have e:(underlying t).run P w=.ok d w:=aHk
   simp only[isAgg,G9,e,GU];cases d<;>cases agg<;>simp_all
 have h2:=h.2;cases hi:P.info? t with
 |none=>
  grind
 |some i=>
  rw[hi]at h2;have :i.size=size:=L9
  simp[sizeOf,typeInfo,hi,this]
variable {α:Type}{b f off:Nat}{c x y:CB}{cs:A8 Ag}{e' t':Bz}{i:Int}{kd:IntKind}{r v:BI}{s:BO}{xs:A8 D}{p:α->Prop}
section
variable {P:Cm} {o:Oper} {es:A8 Bd}
def MH {a:α}(h:∀n∈[a],p n):p a:=h a Bf
def Fb {a b:α}(h:∀n∈[a,b],p n):p a/\p b:=⟨h a Bf,h b Bf⟩
def aK1 {v:Ag}(j:o.op=.move x:=by exact rfl):CM P o [(x,v)] es v es:=
 .pure λ_ _ a _ _ _ q=>⟨a.eval x,by simp[execOp,j],q (x,v) Bf⟩
def akB {v:Ag}(j:o.op=.assign x:=by exact rfl):CM P o [(x,v)] es v es:=
 .pure λ_ _ a _ _ _ q=>⟨a.eval x,by simp[execOp,j],q (x,v) Bf⟩
def agk {v:Ag}(b:AX)(q:b=true)(u:o.op=.pick c x y:=by exact rfl):CM P o [(c,.d (.lit (.bool b))),(x,v)] es v es:=
 .pure λ_ _ a _ _ _ j=>⟨a.eval x,by
  have :=(Fb j).1.lit;simp only at this
  simp[execOp,u,this,asBool,q],(Fb j).2⟩
def agZ {v:Ag}(b:AX)(q:b=false)(u:o.op=.pick c x y:=by exact rfl):CM P o [(c,.d (.lit (.bool b))),(y,v)] es v es:=
 .pure λ_ _ a _ _ _ j=>⟨a.eval y,by
  have :=(Fb j).1.lit;simp only at this
  simp[execOp,u,this,asBool,q],(Fb j).2⟩
def Ij {op:BinOp}(q:o.op=.binOp op t x y t')(h:∀w,(binOp op t u v).run P w=.ok r w)(z:u.oneCell'=true/\u matches .int _ _| .string _| .bool _):
 CM P o [(x,.d (.lit u)),(y,.d (.lit v))] es (.d (.lit r)) es:=
 .pure λ_ _ a w _ _ j=>⟨r,by
  have h1:=(Fb j).1.lit;have h2:=(Fb j).2.lit;simp only at h1 h2
  have I:(eqGuard op t x y u v).run P w=.ok () w:=by
   unfold eqGuard;cases u<;>simp at z<;>(cases op<;>simp[pure,Sem.run_pure'])
  simp only[execOp,q,h1,h2,G9,I,h w,GU,Hg],.d _ _ (.lit _)⟩
def aKY {op:UnOp}(j:o.op=.unOp op t x)(h:∀w,(Op.unary op u).run P w=.ok r w):CM P o [(x,.d (.lit u))] es (.d (.lit r)) es:=
 .pure λ_ _ a w _ _ q=>⟨r,by
  have h1:=(MH q).lit;simp only at h1
  simp only[execOp,j,h1,G9,h w,GU,Hg],.d _ _ (.lit _)⟩
def aMd {s:Bz}(j:o.op=.convert s t x)(h:∀w,(convert s t u).run P w=.ok r w):CM P o [(x,.d (.lit u))] es (.d (.lit r)) es:=
 .pure λ_ _ a w _ _ q=>⟨r,by
  have h1:=(MH q).lit;simp only at h1
  simp only[execOp,j,h1,G9,h w,GU,Hg],.d _ _ (.lit _)⟩
def aaE {i:Nat}{xs:A8 Ag}{v:Ag}(z:o.op=.extract x i)(I:xs[i]? =some v):CM P o [(x,.eX xs)] es v es:=
 .pure λok H a w _ _ J=>by
  have h1:=MH J;simp only at h1;generalize L:a.eval x=u at h1;cases h1 with
  |eX _ vs hl h=>
   obtain⟨hi,q⟩:=I5.1 I;have h2:=h i hi;have M:xs.getD i .junk=v:=by simp[List.getD,hi,q]
   have j:i<vs.size:=AL
   have O:vs.getD i undef=vs[i]:=by simp[Array.getD,j]
   rw[M,O]at h2;exact⟨vs[i],by simp[execOp,z,L,Instr.extract,j],h2⟩
def aPd (I:P.underlying t=some (.slice e))(j:o.op=.call { callee:=.builtin .len,args:= #[x],argTypes:= #[t] }:=by exact rfl):
 CM P o [(x,.d (.sl xs))] es (.d (.lit (.int .i64 xs.length))) es:=
 .pure λok H a w _ _ J=>by
  have h1:=MH J;simp only at h1;generalize q:a.eval x=u at h1;have z:(underlying t).run P w=.ok (.slice e) w:=by simp[underlying,I]
  refine⟨_,?_,.d _ _ (.lit _)⟩;cases h1 with
  |d _ _ h=>
   cases h with
   |sl0 ad cap=>simp[execOp,j,resolve,invoke,builtin,Builtin.len_,q,z,goInt]
   |sl _ b off cap size=>simp[execOp,j,resolve,invoke,builtin,Builtin.len_,q,z,goInt]
def aXm (j:P.underlying t=some .string)(q:o.op=.call { callee:=.builtin .len,args:= #[x],argTypes:= #[t] }:=by exact rfl):
 CM P o [(x,.d (.lit (.string s)))] es (.d (.lit (.int .i64 s.size))) es:=
 .pure λok H a w _ _ u=>by
  have h1:=(MH u).lit;simp only at h1;have z:(underlying t).run P w=.ok .string w:=aHk
  exact⟨_,by simp[execOp,q,resolve,invoke,builtin,Builtin.len_,h1,z,goInt],.d _ _ (.lit _)⟩
def Hr {es:A8 Bd}(u:∀(k:Nat) (e:Bd) (h:CO),es[k]? =some e->H[k]? =some h->Fl ok w H h e)(hl:H.length=es.length){e:Bd}(q:es[k]? =some e):
 ∃h,H[k]? =some h/\Fl ok w H h e:=by
 have j:k<H.length:=by rw[hl];exact(I5.1 q).1
 exact⟨H[k],by simp[j],u k e _ q (by simp[j])⟩
def afO {s:Nat}(J:es[k]? =some (.arr e' s xs))(L:P.underlying t=some (.slice e))(M:o.op=.call { callee:=.builtin .len,args:= #[x],argTypes:= #[t] }:=by exact rfl):
 CM P o [(x,.aS k)] es (.d (.lit (.int .i64 xs.length))) es:=
 .pure λok H a w j hl O=>by
  have h1:=MH O;simp only at h1;generalize U:a.eval x=u at h1;have Y:(underlying t).run P w=.ok (.slice e) w:=by simp[underlying,L]
  obtain⟨h,Z,q⟩:=Hr j hl J;refine⟨_,?_,.d _ _ (.lit _)⟩;cases h1 with
  |aS _ ad n cap s' I=>
   rw[Z]at I;obtain rfl:=E5 I;obtain⟨_,_,ys,⟨_,ho2⟩,_⟩:=q
   have z:n=xs.length:=by
    grind
   subst z;simp[execOp,M,resolve,invoke,builtin,Builtin.len_,U,Y,goInt]
structure ED (P:Program) (t:TypeId) (f off:Nat):Prop where
 run:∀(b o:Nat) w,(Instr.fieldAt t (.pointer (some ⟨b,o,none⟩)) f).run P w=.ok (.pointer (some ⟨b,o+off,none⟩)) w
def aS1 (P:Cm)(t:Bz)(f off:Nat):AX:=
 match P.underlying t with
 |some (.struct q)=>match q[f]? with
  |some j=>j.offset=off&&(match P.info? j.type with |some i=>i.size≠0|none=>false)
  |none=>false
 |_=>false
def EO {P:Cm}(h:aS1 P t f off=true):ED P t f off:=by
 unfold aS1 at h;refine⟨λb o w=>?_⟩;split at h
 ·rename_i q u;split at h
  ·rename_i z I;simp only[Dj,Iz]at h;obtain⟨h1,h2⟩:=h;split at h2
   ·rename_i i hi;have hs:(sizeOf z.type).run P w=.ok i.size w:=by simp[sizeOf,typeInfo,hi]
    have h3:i.size≠0:=L9
    have j:(underlying t).run P w=.ok (.struct q) w:=by simp[underlying,u]
    simp[Instr.fieldAt,j,I,Instr.sureAddr,fieldPlace,hs,h3,addr_add,h1]
   cases h2
  cases h
 cases h
def ahk {cs:A8 D}(I:ED P t f off)(J:o.op=.fieldAddr t x f:=by exact rfl):CM P o [(x,.d (.ref cs j))] es (.d (.ref cs (j+off))) es:=
 .pure λok H a w _ _ L=>by
  have h1:=MH L;simp only at h1;generalize M:a.eval x=u at h1;cases h1 with
  |d _ _ h=>
   cases h with
   |ref _ _ b p q z O U=>
    refine⟨.pointer (some ⟨b,p+(j+off),none⟩),?_,.d _ _ (.ref cs (j+off) b p q z O U)⟩;simp only[execOp,J,M,G9,I.run,GU,Hg,Ur]
def abR (q:ED P t f off)(z:o.op=.fieldAddr t x f:=by exact rfl):CM P o [(x,.ptr k j)] es (.ptr k (j+off)) es:=
 .pure λok H a w _ _ I=>by
  have h1:=MH I;simp only at h1;generalize J:a.eval x=u at h1;cases h1 with
  |ptr _ _ b s h=>
   refine⟨.pointer (some ⟨b,j+off,none⟩),?_,.ptr _ _ b s h⟩;simp only[execOp,z,J,G9,q.run,GU,Hg]
def ahd {i:Nat}(q:ED P t f off)(z:o.op=.fieldAddr t x f:=by exact rfl):CM P o [(x,.lW k i j)] es (.lW k i (j+off)) es:=
 .pure λok H a w _ _ I=>by
  have h1:=MH I;simp only at h1;generalize J:a.eval x=u at h1;cases h1 with
  |lW _ _ _ b n cap s h=>
   refine⟨.pointer (some ⟨b,i*s+(j+off),none⟩),?_,.lW _ _ _ b n cap s h⟩;simp only[execOp,z,J,G9,q.run,GU,Hg,Ur]
def a0y {k:IntKind}{el:D}(Z:P.underlying t=some (.slice e))(hT:El P e agg size)(h0:0<=i)(hi:xs[i.toNat]? =some el)(hs:el.cells.length=size)(ho:o.op=.indexAddr t x y:=by exact rfl):CM P o [(x,.d (.sl xs)),(y,.d (.lit (.int k i)))] es (.d (.ref el.cells 0)) es:=
 .pure λok H a w _ _ U=>by
  have h1:=(Fb U).1;have h2:=(Fb U).2.lit;simp only at h1 h2;generalize he:a.eval x=u at h1;have hu:(underlying t).run P w=.ok (.slice e) w:=by simp[underlying,Z]
  obtain⟨z,J⟩:=I5.1 hi;cases h1 with
  |d _ _ h=>
   cases h with
   |sl0 ad cap=>simp at z
   |sl _ b off cap q Y L M hf hx hc=>
    have hd:xs.getD i.toNat EP=el:=by simp[List.getD,z,J]
    have O:q=size:=by rw[←M _ z,hd,hs]
    subst O;refine⟨.pointer (some ⟨b,off+i.toNat*q+0,none⟩),?_,.d _ _ (.ref el.cells 0 b (off+i.toNat*q) (λh=>L AL (by rw[hs]at h;exact h)) ?_ ?_ ?_)⟩
    ·have hlen:0<=i/\i<(xs.length:Int):=⟨h0,AL⟩
     simp only[execOp,ho,he,h2,Instr.indexAt,asIntOf,G9,Hg,hu,GU,Sem.run_ite,hlen,and_self,KP,hT.size,addr_add,Pz]
    ·intro j I;rw[hs]at I;rw[←hd];exact hf _ z j I
    ·intro j I;rw[hs]at I;rw[Ur];exact hx _ z j I
    intro j I;rw[hs]at I;rw[Ur,←hd];exact hc _ z j I
def amk (U:es[k]? =some (.arr e' size xs))(Y:P.underlying t=some (.slice e))(Z:El P e agg size)(h0:0<=i)(hi:i.toNat<xs.length)(ho:o.op=.indexAddr t x y:=by exact rfl):CM P o [(x,.aS k),(y,.d (.lit (.int kd i)))] es (.lW k i.toNat 0) es:=
 .pure λok H a w q hl J=>by
  have h1:=(Fb J).1;have h2:=(Fb J).2.lit;simp only at h1 h2;generalize he:a.eval x=u at h1;have hu:(underlying t).run P w=.ok (.slice e) w:=by simp[underlying,Y]
  obtain⟨h,L,z⟩:=Hr q hl U;cases h1 with
  |aS _ ad n cap s' M=>
   rw[L]at M;obtain rfl:=E5 M;obtain⟨hs,_,ys,⟨_,I⟩,_⟩:=z;simp only at hs;subst hs;rcases I with⟨j,h3⟩|⟨g,O,cur,j,_⟩
   ·omega
   simp only[kR]at j;obtain⟨rfl,rfl,rfl⟩:=j;refine⟨.pointer (some ⟨g,i.toNat*s'+0,none⟩),?_,.lW _ _ _ _ _ _ _ L⟩;have hlen:0<=i/\i<(xs.length:Int):=⟨h0,AL⟩
   simp only[execOp,ho,he,h2,Instr.indexAt,asIntOf,G9,Hg,hu,GU,Sem.run_ite,hlen,and_self,KP,Z.size,addr_add,Ky,Pz]
def al6 {k:IntKind}{c:UInt8}(q:P.underlying t=some .string)(u:0<=i)(hi:s[i.toNat]? =some c)(z:o.op=.index t x y:=by exact rfl):
 CM P o [(x,.d (.lit (.string s))),(y,.d (.lit (.int k i)))] es (.d (.lit (.int .u8 c.toNat))) es:=
 .pure λok H a w _ _ j=>by
  have h1:=(Fb j).1.lit;have h2:=(Fb j).2.lit;simp only at h1 h2;have I:(underlying t).run P w=.ok .string w:=aHO
  exact⟨_,by simp only[execOp,z,h1,h2,Instr.index,asIntOf,G9,Hg,I,GU,u,KP,hi],.d _ _ (.lit _)⟩
def Jz (l:A8 Ag):A8 D:=l.map λ| .d x=>x|_=>EP
def Ag.CX:Ag->AX
 | .d _=>true
 |_=>false
def R.toD {x:Ag}(h:R ok w H x v)(hd:x.CX=true):EN ok w ((λ| .d x=>x|_=>EP) x) v:=by
 cases h with
 |d _ _ h=>exact h
 |_=>simp[Ag.CX]at hd
def QZ (agg:AX)(cs:A8 D)(off n:Nat):D:=if agg then .agg ((cs.drop off).take n)else cs.getD off EP
def a7X {P:Cm}{p:Nat}{cs:A8 D}(M:El P t agg n)(hn:off+n<=cs.length)(h1:agg=false->n=1)(U:∀i,i<cs.length->(cs.getD i EP).leaf=true)(Y:∀j,j<cs.length->(w.cell? ⟨b,p+j,none⟩).isSome=true)(O:∀j,j<cs.length->EN ok w (cs.getD j EP) (cellAt w b (p+j))):
 ∃v,(Instr.loadAt t (.pointer (some ⟨b,p+off,none⟩))).run P w=.ok v w/\EN ok w (QZ agg cs off n) v:=by
 have q:∀j,j<cs.length->w.cell? ⟨b,p+j,none⟩=some (cellAt w b (p+j)):=by
  intro j I;have :=Y j I;obtain⟨u,Z⟩:=SX.1 this;simp[cellAt,Z]
 cases agg with
 |false=>
  have :=h1 rfl;subst this;refine⟨cellAt w b (p+off),?_,O off AL⟩;have L:=q off AL;simp[Instr.loadAt,Instr.sureAddr,loadVar,M.agg,L]
 |true=>
  let vs:Bh BI:=((List.range n).map λj=>cellAt w b (p+(off+j))).toArray
  have z:vs.size=n:=by simp[vs]
  have J:∀j,j<n->vs.getD j undef=cellAt w b (p+(off+j)):=by
   intro j I;simp[vs,Array.getD,I]
  refine⟨.agg vs,?_,?_⟩
  ·simp only[Instr.loadAt,Instr.sureAddr,G9,Hg,GU]
   have h:=aaM (P:=P) w t b (p+off) vs (M.agg w) (by rw[z];exact M.size w) (λj I=>by
    rw[z]at I;rw[J j I,Ur]
    exact q (off+j) AL)
   exact h
  simp only[QZ,KP];have hlen:((cs.drop off).take n).length=n:=Ej
  have L:∀i,i<n->((cs.drop off).take n).getD i EP=cs.getD (off+i) EP:=by
   grind
  refine .agg _ vs (by rw[hlen,z]) (λi hi=>?_) (λi hi=>?_)
  ·rw[hlen]at hi;rw[L i hi];exact U _ AL
  rw[hlen]at hi;rw[L i hi,J i hi];exact O _ AL
def ae2 {cs:A8 D}(z:El P t agg n)(I:off+n<=cs.length)(h1:agg=false->n=1)(J:o.op=.load t x:=by exact rfl):
 CM P o [(x,.d (.ref cs off))] es (.d (QZ agg cs off n)) es:=
 .pure λok H a w _ _ q=>by
  have j:=MH q;simp only at j;generalize L:a.eval x=u at j;cases j with
  |d _ _ h=>
   cases h with
   |ref _ _ b p M O U Y=>
    obtain⟨v,Z,hd⟩:=a7X z I h1 O U Y;exact⟨v,by simp only[execOp,J,L,G9,Z,GU,Hg],.d _ _ hd⟩
def sD (l:A8 Ag):(Jz l).length=l.length:=by simp[Jz]
def aVd {l:A8 Ag}{i:Nat}(h:i<l.length):(Jz l).getD i EP=(λ| .d x=>x|_=>EP) (l.getD i .junk):=by
 simp[Jz,List.getD,h]
def aJg (O:Fl ok w H h (.box cs))(hd:cs.all Ag.CX=true):
 ∃b,h.v=.pointer (some ⟨b,0,none⟩)/\(∀i,i<(Jz cs).length->((Jz cs).getD i EP).leaf=true)/\(∀j,j<(Jz cs).length->(w.cell? ⟨b,0+j,none⟩).isSome=true)/\(∀j,j<(Jz cs).length->EN ok w ((Jz cs).getD j EP) (cellAt w b (0+j))):=by
 obtain⟨b,vs,T,h1,h2,h3,I⟩:=O;rw[FQ]at hd
 have q:∀j,j<cs.length->w.cell? ⟨b,0+j,none⟩=some (vs.toList.getD j undef):=by
  intro j u;rw[Ky];have z:j<vs.size:=by simpa using(by omega:j<vs.toList.length)
  simp[World.cell?,h2,z,List.getD]
 refine⟨b,h1,λi hi=>?_,λj u=>?_,λj u=>?_⟩
 ·rw[sD]at hi;rw[aVd hi];have J:=(I i hi).1;have L:=hd (cs.getD i .junk) OD;cases M:cs.getD i .junk with
  |d x=>rw[M]at J;exact J
  |_=>rw[M]at L;simp[Ag.CX]at L
 ·rw[sD]at u;rw[q j u];rfl
 rw[sD]at u;rw[aVd u];unfold cellAt;rw[q j u];exact(I j u).2.toD (hd (cs.getD j .junk) aKS)
def akE (O:es[k]? =some (.box cs))(hd:cs.all Ag.CX=true)(U:El P t agg n)(Y:off+n<=cs.length)(h1:agg=false->n=1)(Z:o.op=.load t x:=by exact rfl):
 CM P o [(x,.ptr k off)] es (.d (QZ agg (Jz cs) off n)) es:=
 .pure λok H a w q hl z=>by
  have j:=MH z;simp only at j;generalize he:a.eval x=u at j;obtain⟨h,hh,I⟩:=Hr q hl O;obtain⟨b,J,hf,hx,hc⟩:=aJg I hd;cases j with
  |ptr _ _ b' s L=>
   rw[hh]at L;obtain rfl:=E5 L;simp at J;subst J;obtain⟨v,M,hD⟩:=a7X U (by rw[sD];exact Y) h1 hf hx hc;rw[Ky]at M;exact⟨v,by simp only[execOp,Z,he,G9,M,GU,Hg],.d _ _ hD⟩
def aV3 {v:Ag}(Y:es[k]? =some (.box cs))(Z:cs[off]? =some v)(hT:El P t false 1)(ho:o.op=.load t x:=by exact rfl):CM P o [(x,.ptr k off)] es v es:=
 .pure λok H a w z hl J=>by
  have q:=MH J;simp only at q;generalize he:a.eval x=u at q;obtain⟨h,hh,b,vs,T,M,h2,h3,h4⟩:=Hr z hl Y;cases q with
  |ptr _ _ b' s O=>
   rw[hh]at O;obtain rfl:=E5 O;simp at M;subst M;obtain⟨I,L⟩:=I5.1 Z;have U:=(h4 off I).2;have e1:cs.getD off .junk=v:=by simp[List.getD,I,L]
   have j:off<vs.size:=by simpa using(by omega:off<vs.toList.length)
   have e2:vs.toList.getD off undef=vs[off]:=vG
   rw[e1,e2]at U;refine⟨vs[off],?_,U⟩;have hc:w.cell? ⟨b',off,none⟩=some vs[off]:=by simp[World.cell?,h2,j]
   simp[execOp,ho,he,Instr.loadAt,Instr.sureAddr,loadVar,hT.agg,hc]
end
variable {H':A8 CO}
def Dz.change (hm:Dz C ok H es w)(B:Nat->Prop)(hos:w'.os=w.os)(M:w'.tape=w.tape)(hout:w'.output=w.output)(q:w.heap.size<=w'.heap.size)(J:∀b,b<w.heap.size->¬B b->w'.heap[b]? =w.heap[b]?)(hB:∀b,B b->b<w.heap.size->¬ok b/\(C.w0.heap.size<=b\/b∈C.X))(hok:∀b,ok b->ok' b)(L:∀b,ok' b->ok b\/(w.heap.size<=b/\b<w'.heap.size))(z:Names H H')(hlen:H'.length=es'.length)(I:∀(k:Nat) (e:Bd) (h:CO),es'[k]? =some e->H'[k]? =some h->
  (es[k]? =some e/\H[k]? =some h/\(e.live=true->∀b,EF h.v=some b->¬B b))\/
  (Fl ok' w' H' h e/\(e.live=true->∀b,EF h.v=some b->¬ok' b/\b<w'.heap.size/\(C.w0.heap.size<=b\/b∈C.X)/\
   ∀(k':Nat) (e':Bd) (h':CO),k'≠k->es'[k']? =some e'->e'.live=true->H'[k']? =some h'->EF h'.v≠some b))):
 Dz C ok' H' es' w'/\FM ok w ok' w':=by
 have hg:FM ok w ok' w':=λb j=>⟨hok b j,J b (hm.lH b j) (λu=>(hB b u (hm.lH b j)).1 j)⟩
 refine⟨⟨⟨hos.trans hm.fr.os,M.trans hm.fr.tape,hout.trans hm.fr.output,EK hm.fr.size q,λk hk hx=>?_⟩,λb j=>hok b (hm.CS b j),?_,?_,hm.names.trans z,hlen,?_,?_,?_⟩,hg⟩
 ·have hkw:k<w.heap.size:=YI hk hm.fr.size;rw[J k hkw (λj=>(hB k j hkw).2.elim (λh=>AL) hx)];exact hm.fr.block k hk hx
 ·intro b j;rcases L b j with h|⟨h,_⟩
  ·exact hm.CU b h
  exact .inr (.inl (EK hm.fr.size h))
 ·intro b j;rcases L b j with h|⟨_,h⟩
  ·exact YI (hm.lH b h) q
  exact h
 ·intro k e h Z hh;rcases I k e h Z hh with⟨h1,h2,h3⟩|⟨h1,_⟩
  ·exact(hm.ent k e h h1 h2).mono hg z (λhl b j=>J b (hm.blk k e h b h1 hl h2 j).2.1 (h3 hl b j))
  exact h1
 ·intro k e h b Z hl hh j;rcases I k e h Z hh with⟨h1,h2,h3⟩|⟨_,h1⟩
  ·have :=hm.blk k e h b h1 hl h2 j;refine⟨λu=>?_,YI this.2.1 q,this.2.2⟩;rcases L b u with h4|⟨h4,_⟩
   ·exact this.1 h4
   omega
  exact⟨(h1 hl b j).1,(h1 hl b j).2.1,(h1 hl b j).2.2.1⟩
 intro k k' e e' h h' b Z he' hl O hh hh' j u;apply lY;intro U;rcases I k e h Z hh with⟨h1,h2,h3⟩|⟨_,h1⟩
 ·rcases I k' e' h' he' hh' with⟨Y,h2',h3'⟩|⟨_,Y⟩
  ·exact U (hm.Jk k k' e e' h h' b h1 Y hl O h2 h2' j u)
  exact(Y O b u).2.2.2 k e h U Z hl hh j
 exact(h1 hl b j).2.2.2 k' e' h' (λe=>U e.symm) he' O hh' u
variable {l:A8 α}
def a7N {i:Nat}{z:α}(h:i<l.length):l.getD i z=l[i]:=by simp[List.getD,h]
def YB {a x:α}(h:(l++[a])[k]? =some x):l[k]? =some x\/(k=l.length/\x=a):=by
 grind
def Dz.push (hm:Dz C ok H es w)(o:Obj)(h:CO)(e:Bd)(z:∀b,EF h.v=some b->b=w.heap.size)(Z:Fl ok (w.alloc o) (H++[h]) h e):Dz C ok (H++[h]) (es++[e]) (w.alloc o)/\FM ok w ok (w.alloc o):=by
 refine hm.change (λ_=>False) rfl rfl rfl Bf (λb z _=>Lh _ _ _ z) (λ_ h=>h.elim) (λ_ h=>h) (λ_ h=>.inl h) (II _ _) ig ?_;intro k e' h' I q;rcases YB I with h1|⟨h1,h2⟩
 ·left;refine⟨h1,?_,λ_ _ _ h=>h⟩;have Y:k<H.length:=aES
  grind
 subst h2;have Y:k=H.length:=aHQ
 subst Y;simp at q;subst q;refine .inr ⟨Z,λ_ b J=>?_⟩;obtain rfl:=z b J;refine⟨λh3=>absurd (hm.lH _ h3) AL,Bf,.inl hm.fr.size,λk' L M hne O hl j u=>?_⟩;rcases YB O with h3|⟨h3,_⟩
 ·have U:k'<H.length:=by rw[hm.hlen];exact(I5.1 h3).1
  rw[KJ U]at j;exact absurd (hm.blk k' L M _ h3 hl j u).2.1 AL
 grind
def Dz.fresh (hm:Dz C ok H es w)(o:Obj):
 Dz C (λb=>ok b\/b=w.heap.size) H es (w.alloc o)/\FM ok w (λb=>ok b\/b=w.heap.size) (w.alloc o):=by
 refine hm.change (λ_=>False) rfl rfl rfl Bf (λb j _=>Lh _ _ _ j) (λ_ h=>h.elim) (λ_ h=>.inl h) (λb h=>?_) (.refl _) hm.hlen ?_
 ·rcases h with h|rfl
  ·exact .inl h
  exact .inr ⟨Eb _,Bf⟩
 grind
def Dz.drew (hm:Dz C ok H es w):Dz C ok H es w.drew/\FM ok w ok w.drew:=
 hm.change (λ_=>False) rfl rfl rfl (Eb _) (λ_ _ _=>rfl) (λ_ h=>h.elim) (λ_ h=>h) (λ_ h=>.inl h) (.refl _) hm.hlen λ_ _ _ j q=>.inl ⟨j,q,λ_ _ _ h=>h⟩
def Fl.dead:Fl ok w H h .dead:=trivial
def R.amg {x:Ag}(h:R ok w H x v)(hl:x.cells.all Ag.leaf=true):Gz ok w H x.cells v.cells.toList:=by
 rw[FQ]at hl;cases h with
 |d x v h=>
  cases h with
  |agg cs vs hs z J=>
   refine⟨by simp[Ag.cells,D.cells,Value.cells,hs],λi hi=>?_⟩;simp only[Ag.cells,D.cells,Df]at hi;have L:(Ag.cells (.d (.agg cs))).getD i .junk=.d (cs.getD i EP):=by simp[Ag.cells,D.cells,List.getD,hi]
   have q:i<vs.size:=AL
   have I:(Value.cells (.agg vs)).toList.getD i undef=vs.getD i undef:=aQq
   rw[L,I];exact⟨z i hi,.d _ _ (J i hi)⟩
  |lit v=>
   have h1:=hl (.d (.lit v)) (by simp[Ag.cells,D.cells]);have e:v.cells= #[v]:=by cases v<;>first|rfl|(simp[Ag.leaf,D.leaf,Value.oneCell']at h1)
   refine⟨by simp[Ag.cells,D.cells,e],λi hi=>?_⟩;simp[Ag.cells,D.cells]at hi;subst hi;rw[e];exact⟨h1,.d _ _ (.lit v)⟩
  |sl0 ad cap=>
   refine⟨rfl,λi hi=>?_⟩;simp[Ag.cells,D.cells]at hi;subst hi;exact⟨rfl,.d _ _ (.sl0 ad cap)⟩
  |sl es b off cap size h1 h2 h3 u M O=>
   refine⟨rfl,λi hi=>?_⟩;simp[Ag.cells,D.cells]at hi;subst hi;exact⟨rfl,.d _ _ (.sl es b off cap size h1 h2 h3 u M O)⟩
  |ref cs off b o h1 h2 h3 u=>
   refine⟨rfl,λi hi=>?_⟩;simp[Ag.cells,D.cells]at hi;subst hi;exact⟨rfl,.d _ _ (.ref cs off b o h1 h2 h3 u)⟩
  |fn f first cap vs us h1 h2 h3 u=>
   refine⟨rfl,λi hi=>?_⟩;simp[Ag.cells,D.cells]at hi;subst hi;exact⟨rfl,.d _ _ (.fn f first cap vs us h1 h2 h3 u)⟩
  |Si t x v h1=>
   refine⟨rfl,λi hi=>?_⟩;simp[Ag.cells,D.cells]at hi;subst hi;exact⟨rfl,.d _ _ (.Si t x v h1)⟩
 |ptr k off b s h=>
  exact⟨rfl,λi hi=>by simp[Ag.cells]at hi;subst hi;exact⟨rfl,.ptr k off b s h⟩⟩
 |aS k ad n cap s h=>
  exact⟨rfl,λi hi=>by simp[Ag.cells]at hi;subst hi;exact⟨rfl,.aS k ad n cap s h⟩⟩
 |lW k i off b n cap s h=>
  exact⟨rfl,λj hi=>by simp[Ag.cells]at hi;subst hi;exact⟨rfl,.lW k i off b n cap s h⟩⟩
 |fn f first cap vs us h1 h2 h3 u=>
  exact⟨rfl,λi hi=>by simp[Ag.cells]at hi;subst hi;exact⟨rfl,.fn f first cap vs us h1 h2 h3 u⟩⟩
 |mp k v s hl h=>
  have e:v.cells= #[v]:=by cases v<;>first|rfl|(simp[Value.oneCell']at hl)
  exact⟨by simp[Ag.cells,e],λj hi=>by simp[Ag.cells]at hi;subst hi;rw[e];exact⟨rfl,.mp k v s hl h⟩⟩
 |clip xs ad h=>exact⟨rfl,λi hi=>by simp[Ag.cells]at hi;subst hi;exact⟨rfl,.clip xs ad h⟩⟩
 |xW k ad n cap s h=>exact⟨rfl,λi hi=>by simp[Ag.cells]at hi;subst hi;exact⟨rfl,.xW k ad n cap s h⟩⟩
 |eX xs vs h1 h2=>have :=hl (.eX xs) (by simp[Ag.cells]);simp[Ag.leaf]at this
 |ag xs vs h1 z h2=>
  refine⟨by simp[Ag.cells,Value.cells,h1],λi hi=>?_⟩;have q:i<vs.size:=by rw[h1];exact hi
  have I:(Value.cells (.agg vs)).toList.getD i undef=vs.getD i undef:=aQq
  rw[I];exact⟨z i hi,h2 i hi⟩
 |junk v=>have :=hl .junk (by simp[Ag.cells]);simp[Ag.leaf]at this
variable {ys:A8 α}{z:BI}
section
variable {P:Cm} {o:Oper} {es:A8 Bd}
def a1C (w:Ba):∀b,EF (CO.v ⟨.pointer (some ⟨w.heap.size,0,none⟩),0⟩)=some b->b=w.heap.size:=λb j=>by simpa[EF]using j.symm
def CM.eff {x:Ag}(h:∀(C:FC) (ok:Nat->Prop) (H:A8 CO) (a:Act) (w:Ba),Dz C ok H es w->(∀n∈ns,R ok w H n.2 (a.eval n.1))->
  ∃v w' ok' H',((execOp a.eval o).run P w=.ok (.value v) w'\/(v=undef/\(execOp a.eval o).run P w=.ok .skip w'))/\FM ok w ok' w'/\Names H H'/\Dz C ok' H' es' w'/\R ok' w' H' x v):CM P o ns es x es':=by
 intro C ok H a w Q hm u;obtain⟨v,w',ok',H',j,h1,h2,h3,q⟩:=h C ok H a w hm u;unfold Oper.wp;rcases j with j|⟨rfl,j⟩
 ·rw[j];exact⟨v,ok',H',rfl,h1,h2,h3,q⟩
 rw[j];exact⟨undef,ok',H',rfl,h1,h2,h3,q⟩
def aZg {v:Ag}(hl:v.cells.all Ag.leaf=true)(q:o.op=.box t x:=by exact rfl):CM P o [(x,v)] es (.ptr es.length 0) (es++[.box v.cells]):=
 .eff λC ok H a w hm u=>by
  have h1:=MH u;simp only at h1
  have j:Fl ok (w.alloc (.cells (a.eval x).cells t)) (H++[⟨.pointer (some ⟨w.heap.size,0,none⟩),0⟩]) ⟨.pointer (some ⟨w.heap.size,0,none⟩),0⟩ (.box v.cells):=
   ⟨w.heap.size,(a.eval x).cells,t,rfl,VZ w _,(h1.amg hl).mono (λb j=>⟨j,Lh _ _ _ (hm.lH b j)⟩) (II _ _)⟩
  obtain⟨h2,h3⟩:=hm.push (.cells (a.eval x).cells t) ⟨.pointer (some ⟨w.heap.size,0,none⟩),0⟩ _ (a1C w) j;refine⟨_,_,ok,_,.inl ?_,h3,II _ _,h2,.ptr _ _ w.heap.size 0 Q9⟩;simp[execOp,q,Instr.box,newVar,newRow]
def Py :BI->D
 | .slice none 0 0=>.sl []
 |v=>.lit v
def jd (v:BI):EN ok w (Py v) v:=by
 unfold Py;split
 ·exact .sl0 none 0
 exact .lit v
def vM (h:v.oneCell'=true):(Py v).leaf=true:=by
 unfold Py;split
 ·rfl
 exact h
def GY (z:BI):A8 Ag:=z.cells.toList.map λv=>.d (Py v)
def ajq (q:(P.info? t).bind (·.zero)=some z)(hl:z.cells.all (·.oneCell')=true)(u:o.op=.alloc t:=by exact rfl):CM P o [] es (.ptr es.length 0) (es++[.box (GY z)]):=
 .eff λC ok H a w hm M=>by
  have I:Fl ok (w.alloc (.cells z.cells t)) (H++[⟨.pointer (some ⟨w.heap.size,0,none⟩),0⟩]) ⟨.pointer (some ⟨w.heap.size,0,none⟩),0⟩ (.box (GY z)):=by
   refine⟨w.heap.size,z.cells,t,rfl,VZ w _,by simp[GY],λi hi=>?_⟩;simp only[GY,Df,Uz]at hi;have J:(GY z).getD i .junk=.d (Py z.cells[i]):=by simp[GY,List.getD,hi]
   have L:z.cells.toList.getD i undef=z.cells[i]:=OD
   rw[J,L];exact⟨vM ((Ws.1 hl) _ Bf),.d _ _ (jd _)⟩
  obtain⟨h2,h3⟩:=hm.push (.cells z.cells t) ⟨.pointer (some ⟨w.heap.size,0,none⟩),0⟩ _ (a1C w) I;refine⟨_,_,ok,_,.inl ?_,h3,II _ _,h2,.ptr _ _ w.heap.size 0 Q9⟩;obtain⟨i,hi,j⟩:=l9.1 q;simp[execOp,u,Instr.alloc,zeroValue,typeInfo,hi,j,newVar,newRow]
def O6 {l:A8 Bd}{a x:Bd}(q:k<l.length)(h:(l.set k a)[j]? =some x):(j=k/\x=a)\/(j≠k/\l[j]? =some x):=by
 grind
def Dz.upd (hm:Dz C ok H es w){M e:Bd}(hk:es[k]? =some M)(I:M.live=true)(hh:H[k]? =some h)(hb:EF h.v=some b)(hos:w'.os=w.os)(J:w'.tape=w.tape)(O:w'.output=w.output)(hsize:w'.heap.size=w.heap.size)(z:∀c,c≠b->w'.heap[c]? =w.heap[c]?)(he:FM ok w ok w'->Fl ok w' H h e):Dz C ok H (es.set k e) w'/\FM ok w ok w':=by
 have U:=hm.blk k M h b hk I hh hb;have hg:FM ok w ok w':=λc q=>⟨q,z c (λe=>U.1 (e▸q))⟩
 refine hm.change (λc=>c=b) hos J O AL (λc _ q=>z c q) (λc q _=>by subst q;exact⟨U.1,U.2.2⟩) (λ_ h=>h) (λ_ h=>.inl h) (.refl _) ig ?_;intro j e' h' hj u;have Y:k<es.length:=(I5.1 hk).1;rcases O6 Y hj with⟨rfl,rfl⟩|⟨L,Z⟩
 ·rw[hh]at u;obtain rfl:=E5 u;refine .inr ⟨he hg,λ_ c q=>?_⟩;rw[hb]at q;obtain rfl:=E5 q;refine⟨U.1,AL,U.2.2,λk' e'' h'' L hk' hl' aLt aLu=>L ?_⟩;rcases O6 Y hk' with⟨rfl,_⟩|⟨_,hk''⟩
  ·rfl
  exact hm.Jk k' j e'' M h'' h b hk'' hk hl' I aLt hh aLu hb
 refine .inl ⟨Z,u,λhl c q hcb=>L ?_⟩;subst hcb;exact hm.Jk j k e' M h' h c Z hk hl I u hh q hb
def aIA (w:Ba)(g:Nat)(cs:Bh BI)(k:Nat)(h:k≠g):(w.setRow g cs).heap[k]? =w.heap[k]? :=setRow_other w g k cs h
def setAt (cs:A8 α)(off:Nat)(ys:A8 α):A8 α:=cs.take off++ys++cs.drop (off+ys.length)
def Sv {cs:A8 α}(h:off+ys.length<=cs.length):(setAt cs off ys).length=cs.length:=by simp[setAt];omega
def Yw {cs:A8 α}(h:off+ys.length<=cs.length)(i:Nat)(z:α):(setAt cs off ys).getD i z=if off<=i/\i<off+ys.length then ys.getD (i-off) z else cs.getD i z:=by
 unfold setAt;have h1:(cs.take off).length=off:=Ej
 by_cases hi:i<off
 ·grind
 by_cases j:i<off+ys.length
 ·rw[Ea AL];simp only[List.getD]
  grind
 rw[Eh AL]
 grind
def aNr {v:Ag}(hk:es[k]? =some (.box cs))(hl:v.cells.all Ag.leaf=true)(hs:∀w,(sizeOf t).run P w=.ok n w)(hn:v.cells.length=n)(hle:off+n<=cs.length)(ho:o.op=.store t x y:=by exact rfl):
 CM P o [(x,.ptr k off),(y,v)] es .junk (es.set k (.box (setAt cs off v.cells))):=
 .eff λC ok H a w hm I=>by
  have h1:=(Fb I).1;have h2:=(Fb I).2;simp only at h1 h2;generalize he:a.eval x=u at h1;obtain⟨h,hh,U⟩:=Hr hm.ent hm.hlen hk;obtain⟨b,vs,T,hb,q,J,L⟩:=U;have j:=h2.amg hl;cases h1 with
  |ptr _ _ M s hH=>
   rw[hh]at hH;obtain rfl:=E5 hH;simp at hb;subst hb;have z:(a.eval y).cells.toList.length=n:=by rw[j.1,hn]
   have aRx:vs.size=cs.length:=a02
   have Y:(a.eval y).cells.size=n:=aC
   have hst:=aEt (P:=P) M off T (a.eval y).cells.toList 0 vs w q (by rw[z];omega) (λu hu=>by
    obtain⟨i,hi,rfl⟩:=G8 hu;have O:=j.2 i (by rw[←j.1];exact hi);have :=O.2.leaf O.1
    rwa [a7N hi]at this)
   simp only[Pz]at hst;have hlt:M<w.heap.size:=(Ir.1 q).1
   obtain⟨h3,h4⟩:=hm.upd (e:=.box (setAt cs off v.cells)) (w':=w.setRow M (vs.toList.take off++(a.eval y).cells.toList++vs.toList.drop (off+(a.eval y).cells.toList.length)).toArray) hk rfl hh rfl rfl rfl rfl aBw (λc hc=>aIA _ _ _ _ hc) (λhg=>by
    refine⟨M,_,T,rfl,yL w M vs _ T (0,0) q,?_,λi hi=>?_⟩
    ·have Z:(vs.toList.take off++(a.eval y).cells.toList++vs.toList.drop (off+(a.eval y).cells.toList.length))=setAt vs.toList off (a.eval y).cells.toList:=rfl;rw[Z,a5N,Sv (by have :=vs.length_toList;omega),Sv AL];simpa using J
    have Z:(vs.toList.take off++(a.eval y).cells.toList++vs.toList.drop (off+(a.eval y).cells.toList.length))=setAt vs.toList off (a.eval y).cells.toList:=rfl;rw[Sv AL]at hi;rw[Z,a5N,Yw (by have :=vs.length_toList;omega),Yw AL,z,hn];split
    ·have O:=j.2 (i-off) AL;exact⟨O.1,O.2.mono hg (.refl _)⟩
    exact⟨(L i hi).1,(L i hi).2.mono hg (.refl _)⟩)
   refine⟨undef,_,ok,H,.inr ⟨rfl,?_⟩,h4,.refl _,h3,.junk _⟩;simp only[execOp,ho,he,Instr.storeAt,Instr.sureAddr,storeVar,G9,Hg,GU,hs,Y,ne_eq,not_true_eq_false,LP,hst]
end
def XH (x:D)(es:A8 D):flat (x::es)=x.cells.map .d++flat es:=VO
def qJ (xs ys:A8 D):flat (xs++ys)=flat xs++flat ys:=VO
def Tc {size:Nat}:∀{es:A8 D},(∀x∈es,x.cells.length=size)->(flat es).length=es.length*size
 | [],_=>VO
 |x::es,h=>by
  rw[XH,Ei,Df,h x Bf,Tc (λy j=>h y (IZ _ j)),GK,dR,WQ]
def flat_get {size:Nat}:∀{es:A8 D},(∀x∈es,x.cells.length=size)->∀i j,i<es.length->j<size->(flat es).getD (i*size+j) .junk=.d ((es.getD i EP).cells.getD j EP)
 | [],_,i,j,hi,_=>Tf
 |x::es,h,0,j,_,q=>by
  have u:=h x Bf;rw[XH,Nat.zero_mul,Ky]
  grind
 |x::es,h,i+1,j,hi,q=>by
  have u:=h x Bf;have z:=flat_get (λy I=>h y (IZ _ I)) i j IW q;rw[XH];simp only[List.getD]at z ⊢;rw[QG (by simp[u,dR];omega)]
  grind
variable {m:Nat}{ty:Bz}{x:BI}{xs ys:A8 D}
section
variable {P:Cm} {o:Oper} {es:A8 Bd}
structure Xx (w:World) (v:Value) (m size:Nat) (news:List Value):Prop where
 len:news.length=m*size
 one:∀u∈news,u.oneCell'=true
 at_:(∃ad c,v=.slice (some ad) m c/\∀(j:Nat) (u:Value),news[j]? =some u->w.cell? (ad.add j)=some u)\/(∃c,v=.slice none 0 c/\m=0)
def dU (H:A8 CO)(h:EN ok w (.sl ys) v)(hs:∀x∈ys,x.cells.length=size):
 ∃z,Xx w v ys.length size z/\Gz ok w H (flat ys) z:=by
 cases h with
 |sl0 ad cap=>
  refine⟨[],⟨Bf,Bf,?_⟩,VO,λi hi=>a5c⟩;cases ad with
  |none=>exact .inr ⟨cap,rfl,rfl⟩
  |some ad=>exact .inl ⟨ad,cap,rfl,λj u h=>JB⟩
 |sl _ b off cap q hcap hok hs' hf hx hc=>
  by_cases hy:ys=[]
  ·subst hy;refine⟨[],⟨Bf,Bf,.inl ⟨⟨b,off,none⟩,cap,rfl,λj u h=>JB⟩⟩,VO,λi hi=>a5c⟩
  have J:0<ys.length:=lN.2 hy;have hsz:q=size:=by rw[←hs' 0 J];exact hs _ (by simp[List.getD,J])
  subst hsz;have hl:=Tc hs
  have key:∀k,k<ys.length*q->∃i j,k=i*q+j/\i<ys.length/\j<q:=by
   intro k I
   have hp:0<q:=by
    rcases Ux q with h0|h0
    ·rw[h0,Nat.mul_zero]at I;omega
    exact h0
   exact⟨k/q,k % q,by rw[Vl];exact(a1G k q).symm,vV (by rwa [Vl]at I),qR _ hp⟩
  let z:A8 BI:=(List.range (ys.length*q)).map λk=>cellAt w b (off+k)
  have L:z.length=ys.length*q:=by simp[z]
  have O:∀k,k<ys.length*q->z.getD k undef=cellAt w b (off+k):=by
   intro k I;simp[z,List.getD,I]
  have M:Gz ok w H (flat ys) z:=by
   refine⟨by rw[L,hl],λk I=>?_⟩;rw[hl]at I;obtain⟨i,j,rfl,hi,U⟩:=key k I;rw[flat_get hs i j hi U,O _ I];exact⟨hf i hi j U,.d _ _ (hc i hi j U)⟩
  refine⟨z,⟨L,λu hu=>?_,.inl ⟨⟨b,off,none⟩,cap,rfl,λk u I=>?_⟩⟩,M⟩
  ·obtain⟨k,I,rfl⟩:=G8 hu;have h5:=M.2 k (by rw[←M.1];exact I);have :=h5.2.leaf h5.1
   rwa [a7N I]at this
  obtain⟨Y,rfl⟩:=I5.1 I;rw[addr_add];have Z:k<ys.length*q:=by rw[←L];exact Y
  obtain⟨i,j,e,hi,U⟩:=key k Z;have hxx:=hx i hi j U;rw[←e]at hxx;obtain⟨u',hu'⟩:=SX.1 hxx;have :=O k Z;rw[a7N Y]at this;rw[this];simp[cellAt,hu']
structure GV (P:Program) (t e:TypeId) (size bytes:Nat):Prop where
 und:P.underlying t=some (.slice e)
 info:∃i z,P.info? e=some i/\i.zero=some z/\i.size=size/\i.bytes=bytes/\z.cells.size=size
 pos:0<size
def aRM (P:Cm)(t e size j:Nat):AX:=
 (match P.underlying t with |some (.slice e')=>e'=e|_=>false)&&(match P.info? e with |some i=>i.size=size&&(i.bytes=j)&&(match i.zero with |some z=>z.cells.size=size|none=>false)|none=>false)&&(0<size)
def KH {P:Cm}{t e:Nat}(h:aRM P t e size j=true):GV P t e size j:=by
 unfold aRM at h;simp only[Dj,Iz]at h;obtain⟨⟨h1,h2⟩,h3⟩:=h;refine⟨?_,?_,h3⟩
 ·split at h1
  ·rename_i e' u;rw[u];simp at h1;rw[h1]
  cases h1
 split at h2
 ·rename_i i hi;simp only[Dj,Iz]at h2;obtain⟨⟨I,J⟩,q⟩:=h2;split at q
  ·rename_i z L;exact⟨i,z,hi,L,I,J,YF⟩
  cases q
 cases h2
def agm {O:Nat}(hE:GV P t e size O){xs:A8 BI}(L:w.ownsRow 0 e size v n xs){I:A8 BI}(q:Xx w x m size I)(hb:(n+m)*O<=140737488355328)(hn:n+m<=maxLen):
 ∃v' w',(Builtin.append_ #[t,t] ty #[v,x]).run P w=.ok v' w'/\w'.ownsRow 0 e size v' (n+m) (xs++I)/\w.grownBy w' v.ownBlock/\(∀g,EF v'=some g->EF v=some g\/w.heap.size<=g):=by
 obtain⟨i,z,hi,hz,hs,Z,hzs⟩:=hE.info;rcases q.at_ with⟨ad,c,rfl,J⟩|⟨c,rfl,rfl⟩
 ·obtain⟨v',w',hr,ho',hg,hnil⟩:=run_append_own (P:=P) w 0 t ty e i z size O hE.und hi hz hs Z hzs hE.pos v n xs L ad m c I q.len J q.one hn hb (F7 _);refine⟨v',w',hr,ho',hg,λg U=>?_⟩;rcases L.2 with⟨rfl,rfl⟩|⟨g0,cap,cur,rfl,hbg,hg0,hnc,hcm,hcs,htake⟩
  ·have hx:xs=[]:=Ho (by simpa using L.1);subst hx;obtain⟨v2,w2,M,ho2,_,_⟩:=run_append_own (P:=P) w w.heap.size t ty e i z size O hE.und hi hz hs Z hzs hE.pos _ 0 [] (a3i w w.heap.size e size) ad m c I q.len J q.one hn hb (Eb _);rw[hr]at M;simp only[Result.ok.injEq]at M;obtain⟨rfl,rfl⟩:=M;rcases ho2.2 with⟨rfl,_⟩|⟨g',_,_,rfl,hle,_⟩
   ·simp[EF]at U
   simp[EF]at U;subst U;exact .inr hle
  by_cases Y:n+m<=cap
  ·have hfit:n*i.size+I.length<=cur.size:=by rw[q.len,hcs,hs,←gu];exact La _ Y
   have M:=run_append_room (P:=P) w t ty e i hE.und hi g0 n cap cur hg0 ad m c I (by rw[hs];exact q.len) J q.one Y hfit;rw[hr]at M;simp only[Result.ok.injEq]at M;obtain⟨rfl,rfl⟩:=M;exact .inl U
  have holds:∀(j:Nat) (u:BI),xs[j]? =some u->w.cell? ((⟨g0,0,none⟩:Addr).add j)=some u:=L.cells (g:=g0) rfl;have M:=run_append_grow (P:=P) w t ty e i z hE.und hi hz ⟨g0,0,none⟩ n cap xs (by rw[hs];exact L.1) holds ad m c I (by rw[hs];exact q.len) J AL (by unfold maxLen at hn;omega) (growslice_fits AL (by rw[Z];exact hb));rw[hr]at M;simp only[Result.ok.injEq]at M;obtain⟨rfl,rfl⟩:=M;simp[EF]at U
  grind
 have hnews:I=[]:=Ho (by simpa using q.len);subst hnews;refine⟨v,w,?_,by simpa using L,⟨rfl,rfl,rfl,Eb _,λ_ _ _=>rfl⟩,λg hg=>.inl hg⟩;rcases L.2 with⟨rfl,rfl⟩|⟨g,cap,cur,rfl,_,_,hnc,_⟩
 ·simp[Builtin.append_,aAR hE.und,sizeOf,typeInfo,hi,Builtin.lenOf,Builtin.firstCells]
 simp[Builtin.append_,aAR hE.und,sizeOf,typeInfo,hi,Builtin.lenOf,Builtin.firstCells,hnc,storeCells]
def aHx {I:Nat}(hE:GV P t e size I){xs:A8 BI}(u:nC w e size v n xs){q:A8 BI}(j:Xx w x m size q)(hb:(n+m)*I<=140737488355328)(hn:n+m<=maxLen):
 ∃v' w',(Builtin.append_ #[t,t] ty #[v,x]).run P w=.ok v' w'/\nC w' e size v' (n+m) (xs++q)/\w.grownBy w' v.ownBlock/\(∀g,EF v'=some g->EF v=some g\/w.heap.size<=g):=by
 rcases u.2 with h|⟨g,cap,U,rfl,h0,Z,hnc,hcm,hcs,htake⟩
 ·obtain⟨v',w',h1,h2,h3,h4⟩:=agm (ty:=ty) hE ⟨u.1,.inl h⟩ j hb hn;exact⟨v',w',h1,.of h2,h3,h4⟩
 obtain⟨i,z,hi,hz,hs,hby,hzs⟩:=hE.info;have hlen:(xs++q).length=(n+m)*size:=by rw[Ei,u.1,j.len,gu]
 rcases j.at_ with⟨ad,c,rfl,L⟩|⟨c,rfl,rfl⟩
 ·by_cases J:n+m<=cap
  ·have O:n*i.size+q.length<=U.size:=by
    rw[j.len,hs,←gu];exact EK (La _ J) hcs
   have hr:=run_append_room (P:=P) w t ty e i hE.und hi g n cap U Z ad m c q (by rw[hs];exact j.len) L j.one J O;rw[hs]at hr O;refine⟨_,_,hr,⟨hlen,.inr ⟨g,cap,_,rfl,F7 _,yL w g U _ e _ Z,J,hcm,?_,?_⟩⟩,⟨rfl,rfl,rfl,Bf,λk _ hk=>setRow_other w g k _ (λe=>hk (by simp[Value.ownBlock,e]))⟩,λg' M=>.inl M⟩
   ·simp only[a3R,Ei,H6,Ld,Uz];omega
   grind
  obtain⟨v',w',h1,h2,h3⟩:=run_append_arg_grows (P:=P) w t ty e i z size I hE.und hi hz hs hby hzs hE.pos ⟨g,0,none⟩ n cap xs u.1 (u.cells (g:=g) rfl) ad m c q j.len L AL hn hb;refine⟨v',w',h1,.of h2,⟨h3.os,h3.tape,h3.output,h3.size,λk hk _=>h3.block k hk Bf⟩,λg' M=>.inr ?_⟩;rcases h2.2 with⟨rfl,_⟩|⟨g2,_,_,rfl,hle2,_⟩
  ·simp[EF]at M
  simp[EF]at M;subst M;exact hle2
 have Y:q=[]:=Ho (by simpa using j.len);subst Y;refine⟨.slice (some ⟨g,0,none⟩) n cap,w,?_,Rf,⟨rfl,rfl,rfl,Eb _,λ_ _ _=>rfl⟩,λg hg=>.inl hg⟩;simp[Builtin.append_,aAR hE.und,sizeOf,typeInfo,hi,Builtin.lenOf,Builtin.firstCells,hnc,storeCells]
def Dz.turn (hm:Dz C ok H es w){Z e:Bd}{h':CO}(hk:es[k]? =some Z)(M:Z.live=true)(hh:H[k]? =some h)(hos:w'.os=w.os)(O:w'.tape=w.tape)(hout:w'.output=w.output)(U:w.heap.size<=w'.heap.size)(J:∀c,c<w.heap.size->EF h.v≠some c->w'.heap[c]? =w.heap[c]?)(hb':∀g,EF h'.v=some g->g<w'.heap.size/\(EF h.v=some g\/w.heap.size<=g))(he:FM ok w ok w'->Fl ok w' (H++[h']) h' e):Dz C ok (H++[h']) (es.set k .dead++[e]) w'/\FM ok w ok w':=by
 have h0:=λb hb=>hm.blk k Z h b hk M hh hb;have hkl:k<es.length:=(I5.1 hk).1;have hg:FM ok w ok w':=λc I=>⟨I,J c (hm.lH c I) (λe=>(h0 c e).1 I)⟩
 refine hm.change (λc=>EF h.v=some c) hos O hout U J (λc I _=>⟨(h0 c I).1,(h0 c I).2.2⟩) (λ_ h=>h) (λ_ h=>.inl h) (II _ _) ig ?_;intro j e' hj' hj u;rcases YB hj with h1|⟨h1,h2⟩
 ·have hjl:j<H.length:=by rw[hm.hlen];simpa using(I5.1 h1).1
  rw[KJ hjl]at u;rcases O6 hkl h1 with⟨rfl,rfl⟩|⟨hne,h3⟩
  ·exact .inr ⟨trivial,λh=>Gv⟩
  refine .inl ⟨h3,u,λhl c I hcb=>hne ?_⟩;exact hm.Jk j k e' Z hj' h c h3 hk hl M u hh I hcb
 subst h2;have hk2:j=H.length:=by rw[hm.hlen];simpa using h1
 subst hk2;simp at u;subst u;refine .inr ⟨he hg,λ_ c I=>?_⟩;obtain⟨h3,q⟩:=hb' c I;refine⟨λhok=>?_,h3,?_,λk' e'' h'' hne hk' Y z L=>?_⟩
 ·rcases q with q|q
  ·grind
  have :=hm.lH c hok;omega
 ·rcases q with q|q
  ·exact(h0 c q).2.2
  exact .inl (EK hm.fr.size q)
 rcases YB hk' with h5|⟨h5,_⟩
 ·have hkl':k'<H.length:=by rw[hm.hlen];simpa using(I5.1 h5).1
  rw[KJ hkl']at z;rcases O6 hkl h5 with⟨rfl,rfl⟩|⟨hne',h6⟩
  ·cases Y
  rcases q with q|q
  ·exact hne' (hm.Jk k' k e'' Z h'' h c h6 hk Y M z hh L q)
  have :=(hm.blk k' e'' h'' c h6 Y z L).2.1;omega
 grind
def a09 {e:Nat}{xs:A8 BI}(h:nC w e size v n xs){g:Nat}(j:EF v=some g):g<w.heap.size:=by
 rcases h.2 with⟨rfl,_⟩|⟨u,_,_,rfl,_,q,_⟩
 ·simp[EF]at j
 simp[EF]at j;subst j;exact(Ir.1 q).1
def aLV {e:Nat}{xs:A8 BI}(h:nC w e size v n xs):v.ownBlock=EF v:=by
 rcases h.2 with⟨rfl,_⟩|⟨j,_,_,rfl,_⟩<;>rfl
def Qg (j:R ok w H (.aS k) v)(q:H[k]? =some h):v=h.v:=by
 cases j with
 |aS _ ad n cap s u=>
  grind
def abl (hm:Dz C ok H es w){q:Nat}(hE:GV P t e size q)(hk:es[k]? =some (.arr e size xs))(hv:R ok w H (.aS k) v){j:A8 BI}(L:Xx w x ys.length size j)(I:Gz ok w H (flat ys) j)(hys:∀y∈ys,y.cells.length=size)(hb:(xs.length+ys.length)*q<=140737488355328)(hn:xs.length+ys.length<=maxLen):
 ∃v' w' H',(Builtin.append_ #[t,t] ty #[v,x]).run P w=.ok v' w'/\FM ok w ok w'/\Names H H'/\Dz C ok H' (es.set k .dead++[.arr e size (xs++ys)]) w'/\R ok w' H' (.aS es.length) v':=by
 obtain⟨h,hh,hok⟩:=Hr hm.ent hm.hlen hk;obtain rfl:=Qg hv hh;obtain⟨h1,h2,EZ,z,hrs⟩:=hok;obtain⟨v',w',hr,J,M,O⟩:=aHx (P:=P) (ty:=ty) hE z L hb hn
 obtain⟨h3,h4⟩:=hm.turn (h':=⟨v',size⟩) (e:=.arr e size (xs++ys)) hk rfl hh M.os M.tape M.output M.size (λc hc hne=>M.block c hc (by rw[aLV z];exact λe=>hne e.symm)) (λg U=>⟨a09 J U,O g U⟩) (λY=>by
  refine⟨rfl,λy hy=>?_,EZ++j,a02,?_⟩
  ·rcases I8.1 hy with h|h
   ·exact h2 y h
   exact hys y h
  have Z:=hrs.mono Y (II H [⟨v',size⟩]);have a2:=I.mono Y (II H [⟨v',size⟩]);rw[qJ];refine⟨by rw[Ei,Ei,Z.1,a2.1],λi hi=>?_⟩;by_cases u:i<(flat xs).length
  ·have e1:(flat xs++flat ys).getD i .junk=(flat xs).getD i .junk:=by simp[List.getD,KJ u]
   have e2:(EZ++j).getD i undef=EZ.getD i undef:=by simp[List.getD,KJ (by rw[Z.1];exact u:i<EZ.length)]
   rw[e1,e2];exact Z.2 i u
  have hi3:i-(flat xs).length<(flat ys).length:=aDf
  have e1:(flat xs++flat ys).getD i .junk=(flat ys).getD (i-(flat xs).length) .junk:=by simp[List.getD,QG (X7 u)]
  have e2:(EZ++j).getD i undef=j.getD (i-(flat xs).length) undef:=by simp[List.getD,QG (by rw[Z.1];omega:EZ.length<=i),Z.1]
  rw[e1,e2];exact a2.2 _ hi3)
 refine⟨v',w',_,hr,h4,II _ _,h3,?_⟩;have hH:(H++[(⟨v',size⟩:CO)])[es.length]? =some ⟨v',size⟩:=Q9
 rcases J.2 with⟨rfl,_⟩|⟨g',c',_,rfl,_⟩
 ·exact .aS _ _ _ _ size hH
 exact .aS _ _ _ _ size hH
def alz {s x:CB}(hE:GV P t e size j)(M:es[k]? =some (.arr e size xs))(q:∀y∈ys,y.cells.length=size)(O:(xs.length+ys.length)*j<=140737488355328)(U:xs.length+ys.length<=maxLen)(Y:o.op=.call { callee:=.builtin .append,args:= #[s,x],argTypes:= #[t,t] }:=by exact rfl):
 CM P o [(s,.aS k),(x,.d (.sl ys))] es (.aS es.length) (es.set k .dead++[.arr e size (xs++ys)]):=
 .eff λC ok H a w hm u=>by
  have h1:=(Fb u).1;have h2:=(Fb u).2;simp only at h1 h2;have I:EN ok w (.sl ys) (a.eval x):=by cases h2 with |d _ _ h=>exact h
  obtain⟨L,z,J⟩:=dU H I q;obtain⟨v',w',H',Z,r1,r2,r3,r4⟩:=abl (ty:=o.type) hm hE M h1 z J q O U;refine⟨v',w',ok,H',.inl ?_,r1,r2,r3,r4⟩;simp[execOp,Y,resolve,invoke,builtin,Z]
def yu (hm:Dz C ok H es w)(e:Bz)(size:Nat):
 Dz C ok (H++[⟨.slice none 0 0,size⟩]) (es++[.arr e size []]) w/\R ok w (H++[⟨.slice none 0 0,size⟩]) (.aS es.length) (.slice none 0 0):=by
 obtain⟨h,_⟩:=hm.change (ok':=ok) (w':=w) (H':=H++[⟨.slice none 0 0,size⟩]) (es':=es++[.arr e size []]) (λ_=>False) rfl rfl rfl (Eb _) (λ_ _ _=>rfl) (λ_ h=>h.elim) (λ_ h=>h) (λ_ h=>.inl h) (II _ _) ig (by
  intro k e' h' q j;rcases YB q with h1|⟨h1,h2⟩
  ·have u:k<H.length:=aES
   rw[KJ u]at j;exact .inl ⟨h1,j,λ_ _ _ h=>h⟩
  subst h2;have u:k=H.length:=aHQ
  subst u;simp at j;subst j
  exact .inr ⟨⟨rfl,Bf,[],⟨Bf,.inl ⟨rfl,rfl⟩⟩,VO,λi hi=>a5c⟩,λ_ b z=>by simp[EF]at z⟩)
 exact⟨h,.aS _ _ _ _ size Q9⟩
def Cc (e:Bz)(size:Nat)(j:o.op=.assign (.const (.slice none 0 0)):=by exact rfl):CM P o [] es (.aS es.length) (es++[.arr e size []]):=
 .eff λC ok H a w hm _=>by
  obtain⟨h1,h2⟩:=yu hm e size;exact⟨.slice none 0 0,w,ok,_,.inl aKa,.refl _ _,II _ _,h1,h2⟩
def aje (j:o.op=.assign (.const (.slice none 0 0)):=by exact rfl):CM P o [] es (.d (.sl [])) es:=
 .pure λ_ _ a w _ _ _=>⟨.slice none 0 0,aKa,.d _ _ (.sl0 none 0)⟩
def agf (j:o.op=.move (.const (.slice none 0 0)):=by exact rfl):CM P o [] es (.d (.sl [])) es:=
 .pure λ_ _ a w _ _ _=>⟨.slice none 0 0,aKa,.d _ _ (.sl0 none 0)⟩
end
def aPX (off:Nat):∀(vs:A8 BI) (i:Nat) (cells:Bh BI),off+i+vs.length<=cells.size->
 ((vs.zipIdx i).foldl (λcs (p:BI×Nat)=>cs.setIfInBounds (off+p.2) p.1) cells).toList=setAt cells.toList (off+i) vs
 | [],i,cells,h=>by simp[setAt]
 |v::vs,i,cells,h=>by
  simp only[GK]at h;rw[List.zipIdx_cons,Fv];rw[aPX off vs (i+1) _ Ej];simp only[aFs];have j:off+i<cells.toList.length:=Ej
  unfold setAt;rw[aEz,Ea j];have h1:(cells.toList.take (off+i)).length=off+i:=Ej
  have q:(List.take (off+i) cells.toList++v::List.drop (off+i+1) cells.toList).take (off+(i+1))=cells.toList.take (off+i)++[v]:=by
   grind
  have u:(List.take (off+i) cells.toList++v::List.drop (off+i+1) cells.toList).drop (off+(i+1)+vs.length)=cells.toList.drop (off+i+(vs.length+1)):=by
   rw[List.drop_append,h1,aB6 AL];have :off+(i+1)+vs.length-(off+i)=vs.length+1:=AL
   rw[this];simp[aFr];congr 1;omega
  rw[q,u];simp
def Ol :A8 (Nat×CB)->A8 Ag->A8 (CB×Ag)
 |(_,x)::j,v::vs=>(x,v)::Ol j vs
 |_,_=>[]
def OQ (place:Nat->AB (Nat×Nat))(n:Nat):A8 (Nat×CB)->A8 Ag->AX
 |(i,_)::j,v::vs=>(match place i with |some (off,s)=>v.cells.length=s&&(off+s<=n)&&v.cells.all Ag.leaf|none=>false)&&OQ place n j vs
 | [],[]=>true
 |_,_=>false
def MB (place:Nat->AB (Nat×Nat)):A8 Ag->A8 (Nat×CB)->A8 Ag->A8 Ag
 |cs,(i,_)::j,v::vs=>MB place (setAt cs ((place i).getD (0,0)).1 v.cells) j vs
 |cs,_,_=>cs
def Gz.setAt {ys:A8 Ag}{vs us:A8 BI}(h:Gz ok w H cs vs)(k:Gz ok w H ys us)(j:off+ys.length<=cs.length):Gz ok w H (setAt cs off ys) (setAt vs off us):=by
 refine⟨by rw[Sv (by rw[h.1,k.1];exact j),Sv j,h.1],λi hi=>?_⟩;rw[Sv j]at hi;rw[Yw j,Yw (by rw[h.1,k.1];exact j),k.1];split
 ·exact k.2 _ AL
 exact h.2 i hi
def sJ {ok:Nat->Prop}{w:Ba}{H:A8 CO}{place:Nat->AB (Nat×Nat)}{a:Act}:∀(q:A8 (Nat×CB)) (vs:A8 Ag) (cs:A8 Ag) (cells:Bh BI),Gz ok w H cs cells.toList->OQ place cs.length q vs=true->
 (∀n∈Ol q vs,R ok w H n.2 (a.eval n.1))->∃j,Instr.fill place cells (q.map λp=>(p.1,a.eval p.2))=some j/\Gz ok w H (MB place cs q vs) j.toList
 | [],[],cs,cells,I,_,_=>⟨cells,rfl,I⟩
 | [],_::_,_,_,_,h,_=>by simp[OQ]at h
 |_::_,[],_,_,_,h,_=>by simp[OQ]at h
 |(i,x)::q,v::vs,cs,cells,I,h,L=>by
  simp only[OQ,Dj]at h;obtain⟨h1,h2⟩:=h;cases hp:place i with
  |none=>
   grind
  |some os=>
   obtain⟨off,s⟩:=os;rw[hp]at h1;simp only[Dj,Iz]at h1;obtain⟨⟨h3,h4⟩,U⟩:=h1;have M:Gz ok w H v.cells (a.eval x).cells.toList:=(L (x,v) (by simp[Ol])).amg U;have Y:(a.eval x).cells.size=s:=by have :=M.1;simp at this;omega
   have O:cells.size=cs.length:=by simpa using I.1
   have u:((a.eval x).cells.zipIdx.foldl (λcs (p:BI×Nat)=>cs.setIfInBounds (off+p.2) p.1) cells).toList=setAt cells.toList off (a.eval x).cells.toList:=by
    rw[←Array.foldl_toList,Array.toList_zipIdx];exact aPX off (a.eval x).cells.toList 0 cells Ej
   have z:=I.setAt M (off:=off) AL;rw[←u]at z;obtain⟨j,Z,hR⟩:=sJ q vs (setAt cs off v.cells) _ z (by rw[Sv AL];exact h2) (λn J=>L n (by simp[Ol,J]));refine⟨j,?_,?_⟩
   ·simp only[Gs,Instr.fill,hp];rw[Eh Ej];exact Z
   simp only[MB,hp,Nz];exact hR
def RQ (z:BI)(n:Nat):A8 Ag:=(List.range n).map λk=>(GY z).getD (k % z.cells.size) .junk
def aap (hl:z.cells.all (·.oneCell')=true)(q:0<z.cells.size):Gz ok w H (RQ z n) (((Array.range n).map (z.cells[· % z.cells.size]!)).toList):=by
 refine⟨by simp[RQ],λi hi=>?_⟩;have j:i<n:=by simpa[RQ]using hi
 have hm:i % z.cells.size<z.cells.size:=qR _ q;have u:(RQ z n).getD i .junk=.d (Py z.cells[i % z.cells.size]):=by simp[RQ,GY,List.getD,j,hm]
 have I:(((Array.range n).map (z.cells[· % z.cells.size]!)).toList).getD i undef=z.cells[i % z.cells.size]:=by simp[List.getD,j,hm]
 rw[u,I];exact⟨vM ((Ws.1 hl) _ Bf),.d _ _ (jd _)⟩
def aGL (hl:z.cells.all (·.oneCell')=true):Gz ok w H (GY z) z.cells.toList:=by
 refine⟨by simp[GY],λi hi=>?_⟩;simp only[GY,Df,Uz]at hi;have j:(GY z).getD i .junk=.d (Py z.cells[i]):=by simp[GY,List.getD,hi]
 have q:z.cells.toList.getD i undef=z.cells[i]:=OD
 rw[j,q];exact⟨vM ((Ws.1 hl) _ Bf),.d _ _ (jd _)⟩
def aGn {P:Cm}{w:Ba}:∀(l:A8 Field),(∀f∈l,(P.info? f.type).isSome=true)->
 (l.mapM λf=>(do pure (f.offset,←sizeOf f.type):Sem (Nat×Nat))).run P w=.ok (l.map λf=>(f.offset,P.cellsOf f.type)) w
 | [],_=>rfl
 |f::l,h=>by
  obtain⟨i,hi⟩:=SX.1 (h f Bf);have j:=aGn (P:=P) (w:=w) l (λg q=>h g (by simp[q]));have hs:(sizeOf f.type).run P w=.ok i.size w:=by simp[sizeOf,typeInfo,hi]
  have u:P.cellsOf f.type=i.size:=by simp[Program.cellsOf,hi]
  simp only[List.mapM_cons,G9,hs,GU,Hg,j,Gs,u]
structure Jp (P:Program) (t:TypeId) (places:List (Nat×Nat)) (z:Value):Prop where
 fields:∃fs,P.underlying t=some (.struct fs)/\(∀f∈fs.toList,(P.info? f.type).isSome=true)/\(fs.toList.map λf=>(f.offset,P.cellsOf f.type))=places
 zero:(P.info? t).bind (·.zero)=some z
 one:z.cells.all (·.oneCell')=true
def aNs (P:Cm)(t:Bz)(j:A8 (Nat×Nat)):AX:=
 match P.underlying t with
 |some (.struct q)=>q.toList.all (λf=>(P.info? f.type).isSome)&&decide ((q.toList.map λf=>(f.offset,P.cellsOf f.type))=j)
 |_=>false
variable {j:A8 (Nat×Nat)}
def MR (h:aNs P t j=true)(q:(P.info? t).bind (·.zero)=some z)(h1:z.cells.all (·.oneCell')=true):Jp P t j z:=by
 unfold aNs at h;split at h
 ·rename_i u I;simp only[Dj,FQ,Iz]at h;exact⟨⟨u,I,h.1,h.2⟩,q,h1⟩
 cases h
variable {j q:Bh (Nat×CB)}{len:Nat}
section
variable {P:Cm} {o:Oper} {es:A8 Bd}
def a4C (q:(P.info? t).bind (·.zero)=some z)(w:Ba):(zeroValue t).run P w=.ok z w:=by
 obtain⟨i,hi,j⟩:=l9.1 q;simp[zeroValue,typeInfo,hi,j]
def aWP {l:A8 Ag}(h:l.all Ag.CX=true):l=(Jz l).map .d:=by
 rw[FQ]at h;unfold Jz;rw[jP]
 conv=>lhs;rw[←List.map_id l]
 refine pq λx j=>?_;have :=h x j;cases x<;>first|rfl|(simp[Ag.CX]at this)
def aYw {j:A8 (Nat×Nat)}(Z:Jp P t j z)(vs:A8 Ag)(hp:OQ (λ(i:Nat)=>j[i]?) (GY z).length q.toList vs=true)(ho:o.op=.build t q:=by exact rfl):
 CM P o (Ol q.toList vs) es (.ag (MB (λ(i:Nat)=>j[i]?) (GY z) q.toList vs)) es:=
 .pure λok H a w _ _ hn=>by
  obtain⟨⟨U,hu,hf,J⟩,hz,h1⟩:=Z;have L:=a4C (P:=P) hz w;have M:(underlying t).run P w=.ok (.struct U) w:=a1P
  have hm:(U.mapM λf=>(do pure (f.offset,←sizeOf f.type):Sem (Nat×Nat))).run P w=.ok j.toArray w:=by
   rw[aK4];rw[yM,aGn _ hf,J];rfl
  obtain⟨u,hc,I⟩:=sJ (place:=λ(i:Nat)=>j[i]?) q.toList vs (GY z) z.cells (aGL (ok:=ok) (w:=w) (H:=H) h1) hp hn;refine⟨.agg u,?_,.ag _ _ (by simpa using I.1) (λi hi=>(I.2 i hi).1) (λi hi=>?_)⟩
  rotate_left
  ·have h3:=(I.2 i hi).2;have O:i<u.size:=by have :=I.1;simp at this;omega
   have Y:u.toList.getD i undef=u.getD i undef:=by simp[List.getD,Array.getD,O]
   grind
  have e:(q.map λ(i,x)=>(i,a.eval x)).toList=q.toList.map λp=>(p.1,a.eval p.2):=Bf
  have Y:(λ(i:Nat)=>j.toArray[i]?)=(λ(i:Nat)=>j[i]?):=by funext i;simp
  simp only[execOp,ho,Instr.build,G9,L,M,hm,GU];rw[e,Y,hc];rfl
def anc {j:A8 (Nat×Nat)}(hS:Jp P t j z)(vs:A8 Ag)(hp:OQ (λ(i:Nat)=>j[i]?) (GY z).length q.toList vs=true)(hd:(MB (λ(i:Nat)=>j[i]?) (GY z) q.toList vs).all Ag.CX=true)(ho:o.op=.build t q:=by exact rfl):
 CM P o (Ol q.toList vs) es (.d (.agg (Jz (MB (λ(i:Nat)=>j[i]?) (GY z) q.toList vs)))) es:=
 .pure λok H a w _ _ hn=>by
  obtain⟨⟨Z,hu,hf,I⟩,hz,h1⟩:=hS;have J:=a4C (P:=P) hz w;have L:(underlying t).run P w=.ok (.struct Z) w:=a1P
  have hm:(Z.mapM λf=>(do pure (f.offset,←sizeOf f.type):Sem (Nat×Nat))).run P w=.ok j.toArray w:=by
   rw[aK4];rw[yM,aGn _ hf,I];rfl
  obtain⟨u,hc,M⟩:=sJ (place:=λ(i:Nat)=>j[i]?) q.toList vs (GY z) z.cells (aGL (ok:=ok) (w:=w) (H:=H) h1) hp hn;refine⟨.agg u,?_,.d _ _ ?_⟩
  ·have e:(q.map λ(i,x)=>(i,a.eval x)).toList=q.toList.map λp=>(p.1,a.eval p.2):=Bf
   have e2:(λ(i:Nat)=>j.toArray[i]?)=(λ(i:Nat)=>j[i]?):=by funext i;simp
   simp only[execOp,ho,Instr.build,G9,J,L,hm,GU];rw[e,e2,hc];rfl
  rw[aWP hd]at M;generalize Jz (MB (λ(i:Nat)=>j[i]?) (GY z) q.toList vs)=xs at M ⊢;obtain⟨h2,h3⟩:=M;simp only[Df]at h2 h3
  have hg:∀i,i<xs.length->(xs.map Ag.d).getD i .junk=.d (xs.getD i EP):=by
   grind
  have O:u.size=xs.length:=L9
  refine .agg xs u O ?_ ?_<;>intro i hi
  ·have :=(h3 i hi).1;rw[hg i hi]at this;exact this
  have U:=(h3 i hi).2;rw[hg i hi]at U;have Y:i<u.size:=AL
  have e:u.toList.getD i undef=u.getD i undef:=by simp[List.getD,Array.getD,Y]
  rw[e]at U;cases U with |d _ _ h=>exact h
def ako {cells:Bh BI}{fr:Nat×Nat}(u:∀y∈ys,y.cells.length=size)(M:w.heap[b]? =some (.cells cells e fr))(z:ok b)(I:Gz ok w H (flat ys) cells.toList):
 EN ok w (.sl ys) (.slice (some ⟨b,0,none⟩) ys.length ys.length):=by
 have hl:=Tc u;have J:cells.size=ys.length*size:=by have :=I.1;simp at this;omega
 have O:∀i,i<ys.length->ys.getD i EP∈ys:=λi hi=>OD
 have L:∀i j,i<ys.length->j<size->i*size+j<ys.length*size:=by
  intro i j hi q
  calc i*size+j<i*size+size:=AL
   _=(i+1)*size:=by rw[dR]
   _<=ys.length*size:=La _ hi
 have U:∀i j,i<ys.length->j<size->w.cell? ⟨b,0+(i*size+j),none⟩=some (cells.toList.getD (i*size+j) undef):=by
  intro i j hi q;have :=L i j hi q;rw[Ky];simp[World.cell?,M,J,this,List.getD]
 refine .sl ys b 0 ys.length size (Eb _) (λ_ _=>z) (λi hi=>u _ (O i hi)) (λi hi j q=>?_) (λi hi j q=>?_) (λi hi j q=>?_)
 ·have :=(I.2 (i*size+j) (by rw[hl];exact L i j hi q)).1;rw[flat_get u i j hi q]at this;exact this
 ·grind
 have :=(I.2 (i*size+j) (by rw[hl];exact L i j hi q)).2;rw[flat_get u i j hi q]at this;unfold cellAt;rw[U i j hi q];cases this with |d _ _ h=>exact h
def aQm {u:Nat}(hE:GV P t e size u)(hz:(P.info? e).bind (·.zero)=some z)(h1:z.cells.all (·.oneCell')=true)(Y:z.cells.size=size)(hlen:len*size<=16777216){vs:A8 Ag}(hp:OQ (λi=>some (i*size,size)) (len*size) j.toList vs=true)(hn:∀n∈Ol j.toList vs,R ok w H n.2 (a.eval n.1)):
 ∃cells,(Instr.buildSlice t len (j.map λ(i,x)=>(i,a.eval x))).run P w=.ok (.slice (some ⟨w.heap.size,0,none⟩) len len) (w.alloc (.cells cells e))/\Gz ok w H (MB (λi=>some (i*size,size)) (RQ z (len*size)) j.toList vs) cells.toList:=by
 obtain⟨i,z',hi,_,hs,_,_⟩:=hE.info;have Z:=a4C (P:=P) hz w;have I:(sizeOf e).run P w=.ok size w:=aKz
 have J:(underlying t).run P w=.ok (.slice e) w:=aHJ
 have e0:(j.map λ(i,x)=>(i,a.eval x)).toList=j.toList.map λp=>(p.1,a.eval p.2):=Bf
 have hzl:(RQ z (len*size)).length=len*size:=by simp[RQ]
 have L:0<z.cells.size:=by rw[Y];exact hE.pos
 obtain⟨q,hc,hR⟩:=sJ (place:=λi=>some (i*size,size)) j.toList vs (RQ z (len*size)) _ (aap (ok:=ok) (w:=w) (H:=H) (n:=len*size) h1 L) (by rw[hzl];exact hp) hn;refine⟨q,?_,hR⟩;have M:¬(len*size>2^24):=AL
 by_cases O:len*size=0
 ·have hr0:(Array.range (len*size)).map (λk=>(z.cells[k % z.cells.size]! :BI))= #[]:=by rw[O];simp
  rw[hr0]at hc;have U:(Array.range (len*size)).map (λk=>((#[]:Bh BI)[k % (#[]:Bh BI).size]! :BI))= #[]:=by rw[O];simp
  simp only[Instr.buildSlice,G9,J,GU,I,M,LP,Sem.run_ite,O,KP,Hg];simp only[O]at U;rw[U,e0,hc];rfl
 simp only[Instr.buildSlice,G9,J,GU,I,M,LP,Sem.run_ite,O,Z,Hg];rw[e0,hc];rfl
def aEK {q:Nat}(hE:GV P t e size q)(M:(P.info? e).bind (·.zero)=some z)(h1:z.cells.all (·.oneCell')=true)(J:z.cells.size=size)(hlen:len*size<=16777216)(vs:A8 Ag)(ys:A8 D)(hp:OQ (λi=>some (i*size,size)) (len*size) j.toList vs=true)(L:MB (λi=>some (i*size,size)) (RQ z (len*size)) j.toList vs=flat ys)(hl:ys.length=len)(u:ys.all (λy=>y.cells.length=size)=true)(O:o.op=.buildSlice t len j:=by exact rfl):
 CM P o (Ol j.toList vs) es (.d (.sl ys)) es:=
 .eff λC ok H a w hm U=>by
  obtain⟨cells,Y,I⟩:=aQm hE M h1 J hlen hp U;rw[L]at I;obtain⟨h2,h3⟩:=hm.fresh (.cells cells e);refine⟨.slice (some ⟨w.heap.size,0,none⟩) len len,_,_,H,.inl ?_,h3,.refl _,h2,.d _ _ ?_⟩
  ·simp only[execOp,O,G9,Y,GU,Hg]
  rw[←hl];exact ako (H:=H) (λy L=>by rw[FQ]at u;simpa using u y L) (VZ w _) (.inr rfl) (I.mono h3 (.refl _))
def a2A {q:Nat}(hE:GV P t e size q)(hz:(P.info? e).bind (·.zero)=some z)(h1:z.cells.all (·.oneCell')=true)(U:z.cells.size=size)(hlen:len*size<=16777216)(vs:A8 Ag)(ys:A8 D)(hp:OQ (λi=>some (i*size,size)) (len*size) j.toList vs=true)(Y:MB (λi=>some (i*size,size)) (RQ z (len*size)) j.toList vs=flat ys)(hl:ys.length=len)(I:ys.all (λy=>y.cells.length=size)=true)(ho:o.op=.buildSlice t len j:=by exact rfl):
 CM P o (Ol j.toList vs) es (.aS es.length) (es++[.arr e size ys]):=
 .eff λC ok H a w hm hn=>by
  obtain⟨cells,hr,u⟩:=aQm hE hz h1 U hlen hp hn;rw[Y]at u;have J:∀y∈ys,y.cells.length=size:=λy Y=>by rw[FQ]at I;simpa using I y Y
  have hfl:=Tc J;have L:cells.size=ys.length*size:=by have :=u.1;simp at this;omega
  have M:=hE.pos
  have Z:ys.length<=16777216:=by
   have :ys.length*1<=ys.length*size:=Nat.mul_le_mul_left _ M
   grind
  obtain⟨h2,h3⟩:=hm.push (.cells cells e) ⟨.slice (some ⟨w.heap.size,0,none⟩) len len,size⟩ (.arr e size ys) (λb O=>by simpa[EF]using O.symm) (by
   refine⟨rfl,J,cells.toList,⟨by simpa using L,.inr ⟨w.heap.size,len,cells,by rw[hl],F7 _,VZ w _,AL,nK,QJ (by rw[L,hl]),?_⟩⟩,?_⟩
   ·rw[Qj Ej]
   exact u.mono (λb O=>⟨O,Lh _ _ _ (hm.lH b O)⟩) (II _ _))
  refine⟨.slice (some ⟨w.heap.size,0,none⟩) len len,_,ok,_,.inl ?_,h3,II _ _,h2,.aS _ _ _ _ size Q9⟩;simp only[execOp,ho,G9,hr,GU,Hg]
end
variable {ats:Bh Bz}{f:FuncId}{fn:Func}
section
variable {P:Cm} {ops:Bh Oper} {Q:Exit->Act->Ba->Prop} {φ:Nat->BI->Ba->Prop} {W:Ba} {a0:Act} {i:Nat}
variable {d:AB Tmp} {t:Bz} {p:String} {af:Bh Edge} {g:AB (Nat×AX)}
def Enters (P:Cm)(f:FuncId):Prop:=∀args w,(callFunc f args).run P w=.ok (.enter f args) w
def enters_of {c:Code}(q:P.funcs[f]? =some fn)(j:(fn.name== "runtime.NumGoroutine")=false)(u:fn.body=some c):Enters P f:=by
 intro args w;have h1:fn.name≠ "runtime.NumGoroutine" :=Vp
 simp[callFunc,q,h1,u]
def I7 (P:Cm)(f:FuncId):AX:=match P.funcs[f]? with
 |some fn=> !(fn.name== "runtime.NumGoroutine")&&fn.body.isSome
 |none=>false
def Uj (h:I7 P f=true):Enters P f:=by
 unfold I7 at h;cases j:P.funcs[f]? with
 |none=>rw[j]at h;cases h
 |some fn=>
  rw[j]at h;simp only[Dj,V9]at h;obtain⟨c,q⟩:=SX.1 h.2;exact enters_of j h.1 q
def a06 {aRI:Bh CB}(j:o.op=.call { callee:=.value (.func f),args:=aRI,argTypes:=ats }):execOp a.eval o=callFunc f (aRI.map a.eval):=by
 have q:a.eval (.func f)=.func (.func f) #[] #[]:=rfl;unfold execOp;simp[j,resolve,Deferred.ofValue,invoke,q]
end
inductive EW where
 |ent (k:Nat)
 |nil (size:Nat)
def EW.hd (H:A8 CO):EW->CO
 | .ent k=>H.getD k ⟨undef,0⟩
 | .nil s=>⟨.slice none 0 0,s⟩
def Ag.XP (srcs:A8 EW)(n:Nat):Ag->Ag
 | .d x=>.d x
 | .ptr k off=>match srcs[k]? with |some (.ent j)=>.ptr j off|some (.nil _)=>.junk|none=>.ptr (n+(k-srcs.length)) off
 | .aS k=>match srcs[k]? with |some (.ent j)=>.aS j|some (.nil _)=>.junk|none=>.aS (n+(k-srcs.length))
 | .lW k i off=>match srcs[k]? with |some (.ent j)=>.lW j i off|some (.nil _)=>.junk|none=>.lW (n+(k-srcs.length)) i off
 | .mp k=>match srcs[k]? with |some (.ent j)=>.mp j|some (.nil _)=>.junk|none=>.mp (n+(k-srcs.length))
 | .xW k=>match srcs[k]? with |some (.ent j)=>.xW j|some (.nil _)=>.junk|none=>.xW (n+(k-srcs.length))
 | .clip xs=>.clip xs
 |_=>.junk
def Ag.up (srcs:A8 EW)(n:Nat):Ag->Ag
 | .eX xs=>.eX (xs.map (Ag.XP srcs n))
 | .fn f fi ca=>.fn f (fi.map (Ag.XP srcs n)) (ca.map (Ag.XP srcs n))
 |x=>x.XP srcs n
def aGl (srcs:A8 EW):Ag->Ag->Prop
 | .d x,y=>y=.d x
 | .ptr k off,y=>∃i,y=.ptr i off/\srcs[i]? =some (.ent k)
 | .mp k,y=>∃i,y=.mp i/\srcs[i]? =some (.ent k)
 |_,_=>False
def a0n (srcs:A8 EW):A8 Ag->A8 Ag->Prop
 |x::xs,y::ys=>aGl srcs x y/\a0n srcs xs ys
 | [],[]=>True
 |_,_=>False
def zB {srcs:A8 EW}:∀{xs ys:A8 Ag},a0n srcs xs ys->xs.length=ys.length
 | [],[],_=>rfl
 |_::xs,_::ys,h=>by simp[zB h.2]
 | [],_::_,h=>h.elim
 |_::_,[],h=>h.elim
def aF6 {srcs:A8 EW}:∀{xs ys:A8 Ag},a0n srcs xs ys->∀i,i<ys.length->aGl srcs (xs.getD i .junk) (ys.getD i .junk)
 | [],[],_,i,hi=>Tf
 |_::xs,_::ys,h,0,_=>by simpa using h.1
 |_::xs,_::ys,h,i+1,hi=>by simpa using aF6 h.2 i IW
 | [],_::_,h,_,_=>h.elim
 |_::_,[],h,_,_=>h.elim
def aWd (srcs:A8 EW):Ag->Ag->Prop
 | .fn f fi ca,y=>∃j q,y=.fn f j q/\a0n srcs fi j/\a0n srcs ca q
 | .d x,y=>y=.d x\/(∃i s,x=.lit (.slice none 0 0)/\y=.aS i/\srcs[i]? =some (.nil s))\/(x=.lit (.slice none 0 0)/\y=.d (.sl []))
 | .aS k,y=>∃i,y=.aS i/\srcs[i]? =some (.ent k)
 | .ptr k off,y=>∃i,y=.ptr i off/\srcs[i]? =some (.ent k)
 | .mp k,y=>∃i,y=.mp i/\srcs[i]? =some (.ent k)
 |_,_=>False
def Bd.closed:Bd->AX
 | .box cs=>cs.all Ag.CX
 | .loop .. =>false
 |_=>true
variable {e:Bd}
def Fl.any (q:Fl ok w H h e)(I:e.closed=true):Fl ok w H2 h e:=by
 cases e with
 |dead=>trivial
 |box cs=>
  obtain⟨b,vs,T,h1,h2,h3,z⟩:=q;refine⟨b,vs,T,h1,h2,h3,λi hi=>⟨(z i hi).1,?_⟩⟩;have u:=(z i hi).2;simp only[Bd.closed,FQ]at I;have j:=I (cs.getD i .junk) OD;cases J:cs.getD i .junk with
  |d x=>rw[J]at u;cases u with |d _ _ h=>exact .d _ _ h
  |_=>rw[J]at j;simp[Ag.CX]at j
 |arr e s es=>
  obtain⟨h1,h2,xs,h3,z,u⟩:=q;refine⟨h1,h2,xs,h3,z,λi hi=>⟨(u i hi).1,?_⟩⟩;have j:=(u i hi).2;have hm:(flat es).getD i .junk∈flat es:=OD
  unfold flat at hm ⊢;simp only[Um,Ez]at hm;obtain⟨x,_,y,_,L⟩:=hm;unfold flat at j;rw[←L]at j ⊢;cases j with |d _ _ h=>exact .d _ _ h
 |map es=>exact q
 |fE es=>exact q
 |iter es vis=>exact q
 |loop=>cases I
def Bd.up (srcs:A8 EW)(n:Nat):Bd->Bd
 | .box cs=>.box (cs.map (Ag.XP srcs n))
 |e=>e
def Ag.au3 (srcs:A8 EW):Ag->AX
 | .d _=>true
 | .mp k=>match srcs[k]? with |some (.ent _)=>true|_=>false
 | .ptr k _=>match srcs[k]? with |some (.ent _)=>true|_=>false
 |_=>false
def Bd.apk (srcs:A8 EW):Bd->AX
 | .box cs=>cs.all (Ag.au3 srcs)
 | .loop .. =>false
 |_=>true
def Bd.arl (srcs:A8 EW)(n:Nat):Bd->AX
 | .box cs=>cs.all λx=>x.CX||(x.XP srcs n).leaf
 | .loop .. =>false
 |_=>true
def Bd.af9 (srcs:A8 EW)(n:Nat)(e:Bd):(e.up srcs n).live=e.live:=by cases e<;>rfl
variable {srcs:A8 EW}{x:Ag}
def aQv (h:x.CX=true):x.XP srcs n=x:=by cases x<;>first|rfl|cases h
def Bd.aCW (h:e.closed=true):e.up srcs n=e:=by
 cases e with
 |box cs=>
  simp only[Bd.closed,FQ]at h;show Bd.box (cs.map (Ag.XP srcs n))=Bd.box cs
  rw[show cs.map (Ag.XP srcs n)=cs from by
   conv=>rhs;rw[←List.map_id cs]
   exact pq λx j=>aQv (h x j)]
 |_=>rfl
def aPP {srcs:A8 EW}{n:Nat}:∀{E:A8 Bd},E.all Bd.closed=true->E.map (Bd.up srcs n)=E
 | [],_=>rfl
 |e::E,h=>by
  simp only[List.all_cons,Dj]at h;rw[Gs,Bd.aCW h.1,aPP h.2]
def aeh (h:e.closed=true):e.arl srcs n=true:=by
 cases e with
 |box cs=>
  simp only[Bd.closed,Bd.arl,FQ]at h ⊢;intro x j;rw[h x j];rfl
 |loop=>cases h
 |_=>rfl
variable {Hc:A8 CO}
def Fl.down (L:∀(j:Nat) (s:EW),srcs[j]? =some s->Hc[j]? =some (EW.hd H s))(hd:e.apk srcs=true)(u:Fl ok w H h (e.up srcs n)):Fl ok w Hc h e:=by
 cases e with
 |dead=>
  trivial
 |arr=>
  exact u.any rfl
 |map=>
  exact u
 |fE=>
  exact u
 |iter=>
  exact u
 |loop=>
  cases hd
 |box cs=>
  obtain⟨b,vs,T,h1,h2,h3,M⟩:=u;refine⟨b,vs,T,h1,h2,by rw[h3,Df],λi hi=>?_⟩;obtain⟨I,q⟩:=M i a7i;rw[Va _ _ _ hi]at q I;simp only[Bd.apk,FQ]at hd;have z:=hd (cs.getD i .junk) OD;generalize cs.getD i .junk=x at q z I ⊢;generalize vs.toList.getD i undef=v at q ⊢;cases x with
  |d x=>
     exact⟨I,by cases q with |d _ _ h=>exact .d _ _ h⟩
  |mp k=>
   refine⟨rfl,?_⟩;simp only[Ag.au3]at z;simp only[Ag.XP]at q;cases hs:srcs[k]? with
   |none=>
    grind
   |some s=>
    cases s with
    |nil _=>
     grind
    |ent j=>
     rw[hs]at q;cases q with
     |mp _ _ s hl J=>
      refine .mp k _ s hl ?_;rw[L k _ hs];simp[EW.hd,List.getD,J]
  |ptr k off=>
   refine⟨rfl,?_⟩;simp only[Ag.au3]at z;simp only[Ag.XP]at q;cases hs:srcs[k]? with
   |none=>
    grind
   |some s=>
    cases s with
    |nil _=>
     grind
    |ent j=>
     rw[hs]at q;cases q with
     |ptr _ _ b s J=>
      refine .ptr k off b s ?_;rw[L k _ hs];simp[EW.hd,List.getD,J]
  |_=>
    simp[Ag.au3]at z
def Nh (srcs:A8 EW)(es E':A8 Bd):A8 Bd:=
 (es.zipIdx.map λ(e,j)=>match srcs.findIdx? (λs=>match s with | .ent k=>k==j| .nil _=>false)with |some i=>(E'.getD i .dead).up srcs es.length|none=>e)++(E'.drop srcs.length).map (Bd.up srcs es.length)
def U9 (srcs:A8 EW)(es E E':A8 Bd):AX:=
 decide (srcs.length=E.length)&&(srcs.length<=E'.length)&&E.all (Bd.apk srcs)&&E'.all (Bd.arl srcs es.length)&&
 decide ((srcs.filterMap λs=>match s with | .ent k=>some k| .nil _=>none).Nodup)&&
 ((srcs.zip E').all λp=>match p.1 with | .ent _=>true| .nil _=> !p.2.live)&&(srcs.all λs=>match s with | .ent k=>k<es.length&&(es.getD k .dead).live| .nil _=>true)
def tN (srcs:A8 EW)(es:A8 Bd):A8 Bd->Prop
 |E=>∀(i:Nat) (s:EW),srcs[i]? =some s->match s with | .ent k=>(E[i]?).map (Bd.up srcs es.length)=es[k]? | .nil sz=>∃e,E[i]? =some (.arr e sz [])
def WB (I:Hc=srcs.map (EW.hd H))(q:∀(i k:Nat),srcs[i]? =some (.ent k)->k<H.length)(J:Names Hc H')(h:R ok w H' x v):R ok w (H++H'.drop srcs.length) (x.XP srcs H.length) v:=by
 have key:∀(k:Nat) (hd:CO),H'[k]? =some hd->(∀(j:Nat),srcs[k]? =some (.ent j)->(H++H'.drop srcs.length)[j]? =some hd)/\(srcs[k]? =none->(H++H'.drop srcs.length)[H.length+(k-srcs.length)]? =some hd):=by
  intro k hd O;refine⟨λj z=>?_,λu=>?_⟩
  ·have L:=q k j z;have h1:Hc[k]? =some (H.getD j ⟨undef,0⟩):=by rw[I,LH,z];rfl
   have h2:=J _ _ h1
   grind
  have M:srcs.length<=k:=Rf
  grind
 cases h with
 |d x v h=>
    exact .d x v h
 |ptr k off b s h=>
  obtain⟨h1,h2⟩:=key k _ h;simp only[Ag.XP];split<;>rename_i hs
  ·exact .ptr _ off b s (h1 _ hs)
  ·exact .junk _
  exact .ptr _ off b s (h2 hs)
 |aS k ad n cap s h=>
  obtain⟨h1,h2⟩:=key k _ h;simp only[Ag.XP];split<;>rename_i hs
  ·exact .aS _ ad n cap s (h1 _ hs)
  ·exact .junk _
  exact .aS _ ad n cap s (h2 hs)
 |lW k i off b n cap s h=>
  obtain⟨h1,h2⟩:=key k _ h;simp only[Ag.XP];split<;>rename_i hs
  ·exact .lW _ i off b n cap s (h1 _ hs)
  ·exact .junk _
  exact .lW _ i off b n cap s (h2 hs)
 |mp k v s hl h=>
  obtain⟨h1,h2⟩:=key k _ h;simp only[Ag.XP];split<;>rename_i hs
  ·exact .mp _ v s hl (h1 _ hs)
  ·exact .junk _
  exact .mp _ v s hl (h2 hs)
 |clip xs ad h=>
  exact .clip xs ad h
 |xW k ad n cap s h=>
  obtain⟨h1,h2⟩:=key k _ h;simp only[Ag.XP];split<;>rename_i hs
  ·exact .xW _ ad n cap s (h1 _ hs)
  ·exact .junk _
  exact .xW _ ad n cap s (h2 hs)
 |fn f first cap vs us hl hm h h'=>
  exact .junk _
 |eX xs vs hl h=>
  exact .junk _
 |ag xs vs hl U h=>
  exact .junk _
 |junk v=>
  exact .junk _
def aOl (q:Hc=srcs.map (EW.hd H))(j:∀(i k:Nat),srcs[i]? =some (.ent k)->k<H.length)(u:Names Hc H')(h:R ok w H' x v):R ok w (H++H'.drop srcs.length) (x.up srcs H.length) v:=by
 cases h with
 |eX xs vs hl h=>exact .eX _ vs fO (λi hi=>aR1)
 |ag xs vs hl z h=>exact .junk _
 |d x v h=>exact WB q j u (.d x v h)
 |ptr k off b s h=>exact WB q j u (.ptr k off b s h)
 |aS k ad n cap s h=>exact WB q j u (.aS k ad n cap s h)
 |lW k i off b n cap s h=>exact WB q j u (.lW k i off b n cap s h)
 |mp k v s hl h=>exact WB q j u (.mp k v s hl h)
 |clip xs ad h=>exact WB q j u (.clip xs ad h)
 |xW k ad n cap s h=>exact WB q j u (.xW k ad n cap s h)
 |fn f first cap vs us hl hm h h'=>exact .fn f _ _ vs us fO (by simp[hm]) (λi hi=>aR1) (λi hi=>by rw[Df]at hi;rw[Va _ _ _ hi];exact WB q j u (h' i hi))
 |junk v=>exact .junk _
def Fl.upw (I:Hc=srcs.map (EW.hd H))(u:∀(i k:Nat),srcs[i]? =some (.ent k)->k<H.length)(J:Names Hc H')(hl:H.length=n)(z:e.arl srcs n=true)(j:Fl ok w H' h e):
 Fl ok w (H++H'.drop srcs.length) h (e.up srcs n):=by
 cases e with
 |dead=>trivial
 |arr=>exact j.any rfl
 |map=>exact j
 |fE=>exact j
 |iter=>exact j
 |loop=>cases z
 |box cs=>
  obtain⟨b,vs,T,h1,h2,h3,L⟩:=j;refine⟨b,vs,T,h1,h2,by rw[h3,Df],λi hi=>?_⟩;rw[Df]at hi;obtain⟨M,O⟩:=L i hi;simp only[Bd.arl,FQ]at z;have q:=z (cs.getD i .junk) OD;rw[Va _ _ _ hi];refine⟨?_,by have :=WB I u J O;rwa [hl]at this⟩;rcases Bool.or_eq_true_iff.1 q with q|q
  ·rw[aQv q];exact M
  exact q
def GH :A8 CB->A8 Ag->A8 (CB×Ag)
 |x::xs,v::vs=>(x,v)::GH xs vs
 |_,_=>[]
def OA (srcs:A8 EW):A8 Ag->A8 Ag->Prop
 |x::xs,y::ys=>aWd srcs x y/\OA srcs xs ys
 | [],[]=>True
 |_,_=>False
def aPz {srcs:A8 EW}:∀{xs ys:A8 Ag},OA srcs xs ys->xs.length=ys.length
 | [],[],_=>rfl
 |_::xs,_::ys,h=>by simp[aPz h.2]
 | [],_::_,h=>h.elim
 |_::_,[],h=>h.elim
variable {ops:A8 CB}
def anP:∀{xs ys:A8 Ag},ops.length=xs.length->OA srcs xs ys->∀i,i<ys.length->∃o x,ops[i]? =some o/\(o,x)∈GH ops xs/\aWd srcs x (ys.getD i .junk):=by
 induction ops with
 |nil=>
  intro xs ys hl h i hi;cases xs with
  |nil=>cases ys with |nil=>simp at hi|cons _ _=>exact h.elim
  |cons _ _=>simp at hl
 |cons o ops j=>
  intro xs ys hl h i hi;cases xs with
  |nil=>simp at hl
  |cons x xs=>
   cases ys with
   |nil=>exact h.elim
   |cons y ys=>
    cases i with
    |zero=>exact⟨o,x,rfl,by simp[GH],h.1⟩
    |succ i=>
     obtain⟨q,u,h1,h2,h3⟩:=j NM h.2 i IW;exact⟨q,u,VG,by simp[GH,h2],Ve⟩
def afv:b∈(srcs.filterMap λs=>match s with | .ent k=>EF (H.getD k ⟨undef,0⟩).v| .nil _=>none)↔∃k,.ent k∈srcs/\EF (H.getD k ⟨undef,0⟩).v=some b:=by
 grind
variable {E E':A8 Bd}{eH fB:A8 Ag}{ops:Bh CB}
section
variable {P:Cm} {o:Oper} {es:A8 Bd}
def aS8 :∀{srcs:A8 EW},(srcs.filterMap λs=>match s with | .ent k=>some k| .nil _=>none).Nodup->∀(i j k:Nat),srcs[i]? =some (.ent k)->srcs[j]? =some (.ent k)->i=j
 | [],_,i,j,k,h,_=>JB
 |s::srcs,z,i,j,k,hi,u=>by
  have q:∀(n:Nat),srcs[n]? =some (.ent k)->k∈srcs.filterMap λs=>match s with | .ent k=>some k| .nil _=>none:=λn h=>by
   rw[dX];exact⟨_,Z7 h,rfl⟩
  have I:(srcs.filterMap λs=>match s with | .ent k=>some k| .nil _=>none).Nodup:=by
   grind
  match i,j with
  |0,0=>
   rfl
  |0,j+1=>
   simp at hi u;subst hi;simp only[VD]at z;exact absurd (q j u) (KN.1 z).1
  |i+1,0=>
   simp at hi u;subst u;simp only[VD]at z;exact absurd (q i hi) (KN.1 z).1
  |i+1,j+1=>
    rw[aS8 I i j k IW Rf]
def aTN (hm:Dz C ok H es w)(srcs:A8 EW){res:Ag}(hr:Ee P f fB E res E')(hb:U9 srcs es E E'=true)(hE:tN srcs es E)(ha:OA srcs eH fB){ops:A8 CB}(hl:ops.length=eH.length)(hn:∀n∈GH ops eH,R ok w H n.2 (a.eval n.1)):
 Calls P f (ops.map a.eval).toArray w λe w'=>∃v ok' H',e=.returned v/\FM ok w ok' w'/\Names H H'/\Dz C ok' H' (Nh srcs es E') w'/\R ok' w' H' (res.up srcs es.length) v:=by
 unfold U9 at hb;simp only[Dj,Iz,FQ]at hb;obtain⟨⟨⟨⟨⟨⟨hb1,hb2⟩,hb3⟩,hb4⟩,hb5⟩,hb6⟩,hb7⟩:=hb;have hidx:=aS8 hb5
 let Hc:=srcs.map (EW.hd H)
 let X:=srcs.filterMap λs=>match s with | .ent k=>EF (H.getD k ⟨undef,0⟩).v| .nil _=>none
 have hX:∀b,b∈X↔∃k,.ent k∈srcs/\EF (H.getD k ⟨undef,0⟩).v=some b:=λb=>afv
 have O:∀(i k:Nat),srcs[i]? =some (.ent k)->k<es.length/\(es.getD k .dead).live=true:=by
  intro i k hi;have :=hb7 _ (Z7 hi);simpa using this
 have hlt:∀(i k:Nat),srcs[i]? =some (.ent k)->k<H.length:=λi k hi=>by rw[hm.hlen];exact(O i k hi).1
 have hHk:∀(k:Nat),k<H.length->H[k]? =some (H.getD k ⟨undef,0⟩):=λk hk=>by simp[List.getD,hk]
 have arn:∀(k:Nat),k<es.length->es[k]? =some (es.getD k .dead):=λk hk=>by simp[List.getD,hk]
 have L:∀b,b∈X->∃(i k:Nat),srcs[i]? =some (.ent k)/\EF (H.getD k ⟨undef,0⟩).v=some b/\¬ok b/\b<w.heap.size/\(C.w0.heap.size<=b\/b∈C.X):=by
  intro b hb;obtain⟨k,hk,hbk⟩:=(hX b).1 hb;obtain⟨i,hi,M⟩:=G8 hk;have hi':srcs[i]? =some (.ent k):=by simp[hi,M]
  have :=hm.blk k _ _ b (arn k (O i k hi').1) (O i k hi').2 (hHk k (hlt i k hi')) hbk;exact⟨i,k,hi',hbk,this⟩
 have hmc:Dz ⟨w,ok,X,Hc⟩ ok Hc E w:=by
  refine⟨.refl _ _,λ_ h=>h,λ_ h=>.inl h,hm.lH,.refl _,by simp[Hc,hb1],?_,?_,?_⟩
  ·intro i e h M I;have hi:i<srcs.length:=aDR
   have hcl:e.apk srcs=true:=hb3 e (Z7 M);have aLv:∀(j:Nat) (s:EW),srcs[j]? =some s->Hc[j]? =some (EW.hd H s):=λj s hs=>by simp[Hc,hs]
   have hs:srcs[i]? =some srcs[i]:=WL
   have hd:=hE i _ hs;simp only[Hc,LH,hs,KD,OM]at I;cases hsi:srcs[i]with
   |ent k=>
    rw[hsi]at hd I hs;simp only[EW.hd]at I;subst I;simp only at hd;rw[M,KD]at hd;exact Fl.down aLv hcl (hm.ent k _ _ hd.symm (hHk k (hlt i k hs)))
   |nil sz=>
    rw[hsi]at hd I;simp only[EW.hd]at I;subst I;obtain⟨e',he'⟩:=hd;rw[M]at he';obtain rfl:=E5 he';exact⟨rfl,Bf,[],⟨Bf,.inl ⟨rfl,rfl⟩⟩,VO,λi hi=>a5c⟩
  ·intro i e h b M J I z;have hi:i<srcs.length:=aDR
   have hs:srcs[i]? =some srcs[i]:=WL
   simp only[Hc,LH,hs,KD,OM]at I;cases hsi:srcs[i]with
   |ent k=>
    rw[hsi]at I hs;simp only[EW.hd]at I;subst I;have hbX:b∈X:=(hX b).2 ⟨k,Z7 hs,z⟩;obtain⟨_,_,_,_,h1,h2,_⟩:=L b hbX;exact⟨h1,h2,.inr hbX⟩
   |nil sz=>
    rw[hsi]at I;simp only[EW.hd]at I;subst I;simp[EF]at z
  intro i j e e' h h' b M he' J U I hh' z Y;have hi:i<srcs.length:=aDR
  have hj:j<srcs.length:=by rw[hb1];exact(I5.1 he').1
  have hs:srcs[i]? =some srcs[i]:=WL
  have hs':srcs[j]? =some srcs[j]:=by simp[hj]
  simp only[Hc,LH,hs,KD,OM]at I;simp only[Hc,LH,hs',KD,OM]at hh';cases hsi:srcs[i]with
  |nil sz=>rw[hsi]at I;simp only[EW.hd]at I;subst I;simp[EF]at z
  |ent k=>
   cases hsj:srcs[j]with
   |nil sz=>rw[hsj]at hh';simp only[EW.hd]at hh';subst hh';simp[EF]at Y
   |ent k'=>
    rw[hsi]at I hs;rw[hsj]at hh' hs';simp only[EW.hd]at I hh';subst I;subst hh';have hkk:=hm.Jk k k' _ _ _ _ b (arn k (O i k hs).1) (arn k' (O j k' hs').1) (O i k hs).2 (O j k' hs').2 (hHk k (hlt i k hs)) (hHk k' (hlt j k' hs')) z Y;subst hkk;exact hidx i j k hs hs'
 have hargs:∀i,i<fB.length->R ok w Hc (fB.getD i .junk) ((ops.map a.eval).toArray.getD i undef):=by
  intro i hi;obtain⟨op,x,ho,hmem,Z⟩:=anP hl ha i hi;have hR:=hn _ hmem
  have e:(ops.map a.eval).toArray.getD i undef=a.eval op:=by
   obtain⟨h1,h2⟩:=I5.1 ho;simp[Array.getD,h1,h2]
  rw[e];simp only at hR;generalize fB.getD i .junk=y at Z ⊢;generalize a.eval op=u at hR ⊢;have hHc:∀(j:Nat) (s:EW),srcs[j]? =some s->Hc[j]? =some (EW.hd H s):=λj s hs=>by simp[Hc,hs]
  cases x with
  |d x=>
   rcases Z with rfl|⟨j,s,rfl,rfl,hs⟩|⟨rfl,rfl⟩
   ·cases hR with |d _ _ h=>exact .d _ _ h
   ·have :=hR.lit;rw[this];exact .aS j none 0 0 s (hHc j _ hs)
   have :=hR.lit;rw[this];exact .d _ _ (.sl0 none 0)
  |aS k=>
   obtain⟨j,rfl,hs⟩:=Z;cases hR with
   |aS _ ad n cap s hH=>
    refine .aS j ad n cap s ?_;rw[hHc j _ hs];simp[EW.hd,List.getD,hH]
  |ptr k off=>
   obtain⟨j,rfl,hs⟩:=Z;cases hR with
   |ptr _ _ b s hH=>
    refine .ptr j off b s ?_;rw[hHc j _ hs];simp[EW.hd,List.getD,hH]
  |mp k=>
   obtain⟨j,rfl,hs⟩:=Z;cases hR with
   |mp _ _ s hl hH=>
    refine .mp j _ s hl ?_;rw[hHc j _ hs];simp[EW.hd,List.getD,hH]
  |fn f fi ca=>
   obtain⟨fi',ca',rfl,h1,h2⟩:=Z
   have one:∀(x y:Ag) (v:BI),aGl srcs x y->R ok w H x v->R ok w Hc y v:=by
    intro x y v hxy hx;cases x with
    |d x=>obtain rfl:=hxy;cases hx with |d _ _ h=>exact .d _ _ h
    |mp k=>
     obtain⟨j,rfl,hs⟩:=hxy;cases hx with
     |mp _ _ s hl hH=>
      refine .mp j _ s hl ?_;rw[hHc j _ hs];simp[EW.hd,List.getD,hH]
    |ptr k off=>
     obtain⟨j,rfl,hs⟩:=hxy;cases hx with
     |ptr _ _ b s hH=>
      refine .ptr j off b s ?_;rw[hHc j _ hs];simp[EW.hd,List.getD,hH]
    |_=>exact hxy.elim
   cases hR with
   |fn _ _ _ vs us hl1 hl2 h3 h4=>
    refine .fn f fi' ca' vs us (by rw[hl1,zB h1]) (by rw[hl2,zB h2]) (λi hi=>?_) (λi hi=>?_)
    ·exact one _ _ _ (aF6 h1 i hi) (h3 i (by rw[zB h1];exact hi))
    exact one _ _ _ (aF6 h2 i hi) (h4 i (by rw[zB h2];exact hi))
  |_=>exact Z.elim
 refine(hr ok X Hc w _ hmc (by simp[hl,aPz ha]) hargs).mono ?_;rintro e w' ⟨v,ok',H',rfl,q,hR⟩;have hgr:FM ok w ok' w':=λb hb=>⟨q.CS b hb,q.fr.block b (hm.lH b hb) (λhbX=>by obtain⟨_,_,_,_,h1,_⟩:=L b hbX;exact h1 hb)⟩
 have aQP:srcs.length<=H'.length:=by rw[q.hlen];exact hb2
 refine⟨v,ok',H++H'.drop srcs.length,rfl,hgr,II _ _,?_,by have :=aOl rfl hlt q.names hR;rwa [hm.hlen]at this⟩
 let idx:Nat->AB Nat:=λj=>srcs.findIdx? (λs=>match s with | .ent k=>k==j| .nil _=>false)
 have aKf:∀(j i:Nat),idx j=some i->srcs[i]? =some (.ent j):=by
  intro j i h;simp only[idx,aM5]at h;obtain⟨h1,h2,_⟩:=h;have :srcs[i]? =some srcs[i]:=jm
  cases hs:srcs[i]with
  |ent k=>rw[hs]at h2 this;simp at h2;rw[this,h2]
  |nil _=>rw[hs]at h2;simp at h2
 have aKg:∀(j:Nat),idx j=none->∀(i:Nat),srcs[i]? ≠some (.ent j):=by
  intro j h i hi;simp only[idx,List.findIdx?_eq_none_iff]at h;have :=h _ (Z7 hi);simp at this
 have hlow:∀(j:Nat),j<es.length->(Nh srcs es E')[j]? =some (match idx j with |some i=>(E'.getD i .dead).up srcs es.length|none=>es.getD j .dead):=by
  intro j hj;unfold Nh;rw[KJ (by simpa using hj)];simp only[LH,List.getElem?_zipIdx,arn j hj,KD,Ky];rfl
 have aIJ:(Nh srcs es E').length=es.length+(E'.length-srcs.length):=by simp[Nh]
 have hhigh:∀(j:Nat),es.length<=j->(Nh srcs es E')[j]? =(E'[srcs.length+(j-es.length)]?).map (Bd.up srcs es.length):=by
  intro j hj;unfold Nh;rw[QG (by simpa using hj),LH,Vd];simp
 have aKh:∀(j:Nat),j<es.length->(H++H'.drop srcs.length)[j]? =H[j]? :=λj hj=>KJ (by rw[hm.hlen];exact hj)
 have aIK:∀(j:Nat),es.length<=j->(H++H'.drop srcs.length)[j]? =H'[srcs.length+(j-es.length)]? :=by
  intro j hj;rw[QG (by rw[hm.hlen];exact hj),Vd,hm.hlen]
 have hcls:∀(j:Nat) (e:Bd) (h:CO),(Nh srcs es E')[j]? =some e->e.live=true\/True->(H++H'.drop srcs.length)[j]? =some h->
  (∃(i:Nat) (e0:Bd),e=e0.up srcs es.length/\E'[i]? =some e0/\H'[i]? =some h/\((j<es.length/\srcs[i]? =some (.ent j))\/(es.length<=j/\i=srcs.length+(j-es.length))))\/(j<es.length/\es[j]? =some e/\H[j]? =some h/\∀(i:Nat),srcs[i]? ≠some (.ent j)):=by
  intro j e h M _ I;by_cases hj:j<es.length
  ·rw[hlow j hj]at M;rw[aKh j hj]at I;cases hi:idx j with
   |none=>
    rw[hi]at M;simp only[OM]at M;exact .inr ⟨hj,by rw[arn j hj,M],I,aKg j hi⟩
   |some i=>
    rw[hi]at M;simp only[OM]at M;have hs:=aKf j i hi;have hil:i<srcs.length:=(I5.1 hs).1;have hiE:i<E'.length:=AL
    refine .inl ⟨i,_,M.symm,by simp[List.getD,hiE],?_,.inl ⟨hj,hs⟩⟩;refine q.names i h ?_;simp only[Hc,LH,hs,KD,EW.hd];simp[List.getD,I]
  rw[hhigh j AL]at M;rw[aIK j AL]at I;rw[eA]at M;obtain⟨e0,M,rfl⟩:=M;exact .inl ⟨_,_,rfl,M,I,.inr ⟨AL,rfl⟩⟩
 have hold:∀(j:Nat) (e:Bd) (h:CO) (b:Nat),es[j]? =some e->H[j]? =some h->(∀(i:Nat),srcs[i]? ≠some (.ent j))->e.live=true->EF h.v=some b->b<w.heap.size/\b∉X/\¬ok b/\(C.w0.heap.size<=b\/b∈C.X):=by
  intro j e h b M I hno J z;have h1:=hm.blk j e h b M J I z;refine⟨h1.2.1,λhbX=>?_,h1.1,h1.2.2⟩;obtain⟨i,k,hs,hbk,_⟩:=L b hbX;have :=hm.Jk j k e _ h _ b M (arn k (O i k hs).1) J (O i k hs).2 I (hHk k (hlt i k hs)) z hbk;subst this;exact hno i hs
 have aro:∀(i:Nat) (e:Bd) (h:CO) (b:Nat),E'[i]? =some e->H'[i]? =some h->e.live=true->EF h.v=some b->¬ok' b/\b<w'.heap.size/\(w.heap.size<=b\/b∈X):=λi e h b M I J z=>q.blk i e h b M J I z;refine⟨⟨q.fr.os.trans hm.fr.os,q.fr.tape.trans hm.fr.tape,q.fr.output.trans hm.fr.output,EK hm.fr.size q.fr.size,λk hk hx=>?_⟩,λb hb=>q.CS b (hm.CS b hb),?_,q.lH,hm.names.trans (II _ _),?_,?_,?_,?_⟩
 ·have hkw:k<w.heap.size:=YI hk hm.fr.size
  rw[q.fr.block k hkw (λhkX=>by
   obtain⟨_,_,_,_,_,_,h⟩:=L k hkX;rcases h with h|h
   ·omega
   exact hx h)]
  exact hm.fr.block k hk hx
 ·intro b hb;rcases q.CU b hb with h|h|h
  ·exact hm.CU b h
  ·exact .inr (.inl (EK hm.fr.size h))
  obtain⟨_,_,_,_,_,_,h⟩:=L b h;exact .inr h
 ·rw[aIJ,Ei,Ld,hm.hlen,q.hlen]
 ·intro j e h M I;rcases hcls j e h M (.inr trivial) I with⟨i,e0,rfl,h1,h2,_⟩|⟨_,h1,h2,h3⟩
  ·exact Fl.upw rfl hlt q.names hm.hlen (hb4 e0 (Z7 h1)) (q.ent i e0 h h1 h2)
  refine(hm.ent j e h h1 h2).mono hgr (II _ _) (λJ b z=>?_);have h4:=hold j e h b h1 h2 h3 J z;exact q.fr.block b h4.1 h4.2.1
 ·intro j e h b M J I z;rcases hcls j e h M (.inr trivial) I with⟨i,e0,rfl,h1,h2,_⟩|⟨_,h1,h2,h3⟩
  ·have h4:=aro i e0 h b h1 h2 aHi z;refine⟨h4.1,h4.2.1,?_⟩;rcases h4.2.2 with h5|h5
   ·exact .inl (EK hm.fr.size h5)
   obtain⟨_,_,_,_,_,_,h⟩:=L b h5;exact h
  have h4:=hold j e h b h1 h2 h3 J z;refine⟨λhok'=>?_,YI h4.1 q.fr.size,h4.2.2.2⟩;rcases q.CU b hok' with h5|h5|h5
  ·exact h4.2.2.1 h5
  ·have :w.heap.size<=b:=h5;omega
  exact h4.2.1 h5
 intro j j' e e' h h' b M he' J U I hh' z Y;rcases hcls j e h M (.inr trivial) I with⟨i,e0,rfl,h1,h2,h3⟩|⟨_,h1,h2,h3⟩
 ·rcases hcls j' e' h' he' (.inr trivial) hh' with⟨i',e0',rfl,h1',h2',h3'⟩|⟨_,h1',h2',h3'⟩
  ·have hii:=q.Jk i i' e0 e0' h h' b h1 h1' aHi (by rw[Bd.af9]at U;exact U) h2 h2' z Y;subst hii;rcases h3 with⟨_,h4⟩|⟨h4,h5⟩
   ·rcases h3' with⟨_,h4'⟩|⟨h4',h5'⟩
    ·rw[h4]at h4';simpa using h4'
    have :=(I5.1 h4).1;omega
   rcases h3' with⟨_,h4'⟩|⟨h4',h5'⟩
   ·have :=(I5.1 h4').1;omega
   omega
  have h4:=hold j' e' h' b h1' h2' h3' U Y;rcases(aro i e0 h b h1 h2 aHi z).2.2 with h5|h5
  ·omega
  exact absurd h5 h4.2.1
 rcases hcls j' e' h' he' (.inr trivial) hh' with⟨i',e0',rfl,h1',h2',h3'⟩|⟨_,h1',h2',h3'⟩
 ·have h4:=hold j e h b h1 h2 h3 J z;rcases(aro i' e0' h' b h1' h2' (by rw[Bd.af9]at U;exact U) Y).2.2 with h5|h5
  ·omega
  exact absurd h5 h4.2.1
 exact hm.Jk j j' e e' h h' b h1 h1' J U h2 h2' z Y
def aSu (srcs:A8 EW){j:Ag}(q:Ee P f fB E j E')(u:I7 P f=true)(z:U9 srcs es E E'=true)(hE:tN srcs es E)(ha:OA srcs eH fB)(hl:ops.toList.length=eH.length)(I:o.op=.call { callee:=.value (.func f),args:=ops,argTypes:=ats }:=by exact rfl):CM P o (GH ops.toList eH) es (j.up srcs es.length) (Nh srcs es E'):=by
 intro C ok H a w Q hm J;unfold Oper.wp;rw[a06 I,Uj u,iw];have e:ops.map a.eval=(ops.toList.map a.eval).toArray:=aAb
 rw[e];refine(aTN hm srcs q z hE ha hl J).mono ?_;rintro e w' ⟨v,ok',H',rfl,h1,h2,h3,L⟩;exact⟨v,ok',H',rfl,h1,h2,h3,L⟩
end
def Ac (n:Int):D:=.lit (.int .i64 n)
def Dn (n:Int):D:=.lit (.int .u8 n)
def EC (b:AX):D:=.lit (.bool b)
def DX (s:BO):D:=.lit (.string s)
def BZ (e:α->D)(l:A8 α):D:=.sl (l.map e)
def BD (x:D):A8 Ag:=x.cells.map .d
def Aq (l:A8 α)(i:Int):AB α:=if 0<=i then l[i.toNat]? else none
def DL (j:Nat)(l m:A8 α):AB (A8 α):=if(l.length+m.length)*j<=140737488355328 then some (l++m)else none
def Il (s:BO)(i:Int):AB Int:=if 0<=i then(s[i.toNat]?).map λc=>(c.toNat:Int)else none
def Hw (l:A8 α)(lo hi:Int):AB (A8 α):=if 0<=lo/\lo<=hi/\hi<=l.length then some ((l.drop lo.toNat).take (hi.toNat-lo.toNat))else none
def OV (s:BO)(lo hi:Int):AB BO:=if 0<=lo/\lo<=hi/\hi<=s.size then some (s.extract lo.toNat hi.toNat)else none
def Jj (j:Nat)(z:α)(n c:Int):AB (A8 α):=if 0<=n/\n<=c/\(j:Int)*c<=140737488355328 then some (List.replicate n.toNat z)else none
variable {x:α}
def H9 (h:Aq l i=some x):0<=i/\l[i.toNat]? =some x:=by
 unfold Aq at h;split at h
 ·exact⟨‹_›,h⟩
 cases h
variable {β:Type}
def aaI {i:Nat}(f:α->β)(h:l[i]? =some x):(l.map f)[i]? =some (f x):=by simp[h]
def S9 {b:AX}{y z:α}(j:b=true)(h:(bif b then x else y)=z):x=z:=by subst j;exact h
def Sr {b:AX}{y z:α}(j:b=false)(h:(bif b then x else y)=z):y=z:=by subst j;exact h
def Dl {x:AB α}{f:α->AB β}{z:β}(h:x.bind f=some z):∃a,x=some a/\f a=some z:=l9.1 h
def Ar :Nat:=9223372036854775808
variable {e:Bz}{hi lo:AB CB}{j s:Nat}{l:Int}{r:BO}{x:CB}
section
variable {P:Cm} {o:Oper} {es:A8 Bd} {α:Type}
def aZ4 (enc:α->D)(l:A8 α)(j:P.underlying t=some (.slice e))(q:o.op=.call { callee:=.builtin .len,args:= #[x],argTypes:= #[t] }:=by exact rfl):
 CM P o [(x,.d (BZ enc l))] es (.d (Ac l.length)) es:=by
 have :=aPd (es:=es) (xs:=l.map enc) j q;rw[Df]at this;exact this
def KX (enc:α->D)(l:A8 α)(j:es[k]? =some (.arr e' s (l.map enc)))(q:P.underlying t=some (.slice e))(u:o.op=.call { callee:=.builtin .len,args:= #[x],argTypes:= #[t] }:=by exact rfl):
 CM P o [(x,.aS k)] es (.d (Ac l.length)) es:=by
 have :=afO j q u;rw[Df]at this;exact this
def als (s:BO)(j:P.underlying t=some .string)(q:o.op=.call { callee:=.builtin .len,args:= #[x],argTypes:= #[t] }:=by exact rfl):
 CM P o [(x,.d (DX s))] es (.d (Ac s.size)) es:=aXm j q
def Yq {k:IntKind}(enc:α->D){l:A8 α}{a:α}(h:Aq l i=some a)(j:P.underlying t=some (.slice e))(q:El P e agg size)(hs:(enc a).cells.length=size)(u:o.op=.indexAddr t x y:=by exact rfl):
 CM P o [(x,.d (BZ enc l)),(y,.d (.lit (.int k i)))] es (.d (.ref (enc a).cells 0)) es:=
 a0y j q (H9 h).1 (aaI enc (H9 h).2) hs u
def Ik (enc:α->D){l:A8 α}{a:α}(h:Aq l i=some a)(j:es[k]? =some (.arr e' size (l.map enc)))(q:P.underlying t=some (.slice e))(u:El P e agg size)(z:o.op=.indexAddr t x y:=by exact rfl):
 CM P o [(x,.aS k),(y,.d (.lit (.int kd i)))] es (.lW k i.toNat 0) es:=
 amk j q u (H9 h).1 (by have :=(I5.1 (H9 h).2).1;simpa using this) z
def anJ {s:BO}{n:Int}(h:Il s i=some n):∃c,0<=i/\s[i.toNat]? =some c/\n=c.toNat:=by
 unfold Il at h;split at h
 ·grind
 cases h
def LZ {k:IntKind}{n:Int}{s:BO}(h:Il s i=some n)(j:P.underlying t=some .string)(q:o.op=.index t x y:=by exact rfl):
 CM P o [(x,.d (DX s)),(y,.d (.lit (.int k i)))] es (.d (Dn n)) es:=by
 obtain⟨c,u,h1,rfl⟩:=anJ h;exact al6 j u h1 q
def yw {l m r:A8 α}(h:DL b l m=some r):r=l++m/\(l.length+m.length)*b<=140737488355328:=by
 unfold DL at h;split at h
 ·grind
 cases h
def aB5 (j:0<b)(h:n*b<=140737488355328):n<=maxLen:=by
 have :n*1<=n*b:=Nat.mul_le_mul_left _ j;unfold maxLen;omega
def Dv {s:CB}(enc:α->D){l m r:A8 α}(h:DL j l m=some r)(hE:GV P t e size j)(q:es[k]? =some (.arr e size (l.map enc)))(u:∀a,(enc a).cells.length=size)(z:0<j)(I:o.op=.call { callee:=.builtin .append,args:= #[s,x],argTypes:= #[t,t] }:=by exact rfl):
 CM P o [(s,.aS k),(x,.d (BZ enc m))] es (.aS es.length) (es.set k .dead++[.arr e size (r.map enc)]):=by
 obtain⟨rfl,h2⟩:=yw h;have :=alz (ys:=m.map enc) hE q (λy J=>by obtain⟨a,_,rfl⟩:=Ez.1 J;exact u a) L9 (by simpa using aB5 z h2) I;rw[←JY]at this;exact this
def aiv {s:BO}{lo hi:Int}(h:OV s lo hi=some r):(0<=lo/\lo<=hi/\hi<=s.size)/\r=s.extract lo.toNat hi.toNat:=by
 unfold OV at h;split at h
 ·grind
 cases h
def xk (x:AB CB)(n:Int):A8 (CB×Ag):=match x with |some y=>[(y,.d (Ac n))]|none=>[]
def kG {h:Int}{s:BO}(hr:OV s l h=some r)(hl:lo=none->l=0)(Z:hi=none->h=s.size)(ht:P.underlying t=some .string)(J:o.op=.slice t x lo hi none:=by exact rfl):
 CM P o ((x,.d (DX s))::(xk lo l++xk hi h)) es (.d (DX r)) es:=
 .pure λok H a w _ _ M=>by
  obtain⟨⟨O,h1,h2⟩,rfl⟩:=aiv hr;have q:=(M (x,.d (DX s)) Bf).lit;simp only at q;have L:(underlying t).run P w=.ok .string w:=aCY
  refine⟨.string (s.extract l.toNat h.toNat),?_,.d _ _ (.lit _)⟩;have u:∀y,lo=some y->a.eval y=.int .i64 l:=λy e=>(M (y,.d (Ac l)) a7a).lit;have I:∀y,hi=some y->a.eval y=.int .i64 h:=λy e=>(M (y,.d (Ac h)) a7a).lit;have e1:((0:Int)<=h/\h<=(s.size:Int)):=⟨AL,h2⟩
  have e2:((0:Int)<=l/\l<=(h.toNat:Int)):=⟨O,AL⟩
  cases lo with
  |none=>
   have U:=hl rfl;subst U;cases hi with
   |none=>
    have j:=Z rfl;subst j;simp[execOp,J,q,Instr.sliceAt,Instr.slice,L,Instr.sliceBounds]
   |some y=>
    simp[execOp,J,q,Instr.sliceAt,Instr.slice,L,Instr.sliceBounds,Instr.sliceBound,I y rfl,asIntOf,e1]
  |some z=>
   cases hi with
   |none=>
    have j:=Z rfl;subst j;have Y:((0:Int)<=l/\l<=(s.size:Int)):=⟨O,AL⟩
    simp[execOp,J,q,Instr.sliceAt,Instr.slice,L,Instr.sliceBounds,Instr.sliceBound,u z rfl,asIntOf,Y]
   |some y=>
    simp[execOp,J,q,Instr.sliceAt,Instr.slice,L,Instr.sliceBounds,Instr.sliceBound,u z rfl,I y rfl,asIntOf,e1];intro hc;have :=hc O;omega
def aOs {l r:A8 α}{lo hi:Int}(h:Hw l lo hi=some r):(0<=lo/\lo<=hi/\hi<=l.length)/\r=(l.drop lo.toNat).take (hi.toNat-lo.toNat):=by
 unfold Hw at h;split at h
 ·grind
 cases h
def aNK {ad:AB Addr}{cap l h:Nat}(Y:EN ok w (.sl xs) (.slice ad xs.length cap))(hs:∀x∈xs,x.cells.length=size)(h1:l<=h)(h2:h<=xs.length):
 EN ok w (.sl ((xs.drop l).take (h-l))) (.slice (if cap=l then ad else ad.map (·.add (l*size))) (h-l) (cap-l)):=by
 have hlen:((xs.drop l).take (h-l)).length=h-l:=Ej
 by_cases Z:h-l=0
 ·have :(xs.drop l).take (h-l)=[]:=by rw[Z];rfl
  rw[this,Z];exact .sl0 _ _
 have I:0<xs.length:=AL
 generalize hn:xs.length=n at Y;cases Y with
 |sl0=>
  simp at I
 |sl _ b off _ q hcap J L hf hx hc=>
  have M:q=size:=by
   grind
  subst M;have O:cap≠l:=AL
  rw[Eh O];simp only[KD,addr_add]
  have U:∀i,i<h-l->((xs.drop l).take (h-l)).getD i EP=xs.getD (l+i) EP:=by
   intro i hi;simp[List.getD,TI hi,Vd]
  have u:∀i j,off+l*q+(i*q+j)=off+((l+i)*q+j):=by
   grind
  have :=EN.sl ((xs.drop l).take (h-l)) b (off+l*q) (cap-l) q (ok:=ok) (w:=w) (by rw[hlen];omega) (λh1 h2=>J (by rw[hlen]at h1;omega) h2) (λi hi=>by rw[hlen]at hi;rw[U i hi];exact L _ AL)
   (λi hi j z=>by rw[hlen]at hi;rw[U i hi];exact hf _ AL j z) (λi hi j z=>by rw[hlen]at hi;rw[u];exact hx _ AL j z)
   (λi hi j z=>by rw[hlen]at hi;rw[U i hi,u];exact hc _ AL j z)
  rw[hlen]at this;exact this
def Ro {h:Int}(enc:α->D){xs r:A8 α}(hr:Hw xs l h=some r)(hl:lo=none->l=0)(hh:hi=none->h=xs.length)(ht:P.underlying t=some (.slice e))(O:El P e agg size)(hc:∀a,(enc a).cells.length=size)(U:o.op=.slice t x lo hi none:=by exact rfl):CM P o ((x,.d (BZ enc xs))::(xk lo l++xk hi h)) es (.d (BZ enc r)) es:=
 .pure λok H a w _ _ hn=>by
  obtain⟨⟨h0,h1,h2⟩,rfl⟩:=aOs hr;have hx:=hn (x,.d (BZ enc xs)) Bf;simp only at hx;generalize Y:a.eval x=v at hx;have Z:(underlying t).run P w=.ok (.slice e) w:=aCY
  have L:∀y,lo=some y->a.eval y=.int .i64 l:=λy e=>(hn (y,.d (Ac l)) a7a).lit;have M:∀y,hi=some y->a.eval y=.int .i64 h:=λy e=>(hn (y,.d (Ac h)) a7a).lit;have u:EN ok w (.sl (xs.map enc)) v:=by cases hx with |d _ _ h=>exact h
  have I:∃ad cap,v=.slice ad (xs.map enc).length cap/\(xs.map enc).length<=cap:=by
   generalize hys:xs.map enc=ys at u;cases u with
   |sl0 ad cap=>
    grind
   |sl _ b off cap size j=>
    grind
  obtain⟨ad,cap,rfl,j⟩:=I;have q:=aNK (l:=l.toNat) (h:=h.toNat) u (size:=size) (λy hy=>aHC) AL Ej;rw[←iy,←aV]at q;rw[Df]at j;refine⟨_,?_,.d _ _ q⟩;have e1:((0:Int)<=h/\h<=(cap:Int)):=⟨AL,AL⟩
  cases lo with
  |none=>
   have hl0:=hl rfl;subst hl0;cases hi with
   |none=>
    have J:=hh rfl;subst J;simp[execOp,U,Y,Instr.sliceAt,Instr.slice,Z,Instr.sliceBounds,O.size]
   |some y=>
    simp[execOp,U,Y,Instr.sliceAt,Instr.slice,Z,Instr.sliceBounds,Instr.sliceBound,M y rfl,asIntOf,e1,O.size]
  |some z=>
   cases hi with
   |none=>
    have J:=hh rfl;subst J;have e2':((0:Int)<=l/\l<=(xs.length:Int)):=⟨h0,AL⟩
    simp[execOp,U,Y,Instr.sliceAt,Instr.slice,Z,Instr.sliceBounds,Instr.sliceBound,L z rfl,asIntOf,e2',O.size]
   |some y=>
    simp[execOp,U,Y,Instr.sliceAt,Instr.slice,Z,Instr.sliceBounds,Instr.sliceBound,L z rfl,M y rfl,asIntOf,e1,O.size];intro hc';have :=hc' h0;omega
def nI (P:Cm)(t:Bz)(f off:Nat)(agg:AX)(n:Nat):AX:=
 match P.underlying t with
 |some (.struct q)=>match q[f]? with
  |some j=>j.offset=off&&aD6 P j.type agg n
  |none=>false
 |_=>false
def amE {f:Nat}{cs:A8 D}(hp:nI P t f off agg n=true)(hn:off+n<=cs.length)(h1:agg=false->n=1)(M:o.op=.field t x f:=by exact rfl):CM P o [(x,.d (.agg cs))] es (.d (QZ agg cs off n)) es:=
 .pure λok H a w _ _ I=>by
  have J:=MH I;simp only at J;generalize O:a.eval x=v at J;unfold nI at hp;split at hp
  ·rename_i Z hu;split at hp
   ·rename_i j U;simp only[Dj,Iz]at hp;obtain⟨rfl,q⟩:=hp;have q:=Fq q;have u:(underlying t).run P w=.ok (.struct Z) w:=a1P
    cases J with
    |d _ _ h=>
     cases h with
     |agg _ vs hl L Y=>
      cases agg with
      |false=>
       have :=h1 rfl;subst this;have z:j.offset<vs.size:=AL
       refine⟨vs[j.offset],?_,?_⟩
       ·simp[execOp,M,O,Instr.field,u,U,asAgg,part,q.agg,z]
       have :=Y j.offset AL;simp[Array.getD,z]at this;exact .d _ _ this
      |true=>
       refine⟨.agg (vs.extract j.offset (j.offset+n)),?_,?_⟩
       ·simp[execOp,M,O,Instr.field,u,U,asAgg,part,q.agg,q.size]
       simp only[QZ,KP];have hlen:((cs.drop j.offset).take n).length=n:=Ej
       have hg:∀i,i<n->((cs.drop j.offset).take n).getD i EP=cs.getD (j.offset+i) EP:=by
        grind
       refine .d _ _ (.agg _ _ (by rw[hlen];simp;omega) ?_ ?_)<;>intro i hi<;>rw[hlen]at hi<;>rw[hg i hi]
       ·exact L _ AL
       have :=Y (j.offset+i) AL
       have e:(vs.extract j.offset (j.offset+n)).getD i undef=vs.getD (j.offset+i) undef:=by
        have h3:j.offset+i<vs.size:=AL
        have h4:i<(vs.extract j.offset (j.offset+n)).size:=Ej
        have h5:i<min (j.offset+n) vs.size-j.offset:=AL
        simp[Array.getD,h3,h5]
       rw[e];exact this
   cases hp
  cases hp
def Ag.flat:Ag->AX
 | .d (.lit _)=>true
 | .eX xs=>xs.all λx=>match x with | .d (.lit _)=>true|_=>false
 |_=>false
def aPn (es:A8 Bd):Ag->Ag->Prop
 | .d x,y=>y=.d x
 | .aS k,y=>∃e s xs,es[k]? =some (.arr e s xs)/\y=.d (.sl xs)
 |_,_=>False
def bf (es:A8 Bd):A8 Ag->A8 Ag->Prop
 |x::xs,y::ys=>aPn es x y/\bf es xs ys
 | [],[]=>True
 |_,_=>False
def aLX :∀{xs ys:A8 Ag},bf es xs ys->xs.length=ys.length
 | [],[],_=>rfl
 |_::xs,_::ys,h=>by simp[aLX h.2]
 | [],_::_,h=>h.elim
 |_::_,[],h=>h.elim
def aPT {ops:A8 CB}:∀{xs ys:A8 Ag},ops.length=xs.length->bf es xs ys->∀i,i<ys.length->∃o x,ops[i]? =some o/\(o,x)∈GH ops xs/\aPn es x (ys.getD i .junk):=by
 induction ops with
 |nil=>
  intro xs ys hl h i hi;cases xs with
  |nil=>cases ys with |nil=>simp at hi|cons _ _=>exact h.elim
  |cons _ _=>simp at hl
 |cons o ops j=>
  intro xs ys hl h i hi;cases xs with
  |nil=>simp at hl
  |cons x xs=>
   cases ys with
   |nil=>exact h.elim
   |cons y ys=>
    cases i with
    |zero=>exact⟨o,x,rfl,by simp[GH],h.1⟩
    |succ i=>
     obtain⟨q,u,h1,h2,h3⟩:=j NM h.2 i IW;exact⟨q,u,VG,by simp[GH,h2],Ve⟩
def kD {e:Nat}(he:Fl ok w H h (.arr e s xs))(z:∀b,ok b->ok' b)(M:∀b,EF h.v=some b->ok' b):EN ok' w (.sl xs) h.v:=by
 obtain⟨h1,h2,ys,⟨h3,h4⟩,h5⟩:=he;rcases h4 with⟨L,h7⟩|⟨g,cap,u,L,h7,h8,h9,h10,O,U⟩
 ·rw[Ho h7,L];exact .sl0 none 0
 rw[L];have I:=M g (by rw[L];rfl);have J:=Tc h2
 have Y:∀i j,i<xs.length->j<s->i*s+j<xs.length*s:=by
  intro i j hi q
  calc i*s+j<i*s+s:=AL
   _=(i+1)*s:=by rw[dR]
   _<=xs.length*s:=La _ hi
 have hcur:xs.length*s<=u.size:=by
  exact EK (La _ h9) O
 have hc:∀i j,i<xs.length->j<s->w.cell? ⟨g,0+(i*s+j),none⟩=some (ys.getD (i*s+j) undef):=by
  intro i j hi q;have Z:=Y i j hi q;rw[Ky]
  have e1:ys.getD (i*s+j) undef=u[i*s+j]' AL:=by
   rw[←U];simp[List.getD,TI Z,show i*s+j<u.size by omega]
  rw[e1];simp[World.cell?,h8,show i*s+j<u.size by omega]
 have hg:∀i,i<xs.length->xs.getD i EP∈xs:=λi hi=>OD
 refine .sl xs g 0 cap s h9 (λ_ _=>I) (λi hi=>h2 _ (hg i hi)) (λi hi j q=>?_) (λi hi j q=>?_) (λi hi j q=>?_)
 ·have :=(h5.2 (i*s+j) (by rw[J];exact Y i j hi q)).1;rw[flat_get h2 i j hi q]at this;exact this
 ·rw[hc i j hi q];rfl
 have :=(h5.2 (i*s+j) (by rw[J];exact Y i j hi q)).2;rw[flat_get h2 i j hi q]at this;unfold cellAt;rw[hc i j hi q];cases this with |d _ _ h=>exact h.mono (λb M=>⟨z b M,rfl⟩)
def bg {I:Ag}(hr:Ee P f fB [] I [])(hf:I7 P f=true)(z:I.flat=true)(ha:bf es eH fB)(hl:ops.toList.length=eH.length)(ho:o.op=.call { callee:=.value (.func f),args:=ops,argTypes:=ats }:=by exact rfl):CM P o (GH ops.toList eH) es I es:=by
 intro C ok H a w Q hm hn;unfold Oper.wp;rw[a06 ho,Uj hf,iw];have e:ops.map a.eval=(ops.toList.map a.eval).toArray:=aAb
 rw[e]
 let J:Nat->Prop:=λb=>b<w.heap.size
 have hmc:Dz ⟨w,J,[],[]⟩ J [] [] w:=
  ⟨.refl _ _,λ_ h=>h,λ_ h=>.inl h,λ_ h=>h,.refl _,rfl,λk e h L _=>a0V,λk e h b L=>a0V,λk k' e e' h h' b L=>a0V⟩
 refine(hr J [] [] w _ hmc (by simp[hl,aLX ha]) (λi hi=>?_)).mono ?_
 ·obtain⟨op,x,ho',U,j⟩:=aPT hl ha i hi;have O:=hn _ U
  have e:(ops.toList.map a.eval).toArray.getD i undef=a.eval op:=by
   obtain⟨h1,h2⟩:=I5.1 ho';have h3:i<ops.size:=VG
   have Y:ops[i]=op:=L9
   simp[Array.getD,h3,Y]
  rw[e];simp only at O;generalize fB.getD i .junk=y at j;generalize a.eval op=u at O;cases x with
  |d x=>
   obtain rfl:=j;cases O with |d _ _ h=>exact .d _ _ (h.mono (λb M=>⟨hm.lH b M,rfl⟩))
  |aS k=>
   obtain⟨e',s,xs,hk,rfl⟩:=j;obtain⟨h,hh,hok⟩:=Hr hm.ent hm.hlen hk;obtain rfl:=Qg O hh;exact .d _ _ (kD hok (λb M=>hm.lH b M) (λb M=>(hm.blk k _ h b hk rfl hh M).2.1))
  |_=>exact j.elim
 rintro e w' ⟨v,ok',H',rfl,q,O⟩;have Z:∀b,b<w.heap.size->¬False->w'.heap[b]? =w.heap[b]? :=λb M _=>q.fr.block b M Bf;obtain⟨h1,h2⟩:=hm.change (ok':=ok) (H':=H) (es':=es) (w':=w') (λ_=>False) q.fr.os q.fr.tape q.fr.output q.fr.size Z (λ_ h=>h.elim) (λ_ h=>h) (λ_ h=>.inl h) (.refl _) hm.hlen (λk e h L hh=>.inl ⟨L,hh,λ_ _ _ h=>h⟩);refine⟨v,ok,H,rfl,h2,.refl _,h1,?_⟩;cases O with
 |d x v h=>
  cases x with
  |lit u=>cases h;exact .d _ _ (.lit _)
  |_=>simp[Ag.flat]at z
 |eX xs vs hl' h=>
  refine .eX xs vs hl' (λi hi=>?_);simp only[Ag.flat,FQ]at z;have h3:=z (xs.getD i .junk) OD;have Y:=h i hi;generalize xs.getD i .junk=x at h3 Y;generalize vs.getD i undef=u at Y;cases Y with
  |d y _ h5=>
   cases y with
   |lit u=>cases h5;exact .d _ _ (.lit _)
   |_=>simp at h3
  |_=>simp at h3
 |_=>simp[Ag.flat]at z
end
def Ag.thaw (k:Nat)(xs:A8 D):Ag->Ag
 | .aS j=>if j=k then .d (.sl xs)else .aS j
 | .lW j i off=>if j=k then .junk else .lW j i off
 |x=>x
def BQ.thaw (σ:BQ)(k:Nat)(xs:A8 D):BQ:=⟨σ.slots.map (Ag.thaw k xs),σ.ents.set k .dead,σ.base⟩
def Jq (k:Nat){e:Nat}(hk:σ.ents[k]? =some (.arr e s xs)):∀C ok H a w,Holds C ok H σ a w->∃ok',Holds C ok' H (σ.thaw k xs) a w:=by
 intro C ok H a w u;obtain⟨hd,M,hok⟩:=Hr u.mem.ent u.mem.hlen hk;have I:k<σ.ents.length:=(I5.1 hk).1
 let ok':Nat->Prop:=λb=>ok b\/EF hd.v=some b
 have hblk:=λb q=>u.mem.blk k _ hd b hk rfl M q;have hg:FM ok w ok' w:=λb q=>⟨.inl q,rfl⟩
 refine⟨ok',⟨u.mem.fr,λb q=>.inl (u.mem.CS b q),?_,?_,u.mem.names,by simp[BQ.thaw,u.mem.hlen],?_,?_,?_⟩,by simp[BQ.thaw,u.size],u.defers.mono hg,u.base,?_⟩
 ·rintro b (q|q)
  ·exact u.mem.CU b q
  grind
 ·rintro b (q|q)
  ·exact u.mem.lH b q
  grind
 ·intro j e' h' he J;rcases O6 I he with⟨rfl,rfl⟩|⟨_,L⟩
  ·trivial
  exact(u.mem.ent j e' h' L J).mono hg (.refl _) (λ_ _ _=>rfl)
 ·intro j e' h' b he hl J q;rcases O6 I he with⟨rfl,rfl⟩|⟨hne,L⟩
  ·cases hl
  have h3:=u.mem.blk j e' h' b L hl J q;refine⟨λz=>?_,h3.2⟩;rcases z with z|z
  ·exact h3.1 z
  exact hne (u.mem.Jk j k e' _ h' hd b L hk hl rfl J M q z)
 ·intro i j e1 e2 h1 h2 b he1 he2 U Y hh1 hh2 hb1 hb2;rcases O6 I he1 with⟨rfl,rfl⟩|⟨_,Z⟩
  ·cases U
  rcases O6 I he2 with⟨rfl,rfl⟩|⟨_,aEP⟩
  ·cases Y
  exact u.mem.Jk i j e1 e2 h1 h2 b Z aEP U Y hh1 hh2 hb1 hb2
 intro t ht;simp only[BQ.thaw,Df]at ht
 have e1:(σ.thaw k xs).slots.getD t .junk=(σ.slots.getD t .junk).thaw k xs:=by
  simp only[BQ.thaw];exact Va _ _ _ ht
 rw[e1];have O:=(u.slot t ht).mono hg (lK H);generalize σ.slots.getD t .junk=x at O ⊢;generalize a.tmps.getD t undef=v at O ⊢;cases x with
 |aS j=>
  simp only[Ag.thaw];split
  ·rename_i hj;subst hj;obtain rfl:=Qg O M;exact .d _ _ (kD hok (λb q=>.inl q) (λb q=>.inr q))
  exact O
 |lW j i off=>
  simp only[Ag.thaw];split
  ·exact .junk _
  exact O
 |_=>
   exact O
def Ee.view {args:A8 Ag}{e:Nat}(h:Ee P f args [] (.aS 0) [.arr e s xs]):Ee P f args [] (.d (.sl xs)) []:=by
 intro ok X H w q hm hs ha;refine(h ok X H w q hm hs ha).mono ?_;rintro e' w' ⟨v,ok',H',rfl,j,L⟩;have M:H=[]:=Ho hm.hlen;have hl:H'.length=1:=j.hlen
 match H',hl with
 | [hd],_=>
   obtain rfl:=Qg L (h:=hd) rfl;have I:=j.ent 0 _ hd rfl rfl;have z:=λb z=>j.blk 0 _ hd b rfl rfl rfl z
   let J:Nat->Prop:=λb=>ok' b\/EF hd.v=some b
   refine⟨hd.v,J,[],rfl,⟨j.fr,λb h=>.inl (j.CS b h),?_,?_,by intro k v O;subst M;simp at O,rfl,λk e h u=>by simp at u,λk e h b u=>by simp at u,λk k' e e' h h' b u=>by simp at u⟩,.d _ _ (kD I (λb h=>.inl h) (λb h=>.inr h))⟩
   ·rintro b (h|h)
    ·exact j.CU b h
    exact .inr (z b h).2.2
   rintro b (h|h)
   ·exact j.lH b h
   exact(z b h).2.1
def akU (es E':A8 Bd)(j:E'.all Bd.closed=true):Nh [] es E'=es++E':=by
 unfold Nh;simp only[List.findIdx?_nil,Q7,a1H];rw[aPP j];congr 1;apply ku
 grind
variable {res':Ag}
def aE3 {j:Ag}(z:Ee P f fB [] j E')(I:I7 P f=true)(q:E'.all Bd.closed=true)(ha:OA [] eH fB)(hl:ops.toList.length=eH.length)(J:j.up [] es.length=res')(L:o.op=.call { callee:=.value (.func f),args:=ops,argTypes:=ats }:=by exact rfl):CM P o (GH ops.toList eH) es res' (es++E'):=by
 have :=aSu (es:=es) [] z I (by
  have u:E'.all (Bd.arl [] es.length)=true:=by
   rw[FQ]at q ⊢;exact λe M=>aeh (q e M)
  simp[U9,u]) (λi s h=>JB) ha hl L
 rw[akU _ _ q,J]at this;exact this
def aTY {j:Ag}(q:Ee P f fB [] j [])(u:I7 P f=true)(ha:OA [] eH fB)(hl:ops.toList.length=eH.length)(z:j.up [] es.length=res')(I:o.op=.call { callee:=.value (.func f),args:=ops,argTypes:=ats }:=by exact rfl):CM P o (GH ops.toList eH) es res' es:=by
 have :=aE3 (es:=es) q u rfl ha hl z I
 grind
variable {x y:Code}
section
variable {P:Cm} {σ:BQ} {Q:Exit->BQ->Prop}
def aEX (P:Cm)(σ:BQ):ResultVar->Ag->Prop
 | .tmp t,x=>x=σ.slots.getD t .junk
 | .cell t T,x=>∃k cs agg n,σ.slots.getD t .junk=.ptr k 0/\σ.ents[k]? =some (.box cs)/\cs.all Ag.CX=true/\El P T agg n/\n<=cs.length/\(agg=false->n=1)/\x=.d (QZ agg (Jz cs) 0 n)
def Gq {P:Cm}{σ:BQ}{t:Tmp}{x:Ag}(h:x=σ.slots.getD t .junk):aEX P σ (.tmp t) x:=h
def ZW (P:Cm)(σ:BQ):A8 ResultVar->A8 Ag->Prop
 |r::rs,x::xs=>aEX P σ r x/\ZW P σ rs xs
 | [],[]=>True
 |_,_=>False
def oK :A8 Ag->Ag
 | [x]=>x
 |xs=>.eX xs
def dY (P:Cm)(fn:Func)(j:Ag)(E':A8 Bd):Exit->BQ->Prop
 | .ret,σ=>∃xs π,ZW P σ fn.results.toList xs/\WC σ.base σ.ents π=true/\j=(oK xs).back π/\E'=U0 σ.ents π
 | .normal,σ=>∃xs π,ZW P σ fn.results.toList xs/\WC σ.base σ.ents π=true/\j=(oK xs).back π/\E'=U0 σ.ents π
 |_,_=>False
def aII (tmps:Bh BI):ResultVar->Sem BI
 | .tmp t=>pure (tmps.getD t undef)
 | .cell t T=>do loadVar T (←asAddr (tmps.getD t undef))
def agE (h:Holds C ok H σ a w){r:ResultVar}{x:Ag}(j:aEX P σ r x):
 ∃v,(aII a.tmps r).run P w=.ok v w/\R ok w H x v:=by
 cases r with
 |tmp t=>
  obtain rfl:=j;exact⟨_,rfl,h.az9 t⟩
 |cell t T=>
  obtain⟨k,cs,agg,n,hs,J,hd,L,hn,h1,rfl⟩:=j;have hp:=hs▸h.az9 t;obtain⟨M,O,q⟩:=Hr h.mem.ent h.mem.hlen J;obtain⟨b,z,U,Y,Z⟩:=aJg q hd;generalize hu:a.tmps.getD t undef=u at hp;cases hp with
  |ptr _ _ b' s I=>
   rw[O]at I;obtain rfl:=E5 I;simp at z;subst z;show ∃v,((do loadVar T (←asAddr (a.tmps.getD t undef)):Sem BI)).run P w=.ok v w/\_;rw[hu];obtain⟨v,j,hD⟩:=a7X L (off:=0) (by rw[sD];omega) h1 U Y Z;refine⟨v,?_,.d _ _ hD⟩;simp only[Instr.loadAt,Instr.sureAddr,G9,Hg,GU,Ky]at j;simp only[asAddr,G9,Hg,GU];exact j
def aUr {C:FC}{ok:Nat->Prop}{H:A8 CO}{a:Act}{w:Ba}(h:Holds C ok H σ a w):∀(rs:A8 ResultVar) (xs:A8 Ag),ZW P σ rs xs->
 ∃vs:A8 BI,(rs.mapM (aII a.tmps)).run P w=.ok vs w/\vs.length=xs.length/\∀i,i<xs.length->R ok w H (xs.getD i .junk) (vs.getD i undef)
 | [],[],_=>⟨[],rfl,rfl,λi hi=>Tf⟩
 | [],_::_,h'=>h'.elim
 |_::_,[],h'=>h'.elim
 |r::rs,x::xs,h'=>by
  obtain⟨v,q,z⟩:=agE (P:=P) h h'.1;obtain⟨vs,j,hl,u⟩:=aUr h rs xs h'.2;refine⟨v::vs,?_,fO,λi hi=>?_⟩
  ·simp only[List.mapM_cons,G9,q,j,GU,Hg]
  grind
def ahe (h:Holds C ok H σ a w){xs:A8 Ag}(z:ZW P σ fn.results.toList xs):
 ∃v,(results fn a.tmps).run P w=.ok v w/\R ok w H (oK xs) v:=by
 obtain⟨vs,q,hl,j⟩:=aUr (P:=P) h _ _ z
 have hm:(results fn a.tmps).run P w=.ok (if h:vs.toArray.size=1 then vs.toArray[0]else .tuple vs.toArray) w:=by
  have e:results fn a.tmps=(do let vs ←fn.results.mapM (aII a.tmps);pure (if h:vs.size=1 then vs[0]else .tuple vs)):=rfl;rw[e,aK4];simp only[G9,yM,q,GU,Hg]
 refine⟨_,hm,?_⟩
 match xs,hl,j with
 | [x],hl,j=>
   have h1:vs.toArray.size=1:=NM
   rw[dif_pos h1];have :=j 0 Bf
   have e:vs.getD 0 undef=vs.toArray[0]:=by
    have :0<vs.length:=fO
    simp[List.getD,this]
   rw[e]at this;exact this
 | [],hl,j=>
   have h1:¬vs.toArray.size=1:=by simp at hl;simp[hl]
   rw[dif_neg h1];exact .eX [] _ NM (λi hi=>Tf)
 |x::y::xs,hl,j=>
  have h1:¬vs.toArray.size=1:=by simp at hl;simp[hl]
  rw[dif_neg h1];refine .eX _ _ NM (λi hi=>?_);have :=j i hi;have u:i<vs.length:=AL
  have e:vs.toArray.getD i undef=vs.getD i undef:=by simp[Array.getD,List.getD,u]
  rw[e];exact this
def aYH {D:Nat}{x:AB (A8 Deferred)}(h:w.heap[D]? =some (.deferred x))(o:Nat):w.cell? ⟨D,o,none⟩=none:=by
 unfold World.cell?;rw[h]
def Holds.take {σ:BQ}(Z:∀b,C.ok0 b->b<C.w0.heap.size)(h:Holds C ok H σ a w){D:Nat}{Ds:A8 Nat}(hd:∀d∈Ds,ok d/\C.w0.heap.size<=d/\w.heap[d]? =some (.deferred (some [])))(hD:ok D/\C.w0.heap.size<=D/\w.heap[D]? =some (.deferred (some [])))(M:(D::Ds).Nodup):
 ∃ok',Holds C ok' H σ { a with defers:=Ds.map λD=>{ target:=.collected D,args:= #[] } } (w.putObj D (.deferred none))/\∀d∈Ds,ok' d/\C.w0.heap.size<=d/\(w.putObj D (.deferred none)).heap[d]? =some (.deferred (some [])):=by
 obtain⟨h1,h2,h3⟩:=hD;have q:∀b,b≠D->(w.putObj D (.deferred none)).heap[b]? =w.heap[b]? :=λb j=>YS j;have I:∀b o,ok b->(w.cell? ⟨b,o,none⟩).isSome=true->ok b/\b≠D:=λb o j J=>⟨j,λe=>by subst e;rw[aYH h3]at J;cases J⟩
 have Y:FM (λb=>ok b/\b≠D) w (λb=>ok b/\b≠D) (w.putObj D (.deferred none)):=λb j=>⟨j,q b j.2⟩
 have O:∀(k:Nat) (e:Bd) (hd:CO) (b:Nat),σ.ents[k]? =some e->e.live=true->H[k]? =some hd->EF hd.v=some b->b≠D:=λk e hd b u hl z j U=>(h.mem.blk k e hd b u hl z j).1 (U▸h1)
 have L:∀d∈Ds,(ok d/\d≠D)/\C.w0.heap.size<=d/\(w.putObj D (.deferred none)).heap[d]? =some (.deferred (some [])):=λd hdm=>by
  grind
 refine⟨λb=>ok b/\b≠D,⟨⟨⟨h.mem.fr.os,h.mem.fr.tape,h.mem.fr.output,by simpa[World.putObj]using h.mem.fr.size,λk hk hX=>by rw[q k AL];exact h.mem.fr.block k hk hX⟩,λb j=>⟨h.mem.CS b j,λe=>by have :=Z b j;omega⟩,λb j=>h.mem.CU b j.1,λb j=>by simpa[World.putObj]using h.mem.lH b j.1,h.mem.names,h.mem.hlen,?_,?_,?_⟩,h.size,⟨Ds,rfl,(KN.1 M).2,L⟩,h.base,λt ht=>((h.slot t ht).shrink I).mono Y (.refl _)⟩,L⟩
 ·intro k e hd u z;exact((h.mem.ent k e hd u z).shrink I (λb ms c j J=>⟨j,λe=>by subst e;rw[h3]at J;cases J⟩)).mono Y (.refl _) λhl b j=>q b (O k e hd b u hl z j)
 ·intro k e hd b u hl z j;obtain⟨h4,h5,h6⟩:=h.mem.blk k e hd b u hl z j;exact⟨λhx=>h4 hx.1,by simpa[World.putObj]using h5,h6⟩
 exact h.mem.Jk
def aFZ {fn:Func}{Rr:Ending->Ba->Prop}{C:FC}(u:∀b,C.ok0 b->b<C.w0.heap.size){H:A8 CO}{σ:BQ}(z:∀ok a w,Holds C ok H σ a w->∃v,(results fn a.tmps).run P w=.ok v w/\Rr (.returned v) w):∀(Ds:A8 Nat) {ok:Nat->Prop} {a:Act} {w:Ba},Holds C ok H σ a w->(∀d∈Ds,ok d/\C.w0.heap.size<=d/\w.heap[d]? =some (.deferred (some [])))->Ds.Nodup->
  LeavesInM (Ju none) 0 P fn a.tmps Rr (Ds.map λD=>{ target:=.collected D,args:= #[] }) .returning w
 | [],ok,a,w,h,_,_=>z ok a w h
 |D::Ds,ok,a,w,h,hd,I=>by
  obtain⟨ok',h',j⟩:=h.take u (λd q=>hd d (IZ _ q)) (hd D (Gt ..)) I;have h2:=aFZ u z Ds h' j (KN.1 I).2;exact⟨Bf,.inl ⟨D,_,rfl,run_takeDeferred (hd D (Gt ..)).2.2,h2⟩⟩
def Ee.dS {f:FuncId}{fn:Func}{c:Code}{args:A8 Ag}{E E':A8 Bd}{u:Ag}(Y:P.funcs[f]? =some fn)(Z:fn.body=some c)(h:Bq P c (.enter args fn.ntmps E) (dY P fn u E')):Ee P f args E u E':=by
 intro ok X H w j hm hs ha;refine(aBk (ro:=none) (n:=0)).1 (aJy Y Z trivial (Ui (h.run none (.inl rfl) ⟨w,ok,X,H⟩ ok H _ w ?_) ?_) rfl)
 ·refine⟨hm,?_,.nil _ _ _,hm.hlen,λt ht=>?_⟩
  ·simp[BQ.enter,hs]
  simp only[BQ.enter];by_cases e:t<args.length
  ·have U:(args++List.replicate (fn.ntmps-args.length) Ag.junk).getD t .junk=args.getD t .junk:=aEC
   have e2:(j++Array.replicate (fn.ntmps-j.size) undef).getD t undef=j.getD t undef:=by
    simp[Jt,bF (show t<j.size by omega)]
   grind
  have U:(args++List.replicate (fn.ntmps-args.length) Ag.junk).getD t .junk=.junk:=by
   grind
  rw[U];exact .junk _
 rintro e a' w' ⟨ok',H',σ',h1,h2⟩;obtain⟨Ds,I,J,L⟩:=h1.defers
 have key:∀(x:A8 Ag) (π:A8 (Nat×AX)),ZW P σ' fn.results.toList x->WC σ'.base σ'.ents π=true->u=(oK x).back π->E'=U0 σ'.ents π->
  LeavesInM (Ju none) 0 P fn a'.tmps (λe w'=>∃v ok' H',e=.returned v/\Dz ⟨w,ok,X,H⟩ ok' H' E' w'/\R ok' w' H' u v) a'.defers .returning w':=by
  rintro x π z q rfl rfl;rw[I];refine aFZ (P:=P) (C:=⟨w,ok,X,H⟩) hm.lH (λM a2 w2 h3=>?_) Ds h1 L J;obtain⟨v,hv,hR⟩:=ahe (P:=P) h3 z;exact⟨v,hv,v,M,_,rfl,h3.mem.norm π (h3.base▸q),hR.back π⟩
 cases e with
 |ret=>
  obtain⟨x,π,z,q,h3,O⟩:=h2;exact key x π z q h3 O
 |normal=>
  obtain⟨x,π,z,q,h3,O⟩:=h2;exact key x π z q h3 O
 |_=>
   exact h2.elim
def Ec:=@Ee.dS
def Aa (j:Bq P x σ (Js (λs=>Bq P y s Q) Q)):Bq P (.seq x y) σ Q:=Bq.seq _ j (λ_ h=>h)
def Bq.join {x y:Code}(K:BQ->Prop)(j:∀s,K s->Bq P y s Q)(q:(∀s,K s->Bq P y s Q)->Bq P x σ (Js (λs=>Bq P y s Q) Q)):Bq P (.seq x y) σ Q:=Bq.seq _ (q j) (λ_ h=>h)
def DC:=@Bq.join
def OJ (j:σ.get c=.d (.lit (.bool true)))(h:Bq P x σ Q):Bq P (.cond c x y) σ Q:=Bq.cond true j (λ_=>h) (λh=>Gv)
def Nq (j:σ.get c=.d (.lit (.bool false)))(h:Bq P y σ Q):Bq P (.cond c x y) σ Q:=Bq.cond false j (λh=>Gv) (λ_=>h)
def F9 {id:Nat}{ops:Bh Oper}(hm:P.follows .mixedOrders=true)(j:(UJ ops&&Y2 ops&&Zj ops σ.slots.length&&XR ops)=true)(q:Xd ops bs=true)(h:Fp P ops ops.toList σ rs ess bs σ')(u:Bq P y σ' Q):Bq P (.seq (.region id ops true) y) σ Q:=
 Bq.seq (λs=>s=σ') (.draw hm j q h rfl) (λ_ e=>e▸u)
end
variable {a:AX}{s:Bz}{x y:CB}
section
variable {P:Cm} {o:Oper} {es:A8 Bd}
def amQ {cs:A8 D}{y:D}(j:y=QZ agg cs off n)(q:El P t agg n)(u:off+n<=cs.length)(h1:agg=false->n=1)(z:o.op=.load t x:=by exact rfl):CM P o [(x,.d (.ref cs off))] es (.d y) es:=j▸ae2 q u h1 z
def acB {y:D}(j:y=QZ agg (Jz cs) off n)(q:es[k]? =some (.box cs))(hd:cs.all Ag.CX=true)(u:El P t agg n)(z:off+n<=cs.length)(h1:agg=false->n=1)(I:o.op=.load t x:=by exact rfl):
 CM P o [(x,.ptr k off)] es (.d y) es:=j▸akE q hd u z h1 I
def akr {f:Nat}{cs:A8 D}{y:D}(j:y=QZ agg cs off n)(hp:nI P t f off agg n=true)(q:off+n<=cs.length)(h1:agg=false->n=1)(u:o.op=.field t x f:=by exact rfl):CM P o [(x,.d (.agg cs))] es (.d y) es:=j▸amE hp q h1 u
def akq {j:A8 (Nat×Nat)}{y:D}(u:Jp P t j z)(vs:A8 Ag)(I:o.op=.build t q)(J:y=.agg (Jz (MB (λ(i:Nat)=>j[i]?) (GY z) q.toList vs)))(hp:OQ (λ(i:Nat)=>j[i]?) (GY z).length q.toList vs=true)(hd:(MB (λ(i:Nat)=>j[i]?) (GY z) q.toList vs).all Ag.CX=true):CM P o (Ol q.toList vs) es (.d y) es:=J▸anc u vs hp hd I
def anG {j k:IntKind}{n:Int}(hs:P.underlying s=some (.int j))(q:P.underlying t=some (.int k))(u:o.op=.convert s t x:=by exact rfl):CM P o [(x,.d (.lit (.int j n)))] es (.d (.lit (.int k (k.wrap n)))) es:=
 aMd u λw=>by simp[convert,underlying,hs,q,Conv.intToInt]
def ait {u:BO}(hs:P.underlying s=some .string)(j:P.underlying t=some .string)(q:o.op=.convert s t x:=by exact rfl):CM P o [(x,.d (DX u))] es (.d (DX u)) es:=
 aMd q λw=>by simp[convert,underlying,hs,j]
def ajf {b:AX}(j:P.underlying t=some .bool)(q:o.op=.binOp .eql t x y t':=by exact rfl):CM P o [(x,.d (EC a)),(y,.d (EC b))] es (.d (EC (a==b))) es:=
 Ij (u:=.bool a) (v:=.bool b) (r:=.bool (a==b)) q (λw=>by
  show((do pure (.bool (←Op.equal t (.bool a) (.bool b))):Sem BI)).run P w=_
  simp only[G9,run_equal_bool w t a b j,GU,Hg]) ⟨rfl,rfl⟩
def afM {b:AX}(j:P.underlying t=some .bool)(q:o.op=.binOp .neq t x y t':=by exact rfl):CM P o [(x,.d (EC a)),(y,.d (EC b))] es (.d (EC (!(a==b)))) es:=
 Ij (u:=.bool a) (v:=.bool b) (r:=.bool (!(a==b))) q (λw=>by
  show((do pure (.bool (!(←Op.equal t (.bool a) (.bool b)))):Sem BI)).run P w=_
  simp only[G9,run_equal_bool w t a b j,GU,Hg]) ⟨rfl,rfl⟩
end
def bC {A Rr:Type}(body:(A->AB Rr)->A->AB Rr):Nat->A->AB Rr
 |0,_=>none
 |n+1,a=>body (bC body n) a
variable {A Rr:Type}
def Du {q:Code}(S:A->BQ)(body:(A->AB Rr)->A->AB Rr)(r:Rr)(a0:A)(hs:CP σ (S a0))(h:Go.Proofs.YtfmoknlmaldmlaaGreat.bC body Ar a0=some r)(round:∀(J:BQ->Prop) (k:A->AB Rr),(∀σ' a,CP σ' (S a)->k a=some r->J σ')->∀a,body k a=some r->Bq P q (S a) (Js J Q)):Bq P (.loop q) σ Q:=by
 refine Bq.loop (λn s=>∃a,CP s (S a)/\Go.Proofs.YtfmoknlmaldmlaaGreat.bC body n a=some r) Ar ⟨a0,hs,h⟩ ?_;rintro n s ⟨a,j,u⟩;refine DK j ?_;cases n with
 |zero=>cases u
 |succ n=>exact round _ (Go.Proofs.YtfmoknlmaldmlaaGreat.bC body n) (λσ' a h1 h2=>⟨n,ZN n,a,h1,h2⟩) a u
def aQ {A B Rr:Type}(body:(A->B->AB Rr)->A->B->AB Rr):Nat->A->B->AB Rr
 |0,_,_=>none
 |n+1,a,b=>body (aQ body n) a b
variable {B:Type}
def DW {u:Code}(S:A->B->BQ)(body:(A->B->AB Rr)->A->B->AB Rr)(r:Rr)(a0:A)(q:B)(hs:CP σ (S a0 q))(h:Go.Proofs.YtfmoknlmaldmlaaGreat.aQ body Ar a0 q=some r)(round:∀(J:BQ->Prop) (k:A->B->AB Rr),(∀σ' a b,CP σ' (S a b)->k a b=some r->J σ')->∀a b,body k a b=some r->Bq P u (S a b) (Js J Q)):Bq P (.loop u) σ Q:=by
 refine Bq.loop (λn s=>∃a b,CP s (S a b)/\Go.Proofs.YtfmoknlmaldmlaaGreat.aQ body n a b=some r) Ar ⟨a0,q,hs,h⟩ ?_;rintro n s ⟨a,b,j,z⟩;refine DK j ?_;cases n with
 |zero=>cases z
 |succ n=>exact round _ (Go.Proofs.YtfmoknlmaldmlaaGreat.aQ body n) (λσ' a b h1 h2=>⟨n,ZN n,a,b,h1,h2⟩) a b z
def iZ {A B C Rr:Type}(body:(A->B->C->AB Rr)->A->B->C->AB Rr):Nat->A->B->C->AB Rr
 |0,_,_,_=>none
 |n+1,a,b,c=>body (iZ body n) a b c
def Qm {z:Code}{C:Type}(S:A->B->C->BQ)(body:(A->B->C->AB Rr)->A->B->C->AB Rr)(r:Rr)(a0:A)(q:B)(u:C)(hs:CP σ (S a0 q u))(h:Go.Proofs.YtfmoknlmaldmlaaGreat.iZ body Ar a0 q u=some r)(round:∀(J:BQ->Prop) (k:A->B->C->AB Rr),(∀σ' a b c,CP σ' (S a b c)->k a b c=some r->J σ')->∀a b c,body k a b c=some r->Bq P z (S a b c) (Js J Q)):Bq P (.loop z) σ Q:=by
 refine Bq.loop (λn s=>∃a b c,CP s (S a b c)/\Go.Proofs.YtfmoknlmaldmlaaGreat.iZ body n a b c=some r) Ar ⟨a0,q,u,hs,h⟩ ?_;rintro n s ⟨a,b,c,j,I⟩;refine DK j ?_;cases n with
 |zero=>cases I
 |succ n=>exact round _ (Go.Proofs.YtfmoknlmaldmlaaGreat.iZ body n) (λσ' a b c h1 h2=>⟨n,ZN n,a,b,c,h1,h2⟩) a b c I
def WI {A B C D Rr:Type}(body:(A->B->C->D->AB Rr)->A->B->C->D->AB Rr):Nat->A->B->C->D->AB Rr
 |0,_,_,_,_=>none
 |n+1,a,b,c,d=>body (WI body n) a b c d
def Bq.WI {P:Cm}{σ:BQ}{Q:Exit->BQ->Prop}{I:Code}{A B C D Rr:Type}(S:A->B->C->D->BQ)(body:(A->B->C->D->AB Rr)->A->B->C->D->AB Rr)(r:Rr)(a0:A)(q:B)(u:C)(z:D)(hs:CP σ (S a0 q u z))(h:Go.Proofs.YtfmoknlmaldmlaaGreat.WI body Ar a0 q u z=some r)(round:∀(J:BQ->Prop) (k:A->B->C->D->AB Rr),(∀σ' a b c d,CP σ' (S a b c d)->k a b c d=some r->J σ')->∀a b c d,body k a b c d=some r->Bq P I (S a b c d) (Js J Q)):Bq P (.loop I) σ Q:=by
 refine Bq.loop (λn s=>∃a b c d,CP s (S a b c d)/\Go.Proofs.YtfmoknlmaldmlaaGreat.WI body n a b c d=some r) Ar ⟨a0,q,u,z,hs,h⟩ ?_;rintro n s ⟨a,b,c,d,j,L⟩;refine DK j ?_;cases n with
 |zero=>cases L
 |succ n=>exact round _ (Go.Proofs.YtfmoknlmaldmlaaGreat.WI body n) (λσ' a b c d h1 h2=>⟨n,ZN n,a,b,c,d,h1,h2⟩) a b c d L
def DF {A B C D E Rr:Type}(body:(A->B->C->D->E->AB Rr)->A->B->C->D->E->AB Rr):Nat->A->B->C->D->E->AB Rr
 |0,_,_,_,_,_=>none
 |n+1,a,b,c,d,e=>body (DF body n) a b c d e
def a4q {L:Code}{C D E:Type}(S:A->B->C->D->E->BQ)(body:(A->B->C->D->E->AB Rr)->A->B->C->D->E->AB Rr)(r:Rr)(a0:A)(q:B)(u:C)(z:D)(I:E)(hs:CP σ (S a0 q u z I))(h:Go.Proofs.YtfmoknlmaldmlaaGreat.DF body Ar a0 q u z I=some r)(round:∀(J:BQ->Prop) (k:A->B->C->D->E->AB Rr),(∀σ' a b c d e,CP σ' (S a b c d e)->k a b c d e=some r->J σ')->∀a b c d e,body k a b c d e=some r->Bq P L (S a b c d e) (Js J Q)):Bq P (.loop L) σ Q:=by
 refine Bq.loop (λn s=>∃a b c d e,CP s (S a b c d e)/\Go.Proofs.YtfmoknlmaldmlaaGreat.DF body n a b c d e=some r) Ar ⟨a0,q,u,z,I,hs,h⟩ ?_;rintro n s ⟨a,b,c,d,e,j,M⟩;refine DK j ?_;cases n with
 |zero=>cases M
 |succ n=>exact round _ (Go.Proofs.YtfmoknlmaldmlaaGreat.DF body n) (λσ' a b c d e h1 h2=>⟨n,ZN n,a,b,c,d,e,h1,h2⟩) a b c d e M
def Gw {A B C D E F Rr:Type}(body:(A->B->C->D->E->F->AB Rr)->A->B->C->D->E->F->AB Rr):Nat->A->B->C->D->E->F->AB Rr
 |0,_,_,_,_,_,_=>none
 |n+1,a,b,c,d,e,f=>body (Gw body n) a b c d e f
def Bq.Gw {P:Cm}{σ:BQ}{Q:Exit->BQ->Prop}{M:Code}{A B C D E F Rr:Type}(S:A->B->C->D->E->F->BQ)(body:(A->B->C->D->E->F->AB Rr)->A->B->C->D->E->F->AB Rr)(r:Rr)(a0:A)(q:B)(u:C)(z:D)(I:E)(L:F)(hs:CP σ (S a0 q u z I L))(h:Go.Proofs.YtfmoknlmaldmlaaGreat.Gw body Ar a0 q u z I L=some r)(round:∀(J:BQ->Prop) (k:A->B->C->D->E->F->AB Rr),(∀σ' a b c d e f,CP σ' (S a b c d e f)->k a b c d e f=some r->J σ')->∀a b c d e f,body k a b c d e f=some r->Bq P M (S a b c d e f) (Js J Q)):Bq P (.loop M) σ Q:=by
 refine Bq.loop (λn s=>∃a b c d e f,CP s (S a b c d e f)/\Go.Proofs.YtfmoknlmaldmlaaGreat.Gw body n a b c d e f=some r) Ar ⟨a0,q,u,z,I,L,hs,h⟩ ?_;rintro n s ⟨a,b,c,d,e,f,j,O⟩;refine DK j ?_;cases n with
 |zero=>cases O
 |succ n=>exact round _ (Go.Proofs.YtfmoknlmaldmlaaGreat.Gw body n) (λσ' a b c d e f h1 h2=>⟨n,ZN n,a,b,c,d,e,f,h1,h2⟩) a b c d e f O
def adp {A B C D E F G Rr:Type}(body:(A->B->C->D->E->F->G->AB Rr)->A->B->C->D->E->F->G->AB Rr):Nat->A->B->C->D->E->F->G->AB Rr
 |0,_,_,_,_,_,_,_=>none
 |n+1,a,b,c,d,e,f,g=>body (adp body n) a b c d e f g
def Bq.adp {P:Cm}{σ:BQ}{Q:Exit->BQ->Prop}{O:Code}{A B C D E F G Rr:Type}(S:A->B->C->D->E->F->G->BQ)(body:(A->B->C->D->E->F->G->AB Rr)->A->B->C->D->E->F->G->AB Rr)(r:Rr)(a0:A)(q:B)(u:C)(z:D)(I:E)(L:F)(M:G)(hs:CP σ (S a0 q u z I L M))(h:Go.Proofs.YtfmoknlmaldmlaaGreat.adp body Ar a0 q u z I L M=some r)(round:∀(J:BQ->Prop) (k:A->B->C->D->E->F->G->AB Rr),(∀σ' a b c d e f g,CP σ' (S a b c d e f g)->k a b c d e f g=some r->J σ')->∀a b c d e f g,body k a b c d e f g=some r->Bq P O (S a b c d e f g) (Js J Q)):Bq P (.loop O) σ Q:=by
 refine Bq.loop (λn s=>∃a b c d e f g,CP s (S a b c d e f g)/\Go.Proofs.YtfmoknlmaldmlaaGreat.adp body n a b c d e f g=some r) Ar ⟨a0,q,u,z,I,L,M,hs,h⟩ ?_;rintro n s ⟨a,b,c,d,e,f,g,j,U⟩;refine DK j ?_;cases n with
 |zero=>cases U
 |succ n=>exact round _ (Go.Proofs.YtfmoknlmaldmlaaGreat.adp body n) (λσ' a b c d e f g h1 h2=>⟨n,ZN n,a,b,c,d,e,f,g,h1,h2⟩) a b c d e f g U
variable {c:Int}
section
variable {P:Cm} {o:Oper} {es:A8 Bd} {α:Type}
def ahT {z:α}{n:Int}{r:A8 α}(h:Jj b z n c=some r):(0<=n/\n<=c/\(b:Int)*c<=140737488355328)/\r=List.replicate n.toNat z:=by
 unfold Jj at h;split at h
 ·grind
 cases h
def Zc {q:BI}{n:Int}{r:A8 α}(enc:α->D)(z:α)(h:Jj j z n c=some r)(hE:GV P t e size j)(hz:(P.info? e).bind (·.zero)=some q)(h1:q.cells.all (·.oneCell')=true)(U:q.cells.size=size)(L:GY q=(enc z).cells.map .d)(hb:0<j)(ho:o.op=.makeSlice t x y:=by exact rfl):CM P o [(x,.d (Ac n)),(y,.d (Ac c))] es (.aS es.length) (es++[.arr e size (List.map enc r)]):=
 .eff λC ok H a w hm hn=>by
  obtain⟨⟨h0,Y,hbc⟩,rfl⟩:=ahT h;have hx:=(Fb hn).1.lit;have hy:=(Fb hn).2.lit;simp only at hx hy;obtain⟨i,z',hi,hz',hs,Z,_⟩:=hE.info;have hzv:i.zero=some q:=by rw[hi]at hz;simpa using hz
  have M:c<=9223372036854775807:=by
   have h2:(1:Int)*c<=(j:Int)*c:=Int.mul_le_mul_of_nonneg_right AL AL;omega
  have hr:=run_make (P:=P) w t e i q hE.und hi hzv .i64 .i64 n c h0 Y (by rw[Z];omega) M;rw[hs]at hr
  let cells:=madeCells q.cells (c.toNat*size)
  have O:=hE.pos;have u:cells.size=c.toNat*size:=size_madeCells _ _;have hlc:(GY q).length=size:=by simp[GY,U]
  have I:∀y∈List.map enc (List.replicate n.toNat z),y.cells.length=size:=by
   grind
  have J:=Tc I;have hlen:(List.map enc (List.replicate n.toNat z)).length=n.toNat:=Bf
  rw[hlen]at J;have aRy:n.toNat*size<=c.toNat*size:=La _ AL
  have hrs:∀{ok:Nat->Prop} {w:Ba} {H:A8 CO},Gz ok w H (flat (List.map enc (List.replicate n.toNat z))) (cells.toList.take (n.toNat*size)):=by
   intro ok w H;refine⟨by rw[J,H6,Uz,u];omega,λk hk=>?_⟩;rw[J]at hk;have hd:=a1G k size;have hq:k/size<n.toNat:=vV (by rwa [Vl]at hk);have hm':k % size<size:=qR _ O;have e0:k=k/size*size+k % size:=by rw[Vl];exact hd.symm
   have e1:(flat (List.map enc (List.replicate n.toNat z))).getD k .junk=.d ((enc z).cells.getD (k % size) EP):=by
    have hg:=flat_get I (k/size) (k % size) (by rw[hlen];exact hq) hm';rw[←e0]at hg;rw[hg]
    grind
   have hcl:(enc z).cells.length=size:=by rw[←hlc,L];simp
   have e2:(Ag.d ((enc z).cells.getD (k % size) EP))=(GY q).getD (k % size) .junk:=by
    rw[L];have :k % size<(enc z).cells.length:=AL
    grind
   have hmz:k % size<q.cells.size:=AL
   have e3:(cells.toList.take (n.toNat*size)).getD k undef=q.cells[k % size]:=by
    have hk2:k<c.toNat*size:=AL
    have e:cells.toList=(List.range (c.toNat*size)).map λi=>q.cells[i % q.cells.size]! :=by
     show(madeCells q.cells (c.toNat*size)).toList=_;simp[madeCells]
    rw[e];simp only[List.getD,TI hk]
    grind
   rw[e1,e2,e3];have e4:(GY q).getD (k % size) .junk=.d (Py q.cells[k % size]):=by simp[GY,List.getD,hmz]
   rw[e4];exact⟨vM ((Ws.1 h1) _ Bf),.d _ _ (jd _)⟩
  obtain⟨h2,h3⟩:=hm.push (.cells cells e) ⟨.slice (some ⟨w.heap.size,0,none⟩) n.toNat c.toNat,size⟩ (.arr e size (List.map enc (List.replicate n.toNat z))) (λb hb=>by simpa[EF]using hb.symm) (by
   refine⟨rfl,I,cells.toList.take (n.toNat*size),⟨?_,.inr ⟨w.heap.size,c.toNat,cells,by rw[hlen],F7 _,VZ w _,by rw[hlen];omega,nK,QJ u.symm,by rw[hlen]⟩⟩,hrs⟩
   rw[hlen,H6,Uz,u];omega)
  refine⟨.slice (some ⟨w.heap.size,0,none⟩) n.toNat c.toNat,_,ok,_,.inl ?_,h3,II _ _,h2,.aS _ _ _ _ size Q9⟩;simp only[execOp,ho,hx,hy,G9,hr,GU,Hg];rfl
def gCopy (l m:A8 α):A8 α:=m.take l.length++l.drop m.length
def adL {bytes:Nat}(enc:α->D)(l m:A8 α)(hE:GV P t e size bytes)(hk:es[k]? =some (.arr e size (List.map enc l)))(hc:∀a,(enc a).cells.length=size)(ho:o.op=.call { callee:=.builtin .copy,args:= #[x,y],argTypes:= #[t,t] }:=by exact rfl):
 CM P o [(x,.aS k),(y,.d (BZ enc m))] es .junk (es.set k (.arr e size (List.map enc (gCopy l m)))):=
 .eff λC ok H a w hm hn=>by
  have hx:=(Fb hn).1;have hy:=(Fb hn).2;simp only at hx hy;obtain⟨h,hh,hok⟩:=Hr hm.ent hm.hlen hk;have hxv:=Qg hx hh;obtain⟨i,z',hi,hz',hs,hby,_⟩:=hE.info;have hu:(underlying t).run P w=.ok (.slice e) w:=aHJ
  have hsz:(sizeOf e).run P w=.ok size w:=aKz
  have Y:∀(q:A8 α),∀y∈q.map enc,y.cells.length=size:=λq y hy=>aHC
  have hyR:EN ok w (.sl (m.map enc)) (a.eval y):=by cases hy with |d _ _ h=>exact h
  obtain⟨z,U,aLw⟩:=dU H hyR (Y m);obtain⟨h1,h2,ys,Z,hrs⟩:=hok;have hlm:(m.map enc).length=m.length:=Bf
  have hll:(l.map enc).length=l.length:=Bf
  have hnl:z.length=m.length*size:=by rw[U.len,hlm]
  let n:=Nat.min m.length l.length
  have hlenx:(Builtin.lenOf (a.eval y)).run P w=.ok m.length w:=by
   rcases U.at_ with⟨ad,c,e1,_⟩|⟨c,e1,e2⟩
   ·rw[e1];simp[Builtin.lenOf]
   rw[e1];rw[hlm]at e2;simp[Builtin.lenOf,e2]
  have J:(Builtin.firstCells size n (a.eval y)).run P w=.ok (z.take (n*size)).toArray w:=by
   rcases U.at_ with⟨ad,c,e1,hcells⟩|⟨c,e1,e2⟩
   ·rw[e1];refine run_firstCells_some (P:=P) w size n ad _ c (z.take (n*size)) ?_ ?_
    ·rw[H6,hnl];have :n*size<=m.length*size:=La _ (aCj _ _);omega
    intro j v hj;rw[a1o]at hj;split at hj
    ·exact hcells j v hj
    cases hj
   rw[e1];rw[hlm]at e2;have :z=[]:=Ho (by rw[hnl,e2];simp);simp[Builtin.firstCells,this]
  have hone:∀u∈z.take (n*size),u.oneCell'=true:=λu hu=>U.one u (YU hu);have hn1:n<=m.length:=aCj _ _;have hn2:n<=l.length:=Nat.min_le_right _ _
  have I:(z.take (n*size)).length=n*size:=by
   rw[H6,hnl];have :n*size<=m.length*size:=La _ hn1;omega
  have hgc:gCopy l m=m.take n++l.drop n:=by
   unfold gCopy;by_cases hle:m.length<=l.length
   ·have e1:n=m.length:=yh hle;rw[e1,Qj hle,Gy]
   have e1:n=l.length:=Nat.min_eq_right AL;rw[e1,aB6 AL,PL]
  have L:(gCopy l m).length=l.length:=by rw[hgc];simp;omega
  rcases Z.2 with⟨hv,hl0⟩|⟨g,cap,M,hv,_,hg,hncap,hcm,hcs,htake⟩
  ·
   rw[hll]at hl0;have hn0:n=0:=AL
   have hl:l=[]:=Ho hl0;have hge:gCopy l m=l:=by rw[hgc,hn0];simp
   rw[hge]
   have hset:es.set k (.arr e size (List.map enc l))=es:=by
    apply ku;intro j;by_cases hj:k=j
    ·subst hj;have hkl:=(I5.1 hk).1;rw[List.getElem?_set_self hkl,hk]
    rw[bT hj]
   rw[hset];refine⟨goInt n,w,ok,H,.inl ?_,.refl _ _,.refl _,hm,.junk _⟩;have e0:Nat.min m.length 0=n:=by rw[hn0];simp
   have hf0:(Builtin.firstCells size 0 (a.eval y)).run P w=.ok #[] w:=by rw[hn0]at J;simpa using J
   simp[execOp,ho,resolve,invoke,builtin,Builtin.copy_,hxv,hv,hu,hlenx,hsz,hf0,hn0]
  ·rw[hll]at hv hncap htake;have hlt:g<w.heap.size:=(Ir.1 hg).1
   have hfit:n*size<=M.size:=by
    exact EK (La _ AL) hcs
   have hst:=aEt (P:=P) g 0 e (z.take (n*size)) 0 M w hg (by rw[I];omega) hone;have aEW:∀y∈(gCopy l m).map enc,y.cells.length=size:=Y _
   obtain⟨h3,h4⟩:=hm.upd (e:=.arr e size (List.map enc (gCopy l m))) (w':=w.setRow g (M.toList.take (0+0)++z.take (n*size)++M.toList.drop (0+0+(z.take (n*size)).length)).toArray) hk rfl hh (by rw[hv];rfl) rfl rfl rfl aBw (λc hc=>aIA _ _ _ _ hc) (λhg'=>by
    refine⟨h1,aEW,z.take (n*size)++ys.drop (n*size),?_,?_⟩
    ·refine⟨?_,.inr ⟨g,cap,_,by rw[Df,L];exact hv,F7 _,yL w g M _ e (0,0) hg,by rw[Df,L];exact hncap,hcm,?_,?_⟩⟩
     ·simp only[Ei,I,Ld,Z.1,Df,L];have :n*size<=l.length*size:=La _ hn2;omega
     ·simp only[Pz,a1a,JQ,Ky,I];simp only[a3R,Ei,I,Ld,Uz];rw[show n*size+(M.size-n*size)=M.size by omega];exact hcs
     simp only[Pz,a1a,JQ,Ky,I,a5N];rw[Df,L,←htake];rw[List.take_append,I,Qj (by rw[I];exact La _ hn2)];congr 1;rw[List.drop_take]
    have ha:=aLw.mono hg' (lK H);have hb:=hrs.mono hg' (lK H);have aLx:=Tc (Y l);have aBg:=Tc (Y m);have aIN:=Tc aEW;have aRz:n*size<=l.length*size:=La _ hn2;have aRA:n*size<=m.length*size:=La _ hn1;refine⟨by simp only[aIN,Ei,I,Ld,Z.1,Df,L];omega,λj hj=>?_⟩;rw[aIN,Df,L]at hj;have hpos:=hE.pos;have e0:j=j/size*size+j % size:=by rw[Vl];exact(a1G j size).symm
    have hq:j/size<l.length:=vV (by rwa [Vl]at hj);have hr:j % size<size:=qR _ hpos;have hg3:=flat_get aEW (j/size) (j % size) (by rw[Df,L];exact hq) hr;rw[←e0]at hg3;by_cases hjn:j<n*size
    ·have hqn:j/size<n:=vV (by rwa [Vl]at hjn);have hg2:=flat_get (Y m) (j/size) (j % size) (by rw[hlm];omega) hr;rw[←e0]at hg2
     have O:((gCopy l m).map enc).getD (j/size) EP=(m.map enc).getD (j/size) EP:=by
      rw[hgc];simp only[List.getD,JY];rw[KJ Ej,aV,TI hqn]
     rw[hg3,O,←hg2]
     have e5:(z.take (n*size)++ys.drop (n*size)).getD j undef=z.getD j undef:=by
      simp only[List.getD];rw[KJ (by rw[I];exact hjn),TI hjn]
     rw[e5];exact ha.2 j (by rw[aBg,hlm];omega)
    have hqn:n<=j/size:=(Nat.le_div_iff_mul_le hpos).2 AL;have hg1:=flat_get (Y l) (j/size) (j % size) (by rw[hll];exact hq) hr;rw[←e0]at hg1
    have O:((gCopy l m).map enc).getD (j/size) EP=(l.map enc).getD (j/size) EP:=by
     rw[hgc];have hlt':(m.take n).length=n:=Ej
     simp only[List.getD,JY];rw[QG (by rw[Df,hlt'];exact hqn),Df,hlt',iy,Vd];congr 2;omega
    rw[hg3,O,←hg1]
    have e5:(z.take (n*size)++ys.drop (n*size)).getD j undef=ys.getD j undef:=by
     simp only[List.getD];rw[QG (by rw[I];omega),I,Vd];congr 2;omega
    rw[e5]
    exact hb.2 j (by rw[aLx,hll];omega))
   refine⟨goInt n,_,ok,H,.inl ?_,h4,.refl _,h3,.junk _⟩;have e0:Nat.min m.length l.length=n:=rfl;simp[execOp,ho,resolve,invoke,builtin,Builtin.copy_,hxv,hv,hu,hlenx,hsz,e0,J];rw[hst];simp
end
def DR (s:BO):A8 Int:=s.data.toList.map λc=>(c.toNat:Int)
def JD (s:BO):(DR s).length=s.size:=by unfold DR;rw[Df,Uz];rfl
variable {k k':IntKind}{r u v:Int}
section
variable {P:Cm} {o:Oper} {es:A8 Bd} {α:Type}
def a7b :∀(l:A8 Int),flat (l.map Dn)=l.map λn=>.d (Dn n)
 | []=>rfl
 |n::l=>by rw[Gs,XH,a7b l];rfl
def aZP {u:Bz}{i:TypeInfo}(ht:P.underlying t=some (.slice e))(hu:P.underlying u=some .string)(hi:P.info? e=some i)(hz:i.zero=some (.int .u8 0))(j:i.size=1)(Z:i.bytes=1){v:BI}{xs:A8 BI}(z:nC w e 1 v n xs)(s:BO)(M:n+s.size<=maxLen)(J:n+s.size<=140737488355328):
 ∃v' w',(Builtin.append_ #[t,u] ty #[v,.string s]).run P w=.ok v' w'/\nC w' e 1 v' (n+s.size) (xs++Lib.strCells s)/\w.grownBy w' v.ownBlock/\(∀Y,EF v'=some Y->EF v=some Y\/w.heap.size<=Y):=by
 have L:xs.length=n:=by simpa using z.1
 have hlen:(xs++Lib.strCells s).length=(n+s.size)*1:=by rw[Ei,L,Lib.strCells_length,nX]
 rcases z.2 with⟨rfl,rfl⟩|⟨g,cap,cur,rfl,_,hg,hnc,O,hcs,U⟩
 ·have hx:xs=[]:=Ho L;subst hx;obtain⟨v',w',q1,q2,q3,q4⟩:=Lib.run_append_own_string (P:=P) w w.heap.size t u ty e i ht hu hi hz j Z _ 0 [] (a3i w w.heap.size e 1) s M J (Eb _);refine⟨v',w',q1,.of q2,q3,λY q=>.inr ?_⟩;rcases q2.2 with⟨rfl,_⟩|⟨g2,_,_,rfl,hle,_⟩
  ·simp[EF]at q
  simp[EF]at q;subst q;exact hle
 rw[nX]at hcs U;by_cases I:n+s.size<=cap
 ·have hr:=Lib.run_append_room_string (P:=P) w t u ty e i ht hu hi j g n cap cur hg s I AL;refine⟨_,_,hr,⟨hlen,.inr ⟨g,cap,_,rfl,F7 _,yL w g cur _ e _ hg,I,O,?_,?_⟩⟩,⟨rfl,rfl,rfl,Bf,λk _ hk=>setRow_other w g k _ (λe=>hk (by simp[Value.ownBlock,e]))⟩,λY q=>.inl q⟩
  ·grind
  grind
 have hr:=Lib.run_append_grow_string (P:=P) w t u ty e i (.int .u8 0) ht hu hi hz ⟨g,0,none⟩ n cap xs (by rw[j];simpa using L) (z.cells (g:=g) rfl) s AL (by unfold maxLen at M;omega) (by rw[Z];exact growslice_fits AL AL);have hge:=a0F w (n+s.size) cap e;have O:grownCap w (n+s.size) cap e<=maxLen:=a7s w (n+s.size) cap e M;refine⟨_,_,hr,⟨hlen,.inr ⟨w.heap.size,_,_,rfl,F7 _,VZ w.drew _,hge,O,QJ ?_,?_⟩⟩,⟨rfl,rfl,rfl,Bf,λk hk _=>Lh w.drew _ k hk⟩,λY q=>.inr (by simp[EF]at q;omega)⟩
 ·have hz1:(Value.int IntKind.u8 0).cells.size=1:=rfl;simp only[Array.size_append,a3R,size_zeroCells,hz1,L,Lib.strCells_length];omega
 grind
def aeJ {s:CB}{u:Bz}{k:Nat}{l r:A8 Int}{j:BO}(h:DL 1 l (DR j)=some r)(hE:GV P t e 1 1)(hz:(P.info? e).bind (·.zero)=some (.int .u8 0))(hu:P.underlying u=some .string)(hk:es[k]? =some (.arr e 1 (List.map Dn l)))(ho:o.op=.call { callee:=.builtin .append,args:= #[s,x],argTypes:= #[t,u] }:=by exact rfl):CM P o [(s,.aS k),(x,.d (DX j))] es (.aS es.length) (es.set k .dead++[.arr e 1 (List.map Dn r)]):=
 .eff λC ok H a w hm hn=>by
  obtain⟨rfl,hlen⟩:=yw h;rw[JD,nX]at hlen;have hs:=(Fb hn).1;have hx:=(Fb hn).2.lit;simp only at hs hx;obtain⟨hd,hh,hok⟩:=Hr hm.ent hm.hlen hk;have hsv:=Qg hs hh;obtain⟨h1,h2,ys,I,hrs⟩:=hok;obtain⟨i,z',hi,hz',hs1,hby,_⟩:=hE.info;have hz2:i.zero=some (.int .u8 0):=by rw[hi]at hz;simpa using hz
  have L:(l.map Dn).length=l.length:=Bf
  have M:(l.map Dn).length+j.size<=maxLen:=by rw[L];unfold maxLen;omega
  obtain⟨v',w',hr,J,O,U⟩:=aZP (P:=P) (ty:=o.type) hE.und hu hi hz2 hs1 hby I j M (by rw[L];exact hlen)
  obtain⟨h3,h4⟩:=hm.turn (h':=⟨v',1⟩) (e:=.arr e 1 (List.map Dn (l++DR j))) hk rfl hh O.os O.tape O.output O.size (λc hc hne=>O.block c hc (by rw[aLV I];exact λe=>hne e.symm)) (λg Y=>⟨a09 J Y,U g Y⟩) (λhgr=>by
   refine⟨rfl,λy hy=>by obtain⟨q,_,rfl⟩:=Ez.1 hy;rfl,ys++Lib.strCells j,?_,?_⟩
   ·have e:(List.map Dn (l++DR j)).length=(l.map Dn).length+j.size:=by simp[JD]
    rw[e];exact J
   have Z:=hrs.mono hgr (II H [⟨v',1⟩]);have hfl:(flat (l.map Dn)).length=l.length:=by rw[a7b];simp
   have hcl:(Lib.strCells j)=(DR j).map (.int .u8):=by unfold Lib.strCells DR;rw[jP];rfl
   rw[JY,qJ,a7b (DR j),hcl];refine⟨by rw[Ei,Ei,Z.1,Df,Df],λi hi=>?_⟩;by_cases z:i<(flat (l.map Dn)).length
   ·have e1:(flat (l.map Dn)++(DR j).map λn=>Ag.d (Dn n)).getD i .junk=(flat (l.map Dn)).getD i .junk:=by simp[List.getD,KJ z]
    have e2:(ys++(DR j).map (Value.int .u8)).getD i undef=ys.getD i undef:=by simp[List.getD,KJ (by rw[Z.1];exact z:i<ys.length)]
    rw[e1,e2];exact Z.2 i z
   have hi3:i-(flat (l.map Dn)).length<(DR j).length:=by rw[Ei,Df]at hi;omega
   have e1:(flat (l.map Dn)++(DR j).map λn=>Ag.d (Dn n)).getD i .junk=.d (Dn (DR j)[i-(flat (l.map Dn)).length]):=by simp[List.getD,QG (X7 z),hi3]
   have e2:(ys++(DR j).map (Value.int .u8)).getD i undef=.int .u8 (DR j)[i-(flat (l.map Dn)).length]:=by simp[List.getD,QG (by rw[Z.1];omega:ys.length<=i),Z.1,hi3]
   rw[e1,e2]
   exact⟨rfl,.d _ _ (.lit _)⟩)
  have hH:(H++[(⟨v',1⟩:CO)])[es.length]? =some ⟨v',1⟩:=Q9
  refine⟨v',w',ok,_,.inl ?_,h4,II _ _,h3,?_⟩
  ·simp[execOp,ho,resolve,invoke,builtin,hx,hsv,hr]
  rcases J.2 with⟨rfl,_⟩|⟨g',c',_,rfl,_⟩
  ·exact .aS _ _ _ _ 1 hH
  exact .aS _ _ _ _ 1 hH
def amR {I J:Bz}{s:BO}(hs:P.underlying I=some .string)(hd:P.underlying J=some (.slice e))(O:P.underlying e=some (.int .u8))(U:o.op=.convert I J x:=by exact rfl):CM P o [(x,.d (DX s))] es (.d (BZ Dn (DR s))) es:=
 .eff λC ok H a w hm Y=>by
  have M:=(MH Y).lit;simp only at M;have Z:=run_bytes_of_string (P:=P) w I J e s hs hd O;obtain⟨h1,h2⟩:=hm.drew;obtain⟨h3,h4⟩:=h1.fresh (.cells (bytesRow s (grownCap w s.size 0 e)) e ((bytesRow s (grownCap w s.size 0 e)).size,(bytesRow s (grownCap w s.size 0 e)).size+1));refine⟨.slice (some ⟨w.heap.size,0,none⟩) s.size (grownCap w s.size 0 e),_,_,H,.inl ?_,h2.trans h4,.refl _,h3,.d _ _ ?_⟩
  ·simp only[execOp,U,M,G9,Z,GU,Hg]
  have q:((DR s).map Dn).length=s.size:=by simp[JD]
  have u:∀i,i<s.size->(w.drew.alloc (.cells (bytesRow s (grownCap w s.size 0 e)) e ((bytesRow s (grownCap w s.size 0 e)).size,(bytesRow s (grownCap w s.size 0 e)).size+1))).cell? ⟨w.heap.size,0+(i*1+0),none⟩=some (.int .u8 ((s.data.toList.getD i 0).toNat)):=by
   intro i hi;have hb:(w.drew.alloc (.cells (bytesRow s (grownCap w s.size 0 e)) e ((bytesRow s (grownCap w s.size 0 e)).size,(bytesRow s (grownCap w s.size 0 e)).size+1))).heap[w.heap.size]? =some (.cells (bytesRow s (grownCap w s.size 0 e)) e ((bytesRow s (grownCap w s.size 0 e)).size,(bytesRow s (grownCap w s.size 0 e)).size+1)):=VZ w.drew _;rw[Ky,nX,Pz];have z:i<s.data.size:=hi
   have hg:(bytesRow s (grownCap w s.size 0 e))[i]? =some (.int .u8 ((s.data.toList.getD i 0).toNat)):=by
    unfold bytesRow;rw[bF aC];simp[oV z,List.getD]
   unfold World.cell?;simp only[hb];simpa using hg
  have hl:∀i,i<s.size->((DR s).map Dn).getD i EP=Dn ((s.data.toList.getD i 0).toNat):=by
   intro i hi;have z:i<s.data.size:=hi;simp[DR,List.getD,oV z]
  have z0:∀j,j<1->j=0:=λj L=>AL
  have :=EN.sl (ok:=λb=>ok b\/b=w.drew.heap.size) (w:=w.drew.alloc (.cells (bytesRow s (grownCap w s.size 0 e)) e ((bytesRow s (grownCap w s.size 0 e)).size,(bytesRow s (grownCap w s.size 0 e)).size+1))) ((DR s).map Dn) w.heap.size 0 (grownCap w s.size 0 e) 1 (by rw[q];exact a0F w s.size 0 e) (λ_ _=>.inr rfl)
   (λi hi=>by rw[q]at hi;rw[hl i hi];rfl)
   (λi hi j L=>by rw[q]at hi;rw[z0 j L,hl i hi];rfl)
   (λi hi j L=>by rw[q]at hi;rw[z0 j L,u i hi];rfl)
   (λi hi j L=>by rw[q]at hi;rw[z0 j L];unfold cellAt;rw[u i hi,hl i hi];exact .lit _)
  rw[q]at this;exact this
def F8 (op:BinOp)(k:IntKind)(x y:Int):Int:=
 match op with
 | .and=>k.wrap ((BitVec.ofInt k.bits x&&& BitVec.ofInt k.bits y).toNat)
 | .or=>k.wrap ((BitVec.ofInt k.bits x|||BitVec.ofInt k.bits y).toNat)
 | .xor=>k.wrap ((BitVec.ofInt k.bits x^^^BitVec.ofInt k.bits y).toNat)
 |_=>k.wrap ((BitVec.ofInt k.bits x&&& ~~~(BitVec.ofInt k.bits y)).toNat)
def Rk (j:o.op=.binOp .and t x y t':=by exact rfl):CM P o [(x,.d (.lit (.int k u))),(y,.d (.lit (.int k v)))] es (.d (.lit (.int k (F8 .and k u v)))) es:=
 Ij j (λw=>a1s) ⟨rfl,rfl⟩
def Y1 (j:o.op=.binOp .or t x y t':=by exact rfl):CM P o [(x,.d (.lit (.int k u))),(y,.d (.lit (.int k v)))] es (.d (.lit (.int k (F8 .or k u v)))) es:=
 Ij j (λw=>a1s) ⟨rfl,rfl⟩
def aNP (j:o.op=.binOp .xor t x y t':=by exact rfl):CM P o [(x,.d (.lit (.int k u))),(y,.d (.lit (.int k v)))] es (.d (.lit (.int k (F8 .xor k u v)))) es:=
 Ij j (λw=>a1s) ⟨rfl,rfl⟩
def aaN (j:o.op=.binOp .andNot t x y t':=by exact rfl):CM P o [(x,.d (.lit (.int k u))),(y,.d (.lit (.int k v)))] es (.d (.lit (.int k (F8 .andNot k u v)))) es:=
 Ij j (λw=>a1s) ⟨rfl,rfl⟩
def gU (k:IntKind)(x:Int):Int:=F8 .xor k (if k.signed then -1 else k.max) x
def aR2 (j:o.op=.unOp .xor t x:=by exact rfl):CM P o [(x,.d (.lit (.int k u)))] es (.d (.lit (.int k (gU k u)))) es:=
 aKY j (λw=>by simp[Op.unary,Op.intBits,gU,F8])
def QO (op:BinOp)(k:IntKind)(x y:Int):AB Int:=
 if y<0 then none else some (match op with | .shl=>k.wrap (x*2^(min y.toNat k.bits))|_=>x.fdiv (2^(min y.toNat k.bits)))
def a3Q (h:QO .shl k u v=some r)(j:o.op=.binOp .shl t x y t':=by exact rfl):CM P o [(x,.d (.lit (.int k u))),(y,.d (.lit (.int k' v)))] es (.d (.lit (.int k r))) es:=by
 unfold QO at h;split at h
 ·cases h
 rename_i q;obtain rfl:=E5 h;exact Ij j (λw=>by simp[binOp,Op.shift,q]) ⟨rfl,rfl⟩
def aOF (h:QO .shr k u v=some r)(j:o.op=.binOp .shr t x y t':=by exact rfl):CM P o [(x,.d (.lit (.int k u))),(y,.d (.lit (.int k' v)))] es (.d (.lit (.int k r))) es:=by
 unfold QO at h;split at h
 ·cases h
 rename_i q;obtain rfl:=E5 h;exact Ij j (λw=>by simp[binOp,Op.shift,q]) ⟨rfl,rfl⟩
def xO (k:IntKind)(a b:Int):AB Int:=if b=0 then none else some (k.wrap (a.tdiv b))
def X4 (a b:Int):AB Int:=if b=0 then none else some (a.tmod b)
def ae3 (h:xO k u v=some r)(j:o.op=.binOp .quo t x y t':=by exact rfl):CM P o [(x,.d (.lit (.int k u))),(y,.d (.lit (.int k v)))] es (.d (.lit (.int k r))) es:=by
 unfold xO at h;split at h
 ·cases h
 rename_i q;obtain rfl:=E5 h;exact Ij j (λw=>by simp[binOp,Op.intDiv,q]) ⟨rfl,rfl⟩
def aCd (h:X4 u v=some r)(j:o.op=.binOp .rem t x y t':=by exact rfl):CM P o [(x,.d (.lit (.int k u))),(y,.d (.lit (.int k v)))] es (.d (.lit (.int k r))) es:=by
 unfold X4 at h;split at h
 ·cases h
 rename_i q;obtain rfl:=E5 h;exact Ij j (λw=>by simp[binOp,Op.intDiv,q]) ⟨rfl,rfl⟩
end
variable {e i k:Nat}
section
variable {P:Cm} {o:Oper} {es:A8 Bd} {α:Type}
def aUF {v:BI}(O:H[k]? =some h)(z:Fl ok w H h (.arr e size xs))(hi:i<xs.length)(U:R ok w H (.lW k i off) v):
 ∃g cap j ys,h.v=.slice (some ⟨g,0,none⟩) xs.length cap/\w.heap[g]? =some (.cells j e (0,0))/\xs.length<=cap/\cap<=maxLen/\xs.length*size<=j.size/\cap*size<=j.size/\j.toList.take (xs.length*size)=ys/\ys.length=xs.length*size/\Gz ok w H (flat xs) ys/\(∀x∈xs,x.cells.length=size)/\v=.pointer (some ⟨g,i*size+off,none⟩):=by
 obtain⟨h1,h2,ys,⟨h3,Y⟩,Z⟩:=z;rcases Y with⟨u,h7⟩|⟨g,cap,j,u,h7,h8,L,I,q,J⟩
 ·omega
 refine⟨g,cap,j,ys,u,h8,L,I,EK (La _ L) q,q,J,h3,Z,h2,?_⟩;cases U with
 |lW _ _ _ b n c s M=>
  rw[O]at M;obtain rfl:=E5 M;simp only[kR,OM,Addr.mk.injEq]at u;simp only at h1;rw[u.1.1,h1]
def aUg (hi:i<n)(q:j<size):i*size+j<n*size:=
 calc i*size+j<i*size+size:=AL
  _=(i+1)*size:=by rw[dR]
  _<=n*size:=La _ hi
def KF {y:D}(enc:α->D){l:A8 α}{a:α}(hy:y=QZ agg (enc a).cells off n)(hk:es[k]? =some (.arr e size (List.map enc l)))(ha:l[i]? =some a)(hT:El P t agg n)(hn:off+n<=(enc a).cells.length)(h1:agg=false->n=1)(ho:o.op=.load t x:=by exact rfl):CM P o [(x,.lW k i off)] es (.d y) es:=
 .pure λok H ac w M hl Y=>by
  have hx:=MH Y;simp only at hx;subst hy;obtain⟨h,hh,Z⟩:=Hr M hl hk;obtain⟨O,hia⟩:=I5.1 ha;have q:i<(List.map enc l).length:=Yh
  obtain⟨g,cap,z,ys,e1,e2,e3,e4,e5,e5',e6,e7,e8,e9,e10⟩:=aUF hh Z q hx;have J:(List.map enc l).getD i EP=enc a:=by simp[List.getD,O,hia]
  have hsz:(enc a).cells.length=size:=by
   grind
  have hfl:=Tc e9
  have u:∀j,j<size->w.cell? ⟨g,i*size+j,none⟩=some (ys.getD (i*size+j) undef):=by
   intro j L;have I:=aUg q L;have hcur:(List.map enc l).length*size<=z.size:=e5;have h15:i*size+j<z.size:=AL
   have e11:ys.getD (i*size+j) undef=z[i*size+j]'(h15):=by
    rw[←e6]
    grind
   rw[e11];simp[World.cell?,e2,show i*size+j<z.size by omega]
  have U:∀j,j<size->((enc a).cells.getD j EP).leaf=true/\EN ok w ((enc a).cells.getD j EP) (ys.getD (i*size+j) undef):=by
   intro j L;have I:=e8.2 (i*size+j) (by rw[hfl];exact aUg q L);rw[flat_get e9 i j q L,J]at I;refine⟨I.1,?_⟩;cases I.2 with |d _ _ h=>exact h
  obtain⟨v,hr,hD⟩:=a7X (ok:=ok) (w:=w) (b:=g) (p:=i*size) (cs:=(enc a).cells) hT hn h1 (λj L=>(U j AL).1) (λj L=>by rw[u j AL];rfl) (λj L=>by unfold cellAt;rw[u j AL];exact(U j AL).2);exact⟨v,by simp only[execOp,ho,e10,G9,hr,GU,Hg],.d _ _ hD⟩
def bG (enc:α->D){l:A8 α}{a a':α}{v:Ag}(hk:es[k]? =some (.arr e size (List.map enc l)))(ha:l[i]? =some a)(hl:v.cells.all Ag.leaf=true)(hs:∀w,(sizeOf t).run P w=.ok n w)(hn:v.cells.length=n)(hle:off+n<=(enc a).cells.length)(hset:(enc a').cells.map Ag.d=setAt ((enc a).cells.map Ag.d) off v.cells)(hc:∀b,(enc b).cells.length=size)(ho:o.op=.store t x y:=by exact rfl):
 CM P o [(x,.lW k i off),(y,v)] es .junk (es.set k (.arr e size (List.map enc (l.set i a')))):=
 .eff λC ok H J w hm hn'=>by
  have h1:=(Fb hn').1;have h2:=(Fb hn').2;simp only at h1 h2;obtain⟨h,hh,hok⟩:=Hr hm.ent hm.hlen hk;obtain⟨Y,hia⟩:=I5.1 ha;have aLy:i<(List.map enc l).length:=by simpa using Y
  have hok1:=hok.1;obtain⟨g,cap,z,ys,e1,e2,e3,e4,e5,e5',e6,e7,e8,e9,e10⟩:=aUF hh hok aLy h1;have I:=h2.amg hl;have hll:(List.map enc l).length=l.length:=Bf
  rw[hll]at e1 e3 e6 e7;have hea:(enc a).cells.length=size:=hc a;have Z:(J.eval y).cells.toList.length=n:=by rw[I.1,hn]
  have hsz:(J.eval y).cells.size=n:=by simpa using Z
  have hcur:l.length*size<=z.size:=by simpa using e5
  have hend:i*size+off+n<=l.length*size:=by
   have :(i+1)*size<=l.length*size:=La _ Y
   grind
  have hst:=aEt (P:=P) g (i*size+off) e (J.eval y).cells.toList 0 z w e2 (by rw[Z];omega) (λu hu=>by
   obtain⟨j,L,rfl⟩:=G8 hu;have h5:=I.2 j (by rw[←I.1];exact L);have :=h5.2.leaf h5.1
   rwa [a7N L]at this)
  simp only[Pz]at hst;have O:∀(q:A8 α),∀y∈q.map enc,y.cells.length=size:=λq y hy=>aHC
  obtain⟨h3,h4⟩:=hm.upd (e:=.arr e size (List.map enc (l.set i a'))) (w':=w.setRow g (z.toList.take (i*size+off)++(J.eval y).cells.toList++z.toList.drop (i*size+off+(J.eval y).cells.toList.length)).toArray) hk rfl hh (by rw[e1];rfl) rfl rfl rfl aBw (λc hc=>aIA _ _ _ _ hc) (λhg'=>by
   have esz:(setAt z.toList (i*size+off) (J.eval y).cells.toList).length=z.toList.length:=Sv (by have :=z.length_toList;omega);refine⟨hok1,O _,setAt ys (i*size+off) (J.eval y).cells.toList,⟨?_,.inr ⟨g,cap,_,by simp;exact e1,F7 _,yL w g z _ e (0,0) e2,by simpa using e3,e4,?_,?_⟩⟩,?_⟩
   ·rw[Sv AL];simpa using e7
   ·have h9:(setAt z.toList (i*size+off) (J.eval y).cells.toList).toArray.size=z.size:=by rw[a3R,esz];simp
    show _<=(setAt z.toList (i*size+off) (J.eval y).cells.toList).toArray.size;rw[h9];exact e5'
   ·rw[a5N];show(setAt z.toList (i*size+off) (J.eval y).cells.toList).take _=_;rw[←e6];have hlen':(List.map enc (l.set i a')).length=l.length:=Bf
    rw[hlen'];apply ku;intro j;have hcl:=z.length_toList;by_cases L:j<l.length*size
    ·have a1:((setAt z.toList (i*size+off) (J.eval y).cells.toList).take (l.length*size))[j]? =some ((setAt z.toList (i*size+off) (J.eval y).cells.toList).getD j undef):=by
      rw[TI L];simp[List.getD,show j<(setAt z.toList (i*size+off) (J.eval y).cells.toList).length by rw[esz];omega]
     have tl:(z.toList.take (l.length*size)).length=l.length*size:=Ej
     have sl:(setAt (z.toList.take (l.length*size)) (i*size+off) (J.eval y).cells.toList).length=l.length*size:=by rw[Sv AL,tl]
     have a2:(setAt (z.toList.take (l.length*size)) (i*size+off) (J.eval y).cells.toList)[j]? =some ((setAt (z.toList.take (l.length*size)) (i*size+off) (J.eval y).cells.toList).getD j undef):=by
      simp[List.getD,show j<(setAt (z.toList.take (l.length*size)) (i*size+off) (J.eval y).cells.toList).length by omega]
     rw[a1,a2,Yw AL,Yw AL];congr 1;split
     ·rfl
     simp[List.getD,TI L]
    have tl:(z.toList.take (l.length*size)).length=l.length*size:=Ej
    have sl:(setAt (z.toList.take (l.length*size)) (i*size+off) (J.eval y).cells.toList).length=l.length*size:=by rw[Sv AL,tl]
    rw[Oo Ej,Oo AL]
   have hb:=e8.mono hg' (lK H);have hcr:=I.mono hg' (lK H);have hfl:=Tc (O l);have aBg:=Tc (O (l.set i a'));refine⟨by rw[Sv AL,e7,aBg];simp,λj L=>?_⟩;rw[aBg]at L;simp only[Df,jX]at L
   have hpos:0<size:=by
    rcases Ux size with h0|h0
    ·rw[h0,Nat.mul_zero]at L;omega
    exact h0
   have e0:j=j/size*size+j % size:=by rw[Vl];exact(a1G j size).symm
   have hq:j/size<l.length:=vV (by rwa [Vl]at L);have hr:j % size<size:=qR _ hpos
   have hdiv:j/size=i↔i*size<=j/\j<i*size+size:=by
    rw[Nat.div_eq_iff hpos,Vl];omega
   rw[Z]at hb hcr;generalize j/size=qd at e0 hq hdiv;generalize j % size=M at e0 hr;have hg3:=flat_get (O (l.set i a')) qd M (by simpa using hq) hr;rw[←e0]at hg3;have hg1:=flat_get (O l) qd M (by simpa using hq) hr;rw[←e0]at hg1;rw[hg3,Yw AL,Z];by_cases U:qd=i
   ·have hnew:(List.map enc (l.set i a')).getD (qd) EP=enc a':=by rw[U];simp[List.getD,Y]
    have hold:(List.map enc l).getD (qd) EP=enc a:=by rw[U];simp[List.getD,Y,hia]
    rw[hnew];have aRB:(enc a').cells.length=size:=hc a'
    have e11:Ag.d ((enc a').cells.getD (M) EP)=(setAt ((enc a).cells.map Ag.d) off v.cells).getD (M) .junk:=by
     rw[←hset];simp[List.getD,show M<(enc a').cells.length by omega]
    rw[e11,Yw (by rw[Df,hn];exact hle),hn];have hji:j=i*size+M:=by rw[←U];exact e0
    by_cases hin:off<=M/\M<off+n
    ·rw[Ea hin,Ea AL];have :j-(i*size+off)=M-off:=AL
     rw[this];exact hcr.2 _ AL
    rw[Eh hin,Eh AL];have e12:((enc a).cells.map Ag.d).getD (M) .junk=.d ((enc a).cells.getD (M) EP):=by simp[List.getD,show M<(enc a).cells.length by omega]
    rw[e12,←hold,←hg1];exact hb.2 j (by rw[hfl];simpa using L)
   have hsame:(List.map enc (l.set i a')).getD (qd) EP=(List.map enc l).getD (qd) EP:=by
    simp[List.getD,bT (Ne.symm U)]
   have hnot:¬(i*size+off<=j/\j<i*size+off+n):=by
    rintro⟨ha1,ha2⟩;exact U (hdiv.2 ⟨AL,AL⟩)
   rw[Eh hnot,hsame,←hg1]
   exact hb.2 j (by rw[hfl];simpa using L))
  refine⟨undef,_,ok,H,.inr ⟨rfl,?_⟩,h4,.refl _,h3,.junk _⟩;simp only[execOp,ho,e10,Instr.storeAt,Instr.sureAddr,storeVar,G9,Hg,GU,hs,hsz,ne_eq,not_true_eq_false,LP,hst]
end
def Ag.WJ (k:Nat)(cs:A8 D):Ag->Ag
 | .ptr j off=>if j=k then .d (.ref cs off)else .ptr j off
 |x=>x
def BQ.WJ (σ:BQ)(k:Nat)(cs:A8 D):BQ:=⟨σ.slots.map (Ag.WJ k cs),σ.ents.set k .dead,σ.base⟩
def RH (k:Nat)(hk:σ.ents[k]? =some (.box cs))(hd:cs.all Ag.CX=true):∀C ok H a w,Holds C ok H σ a w->∃ok',Holds C ok' H (σ.WJ k (Jz cs)) a w:=by
 intro C ok H a w q;obtain⟨h,M,hok⟩:=Hr q.mem.ent q.mem.hlen hk;have I:k<σ.ents.length:=(I5.1 hk).1;obtain⟨b0,O,hf,hx,hc⟩:=aJg hok hd
 let ok':Nat->Prop:=λb=>ok b\/EF h.v=some b
 have hblk:=λb u=>q.mem.blk k _ h b hk rfl M u;have hg:FM ok w ok' w:=λb u=>⟨.inl u,rfl⟩
 refine⟨ok',⟨q.mem.fr,λb u=>.inl (q.mem.CS b u),?_,?_,q.mem.names,by simp[BQ.WJ,q.mem.hlen],?_,?_,?_⟩,by simp[BQ.WJ,q.size],q.defers.mono hg,q.base,?_⟩
 ·rintro b (u|u)
  ·exact q.mem.CU b u
  grind
 ·rintro b (u|u)
  ·exact q.mem.lH b u
  grind
 ·intro j e' h' he J;rcases O6 I he with⟨rfl,rfl⟩|⟨_,L⟩
  ·trivial
  exact(q.mem.ent j e' h' L J).mono hg (.refl _) (λ_ _ _=>rfl)
 ·intro j e' h' b he hl J u;rcases O6 I he with⟨rfl,rfl⟩|⟨hne,L⟩
  ·cases hl
  have h3:=q.mem.blk j e' h' b L hl J u;refine⟨λz=>?_,h3.2⟩;rcases z with z|z
  ·exact h3.1 z
  exact hne (q.mem.Jk j k e' _ h' h b L hk hl rfl J M u z)
 ·intro i j e1 e2 h1 h2 b he1 he2 U Y hh1 hh2 hb1 hb2;rcases O6 I he1 with⟨rfl,rfl⟩|⟨_,Z⟩
  ·cases U
  rcases O6 I he2 with⟨rfl,rfl⟩|⟨_,aEP⟩
  ·cases Y
  exact q.mem.Jk i j e1 e2 h1 h2 b Z aEP U Y hh1 hh2 hb1 hb2
 intro t ht;simp only[BQ.WJ,Df]at ht
 have e1:(σ.WJ k (Jz cs)).slots.getD t .junk=(σ.slots.getD t .junk).WJ k (Jz cs):=by
  simp only[BQ.WJ];exact Va _ _ _ ht
 rw[e1];have hR:=(q.slot t ht).mono hg (lK H);generalize σ.slots.getD t .junk=x at hR ⊢;generalize a.tmps.getD t undef=v at hR ⊢;cases x with
 |ptr j off=>
  simp only[Ag.WJ];split
  ·rename_i hj;subst hj;cases hR with
   |ptr _ _ b s hH=>
    rw[M]at hH;obtain rfl:=E5 hH;simp at O;subst O;have :=EN.ref (ok:=ok') (w:=w) (Jz cs) off b 0 (λ_=>.inr rfl) hf hx (λj hj=>(hc j hj).mono hg);rw[Ky]at this;exact .d _ _ this
  exact hR
 |_=>
   exact hR
variable {d:D}
section
variable {P:Cm} {o:Oper} {es:A8 Bd} {α β γ:Type}
def yO {ok:Nat->Prop}{w:Ba}{H:A8 CO}{a:Act}:∀{xs:A8 CB} {vs:A8 Ag},xs.length=vs.length->(∀n∈GH xs vs,R ok w H n.2 (a.eval n.1))->∀i,i<vs.length->R ok w H (vs.getD i .junk) ((xs.map a.eval).getD i undef)
 | [],[],_,_,i,hi=>Tf
 | [],_::_,h,_,_,_=>JB
 |_::_,[],h,_,_,_=>JB
 |x::xs,v::vs,h,j,0,_=>by simpa using j (x,v) (by simp[GH])
 |x::xs,v::vs,h,j,i+1,hi=>by
  have :=yO OG (λn q=>j n (by simp[GH,q])) i IW;simpa using this
def Pe {fn:Fn}{j:Bh CB}(q:A8 D)(hl:j.toList.length=q.length)(z:o.op=.makeFunc fn #[] j:=by exact rfl):CM P o (GH j.toList (q.map .d)) es (.d (.fn fn [] q)) es:=
 .pure λok H a w _ _ I=>by
  refine⟨.func fn #[] (j.map a.eval),by simp[execOp,z,Instr.makeFunc],.d _ _ (.fn fn [] q #[] _ rfl NM (λi hi=>Tf) (λi hi=>?_))⟩;have h1:=yO (xs:=j.toList) (vs:=q.map .d) NM I i IW;have J:(q.map Ag.d).getD i .junk=.d (q.getD i EP):=OD
  have u:i<j.size:=by
    have :j.size=q.length:=NM
    omega
  have L:(j.toList.map a.eval).getD i undef=(j.map a.eval).getD i undef:=by simp[List.getD,Array.getD,u]
  rw[J,L]at h1;cases h1 with |d _ _ h=>exact h
def aPR (hm:Dz C ok H es w){z:A8 D}{u:Ag}(Z:Ee P f (z.map .d) [] u [])(q:Bh BI)(hs:q.size=z.length)(O:∀i,i<z.length->EN ok w (z.getD i EP) (q.getD i undef))(J:u.up [] es.length=u):
 Calls P f q w λe w'=>∃v ok' H',e=.returned v/\FM ok w ok' w'/\Names H H'/\Dz C ok' H' es w'/\R ok' w' H' u v:=by
 have U:Dz ⟨w,ok,[],[]⟩ ok [] [] w:=
  ⟨.refl _ _,λ_ h=>h,λ_ h=>.inl h,hm.lH,.refl _,rfl,λk e h I _=>by simp at I,λk e h b I=>by simp at I,λk k' e e' h h' b I=>by simp at I⟩
 refine(Z ok [] [] w q U a0U (λi hi=>?_)).mono ?_
 ·have L:i<z.length:=IW
  have e1:(z.map Ag.d).getD i .junk=.d (z.getD i EP):=by simp[List.getD,L]
  rw[e1];exact .d _ _ (O i L)
 rintro e w' ⟨v,ok',H',rfl,j,hR⟩;have Y:H'=[]:=Ho j.hlen
 obtain⟨h1,h2⟩:=hm.change (ok':=ok') (H':=H) (es':=es) (w':=w') (λ_=>False) j.fr.os j.fr.tape j.fr.output j.fr.size (λb M _=>j.fr.block b M Bf) (λ_ h=>h.elim) j.CS (λb M=>by
  rcases j.CU b M with h|h|h
  ·exact .inl h
  ·exact .inr ⟨h,j.lH b M⟩
  simp at h) (.refl _) hm.hlen (λk e h I hh=>.inl ⟨I,hh,λ_ _ _ h=>h⟩)
 refine⟨v,ok',H,rfl,h2,.refl _,h1,?_⟩;have :=aOl (srcs:=[]) (H:=H) (Hc:=[]) (H':=H') rfl (λi k h=>JB) (λk v O=>by simp at O) hR;rw[hm.hlen,J,Y]at this;simpa using this
def aJo (j cs:A8 D){q:Ag}(hr:Ee P f ((j++cs).map .d) [] q [])(hf:I7 P f=true)(hl:ops.toList.length=j.length)(J:q.up [] es.length=q)(ho:o.op=.call { callee:=.value x,args:=ops,argTypes:=ats }:=by exact rfl):CM P o ((x,.d (.fn (.func f) [] cs))::GH ops.toList (j.map .d)) es q es:=by
 intro C ok H a w Q hm hn;have L:=hn (x,.d (.fn (.func f) [] cs)) Bf;simp only at L;have z:=yO (xs:=ops.toList) (vs:=j.map .d) NM (λn M=>hn n (IZ _ M));generalize hv:a.eval x=v at L;cases L with
 |d _ _ h=>
  cases h with
  |fn _ _ _ vs us O U h1 h2=>
   have Y:vs= #[]:=pO Yh;subst Y;unfold Oper.wp
   have he:(execOp a.eval o).run P w=.ok (.enter f ((ops.map a.eval)++us)) w:=by
    have :=Uj hf (ops.map a.eval++us) w;simp[execOp,ho,resolve,hv,Deferred.ofValue,invoke,this]
   rw[he,iw];have Z:(ops.map a.eval).size=j.length:=NM
   refine(aPR hm hr _ (by simp[Z,U]) (λi hi=>?_) J).mono ?_
   ·by_cases u:i<j.length
    ·have h3:=z i Rf;have e1:(j.map Ag.d).getD i .junk=.d (j.getD i EP):=aKS
     have I:i<ops.size:=aOM
     have e2:(ops.toList.map a.eval).getD i undef=(ops.map a.eval++us).getD i undef:=by
      simp[List.getD,Jt,bF,I]
     have e3:(j++cs).getD i EP=j.getD i EP:=by simp[List.getD,KJ u]
     rw[e1,e2]at h3;rw[e3];cases h3 with |d _ _ h=>exact h
    have I:i-j.length<cs.length:=aDf
    have e3:(j++cs).getD i EP=cs.getD (i-j.length) EP:=by simp[List.getD,QG (X7 u)]
    have e4:(ops.map a.eval++us).getD i undef=us.getD (i-j.length) undef:=by
     simp only[Jt]
     grind
    rw[e3,e4];exact h2 _ I
   rintro e w' ⟨v,ok',H',rfl,h3,h4,h5,h6⟩;exact⟨v,ok',H',rfl,h3,h4,h5,h6⟩
def TP (P:Cm)(j:α->D)(q:β->D)(d:D)(g:α->AB β):Prop:=∃f cs,d=.fn (.func f) [] cs/\I7 P f=true/\∀a b,g a=some b->Ee P f (([j a]++cs).map .d) [] (.d (q b)) []
def Zq (P:Cm)(j:α->D)(q:β->D)(u:γ->D)(d:D)(g:α->β->AB γ):Prop:=∃f cs,d=.fn (.func f) [] cs/\I7 P f=true/\∀a b c,g a b=some c->Ee P f (([j a,q b]++cs).map .d) [] (.d (u c)) []
def zI (P:Cm)(j:β->D)(d:D)(g:AB β):Prop:=∃f cs,d=.fn (.func f) [] cs/\I7 P f=true/\∀b,g=some b->Ee P f (cs.map .d) [] (.d (j b)) []
def xP {j:α->D}{q:β->D}{g:α->AB β}{a:α}{b:β}(hd:TP P j q d g)(h:g a=some b)(u:o.op=.call { callee:=.value x,args:= #[y],argTypes:=ats }:=by exact rfl):
 CM P o [(x,.d d),(y,.d (j a))] es (.d (q b)) es:=by
 obtain⟨f,cs,rfl,z,I⟩:=hd;exact aJo [j a] cs (I a b h) z rfl rfl u
def cG {z:CB}{j:α->D}{q:β->D}{u:γ->D}{g:α->β->AB γ}{a:α}{b:β}{c:γ}(hd:Zq P j q u d g)(h:g a b=some c)(I:o.op=.call { callee:=.value x,args:= #[y,z],argTypes:=ats }:=by exact rfl):
 CM P o [(x,.d d),(y,.d (j a)),(z,.d (q b))] es (.d (u c)) es:=by
 obtain⟨f,cs,rfl,J,L⟩:=hd;exact aJo [j a,q b] cs (L a b c h) J rfl rfl I
def a7Y {j:β->D}{g:AB β}{b:β}(hd:zI P j d g)(h:g=some b)(q:o.op=.call { callee:=.value x,args:= #[],argTypes:=ats }:=by exact rfl):
 CM P o [(x,.d d)] es (.d (j b)) es:=by
 obtain⟨f,cs,rfl,u,z⟩:=hd;exact aJo [] cs (z b h) u rfl rfl q
end
end Go.Proofs.YtfmoknlmaldmlaaGreat
