/- Part 1 of the laws' proofs (short forms by wip/shrink2.py). -/
import Derived.Test.YtfmoknlmaldmlaaGreatRows
import Derived.WalkSpells
import Derived.WalkLawsBesides
import Derived.Lib.Hide
import Derived.Laws.AppendOwnNone
import Derived.Laws.CopyOwn
import Derived.RangeFuncRecord
import Derived.Lib.OwnBridge
import Derived.Sort.OwnSortedInts
import Derived.ProofKit
import Derived.Shelf.Small.Strs
import Derived.Shelf.Strings.Shaped
import Derived.Shelf.Sort.Plain
import Derived.Shelf.Slices.Turned
import Derived.Shelf.Slices.Clone
import Derived.Shelf.Slices.Cells
import Derived.Shelf.Slices.In.SortNone
import Derived.Shelf.Slices.Empties
import Derived.Shelf.SlSortCmp.NoneTotal
import Derived.Shelf.Spec.SlicesInsertGrow
set_option linter.defProp false
set_option linter.unnecessarySimpa false
set_option linter.unusedSectionVars false
set_option linter.unusedVariables false
set_option linter.unusedSimpArgs false
namespace Go.Proofs.YtfmoknlmaldmlaaGreat
open Go.RowKit Go.Proofs.Tryz
abbrev A8.{u}:=List.{u}
abbrev AB.{u}:=Option.{u}
abbrev BP:=ByteArray
abbrev BI:=Value
abbrev Ba:=World
abbrev Bg.{u}:=Array.{u}
abbrev CB:=Operand
abbrev Cc:=Program
abbrev Bz:=TypeId
abbrev Ad:=Bool
abbrev Ae (n:Nat):Nat×Ad:=(n,true)
section
variable {p:Prop}
def CG (h:p:=by exact λh=>Ag<|CY):p:=h
def Eh (h:p:=by exact Bo.exit<|Ag<|CY):p:=h
def JF (h:p:=by exact Bo.exit<|Ag<|VN):p:=h
def TA (h:p:=by exact D8<|I _ _ (Ak []) h):p:=h
def jM (h:p:=by exact D8<|I _ _ (Ak [Ae 0]) h):p:=h
def U2 (h:p:=by exact D8<|I _ _ _ (Ak [Ae 0]) h):p:=h
def UU (h:p:=by exact D8<|z _ _ (Ak []) h):p:=h
def Yv (h:p:=by exact Nu AA<|Nu AA<|Nu AA<|Nu AA<|trivial):p:=h
def YO (h:p:=by exact D8<|z _ _ _ (Ak [Ae 0]) h):p:=h
def Y5 (h:p:=by exact D8<|J _ _ (Ak []) h):p:=h
def a3W (h:p:=by exact .nil<|Or.inl ⟨(),(CQ h).symm,(⟨[],[],trivial,AA,AA,AA⟩)⟩):p:=h
def aMP (h:p:=by exact .aW<|Ag<|Bo.ret<|by rw[←CQ h];exact⟨[DY ({ j with Content:=q })],[],⟨⟨1,BH (BF ({ j with Content:=q })),true,29,AA,AA,AA,IY,Dt AA,Si,AA⟩,trivial⟩,AA,AA,AA⟩):p:=h
def zQ (h:p:=by exact D8<|J _ _ _ (Ak [Ae 0,Ae 1]) h):p:=h
def qO (h:p:=by exact D8<|J _ _ _ (Ak [Ae 0]) h):p:=h
def aPq (h:p:=by exact λu=>Ag<|Bq h (λh=>u _ ⟨(j==12),Ak [],h⟩) λh=>Ag<|Bq h (λh=>u _ ⟨(j==13),Ak [],h⟩) λh=>D8<|u _ ⟨(j==14),Ak [],h⟩):p:=h
def aVO (h:p:=by exact λu=>Ag<|Bq h (λh=>u _ ⟨(j==5),Ak [],h⟩) λh=>Ag<|Bq h (λh=>u _ ⟨(j==8),Ak [],h⟩) λh=>D8<|u _ ⟨(j==10),Ak [],h⟩):p:=h
def vX (h:p:=by exact D8<|u _ _ _ (Ak [Ae 0]) h):p:=h
def a3k (h:p:=by exact D8<|J _ _ (Ak [Ae 0,Ae 1]) h):p:=h
def a0H (h:p:=by exact λh=>Bo.exit<|u _ ⟨Ak [],h⟩):p:=h
def aLq (h:p:=by exact λh=>Bo.ret<|⟨.inr rfl,(Zt u).slots,(.ready,none),.normal,AA,rfl,(x1 _ ⟨z,I,Ak [Ae 2,Ae 6],h⟩)⟩):p:=h
def aFV (h:p:=by exact .aN<|D8<|J _ _ _ (Ak [Ae 1]) h):p:=h
def a7S (h:p:=by exact Ag<|by cases h;exact .ret (Et [])):p:=h
def YX (h:p:=by exact Ag<|Ag<|CY):p:=h
def aPs (h:p:=by exact Bo.ret<|⟨.inr rfl,(XT j z).slots,(.ready,none),.normal,AA,rfl,(O _ ⟨Y,Z,Ak [Ae 0,Ae 1],h⟩)⟩):p:=h
def aJS (h:p:=by exact .aN<|D8<|z _ _ _ (Ak [(0,false),Ae 2]) h):p:=h
def JW (h:p:=by exact BL h CG λh=>Ag<|CY):p:=h
def uX (h:p:=by exact Ag<|BL h CG λh=>jM):p:=h
def aGx (h:p:=by exact .aX<|BL h CG λh=>D8<|J _ _ (Ak [Ae 0]) h):p:=h
def zL (h:p:=by exact .aW<|BL h CG λh=>TA):p:=h
def Src (h:p:=by exact D8<|I _ _ _ (Ak []) h):p:=h
def aH5 (h:p:=by exact D8<|z _ _ _ (Ak [Ae 0,Ae 1]) h):p:=h
def aFd (h:p:=by exact D8<|I _ _ _ (Ak [Ae 0,Ae 1]) h):p:=h
def aGb (h:p:=by exact D8<|I _ _ (Ak [Ae 0,Ae 1]) h):p:=h
def a2J (h:p:=by exact .aX<|BL h CG λh=>Y5):p:=h
def a8d (h:p:=by exact .aX<|BL h CG λh=>TA):p:=h
def nK (h:p:=by exact λh=>Ag<|VN):p:=h
def uz (h:p:=by exact .aN<|z _ ⟨j,Ak [],h⟩):p:=h
def aCU (h:p:=by exact .aN<|D8<|I _ _ _ (Ak [Ae 1]) h):p:=h
def aC4 (h:p:=by exact .aW<|Ag<|BL h CG λh=>UU):p:=h
def aEU (h:p:=by exact D8<|Y _ _ _ (Ak [Ae 0]) h):p:=h
def aNV (h:p:=by exact λh=>Bo.block<|D8<|z _ _ (Ak [(0,false),Ae 1]) h):p:=h
def aQe (h:p:=by exact .f (x:=.aQ 1) (EP [.ent 0] [.aQ 0,Af z] (aUF M))<|aFV):p:=h
def aK6 (h:p:=by exact .aN<|z _ ⟨u,Ak [Ae 2],h⟩):p:=h
def aJF (h:p:=by exact .aX<|BL h CG λh=>UU):p:=h
def aGh (h:p:=by exact .aX<|BL h CG λh=>jM):p:=h
end
section
variable {p:Prop}
def AA (h:p:=by kernel_rfl):p:=h
def AQ (h:p:=by omega):p:=h
def CY (h:p:=by cases h;exact .ret (Et [])):p:=h
def Cj (h:p:=by cases h;kernel_rfl):p:=h
def Bl (h:p:=by decide):p:=h
def Bf (h:p:=by simp):p:=h
def VN (h:p:=by cases h;exact .ret (Et [Ae 0])):p:=h
def G9 (h:p:=by simp only[Om];omega):p:=h
def Ej (h:p:=by simp;omega):p:=h
def a2I (h:p:=by rw[←CQ h];exact⟨[DY Fe,Am false],[],⟨⟨0,BH (BF Fe),true,29,by kernel_rfl,by kernel_rfl,by kernel_rfl,IY,Dt (by kernel_rfl),(by intro z;cases z),by kernel_rfl⟩,Gj (by kernel_rfl),trivial⟩,by kernel_rfl,by kernel_rfl,by kernel_rfl⟩):p:=h
def KF (h:p:=by cases h;exact .ret (Et [Ae 1])):p:=h
def a6e (h:p:=by rw[←CQ h];exact⟨[DY q,Am true],[],⟨⟨0,BH (BF q),true,29,by kernel_rfl,by kernel_rfl,by kernel_rfl,IY,Dt (by kernel_rfl),(by intro z;cases z),by kernel_rfl⟩,Gj (by kernel_rfl),trivial⟩,by kernel_rfl,by kernel_rfl,by kernel_rfl⟩):p:=h
def Le (h:p:=by cases h;exact .ret (Et [Ae 2])):p:=h
def ZT (h:p:=by rw[←CQ h];exact⟨[],[Ae 0],trivial,by kernel_rfl,by kernel_rfl,by kernel_rfl⟩):p:=h
def IU (h:p:=by simpa using hi):p:=h
def OU (h:p:=by obtain⟨a,_,rfl⟩:=FT.1 q;rfl):p:=h
def nV (h:p:=by subst e;have h:=i;exact AV h λq j h=>.a 2<|.ca (a4K j)<|.aW<|by cases h;kernel_rfl):p:=h
def aPt (h:p:=by rintro s ⟨q,hs,h⟩;exact eF hs<|Ag<|Bo.ret<|by rw[←CQ h];exact⟨[J4 q],[],⟨⟨0,BH (FQ q),true,9,by kernel_rfl,by kernel_rfl,by kernel_rfl,Zq,Dt (by kernel_rfl),(by intro u;cases u),by kernel_rfl⟩,trivial⟩,by kernel_rfl,by kernel_rfl,by kernel_rfl⟩):p:=h
def Zf (h:p:=by cases h;exact .ret (Et [Ae 0,Ae 1,Ae 2,Ae 3])):p:=h
def aRH (h:p:=by rintro s ⟨L,hs,h⟩;exact eF hs<|Di h (λh=>a7S) λh=>AV h λz u h=>AX 2<|.ca (aWt u)<|.aW<|BL h (λh=>a7S) λh=>Y5):p:=h
def UW (h:p:=by simpa using z):p:=h
def Si (h:p:=by intro z;cases z):p:=h
def Gu (h:p:=by cases h):p:=h
def LJ (h:p:=by simpa using h2):p:=h
def aqG (h:p:=by rw[←CQ h];exact⟨[J4 q],[],⟨⟨0,BH (FQ q),true,9,by kernel_rfl,by kernel_rfl,by kernel_rfl,Zq,Dt (by kernel_rfl),(by intro u;cases u),by kernel_rfl⟩,trivial⟩,by kernel_rfl,by kernel_rfl,by kernel_rfl⟩):p:=h
def NJ (h:p:=by intro I;cases I):p:=h
def a8Q (h:p:=by subst e;have h:=i;exact AV h λq j h=>.a 2<|.p (Ls (k:=.i64) j Hg)<|.aW<|by cases h;kernel_rfl):p:=h
def OE (h:p:=by simp[List.getD,hi]):p:=h
def J9 (h:p:=by simp at h):p:=h
def Lj (h:p:=by rw[Ee];omega):p:=h
def NY (h:p:=by simpa using hl):p:=h
def a15 (h:p:=by have :=hb (k+1) y (by simpa using z);simpa[V3,Vx 1 k]using this):p:=h
def uS (h:p:=by have :=hl (k+1) (by simpa using hk);simpa[V3,Vx 1 k]using this):p:=h
def xG (h:p:=by have :=M (k+1) y (by simpa using z);simpa[V3,Vx 1 k]using this):p:=h
def Opn (h:p:=by have :=O (k+1) y (by simpa using z);simpa[V3,Vx 1 k]using this):p:=h
def SC (h:p:=by simp only[QM];omega):p:=h
def OV (h:p:=by decide+kernel):p:=h
def Ul (h:p:=by simp only[Ee,Om];omega):p:=h
def Qg (h:p:=by rw[←hm.hlen];simp):p:=h
def OO (h:p:=by simpa using h):p:=h
def pz (h:p:=by cases h;exact .ret (Et [(0,false),Ae 1])):p:=h
def aNM (h:p:=by rintro s ⟨z,hs,h⟩;exact eF hs<|BL h (λh=>a7S) λh=>a7S):p:=h
def P8 (h:p:=by rw[gU];omega):p:=h
def oM (h:p:=by have :Az=9223372036854775808:=rfl;omega):p:=h
def aFr (h:p:=by rintro s ⟨J,hs,h⟩;exact eF hs<|Ag<|by cases h;exact .ret (Et [Ae 0])):p:=h
def aH (h:p:=by obtain⟨a,_,rfl⟩:=FT.1 j;rfl):p:=h
def Ql (h:p:=by simpa using u):p:=h
def Yx (h:p:=by first|exact L|kernel_rfl):p:=h
def qM (h:p:=by cases h;exact .ret (Et [Ae 3])):p:=h
def VF (h:p:=by intro q;cases q):p:=h
def WS (h:p:=by intro hh;cases hh):p:=h
def aSV (h:p:=by rw[←CQ h];exact⟨[],[Ae 0,Ae 1,Ae 2,Ae 3],trivial,by kernel_rfl,by kernel_rfl,by kernel_rfl⟩):p:=h
def aDm (h:p:=by rintro s ⟨L,hs,h⟩;exact eF hs<|U2):p:=h
def oO (h:p:=by simp[Act.eval,Array.replicate]):p:=h
def aS8 (h:p:=by subst e;have h:=i;exact .a 2<|AV h λq u h=>.mg 12 3 (Am q) (.bi u)<|.aW<|by cases h;kernel_rfl):p:=h
def V7 (h:p:=by simpa using h1):p:=h
def kn (h:p:=by rw[H7];omega):p:=h
def TR (h:p:=by simpa using e):p:=h
def Xy (h:p:=by rw[JI]at h;exact h):p:=h
def Yb (h:p:=by rw[JI];exact aHM hs):p:=h
def RP (h:p:=by rw[aYm];rfl):p:=h
def Xc (h:p:=by intro M;cases M):p:=h
def aTd (h:p:=by subst e;have h:=i;exact AV h λq j h=>.a 4<|.ca (aiU j)<|.aW<|by cases h;kernel_rfl):p:=h
def aTE (h:p:=by subst e;have h:=i;exact AV h λq j h=>.a 4<|.ca (afP j)<|.aW<|by cases h;kernel_rfl):p:=h
def aSL (h:p:=by subst e;have h:=i;exact AV h λq j h=>.a 4<|.ca (aiB j)<|.aW<|by cases h;kernel_rfl):p:=h
def aQ8 (h:p:=by subst e;have h:=i;exact AV h λq j h=>.a 4<|.ca (aZS j)<|.aW<|by cases h;kernel_rfl):p:=h
def aTv (h:p:=by subst e;have h:=i;exact AV h λq j h=>.a 4<|.ca (acz j)<|.aW<|by cases h;kernel_rfl):p:=h
def vY (h:p:=by simpa using(hl 0 (by simp)).symm):p:=h
def aLs (h:p:=by subst e;have h:=i;exact AV h λq j h=>.ca (aRM  q j)<|.aW<|by cases h;kernel_rfl):p:=h
def Vf (h:p:=by simpa using j):p:=h
def VA (h:p:=by rw[hl];rfl):p:=h
def X8 (h:p:=by simpa using h3):p:=h
def Tf (h:p:=by simp at hi):p:=h
def a8P (h:p:=by simp[Array.getD,hil]at hf ⊢;exact hf):p:=h
def XP (h:p:=by simpa using q):p:=h
def a3U (h:p:=by cases h;exact .ret (Et [Ae 4])):p:=h
def jI (h:p:=by simp[Az];omega):p:=h
def aHx (h:p:=by rw[alloc_eq_grow,alloc_eq_grow,grow_grow];rfl):p:=h
def aRO (h:p:=by rintro s ⟨M,hs,h⟩;exact eF hs<|U2):p:=h
def aKX (h:p:=by rw[ha];exact EI (Lc _ _) (by rw[H7];omega)):p:=h
def Ug (h:p:=by simp[flat]):p:=h
def aZ (h:p:=by rw[Df];omega):p:=h
def qH (h:p:=by unfold maxLen;omega):p:=h
def aHg (h:p:=by cases h;exact .ret (Et [Ae 0,Ae 1])):p:=h
def bW (h:p:=by simpa using O):p:=h
def a8r (h:p:=by simp only[aPN];split<;>omega):p:=h
def VL (h:p:=by simp[hi]):p:=h
def jh (h:p:=by simp[hm.hlen]):p:=h
def a1g (h:p:=by rw[Ee];simp only[Om];omega):p:=h
def a2A (h:p:=by simpa using M 0 x (by simp)):p:=h
def nZ (h:p:=by rw[j]at h;exact h):p:=h
def ZX (h:p:=by rw[ha,H9]):p:=h
def rG (h:p:=by simp at J;omega):p:=h
def aGg (h:p:=by rw[z rfl b (by rw[h1];rfl)];exact h2):p:=h
def aJG (h:p:=by obtain⟨b,_,rfl⟩:=FT.1 hy;exact hc b):p:=h
def uj (h:p:=by rw[h1];rfl):p:=h
def zl (h:p:=by rw[ha,Df,H7];omega):p:=h
def qB (h:p:=by simpa using he):p:=h
def a7x (h:p:=by simp[binOp,Op.intBits,F8]):p:=h
def a7k (h:p:=by simp only[GH];simp;omega):p:=h
def aSD (h:p:=by rw[Df]at hi;rw[WI _ _ _ hi];exact Ws q j u (h i hi)):p:=h
def aRx (h:p:=by subst e;have h:=i;exact Dn.aW<|by cases h;kernel_rfl):p:=h
def a8y (h:p:=by rw[h3.keys];simp[CS,aDB]):p:=h
def lS (h:p:=by simpa using q2):p:=h
def a6S (h:p:=by simp[Act.eval,Act.put]):p:=h
def aFK (h:p:=by simpa using O 0 σ.ents (by simp)):p:=h
def yP (h:p:=by simp[List.getD,j]):p:=h
def aW9 (h:p:=by rw[Df]at hi;rw[WI _ _ _ hi];exact(h i hi).vU π):p:=h
def oL (h:p:=by simpa using I):p:=h
def aE1 (h:p:=by intro u;cases u):p:=h
def a0N (h:p:=by intro J;cases J):p:=h
def a8f (h:p:=by simp[Op.bytesLess]at h):p:=h
def aV5 (h:p:=by simp only[a7i,dec_lt h,Bj,CU h,Aj,NR,El,BQ]):p:=h
def sG (h:p:=by intro h;cases h):p:=h
def aH3 (h:p:=by unfold a0g;rw[u];simp only[z]):p:=h
def jw (h:p:=by simpa using J):p:=h
def aKa (h:p:=by rw[hm.hlen];exact(I4.1 h1).1):p:=h
def aVU (h:p:=by simpa using(by omega:i<(ops.map a.eval).size)):p:=h
def a3J (h:p:=by rw[World.cell?,j];rfl):p:=h
def a4a (h:p:=by constructor<;>omega):p:=h
def aqs (h:p:=by simpa using hk):p:=h
def zT (h:p:=by simpa using hs):p:=h
def aNS (h:p:=by rw[h2];exact⟨rfl,rfl,rfl,EW _,λ_ _=>rfl⟩):p:=h
def aUD (h:p:=by cases h;exact .ret (Et [(0,false),Ae 5])):p:=h
def aMU (h:p:=by rw[ha];exact EI (gW _ _) (by rw[H7];omega)):p:=h
def aCr (h:p:=by rw[←h.len];exact(IK.1 h1).1):p:=h
def aG0 (h:p:=by obtain⟨a,_,rfl⟩:=FT.1 u;rfl):p:=h
def Zl (h:p:=by simp[h1]):p:=h
def aWB (h:p:=by simp[Array.getD,show ¬e.on<l.size by omega]):p:=h
def aSx (h:p:=by have :=xw s ⟨k,key,0⟩;unfold Fg at *;omega):p:=h
def a6g (h:p:=by rw[map_take hi,ha]):p:=h
def aDD (h:p:=by simp[sizeOf,typeInfo,hi,hs]):p:=h
def aA6 (h:p:=by simp[underlying,hu]):p:=h
def aKL (h:p:=by first|exact J|kernel_rfl):p:=h
def aTn (h:p:=by simp[Value.cells,List.getD,Array.getD,q]):p:=h
def jc (h:p:=by simp[hl]):p:=h
def aH2 (h:p:=by have :=eq_of_beq h;omega):p:=h
def a4o (h:p:=by simpa using this):p:=h
def aG3 (h:p:=by rw[hb1];exact(I4.1 M).1):p:=h
def aGr (h:p:=by rw[Bd.agt]at J;exact J):p:=h
def aB8 (h:p:=by rw[Df];exact hi):p:=h
def aTo (h:p:=by unfold MB at j;rw[EO hl]at j;exact j):p:=h
def aJt (h:p:=by simp[underlying,hE.und]):p:=h
def aP2 (h:p:=by obtain⟨a,_,rfl⟩:=FT.1 hy;exact hc a):p:=h
def aRW (h:p:=by unfold TN at j;rw[Ee,Ee]at j;omega):p:=h
def jd (h:p:=by cases h'):p:=h
def a1h (h:p:=by simpa using hm):p:=h
def aB3 (h:p:=by simpa using hi'):p:=h
def aQF (h:p:=by rw[sW];exact fuel_lt (by decide)):p:=h
def aLh (h:p:=by simp[stepG,stepG.exec,Frame.atR]):p:=h
def aCL (h:p:=by simp[List.getD,eB e]):p:=h
def a8W (h:p:=by simp[flat]at hi):p:=h
def aEE (h:p:=by simp[List.getD,KI e]):p:=h
def aGT (h:p:=by simpa[EC]using q.symm):p:=h
def a3b (h:p:=by rw[JJ];omega):p:=h
def aF0 (h:p:=by have :=h.len';omega):p:=h
def aHB (h:p:=by rw[hm.hlen];exact h1):p:=h
def aIh (h:p:=by simp[World.setRow]):p:=h
def aGF (h:p:=by have :=h.len;omega):p:=h
def aBS (h:p:=by simp only[a7i,DZ,BQ]):p:=h
def a5r (h:p:=by apply aN8;simp):p:=h
def xR (h:p:=by rw[e];rfl):p:=h
def yt (h:p:=by rw[z];rfl):p:=h
def a7b (h:p:=by simpa using U):p:=h
def aA7 (h:p:=by simp[go_sem]):p:=h
def a4v (h:p:=by rw[JI];exact h):p:=h
def aAv (h:p:=by simpa using hp):p:=h
def aH8 (h:p:=by rw[Ee];simp;omega):p:=h
def aK1 (h:p:=by simp[underlying,ht]):p:=h
def aE3 (h:p:=by rw[Ee,Om];omega):p:=h
def aFJ (h:p:=by have :=Np h1;omega):p:=h
def aEh (h:p:=by rw[←h.len];exact hi):p:=h
def aDH (h:p:=by simp[execOp,j];rfl):p:=h
def aCn (h:p:=by simp[underlying,j]):p:=h
def aIE (h:p:=by simp[underlying,q]):p:=h
def aGP (h:p:=by rw[Ee]at hi;omega):p:=h
def aKU (h:p:=by rw[gU];simp;omega):p:=h
def aCs (h:p:=by simp[List.getD,u]):p:=h
def aAO (h:p:=by simp[xZ,e]):p:=h
def vT (h:p:=by simp at L):p:=h
def uH (h:p:=by simp at u):p:=h
def aKh (h:p:=by rw[aFF j J];simp):p:=h
def tZ (h:p:=by simp at j):p:=h
def uI (h:p:=by simp at z):p:=h
def aFC (h:p:=by rw[I]at q;omega):p:=h
def aCO (h:p:=by intro L;cases L):p:=h
def aJ1 (h:p:=by intro U;cases U):p:=h
end
abbrev Cm:=Value.int .i64
def Aj:=@Option.bind_some
def BQ:=@cond_false
def BJ:=@congrArg
def Dt:=@Nat.le_of_ble_eq_true
def Bj:=@cond_true
def Ee:=@List.length_append
def EO:=@List.getElem?_eq_getElem
def DR:=@Bool.and_eq_true
def Df:=@List.length_map
def Om:=@List.length_singleton
def Dx:=@Option.some.inj
def EZ:=@List.getElem_mem
def He:=@List.eq_nil_of_length_eq_zero
def En:=@List.all_eq_true
def FT:=@List.mem_map
def EI:=@Nat.le_trans
def I4:=@List.getElem?_eq_some_iff
def IK:=@Array.getElem?_eq_some_iff
def El:=@Bool.not_true
def G8:=@List.getElem_of_mem
def EW:=@Nat.le_refl
def H7:=@List.length_take
def GH:=@List.length_cons
def JY:=@Array.getD_eq_getD_getElem?
def GL:=@Go.Result.andThen_ok
def FM:=@List.mem_cons
def H9:=@List.take_length
def JQ:=@List.pairwise_iff_getElem
def IE:=@List.mem_cons_of_mem
def Fl:=@List.foldl_cons
def Gz:=@List.mem_cons_self
def KI:=@List.getElem?_append_left
def Gn:=@List.not_mem_nil
def FB:=@Nat.zero_le
def Gs:=@List.mem_filter
def Fv:=@Bool.true_and
def IQ:=@decide_eq_true_eq
def OM:=@List.take_succ_eq_append_getElem
def G6:=@Go.Sem.run_bind
def Gh:=@List.map_cons
def Ip:=@List.any_eq_true
def Iu:=@Go.Proofs.Tryz.underlying3
def Ie:=@List.mem_append
def Ic:=@decide_eq_false
def Lc:=@List.length_filter_le
def JO:=@List.append_assoc
def Jd:=@List.mem_singleton
def JJ:=@List.nil_append
def Nj:=@List.drop_eq_getElem_cons
def ET:=@if_pos
def Hf:=@Go.Sem.run_pure
def LZ:=@Nat.mul_le_mul_right
def JR:=@Option.map_some
def Ef:=@if_neg
def Jb:=@List.map_append
def Kq:=@Option.some.injEq
def JV:=@Bool.not_false
def QM:=@List.length_nil
abbrev BA:=IntKind.i64.wrap
def gU (n:Int):BA n=(n+9223372036854775808)%18446744073709551616-9223372036854775808:=Go.IntKind.wrap_i64 n
def LC:=@List.getElem?_map
def QI:=@List.getElem?_append_right
def TP:=@Array.all_eq_true_iff_forall_mem
def Np:=@of_decide_eq_false
def KQ:=@List.nodup_cons
def UA:=@Array.getElem?_setIfInBounds_ne
def OZ:=@List.getElem?_eq_none
def MH:=@Go.RowKit.Below.heap_alloc
def LY:=@List.length_drop
def V3:=@Nat.add_assoc
def KC:=@decide_eq_true
def MO:=@Option.getD_some
def NR:=@beq_self_eq_true
def Vx:=@Nat.add_comm
def SA:=@Option.isSome_iff_exists
def Qx:=@List.take_of_length_le
def RI:=@Go.MapKept.run_getObj_map
def KD:=@Nat.zero_add
def P5:=@List.flatMap_cons
def TF:=@List.getElem?_take_of_lt
def MJ:=@Bool.and_true
def Ol:=@Go.Proofs.Tryz.underlying9
def PI:=@of_decide_eq_true
def QY:=@List.pairwise_cons
def PS:=@List.drop_length
def Ph:=@List.getElem_map
def Oz:=@Bool.eq_iff_iff
def QX:=@Go.Proofs.Tryz.underlying38
def Qz:=@List.filter_append
def O1:=@Bool.or_false
def QB:=@Go.run_equalIn_int
def OW:=@Bool.false_or
def SI:=@Option.toList_some
def Ve:=@List.take_append_drop
def XV:=@List.mem_of_find?_eq_some
def Ry:=@bne_self_eq_false
def TK:=@Bool.false_eq_true
def MP:=@beq_iff_eq
def Ua:=@Array.length_toList
def Uj:=@List.filterMap_cons
def Ue:=@List.filter_sublist
def Yl:=@Array.getElem?_append_left
def Vb:=@Nat.eq_zero_or_pos
def YD:=@Go.World.putObj_heap_same
def QD:=@Prod.mk.injEq
def Ui:=@Bool.not_eq_true'
def VD:=@List.foldl_append
def V4:=@List.take_add_one
def Ub:=@Go.Proofs.Tryz.underlying45
def LH:=@if_false
def Ya:=@Go.World.putObj_heap_other
def jF:=@List.nodup_iff_pairwise_ne
def eB:=@List.getElem?_set_ne
def QK:=@Nat.add_zero
def QE:=@Nat.le_of_eq
def WR:=@List.getElem?_drop
def nO:=@Array.eq_empty_of_size_eq_zero
def UC:=@List.append_nil
def VJ:=@List.foldlM_cons
def Uu:=@List.filter_cons
def KL:=@if_true
def Vw:=@Go.Proofs.Tryz.underlying32
def Ze:=@Array.getElem?_modify
def RU:=@Bool.or_true
def VK:=@Bool.or_eq_true
def XH:=@Nat.lt_of_lt_of_le
def jO:=@List.getElem?_cons_zero
def Vt:=@List.mem_flatMap
def Zi:=@List.mem_of_getElem?
def Yf:=@List.pairwise_append
def oz:=@List.getD_eq_getElem?_getD
def vP:=@List.takeWhile_append_dropWhile
def jG:=@Option.map_eq_some_iff
def gG:=@List.findIdx_lt_length
def Xe:=@Int.toNat_natCast
def YF:=@List.findIdx_cons
def Xi:=@Go.Proofs.Tryz.underlying34
def rV:=@Classical.byContradiction
def qQ:=@Array.getElem?_eq_getElem
def jo:=@List.filterMap_append
def Xp:=@Nat.le_of_not_lt
def bV:=@List.mem_filterMap
def X9:=@List.ext_getElem
def Vq:=@Go.heap_alloc_new
def gJ:=@List.mem_of_mem_take
def RQ:=@Go.wpS_region
def lg:=@Option.bind_eq_some_iff
def qA:=@List.getElem?_cons_succ
def mV:=@decide_eq_false_iff_not
def ZE:=@List.filter_congr
def Xb:=@List.find?_cons
def Z4:=@Bool.not_eq_true
def Zc:=@Nat.lt_succ_self
def Zz:=@List.cons_append
def Yw:=@Go.Proofs.Tryz.underlying4
def qU:=@Array.toArray_toList
def YZ:=@List.length_set
def Vo:=@Nat.mul_comm
def kN:=@Go.World.alloc_heap_new
def cu:=@List.pairwise_map
def qh:=@List.length_pos_iff
def lM:=@List.map_congr_left
def rD:=@Array.getElem?_push
def jv:=@List.filter_eq_self
def Yq:=@List.nodup_nil
def Yt:=@Go.Oper.wpIn_mono
def a0O:=@Array.getElem?_toList
def bg:=@Go.Oper.upon_enter
def wY:=@Go.Lib.wpList_append_run
def dY:=@Nat.not_lt_zero
def bJ:=@List.map_take
def mY:=@Go.Value.slice.injEq
def nH:=@List.ext_getElem?
def aDB:=@Function.comp_def
def nE:=@List.nodup_append
def nT:=@List.getElem_take
def jy:=@List.any_eq_false
def zu:=@Nat.div_lt_of_lt_mul
def yZ:=@List.mem_append_left
def aJo:=@List.set_eq_take_append_cons_drop
def V6:=@Go.wpIn_mono
def bZ:=@List.mem_range
def Qy:=@Go.wpS_seq
def fO:=@Go.wp_region_list
def dG:=@Bool.false_and
def qG:=@Go.IntKind.wrap_u64
def a2q:=@List.getElem_append_left
def dI:=@List.map_drop
def Wp:=@Go.mem_ready
def aCv:=@List.eq_nil_iff_forall_not_mem
def a08:=@Go.run_equalIn_string
def lZ:=@beq_false_of_ne
def lK:=@Go.IntKind.wrap_u8
def qN:=@List.sum_append
def sI:=@Go.Proofs.Tryz.underlying102
def a7r:=@List.drop_of_length_le
def a6F:=@List.dropWhile_sublist
def a3B:=@List.findIdx_le_length
def a1C:=@Go.Proofs.Tryz.underlying27
def xQ:=@List.map_inj_left
def vH:=@Nat.lt_trichotomy
def wJ:=@Go.Proofs.Tryz.underlying22
def zF:=@Go.Proofs.Tryz.underlying79
def dV:=@Nat.succ_mul
def cO:=@List.map_map
def aAk:=@Nat.eq_of_beq_eq_true
def aCP:=@Array.getElem?_setIfInBounds
def a6Z:=@List.mem_append_right
def a7y:=@Bool.or_eq_false_iff
def aGw:=@Array.toList_setIfInBounds
def pq:=@Go.Oper.semAt_eq
def iJ:=@Nat.add_mul
def aAJ:=@List.toList_toArray
def aCY:=@Array.mapM_eq_mapM_toList
def zJ:=@Nat.min_eq_left
def a0f:=@Go.Proofs.Tryz.zeroValue3
def tX:=@List.take_left'
def a9a:=@List.getElem?_take
def a1a:=@Go.grownCap_le_maxLen
def YV:=@Array.ext
def kJ:=@Go.Addr.add_lit
def oG:=@Nat.lt_or_ge
def a5y:=@List.find?_eq_none
def aJn:=@List.pairwise_singleton
def a1k:=@Go.World.ownsRow_nil
def aA9:=@List.size_toArray
def aAi:=@Go.Proofs.Tryz.underlying82
def aMj:=@List.findIdx?_eq_some_iff_getElem
def aGV:=@List.filter_eq_nil_iff
def kC:=@Nat.mul_one
def aE0:=@List.takeWhile_sublist
def aHh:=@List.not_of_lt_findIdx
def aKr:=@ByteArray.size_extract
def Rch:=@List.sum_cons
def a5A:=@Go.Proofs.Tryz.underlying5
def a4H:=@List.perm_middle
def a1j:=@Go.wpIn_region_any
def a5f:=@Nat.div_add_mod
def qK:=@Nat.mod_lt
def a1F:=@Go.Proofs.Tryz.sizeOf3
def aAF:=@Go.Proofs.Tryz.zeroValue5
def a7E:=@Go.Proofs.Tryz.zeroValue9
def a4g:=@Go.Proofs.Tryz.zeroValue4
def a1Y:=@List.cons.injEq
def aRz:=@List.Nodup.length_le_of_subset
def a4b:=@List.range_succ
def aJz:=@List.mem_of_mem_drop
def a8n:=@List.find?_some
def a0j:=@Bool.not_not
def aGd:=@Go.callsIn_of_wp_marks
def aJy:=@List.reverse_append
def a6d:=@Go.run_underlying
def a81:=@List.drop_zero
def a5o:=@List.take_zero
def a1m:=@Nat.mul_le_mul
def wG:=@Go.setRow_heap
def a1A:=@Go.Sem.run_map
def wC:=@Go.grownCap_ge
def a0y:=@Go.Proofs.Tryz.isAgg3
def aPN:=@Nat.min_def
def aWo:=@Go.run_loadCells_list
def aEQ:=@Int.natCast_nonneg
def aVw:=@Array.getElem?_append_right
def aEz:=@Go.MapKept.heap_alloc
def aG8:=@Nat.eq_or_lt_of_le
def aVL:=@List.dropWhile_cons_of_pos
def aSs:=@List.dropWhile_cons_of_neg
def a2U:=@Go.callsD_of_wpS
def aUQ:=@Int.tmod_eq_emod_of_nonneg
def aBa:=@Go.run_storeCells_at
def aHX:=@List.getElem_drop
def aBs:=@List.find?_append
def aN8:=@Array.ext'
def aQG:=@List.mem_take_iff_getElem
def aOK:=@List.getElem?_zip_eq_some
def a1P:=@Bool.or_self
def aFX:=@Go.World.size_alloc
def a5q:=@List.map_set
def nY:=@Go.wpS_cond
def a5C:=@getElem!_pos
def aKM:=@List.getElem_zip
def aIu:=@List.map_reverse
def aDJ:=@Nat.min_le_left
def aHA:=@List.any_append
def a2Y:=@Nat.one_mul
def aAW:=@Int.le_refl
def aDY:=@List.drop_drop
def aC1:=@List.take_take
def addr_add (b o j:Nat):(⟨b,o,none⟩:Addr).add j=⟨b,o+j,none⟩:=by
 unfold Addr.add;split<;>simp_all
section
variable {P:Cc} {ops:Bg Oper} {rest:A8 Oper} {o:Oper} {a:Act} {w:Ba} {Q:Exit->Act->Ba->Prop}
def ae0 (w:Ba)(ty:Bz)(b off:Nat)(cs:Bg BI)(hA:(isAgg ty).run P w=.ok true w)(z:(sizeOf ty).run P w=.ok cs.size w)(I:∀j,j<cs.size->w.cell? ⟨b,off+j,none⟩=some (cs.getD j undef)):(loadVar ty ⟨b,off,none⟩).run P w=.ok (.agg cs) w:=by
 have hl:(loadCells ⟨b,off,none⟩ cs.toList.length).run P w=.ok cs.toList.toArray w:=
  aWo (P:=P) w ⟨b,off,none⟩ cs.toList (λj v q=>by
   rw[addr_add]
   have u:j<cs.size:=by
    have :=(I4.1 q).1;simpa using this
   rw[I j u];simp only[a0O]at q;simp[Array.getD,u]at q ⊢
   exact q)
 simp only[Ua,qU]at hl;simp only[loadVar,G6,hA,z,GL,KL,hl,Hf]
end
inductive D where
 |lit (v:Value)
 |agg (cs:List D)
 |sl (es:List D)
 |ref (cs:List D) (off:Nat)
 |fn (f:Fn) (first cap:List D)
 |RX (t:TypeId) (x:D)
def D.cells:D->A8 D
 | .agg cs=>cs
 |x=>[x]
def D.leaf:D->Ad
 | .lit v=>v.oneCell'
 | .agg _=>false
 |_=>true
abbrev EM :D:=.lit undef
abbrev cellAt (w:Ba)(b o:Nat):BI:=(w.cell? ⟨b,o,none⟩).getD undef
inductive EJ (ok:Nat->Prop) (w:World):D->Value->Prop
 |lit (v:Value):EJ ok w (.lit v) v
 |agg (cs:List D) (vs:Array Value) (hl:vs.size=cs.length) (hf:∀i,i<cs.length->(cs.getD i EM).leaf=true)
  (h:∀i,i<cs.length->EJ ok w (cs.getD i EM) (vs.getD i undef)):EJ ok w (.agg cs) (.agg vs)
 |sl0 (ad:Option Addr) (cap:Nat):EJ ok w (.sl []) (.slice ad 0 cap)
 |sl (es:List D) (b off cap size:Nat) (hcap:es.length<=cap) (hok:0<es.length->0<size->ok b) (hs:∀i,i<es.length->(es.getD i EM).cells.length=size)
  (hf:∀i,i<es.length->∀j,j<size->((es.getD i EM).cells.getD j EM).leaf=true)
  (hx:∀i,i<es.length->∀j,j<size->(w.cell? ⟨b,off+(i*size+j),none⟩).isSome=true)
  (hc:∀i,i<es.length->∀j,j<size->EJ ok w ((es.getD i EM).cells.getD j EM) (cellAt w b (off+(i*size+j)))):
  EJ ok w (.sl es) (.slice (some ⟨b,off,none⟩) es.length cap)
 |ref (cs:List D) (off b o:Nat) (hok:0<cs.length->ok b) (hf:∀i,i<cs.length->(cs.getD i EM).leaf=true)
  (hx:∀j,j<cs.length->(w.cell? ⟨b,o+j,none⟩).isSome=true)
  (hc:∀j,j<cs.length->EJ ok w (cs.getD j EM) (cellAt w b (o+j))):EJ ok w (.ref cs off) (.pointer (some ⟨b,o+off,none⟩))
 |fn (f:Fn) (first cap:List D) (vs us:Array Value) (hl:vs.size=first.length) (hm:us.size=cap.length)
  (h:∀i,i<first.length->EJ ok w (first.getD i EM) (vs.getD i undef)) (h':∀i,i<cap.length->EJ ok w (cap.getD i EM) (us.getD i undef)):
  EJ ok w (.fn f first cap) (.func f vs us)
 |RX (t:TypeId) (x:D) (v:Value) (h:EJ ok w x v):EJ ok w (.RX t x) (.iface t v)
def FP (ok:Nat->Prop)(w:Ba)(ok':Nat->Prop)(w':Ba):Prop:=∀b,ok b->ok' b/\w'.heap[b]? =w.heap[b]?
def FP.refl (ok:Nat->Prop)(w:Ba):FP ok w ok w:=λ_ h=>⟨h,rfl⟩
def FP.trans {ok j q:Nat->Prop}{w z I:Ba}(h:FP ok w j z)(k:FP j z q I):FP ok w q I:=
 λb u=>⟨(k b (h b u).1).1,((k b (h b u).1).2).trans (h b u).2⟩
def FP.cell {ok ok':Nat->Prop}{w w':Ba}(h:FP ok w ok' w'){b o:Nat}(j:ok b):w'.cell? ⟨b,o,none⟩=w.cell? ⟨b,o,none⟩:=
 World.cell?_of_block (w:=w) (a:=⟨b,o,none⟩) (h b j).2
variable {ok ok':Nat->Prop}{v:BI}{w w':Ba}
def EJ.mono (I:FP ok w ok' w'){x:D}(h:EJ ok w x v):EJ ok' w' x v:=by
 induction h with
 |lit v=>exact .lit v
 |agg cs vs hl J _ z=>exact .agg cs vs hl J z
 |sl0 ad cap=>exact .sl0 ad cap
 |sl es b off cap size L q hs J M _ z=>
  have h1:∀i j,i<es.length->j<size->ok b:=λi j hi u=>q AQ AQ;refine .sl es b off cap size L (λh2 h3=>(I b (q h2 h3)).1) hs J (λi hi j u=>?_) (λi hi j u=>?_)
  ·rw[I.cell (h1 i j hi u)];exact M i hi j u
  unfold cellAt;rw[I.cell (h1 i j hi u)];exact z i hi j u
 |ref cs off b o q J M _ z=>
  refine .ref cs off b o (λh2=>(I b (q h2)).1) J (λj u=>?_) (λj u=>?_)
  ·rw[I.cell (q AQ)];exact M j u
  unfold cellAt;rw[I.cell (q AQ)];exact z j u
 |fn f first cap vs us hl hm _ _ z O=>exact .fn f first cap vs us hl hm z O
 |RX t x v _ z=>exact .RX t x v z
def EJ.shrink (hs:∀b o,ok b->(w.cell? ⟨b,o,none⟩).isSome=true->ok' b){x:D}(h:EJ ok w x v):EJ ok' w x v:=by
 induction h with
 |lit v=>exact .lit v
 |agg cs vs hl u _ j=>exact .agg cs vs hl u j
 |sl0 ad cap=>exact .sl0 ad cap
 |sl es b off cap size z q J u I _ j=>exact .sl es b off cap size z (λh2 h3=>hs b _ (q h2 h3) (I 0 h2 0 h3)) J u I j
 |ref cs off b o q u I _ j=>exact .ref cs off b o (λh2=>hs b _ (q h2) (I 0 h2)) u I j
 |fn f first cap vs us hl hm _ _ j L=>exact .fn f first cap vs us hl hm j L
 |RX t x v _ j=>exact .RX t x v j
def EJ.leaf {ok:Nat->Prop}{w:Ba}{x:D}{v:BI}(h:EJ ok w x v)(hl:x.leaf=true):v.oneCell'=true:=by
 cases h<;>first|rfl|exact hl|(simp[D.leaf]at hl)
inductive Ap where
 |d (x:D)
 |ptr (k off:Nat)
 |aQ (k:Nat)
 |lY (k i off:Nat)
 |fn (f:Fn) (first cap:List Ap)
 |mp (k:Nat)
 |clip (xs:List D)
 |yh (k:Nat)
 |eH (vs:List Ap)
 |ag (vs:List Ap)
 |junk
def Ap.leaf:Ap->Ad
 | .d x=>x.leaf
 | .eH _| .ag _| .junk=>false
 |_=>true
def Ap.cells:Ap->A8 Ap
 | .d x=>x.cells.map .d
 | .ag xs=>xs
 |x=>[x]
inductive Bd where
 |dead
 |box (cs:List Ap)
 |arr (e:TypeId) (size:Nat) (es:List D)
 |map (es:List (Value×D))
 |fF (es:List (Value×D))
 |iter (es:List (Value×D)) (vis:List Nat)
 |loop (tm:Array Value) (slots:List Ap) (rc:Array Tmp×Code×Code) (st:LoopState) (pe:Option Code)
def Bd.live:Bd->Ad
 | .dead=>false
 |_=>true
structure CM where
 v:Value
 size:Nat:=0
inductive R (ok:Nat->Prop) (w:World) (H:List CM):Ap->Value->Prop
 |d (x:D) (v:Value) (h:EJ ok w x v):R ok w H (.d x) v
 |ptr (k off b s:Nat) (h:H[k]? =some ⟨.pointer (some ⟨b,0,none⟩),s⟩):R ok w H (.ptr k off) (.pointer (some ⟨b,off,none⟩))
 |aQ (k:Nat) (ad:Option Addr) (n cap s:Nat) (h:H[k]? =some ⟨.slice ad n cap,s⟩):R ok w H (.aQ k) (.slice ad n cap)
 |lY (k i off b n cap s:Nat) (h:H[k]? =some ⟨.slice (some ⟨b,0,none⟩) n cap,s⟩):R ok w H (.lY k i off) (.pointer (some ⟨b,i*s+off,none⟩))
 |fn (f:Fn) (first cap:List Ap) (vs us:Array Value) (hl:vs.size=first.length) (hm:us.size=cap.length) (h:∀i,i<first.length->R ok w H (first.getD i .junk) (vs.getD i undef))
  (h':∀i,i<cap.length->R ok w H (cap.getD i .junk) (us.getD i undef)):R ok w H (.fn f first cap) (.func f vs us)
 |mp (k:Nat) (v:Value) (s:Nat) (hl:v.oneCell'=true) (h:H[k]? =some ⟨v,s⟩):R ok w H (.mp k) v
 |clip (xs:List D) (ad:Option Addr) (h:EJ ok w (.sl xs) (.slice ad xs.length xs.length)):R ok w H (.clip xs) (.slice ad xs.length xs.length)
 |yh (k:Nat) (ad:Option Addr) (n cap s:Nat) (h:H[k]? =some ⟨.slice ad n cap,s⟩):R ok w H (.yh k) (.slice ad n n)
 |eH (xs:List Ap) (vs:Array Value) (hl:vs.size=xs.length) (h:∀i,i<xs.length->R ok w H (xs.getD i .junk) (vs.getD i undef)):R ok w H (.eH xs) (.tuple vs)
 |ag (xs:List Ap) (vs:Array Value) (hl:vs.size=xs.length) (hf:∀i,i<xs.length->(xs.getD i .junk).leaf=true) (h:∀i,i<xs.length->R ok w H (xs.getD i .junk) (vs.getD i undef)):R ok w H (.ag xs) (.agg vs)
 |junk (v:Value):R ok w H .junk v
def Names (H H':A8 CM):Prop:=∀(k:Nat) (v:CM),H[k]? =some v->H'[k]? =some v
def Names.refl (H:A8 CM):Names H H:=λ_ _ h=>h
def oP:=@Names.refl
variable {H H2:A8 CM}
def Names.trans {H1:A8 CM}(h:Names H H1)(k:Names H1 H2):Names H H2:=λi v j=>k i v (h i v j)
def Names.push (H H':A8 CM):Names H (H++H'):=λk v h=>by
 grind
def IW:=@Names.push
def R.mono {ok ok':Nat->Prop}{w w':Ba}{H H':A8 CM}(z:FP ok w ok' w')(j:Names H H'){x:Ap}{v:BI}(h:R ok w H x v):R ok' w' H' x v:=by
 induction h with
 |d x v h=>exact .d x v (h.mono z)
 |ptr k off b s h=>exact .ptr k off b s (j _ _ h)
 |aQ k ad n cap s h=>exact .aQ k ad n cap s (j _ _ h)
 |lY k i off b n cap s h=>exact .lY k i off b n cap s (j _ _ h)
 |fn f first cap vs us hl hm _ _ q u=>exact .fn f first cap vs us hl hm q u
 |mp k v s hl h=>exact .mp k v s hl (j _ _ h)
 |clip xs ad h=>exact .clip xs ad (h.mono z)
 |yh k ad n cap s h=>exact .yh k ad n cap s (j _ _ h)
 |eH xs vs hl _ q=>exact .eH xs vs hl q
 |ag xs vs hl I _ q=>exact .ag xs vs hl I q
 |junk v=>exact .junk v
def R.shrink {ok ok':Nat->Prop}{w:Ba}(hs:∀b o,ok b->(w.cell? ⟨b,o,none⟩).isSome=true->ok' b){H:A8 CM}{x:Ap}{v:BI}(h:R ok w H x v):R ok' w H x v:=by
 induction h with
 |d x v h=>exact .d x v (h.shrink hs)
 |ptr k off b s h=>exact .ptr k off b s h
 |aQ k ad n cap s h=>exact .aQ k ad n cap s h
 |lY k i off b n cap s h=>exact .lY k i off b n cap s h
 |fn f first cap vs us hl hm _ _ j q=>exact .fn f first cap vs us hl hm j q
 |mp k v s hl h=>exact .mp k v s hl h
 |clip xs ad h=>exact .clip xs ad (h.shrink hs)
 |yh k ad n cap s h=>exact .yh k ad n cap s h
 |eH xs vs hl _ j=>exact .eH xs vs hl j
 |ag xs vs hl u _ j=>exact .ag xs vs hl u j
 |junk v=>exact .junk v
def R.leaf {ok:Nat->Prop}{w:Ba}{H:A8 CM}{x:Ap}{v:BI}(h:R ok w H x v)(hl:x.leaf=true):v.oneCell'=true:=by
 cases h with
 |d x v h=>exact h.leaf hl
 |eH=>simp[Ap.leaf]at hl
 |ag=>simp[Ap.leaf]at hl
 |junk=>simp[Ap.leaf]at hl
 |mp k v s hl h=>exact hl
 |_=>rfl
def Gx (ok:Nat->Prop)(w:Ba)(H:A8 CM)(xs:A8 Ap)(vs:A8 BI):Prop:=
 vs.length=xs.length/\∀i,i<xs.length->(xs.getD i .junk).leaf=true/\R ok w H (xs.getD i .junk) (vs.getD i undef)
def Gx.mono {ok ok':Nat->Prop}{w w':Ba}{H H':A8 CM}(j:FP ok w ok' w')(q:Names H H'){xs:A8 Ap}{vs:A8 BI}(h:Gx ok w H xs vs):Gx ok' w' H' xs vs:=
 ⟨h.1,λi hi=>⟨(h.2 i hi).1,(h.2 i hi).2.mono j q⟩⟩
def Gx.shrink {ok ok':Nat->Prop}{w:Ba}(hs:∀b o,ok b->(w.cell? ⟨b,o,none⟩).isSome=true->ok' b){H:A8 CM}{xs:A8 Ap}{vs:A8 BI}(h:Gx ok w H xs vs):Gx ok' w H xs vs:=
 ⟨h.1,λi hi=>⟨(h.2 i hi).1,(h.2 i hi).2.shrink hs⟩⟩
def flat (es:A8 D):A8 Ap:=es.flatMap λx=>x.cells.map .d
def nC (w:Ba)(e:Bz)(size:Nat)(v:BI)(n:Nat)(xs:A8 BI):Prop:=
 xs.length=n*size/\
 ((v=.slice none 0 0/\n=0)\/
  ∃g cap j,v=.slice (some ⟨g,0,none⟩) n cap/\0<=g/\w.heap[g]? =some (.cells j e (0,0))/\n<=cap/\cap<=maxLen/\cap*size<=j.size/\j.toList.take (n*size)=xs)
variable {e:Bz}{n size:Nat}{xs:A8 BI}
def nC.of {base:Nat}(h:w.ownsRow base e size v n xs):nC w e size v n xs:=by
 refine⟨h.1,?_⟩;rcases h.2 with h2|⟨g,cap,j,h2,h3,q,u,z,I,J⟩
 ·exact .inl h2
 grind
def nC.cells (h:nC w e size v n xs){g:Nat}(z:v.ownBlock=some g):∀j u,xs[j]? =some u->w.cell? ((⟨g,0,none⟩:Addr).add j)=some u:=by
 intro j u O;rcases h.2 with⟨rfl,_⟩|⟨I,cap,J,rfl,_,L,_,_,_,M⟩
 ·simp[Value.ownBlock]at z
 simp[Value.ownBlock]at z;subst z;have q:(⟨I,0,none⟩:Addr).add j=⟨I,j,none⟩:=by unfold Addr.add;split<;>simp_all
 rw[q,cell_of_row w I j J e (0,0) L]
 grind
structure KW (ok:Nat->Prop) (w:World) (es:List (Value×D)) (ms:Array MapEntry) (clock:Nat):Prop where
 len:ms.size=es.length
 ent:∀(i:Nat) (e:Value×D) (m:MapEntry),es[i]? =some e->ms[i]? =some m->m.key=e.1/\EJ ok w e.2 m.val/\m.born<clock
 inc:∀(i j:Nat) (m n:MapEntry),i<j->ms[i]? =some m->ms[j]? =some n->m.born<n.born
def Tt (ms:Bg MapEntry)(clock:Nat):Prop:=clock=ms.size/\∀(i:Nat) (e:MapEntry),ms[i]? =some e->e.born=i
def Fb (ok:Nat->Prop)(w:Ba)(H:A8 CM)(h:CM):Bd->Prop
 | .dead=>True
 | .box cs=>∃b vs T,h.v=.pointer (some ⟨b,0,none⟩)/\w.heap[b]? =some (.cells vs T (0,0))/\Gx ok w H cs vs.toList
 | .arr e size es=>h.size=size/\(∀x∈es,x.cells.length=size)/\∃xs,nC w e size h.v es.length xs/\Gx ok w H (flat es) xs
 | .map es=>∃b ms clock,h.v=.map (some b)/\w.heap[b]? =some (.map ms clock)/\KW ok w es ms clock
 | .fF es=>∃b ms clock,h.v=.map (some b)/\w.heap[b]? =some (.map ms clock)/\KW ok w es ms clock/\Tt ms clock
 | .iter es vis=>∃bi q ms clock seen,h.v=.pointer (some ⟨bi,0,none⟩)/\w.heap[bi]? =some (.mapIter (some q) clock seen clock)/\ok q/\w.heap[q]? =some (.map ms clock)/\KW ok w es ms clock/\
  seen.size=vis.length/\∀(j i:Nat),vis[j]? =some i->∃e,ms[i]? =some e/\seen[j]? =some e.born
 | .loop tm slots rc st u=>∃l fn D,h.v=.func (.yield l) #[] #[]/\w.heap[l]? =some (.loop { state:=st,pending:=u,fn,tmps:=tm,params:=rc.1,assign:=rc.2.1,body:=rc.2.2,defers:=D })/\tm.size=slots.length/\∀t,t<slots.length->R ok w H (slots.getD t .junk) (tm.getD t undef)
def EC :BI->AB Nat
 | .pointer (some a)=>some a.block
 | .slice (some a) _ _=>some a.block
 | .map (some b)=>some b
 | .func (.yield l) _ _=>some l
 |_=>none
structure yw (w0:World) (X:List Nat) (w:World):Prop where
 os:w.os=w0.os
 tape:w.tape=w0.tape
 output:w.output=w0.output
 size:w0.heap.size<=w.heap.size
 block:∀k,k<w0.heap.size->k∉X->w.heap[k]? =w0.heap[k]?
def yw.refl (w:Ba)(X:A8 Nat):yw w X w:=⟨rfl,rfl,rfl,EW _,λ_ _ _=>rfl⟩
def yw.below {w0:Ba}(h:yw w0 [] w):Below w0.heap.size w0 w:=⟨h.os,h.tape,h.output,h.size,λk j=>h.block k j Bf⟩
structure Ez where
 w0:World
 ok0:Nat->Prop
 X:List Nat
 H0:List CM
structure E5 (C:Ez) (ok:Nat->Prop) (H:List CM) (es:List Bd) (w:World):Prop where
 fr:yw C.w0 C.X w
 AY:∀b,C.ok0 b->ok b
 AZ:∀b,ok b->C.ok0 b\/C.w0.heap.size<=b\/b∈C.X
 kZ:∀b,ok b->b<w.heap.size
 names:Names C.H0 H
 hlen:H.length=es.length
 ent:∀(k:Nat) (e:Bd) (h:CM),es[k]? =some e->H[k]? =some h->Fb ok w H h e
 blk:∀(k:Nat) (e:Bd) (h:CM) (b:Nat),es[k]? =some e->e.live=true->H[k]? =some h->EC h.v=some b->¬ok b/\b<w.heap.size/\(C.w0.heap.size<=b\/b∈C.X)
 Iw:∀(k k':Nat) (e e':Bd) (h h':CM) (b:Nat),es[k]? =some e->es[k']? =some e'->e.live=true->e'.live=true->H[k]? =some h->H[k']? =some h'->EC h.v=some b->EC h'.v=some b->k=k'
def Fb.mono {ok ok':Nat->Prop}{w w':Ba}{H H':A8 CM}{h:CM}{e:Bd}(q:FP ok w ok' w')(L:Names H H')(z:e.live=true->∀b,EC h.v=some b->w'.heap[b]? =w.heap[b]?)(I:Fb ok w H h e):Fb ok' w' H' h e:=by
 cases e with
 |dead=>trivial
 |box cs=>
  obtain⟨b,vs,T,h1,h2,h3⟩:=I;exact⟨b,vs,T,h1,aGg,h3.mono q L⟩
 |arr e s es=>
  obtain⟨h1,h2,xs,⟨h3,j⟩,u⟩:=I;refine⟨h1,h2,xs,⟨h3,?_⟩,u.mono q L⟩;rcases j with j|⟨g,cap,M,J,O,Y,Z⟩
  ·exact .inl j
  exact .inr ⟨g,cap,M,J,O,by rw[z rfl g (by rw[J];rfl)];exact Y,Z⟩
 |map es=>
  obtain⟨b,ms,clock,h1,h2,h3⟩:=I;exact⟨b,ms,clock,h1,aGg,h3.len,λi e m hi hm=>⟨(h3.ent i e m hi hm).1,(h3.ent i e m hi hm).2.1.mono q,(h3.ent i e m hi hm).2.2⟩,h3.inc⟩
 |fF es=>
  obtain⟨b,ms,clock,h1,h2,h3,j⟩:=I;exact⟨b,ms,clock,h1,aGg,⟨h3.len,λi e m hi hm=>⟨(h3.ent i e m hi hm).1,(h3.ent i e m hi hm).2.1.mono q,(h3.ent i e m hi hm).2.2⟩,h3.inc⟩,j⟩
 |iter es vis=>
  obtain⟨bi,U,ms,clock,seen,h1,h2,h3,j,u,J,O⟩:=I;exact⟨bi,U,ms,clock,seen,h1,by rw[z rfl bi uj];exact h2,(q U h3).1,by rw[(q U h3).2];exact j,⟨u.len,λi e m hi hm=>⟨(u.ent i e m hi hm).1,(u.ent i e m hi hm).2.1.mono q,(u.ent i e m hi hm).2.2⟩,u.inc⟩,J,O⟩
 |loop tm slots rc st pe=>
  obtain⟨l,fn,D,h1,h2,h3,j⟩:=I;exact⟨l,fn,D,h1,by rw[z rfl l uj];exact h2,h3,λt ht=>(j t ht).mono q L⟩
def Fb.shrink {ok ok':Nat->Prop}{w:Ba}(hs:∀b o,ok b->(w.cell? ⟨b,o,none⟩).isSome=true->ok' b)(z:∀(b:Nat) (ms:Bg MapEntry) (c:Nat),ok b->w.heap[b]? =some (.map ms c)->ok' b){H:A8 CM}{h:CM}{e:Bd}(q:Fb ok w H h e):Fb ok' w H h e:=by
 cases e with
 |dead=>trivial
 |box cs=>
  obtain⟨b,vs,T,h1,h2,h3⟩:=q;exact⟨b,vs,T,h1,h2,h3.shrink hs⟩
 |arr e s es=>
  obtain⟨h1,h2,xs,h3,j⟩:=q;exact⟨h1,h2,xs,h3,j.shrink hs⟩
 |map es=>
  obtain⟨b,ms,clock,h1,h2,h3⟩:=q;exact⟨b,ms,clock,h1,h2,h3.len,λi e m hi hm=>⟨(h3.ent i e m hi hm).1,(h3.ent i e m hi hm).2.1.shrink hs,(h3.ent i e m hi hm).2.2⟩,h3.inc⟩
 |fF es=>
  obtain⟨b,ms,clock,h1,h2,h3,u⟩:=q;exact⟨b,ms,clock,h1,h2,⟨h3.len,λi e m hi hm=>⟨(h3.ent i e m hi hm).1,(h3.ent i e m hi hm).2.1.shrink hs,(h3.ent i e m hi hm).2.2⟩,h3.inc⟩,u⟩
 |iter es vis=>
  obtain⟨bi,I,ms,clock,seen,h1,h2,h3,u,j,J,L⟩:=q;exact⟨bi,I,ms,clock,seen,h1,h2,z I ms clock h3 u,u,⟨j.len,λi e m hi hm=>⟨(j.ent i e m hi hm).1,(j.ent i e m hi hm).2.1.shrink hs,(j.ent i e m hi hm).2.2⟩,j.inc⟩,J,L⟩
 |loop tm slots rc st O=>
  obtain⟨l,fn,D,h1,h2,h3,u⟩:=q;exact⟨l,fn,D,h1,h2,h3,λt M=>(u t M).shrink hs⟩
variable {h:CM}
def Fb.drew {e:Bd}(j:Fb ok w H h e):Fb ok { w with drawn:=n } H h e:=
 Fb.mono (w:=w) (ok:=ok) (λ_ q=>⟨q,rfl⟩) (.refl _) (λ_ _ _=>rfl) j
def CJ (P:Cc)(o:Oper)(ns:A8 (CB×Ap))(es:A8 Bd)(x:Ap)(es':A8 Bd):Prop:=
 ∀(C:Ez) (ok:Nat->Prop) (H:A8 CM) (a:Act) (w:Ba) (Q:Exit->Act->Ba->Prop),
  E5 C ok H es w->(∀n∈ns,R ok w H n.2 (a.eval n.1))->
  o.wp P a w (λa' w'=>∃v ok' H',a'=a.put o.dst v/\FP ok w ok' w'/\Names H H'/\E5 C ok' H' es' w'/\R ok' w' H' x v) Q
variable {P:Cc}{es:A8 Bd}{ns:A8 (CB×Ap)}{o:Oper}{x:Ap}
def CJ.pure (h:∀(ok:Nat->Prop) (H:A8 CM) (a:Act) (w:Ba),(∀(k:Nat) (e:Bd) (h:CM),es[k]? =some e->H[k]? =some h->Fb ok w H h e)->H.length=es.length->(∀n∈ns,R ok w H n.2 (a.eval n.1))->∃v,(execOp a.eval o).run P w=.ok (.value v) w/\R ok w H x v):CJ P o ns es x es:=by
 intro C ok H a w Q hm j;obtain⟨v,q,u⟩:=h ok H a w hm.ent hm.hlen j;unfold Oper.wp;rw[q];exact⟨v,ok,H,rfl,.refl _ _,.refl _,hm,u⟩
structure BR where
 slots:List Ap
 ents:List Bd
 base:Nat:=0
def BR.get (σ:BR):CB->Ap
 | .tmp t=>σ.slots.getD t .junk
 | .const v=>.d (.lit v)
 | .global g=>.d (.lit (.pointer (some ⟨g,0,none⟩)))
 | .func f=>.d (.fn (.func f) [] [])
def BR.put (σ:BR)(d:AB Tmp)(x:Ap)(es:A8 Bd):BR:=
 ⟨match d with |some t=>σ.slots.set t x|none=>σ.slots,es,σ.base⟩
def BR.tN (σ:BR)(d:AB Tmp)(x:Ap):BR:=
 ⟨match d with |some t=>σ.slots.set t x|none=>σ.slots,σ.ents,σ.base⟩
def BR.amr (σ:BR)(d:AB Tmp)(x:Ap):σ.tN d x=σ.put d x σ.ents:=rfl
def Marks (C:Ez)(ok:Nat->Prop)(w:Ba)(j:A8 Deferred):Prop:=
 ∃Ds:A8 Nat,j=Ds.map (λD=>{ target:=.collected D,args:= #[] })/\Ds.Nodup/\∀D∈Ds,ok D/\C.w0.heap.size<=D/\w.heap[D]? =some (.deferred (some []))
def Marks.nil (C:Ez)(ok:Nat->Prop)(w:Ba):Marks C ok w []:=⟨[],rfl,Yq,λ_ h=>Gu⟩
variable {C:Ez}
def Marks.mono {q:A8 Deferred}(h:Marks C ok w q)(u:FP ok w ok' w'):Marks C ok' w' q:=by
 obtain⟨Ds,h1,h2,h3⟩:=h;exact⟨Ds,h1,h2,λD j=>⟨(u D (h3 D j).1).1,(h3 D j).2.1,((u D (h3 D j).1).2).trans (h3 D j).2.2⟩⟩
structure Holds (C:Ez) (ok:Nat->Prop) (H:List CM) (σ:BR) (a:Act) (w:World):Prop where
 mem:E5 C ok H σ.ents w
 size:a.tmps.size=σ.slots.length
 defers:Marks C ok w a.defers
 base:C.H0.length=σ.base
 slot:∀t,t<σ.slots.length->R ok w H (σ.slots.getD t .junk) (a.tmps.getD t undef)
def aRb {l:A8 Ap}{t:Nat}(h:¬t<l.length):l.getD t .junk=.junk:=by
 simp[List.getD,OZ (Xp h)]
variable {a:Act}{σ:BR}
def Holds.get (h:Holds C ok H σ a w)(x:CB):R ok w H (σ.get x) (a.eval x):=by
 cases x with
 |tmp t=>
  show R ok w H (σ.slots.getD t .junk) (a.tmps.getD t undef);by_cases j:t<σ.slots.length
  ·exact h.slot t j
  rw[aRb j];exact .junk _
 |const v=>exact .d _ _ (.lit v)
 |global g=>exact .d _ _ (.lit _)
 |func f=>exact .d _ _ (.fn (.func f) [] [] #[] #[] rfl rfl (λi hi=>Tf) (λi hi=>Tf))
def Holds.put {C:Ez}{ok ok':Nat->Prop}{H H':A8 CM}{σ:BR}{a:Act}{w w':Ba}(h:Holds C ok H σ a w)(d:AB Tmp){x:Ap}{v:BI}{es':A8 Bd}(q:FP ok w ok' w')(I:Names H H')(hm:E5 C ok' H' es' w')(J:R ok' w' H' x v):Holds C ok' H' (σ.put d x es') (a.put d v) w':=by
 cases d with
 |none=>exact⟨hm,h.size,h.defers.mono q,h.base,λt j=>(h.slot t j).mono q I⟩
 |some d=>
  refine⟨hm,by simp[BR.put,Act.put,h.size],h.defers.mono q,h.base,λt j=>?_⟩;simp only[BR.put,YZ]at j;simp only[BR.put,Act.put];by_cases e:d=t
  ·subst e;have u:(σ.slots.set d x).getD d .junk=x:=yP
   have z:(a.tmps.setIfInBounds d v).getD d undef=v:=by simp[Array.getD,h.size,j]
   rw[u,z];exact J
  have u:(σ.slots.set d x).getD t .junk=σ.slots.getD t .junk:=aCL
  have z:(a.tmps.setIfInBounds d v).getD t undef=a.tmps.getD t undef:=by simp[JY,UA e]
  rw[u,z];exact(h.slot t j).mono q I
def Ap.vU (π:A8 (Nat×Ad)):Ap->Ap
 | .d x=>.d x
 | .ptr k off=>match π.idxOf? (k,true)with |some j=>.ptr j off|none=>.junk
 | .aQ k=>match π.idxOf? (k,true)with |some j=>.aQ j|none=>.junk
 | .lY k i off=>match π.idxOf? (k,true)with |some j=>.lY j i off|none=>.junk
 | .mp k=>match π.idxOf? (k,true)with |some j=>.mp j|none=>.junk
 | .yh k=>match π.idxOf? (k,true)with |some j=>.yh j|none=>.junk
 | .clip xs=>.clip xs
 |_=>.junk
def Ap.back (π:A8 (Nat×Ad)):Ap->Ap
 | .fn f first cap=>.fn f (first.map (Ap.vU π)) (cap.map (Ap.vU π))
 | .eH vs=>.eH (vs.map (Ap.vU π))
 |x=>x.vU π
def Bd.back (π:A8 (Nat×Ad)):Bd->Bd
 | .dead=>.dead
 | .box cs=>.box (cs.map (Ap.vU π))
 | .arr e s es=>.arr e s es
 | .map es=>.map es
 | .fF es=>.fF es
 | .iter es vis=>.iter es vis
 | .loop tm slots rc st j=>.loop tm (slots.map (Ap.back π)) rc st j
variable {j k:Nat}{π:A8 (Nat×Ad)}
def a05 (q:π.idxOf? (k,true)=some j)(u:H[k]? =some h):(π.map λp=>H.getD p.1 ⟨undef,0⟩)[j]? =some h:=by
 rw[List.idxOf?,aMj]at q
 grind
def R.vU {ok:Nat->Prop}{w:Ba}{H:A8 CM}(π:A8 (Nat×Ad)){x:Ap}{v:BI}(h:R ok w H x v):R ok w (π.map λp=>H.getD p.1 ⟨undef,0⟩) (x.vU π) v:=by
 cases h with
 |d x v h=>exact .d x v h
 |ptr k off b s h=>
  simp only[Ap.vU];split<;>rename_i j q
  ·exact .ptr _ off b s (a05 q h)
  exact .junk _
 |aQ k ad n cap s h=>
  simp only[Ap.vU];split<;>rename_i j q
  ·exact .aQ _ ad n cap s (a05 q h)
  exact .junk _
 |lY k i off b n cap s h=>
  simp only[Ap.vU];split<;>rename_i j q
  ·exact .lY _ i off b n cap s (a05 q h)
  exact .junk _
 |mp k v s hl h=>
  simp only[Ap.vU];split<;>rename_i j q
  ·exact .mp _ v s hl (a05 q h)
  exact .junk _
 |clip xs ad h=>exact .clip xs ad h
 |yh k ad n cap s h=>
  simp only[Ap.vU];split<;>rename_i j q
  ·exact .yh _ ad n cap s (a05 q h)
  exact .junk _
 |fn f first cap vs us hl hm h h'=>exact .junk _
 |eH xs vs hl h=>exact .junk _
 |ag xs vs hl u h=>exact .junk _
 |junk v=>exact .junk _
def WI (f:Ap->Ap)(l:A8 Ap)(i:Nat)(h:i<l.length):(l.map f).getD i .junk=f (l.getD i .junk):=by
 simp[List.getD,h]
def R.back (π:A8 (Nat×Ad))(h:R ok w H x v):R ok w (π.map λp=>H.getD p.1 ⟨undef,0⟩) (x.back π) v:=by
 cases h with
 |fn f first cap vs us hl hm h h'=>
  exact .fn f _ _ vs us jc (by simp[hm]) (λi hi=>aW9) (λi hi=>by rw[Df]at hi;rw[WI _ _ _ hi];exact(h' i hi).vU π)
 |eH xs vs hl h=>exact .eH _ vs jc (λi hi=>aW9)
 |ag xs vs hl j h=>exact .junk _
 |d x v h=>exact(R.d x v h).vU π
 |ptr k off b s h=>exact(R.ptr k off b s h).vU π
 |aQ k ad n cap s h=>exact(R.aQ k ad n cap s h).vU π
 |lY k i off b n cap s h=>exact(R.lY k i off b n cap s h).vU π
 |mp k v s hl h=>exact(R.mp k v s hl h).vU π
 |clip xs ad h=>exact(R.clip xs ad h).vU π
 |yh k ad n cap s h=>exact(R.yh k ad n cap s h).vU π
 |junk v=>exact .junk _
def Bd.backOk (π:A8 (Nat×Ad)):Bd->Ad
 | .box cs=>cs.all λx=>(x.vU π).leaf
 |_=>true
def WY (base:Nat)(es:A8 Bd)(π:A8 (Nat×Ad)):Ad:=
 π.all (λp=>p.1<es.length)&&decide ((π.filterMap λp=>if p.2 then some p.1 else none).Nodup)&&((π.take base).map (·.1)==List.range base)&&π.all λp=>(es.getD p.1 .dead).backOk π
def Tv (es:A8 Bd)(π:A8 (Nat×Ad)):A8 Bd:=π.map λp=>if p.2 then(es.getD p.1 .dead).back π else .dead
def aRl :∀{π:A8 (Nat×Ad)},(π.filterMap λp=>if p.2 then some p.1 else none).Nodup->∀(i j k:Nat),π[i]? =some (k,true)->π[j]? =some (k,true)->i=j
 | [],_,i,j,k,h,_=>J9
 |p::π,z,i,j,k,hi,u=>by
  have q:∀(n:Nat),π[n]? =some (k,true)->k∈π.filterMap λp=>if p.2 then some p.1 else none:=λn h=>by
   grind
  have I:(π.filterMap λp=>if p.2 then some p.1 else none).Nodup:=by
   grind
  match i,j with
  |0,0=>
   rfl
  |0,j+1=>
   simp at hi u;subst hi;simp only[Uj,KL]at z;exact absurd (q j u) (KQ.1 z).1
  |i+1,0=>
   simp at hi u;subst u;simp only[Uj,KL]at z;exact absurd (q i hi) (KQ.1 z).1
  |i+1,j+1=>
    rw[aRl I i j k IU Ql]
def Fb.back {ok:Nat->Prop}{w:Ba}{H:A8 CM}{h:CM}{e:Bd}(π:A8 (Nat×Ad))(I:e.backOk π=true)(j:Fb ok w H h e):Fb ok w (π.map λp=>H.getD p.1 ⟨undef,0⟩) h (e.back π):=by
 cases e with
 |dead=>trivial
 |box cs=>
  obtain⟨b,vs,T,h1,h2,h3,q⟩:=j;refine⟨b,vs,T,h1,h2,X8,λi hi=>?_⟩;rw[Df]at hi;rw[WI _ _ _ hi];refine⟨?_,(q i hi).2.vU π⟩;simp only[Bd.backOk,En]at I;exact I _ OE
 |arr e s es=>
  obtain⟨h1,h2,xs,h3,q,J⟩:=j;refine⟨h1,h2,xs,h3,q,λi hi=>⟨(J i hi).1,?_⟩⟩;have u:=(J i hi).2;have hm:(flat es).getD i .junk∈flat es:=OE
  unfold flat at hm ⊢;simp only[Vt,FT]at hm;obtain⟨x,_,y,_,L⟩:=hm;unfold flat at u;rw[←L]at u ⊢;cases u with |d _ _ h=>exact .d _ _ h
 |map es=>exact j
 |fF es=>exact j
 |iter es vis=>exact j
 |loop tm slots rc st M=>
  obtain⟨l,fn,D,h1,h2,h3,q⟩:=j;refine⟨l,fn,D,h1,h2,X8,λt z=>?_⟩;rw[Df]at z;rw[WI _ _ _ z];exact(q t z).back π
def aLw {e:Bd}:(e.back π).live=e.live:=by cases e<;>rfl
def E5.norm (hm:E5 C ok H es w)(π:A8 (Nat×Ad))(U:WY C.H0.length es π=true):
 E5 C ok (π.map λp=>H.getD p.1 ⟨undef,0⟩) (Tv es π) w:=by
 unfold WY at U;simp only[DR,IQ,MP,En]at U;obtain⟨⟨⟨hlt,hnd⟩,hpre⟩,hbk⟩:=U
 have u:∀(j:Nat) (h:CM),(π.map λp=>H.getD p.1 ⟨undef,0⟩)[j]? =some h->∃p,π[j]? =some p/\p.1<es.length/\H[p.1]? =some h:=by
  intro j h q;rw[LC]at q;cases hp:π[j]? with
  |none=>rw[hp]at q;simp at q
  |some p=>
   rw[hp]at q;have z:p.1<es.length:=hlt p (Zi hp);refine⟨p,rfl,z,?_⟩;have hkH:p.1<H.length:=by rw[hm.hlen];exact z
   simp[List.getD,hkH]at q ⊢;exact q
 have I:∀(j:Nat) (p:Nat×Ad) (e:Bd),(Tv es π)[j]? =some e->π[j]? =some p->p.1<es.length->(p.2=false/\e=.dead)\/(p.2=true/\∃M,es[p.1]? =some M/\e=M.back π/\p∈π):=by
  intro j p e q hp z;unfold Tv at q;rw[LC,hp]at q;cases Z:p.2 with
  |false=>simp[Z]at q;exact .inl ⟨rfl,q.symm⟩
  |true=>
   simp[Z,List.getD,z]at q;exact .inr ⟨rfl,es[p.1],by simp[z],q.symm,Zi hp⟩
 refine⟨hm.fr,hm.AY,hm.AZ,hm.kZ,?_,by simp[Tv],?_,?_,?_⟩
 ·intro k v hv;have z:k<C.H0.length:=(I4.1 hv).1;have h1:((π.take C.H0.length).map (·.1))[k]? =some k:=by rw[hpre];simp[z]
  rw[LC,TF z]at h1;have h2:=hm.names k v hv;cases hp:π[k]? with
  |none=>rw[hp]at h1;simp at h1
  |some p=>
   rw[hp]at h1;have hpk:p.1=k:=V7
   rw[LC,hp];simp[List.getD,hpk,h2]
 ·intro j e h q hh;obtain⟨p,hp,z,hH⟩:=u j h hh;rcases I j p e q hp z with⟨_,rfl⟩|⟨_,M,J,rfl,L⟩
  ·trivial
  refine(hm.ent p.1 M h J hH).back π ?_;have :=hbk p L;simpa[List.getD,J]using this
 ·intro j e h b q hl hh Z;obtain⟨p,hp,z,hH⟩:=u j h hh;rcases I j p e q hp z with⟨_,rfl⟩|⟨_,M,J,rfl,L⟩
  ·cases hl
  rw[aLw]at hl;exact hm.blk p.1 M h b J hl hH Z
 intro j j' e e' h h' b q hj' hl Y hh hh' Z hb';obtain⟨p,hp,z,hH⟩:=u j h hh;obtain⟨p',hp',hk',hH'⟩:=u j' h' hh';rcases I j p e q hp z with⟨_,rfl⟩|⟨hpt,M,J,rfl,L⟩
 ·cases hl
 rcases I j' p' e' hj' hp' hk' with⟨_,rfl⟩|⟨O,e0',aLS,rfl,hmem'⟩
 ·cases Y
 rw[aLw]at hl Y;have hkk:=hm.Iw p.1 p'.1 M e0' h h' b J aLS hl Y hH hH' Z hb';obtain⟨k,bb⟩:=p;obtain⟨k',bb'⟩:=p';simp only at hkk hpt O;subst hkk;subst hpt;subst O;exact aRl hnd j j' k hp hp'
def NQ (π:A8 (Nat×Ad)):A8 Ad->A8 Ap->A8 Ap
 |_,[]=>[]
 |true::m,x::xs=>x.back π::NQ π m xs
 |false::m,_::xs=>.junk::NQ π m xs
 | [],_::xs=>.junk::NQ π [] xs
def aAP (π:A8 (Nat×Ad)):∀(m:A8 Ad) (l:A8 Ap),(NQ π m l).length=l.length
 |_,[]=>by unfold NQ;rfl
 |true::m,x::xs=>by simp[NQ,aAP π m xs]
 |false::m,x::xs=>by simp[NQ,aAP π m xs]
 | [],x::xs=>by simp[NQ,aAP π [] xs]
def aBD (π:A8 (Nat×Ad)):∀(m:A8 Ad) (l:A8 Ap) (t:Nat),(NQ π m l).getD t .junk=(l.getD t .junk).back π\/(NQ π m l).getD t .junk=.junk
 |_,[],t=>by unfold NQ;right;simp
 |true::m,x::xs,0=>by left;simp[NQ]
 |false::m,x::xs,0=>by right;simp[NQ]
 | [],x::xs,0=>by right;simp[NQ]
 |true::m,x::xs,t+1=>by simpa[NQ]using aBD π m xs t
 |false::m,x::xs,t+1=>by simpa[NQ]using aBD π m xs t
 | [],x::xs,t+1=>by simpa[NQ]using aBD π [] xs t
def a8M (σ S:BR):Prop:=∃(m:A8 Ad) (π:A8 (Nat×Ad)),WY σ.base σ.ents π=true/\S=⟨NQ π m σ.slots,Tv σ.ents π,σ.base⟩
variable {S:BR}
def Holds.aLT (h:Holds C ok H σ a w)(hs:a8M σ S):∃H',Holds C ok H' S a w:=by
 obtain⟨m,π,j,rfl⟩:=hs;refine⟨π.map λp=>H.getD p.1 ⟨undef,0⟩,h.mem.norm π (h.base▸j),by simp[aAP,h.size],h.defers,h.base,λt q=>?_⟩;rcases aBD π m σ.slots t with e|e
 ·simp only[e];exact(h.get (.tmp t)).back π
 simp only[e];exact .junk _
def CO (σ S:BR):Prop:=∀(C:Ez) (ok:Nat->Prop) (H:A8 CM) (a:Act) (w:Ba),Holds C ok H σ a w->∃ok' H',Holds C ok' H' S a w
def a8M.sub (h:a8M σ S):CO σ S:=λ_ ok _ _ _ j=>let⟨H',h'⟩:=j.aLT h;⟨ok,H',h'⟩
def abQ (j:BR)(h:∀C ok H a w,Holds C ok H σ a w->∃ok',Holds C ok' H j a w)(k:CO j S):CO σ S:=λC _ H a w q=>let⟨ok',h'⟩:=h C _ H a w q;k C ok' H a w h'
variable {d:AB Tmp}{i:Nat}
section
variable {P:Cc} {ops:Bg Oper} {Q:Exit->Act->Ba->Prop}
def toCome (j:Bg Ad):Nat:=(j.toList.filter (!·)).length
def toCome_set {j:Bg Ad}(hi:i<j.size)(h:j.getD i true=false):toCome (j.setIfInBounds i true)+1=toCome j:=by
 unfold toCome;have hl:j.toList[i]' IU=false:=by simpa[Array.getD,hi]using h
 have e:j.toList=j.toList.take i++false::j.toList.drop (i+1):=by
  rw[←hl,List.getElem_cons_drop,Ve]
 have q:(j.setIfInBounds i true).toList=j.toList.take i++true::j.toList.drop (i+1):=by
  rw[aGw,aJo,ET IU]
 rw[q]
 conv=>rhs;rw[e]
 simp[Qz];omega
def written (ops:Bg Oper):A8 Tmp:=ops.toList.filterMap (·.dst)
def Xt (ops:Bg Oper):Ad:=(List.range ops.size).all λi=>(List.range ops.size).all λj=>i==j||match(ops[i]?).bind (·.dst),(ops[j]?).bind (·.dst)with
 |some d,some q=>d != q
 |_,_=>true
def Yh (ops:Bg Oper)(n:Nat):Ad:=(written ops).all λd=>d<n
def aeU (h:Xt ops=true):∀(i j:Nat) (o q:Oper) (d:Tmp),ops[i]? =some o->ops[j]? =some q->o.dst=some d->q.dst=some d->i=j:=by
 intro i j o q d h1 h2 h3 u;unfold Xt at h;rw[En]at h;have hi:i<ops.size:=(IK.1 h1).1;have z:j<ops.size:=(IK.1 h2).1;have :=h i IU;rw[En]at this;have :=this j UW;rw[h1,h2]at this;simp[h3,u]at this;exact this
def abY {d:Tmp}(h:ops[i]? =some o)(hd:o.dst=some d):d∈written ops:=by
 unfold written;rw[bV]
 exact⟨o,by
  have⟨hi,j⟩:=IK.1 h
  rw[←j];exact Array.getElem_mem_toList hi,hd⟩
def aGE {d:Tmp}(h:d<a.tmps.size):(a.put (some d) v).tmps.getD d undef=v:=by
 simp[Act.put,Array.getD,h]
def aEY {d t:Tmp}(h:d≠t):(a.put (some d) v).tmps.getD t undef=a.tmps.getD t undef:=by
 simp[Act.put,JY,UA h]
def size_put:(a.put d v).tmps.size=a.tmps.size:=by cases d<;>simp[Act.put]
def a1S:(a.put d v).defers=a.defers:=by cases d<;>rfl
end
def XQ (ops:Bg Oper)(σ:BR)(g:AB (Nat×Ad)):Prop:=g=none\/
 ∃j q d b,g=some (j,q)/\(ops[j]?).bind (·.dst)=some d/\σ.slots.getD d .junk=.d (.lit (.bool b))/\b=q
def Ye (ops:Bg Oper)(σ:BR)(g:AB (Nat×Ad)):Prop:=
 ∃j q d v,g=some (j,q)/\(ops[j]?).bind (·.dst)=some d/\σ.slots.getD d .junk=.d (.lit v)/\(v=.bool (!q)\/v=undef)
variable {g:AB (Nat×Ad)}{ops:Bg Oper}
def ahr (j:Nat)(q:Ad)(d:Nat)(b:Ad)(u:g=some (j,q))(hd:(ops[j]?).bind (·.dst)=some d)(hs:σ.slots.getD d .junk=.d (.lit (.bool b)))(z:b= !q):Ye ops σ g:=⟨j,q,d,_,u,hd,hs,.inl (by rw[z])⟩
def ahM (j:Nat)(q:Ad)(d:Nat)(u:g=some (j,q))(hd:(ops[j]?).bind (·.dst)=some d)(hs:σ.slots.getD d .junk=.d (.lit undef)):Ye ops σ g:=⟨j,q,d,_,u,hd,hs,.inr rfl⟩
variable {u:BI}
def R.bool (h:R ok w H (.d (.lit u)) v):v=u:=by
 cases h with |d _ _ h=>cases h;rfl
variable {d:Nat}
def ahV (h:Holds C ok H σ a w)(u:(ops[j]?).bind (·.dst)=some d)(z:σ.slots.getD d .junk=.d (.lit v)):yielded ops a.tmps j=(match v with | .bool b=>some b|_=>none):=by
 have hd:d<σ.slots.length:=by
  grind
 have q:=(z▸h.slot d hd).bool
 have hs:a.tmps[d]? =some v:=by
  have :d<a.tmps.size:=by rw[h.size];exact hd
  simp[Array.getD,this]at q;simp[this,q]
 unfold yielded;rw[u];simp only[Aj,hs];cases v<;>rfl
variable {b:Ad}
def akq (h:Holds C ok H σ a w)(u:(ops[j]?).bind (·.dst)=some d)(z:σ.slots.getD d .junk=.d (.lit (.bool b))):yielded ops a.tmps j=some b:=by
 have hd:d<σ.slots.length:=by
  grind
 have q:=(z▸h.slot d hd).bool
 have hs:a.tmps[d]? =some (.bool b):=by
  have :d<a.tmps.size:=by rw[h.size];exact hd
  simp[Array.getD,this]at q;simp[this,q]
 unfold yielded;rw[u];simp only[Aj,hs]
def Wh (h:Holds C ok H σ a w)(q:XQ ops σ o.guard):Region.wanted o (yielded ops a.tmps)=true:=by
 unfold Region.wanted;rcases q with q|⟨j,u,d,b,q,z,I,rfl⟩
 ·rw[q]
 rw[q];show(yielded ops a.tmps j==some b)=true;rw[akq h z I];simp
def aFF (h:Holds C ok H σ a w)(u:Ye ops σ o.guard):Region.wanted o (yielded ops a.tmps)=false:=by
 unfold Region.wanted;obtain⟨j,q,d,v,u,z,I,J⟩:=u;rw[u];show(yielded ops a.tmps j==some q)=false;rw[ahV h z I];rcases J with rfl|rfl
 ·simp
 rfl
def needs (σ:BR):A8 (CB×Ap)->Prop
 | []=>True
 |n::ns=>σ.get n.1=n.2/\needs σ ns
def Xo {σ:BR}:∀{ns:A8 (CB×Ap)},needs σ ns->∀n∈ns,σ.get n.1=n.2
 | [],_,n,h=>J9
 |m::ns,j,n,h=>by
  rcases FM.1 h with rfl|h
  ·exact j.1
  exact Xo j.2 n h
def tmpsOf (o:Oper):A8 Tmp:=o.op.operands.toList.filterMap λ| .tmp t=>some t|_=>none
def MF (ns:A8 (CB×Ap)):A8 Tmp:=ns.filterMap λn=>match n.1 with | .tmp t=>some t|_=>none
def St (P:Cc)(ops:Bg Oper)(σ:BR)(x:Ap)(E:A8 Bd)(bar:Ad)(o:Oper):Prop:=
 ((∃ns,CJ P o ns σ.ents x E/\needs σ ns/\(MF ns).all (tmpsOf o).contains=true/\XQ ops σ o.guard)\/(x=.d (.lit undef)/\E=σ.ents/\Ye ops σ o.guard))/\(bar=false->E=σ.ents)
def aSe (h:CJ P o ns σ.ents x σ.ents)(j:needs σ ns)(q:XQ ops σ o.guard)(u:(MF ns).all (tmpsOf o).contains=true):St P ops σ x σ.ents false o:=
 ⟨.inl ⟨ns,h,j,u,q⟩,λ_=>rfl⟩
variable {es':A8 Bd}
def CJ.cast {j:Ap}(h:CJ P o ns es x es')(e:x=j):CJ P o ns es j es':=e▸h
def aQz {c:Ad}(h:some b=some c):Ap.d (.lit (.bool b))=Ap.d (.lit (.bool c)):=by rw[Dx h]
def Jh (ro:AB Nat):Fence:={ fn:=λ_=>True,depth:=none,alive:=false,round:=ro }
variable {args:Bg BI}{ro:AB Nat}
def a5k {f:FuncId}{R:Ending->Ba->Prop}:CallsIn (Jh ro) n P f args w R↔Calls P f args w R:=
 callsIn_wide (n:=n)
def akE {j:String}{R:BI->Ba->Prop}(h:Rows P j args w R):RowsIn (Jh ro) n P j args w R:=
 λc cs _=>let⟨v,w',r,s⟩:=h c cs;⟨v,w',r,(stepsIn_wide (P:=P)).2 s⟩
def CJ.aHv (h:CJ P o ns es x es')(hm:E5 C ok H es w)(u:∀n∈ns,R ok w H n.2 (a.eval n.1)):∀c,o.op≠ .defer c:=by
 intro c z;have j:=h C ok H a w (λ_ _ _=>False) hm u;unfold Oper.wp execOp at j;rw[z]at j;simp only[G6]at j;cases q:(resolve a.eval c o.type).run P w with
 |ok d w'=>
  rw[q]at j;simp only[Result.andThen]at j;obtain⟨v,_,_,I,_⟩:=j;have :=BJ (λa=>a.defers.length) I;cases J:o.dst<;>simp[Act.put,J]at this
 |halt x w'=>
  rw[q]at j;cases x<;>exact j
def CJ.inR (h:CJ P o ns es x es')(ro:AB Nat)(C:Ez)(ok:Nat->Prop)(H:A8 CM)(a:Act)(w:Ba)(Q:Exit->Act->Ba->Prop)(hm:E5 C ok H es w)(j:∀n∈ns,R ok w H n.2 (a.eval n.1)):
 o.wpIn (Jh ro) 0 P a w (λa' w'=>∃v ok' H',a'=a.put o.dst v/\FP ok w ok' w'/\Names H H'/\E5 C ok' H' es' w'/\R ok' w' H' x v) Q:=by
 have h1:=h C ok H a w Q hm j;refine⟨λ_ _=>trivial,?_⟩;rw[pq _ _ _ (h.aHv hm j)];unfold Oper.wp at h1;generalize(execOp a.eval o).run P w=r at h1;cases r with
 |ok n w'=>
  cases n<;>first
   |exact h1
   |exact h1.elim
   |exact⟨λh=>Gu,a5k.2 h1⟩
   |exact⟨λh=>Gu,akE h1⟩
 |halt x w'=>cases x<;>exact h1
inductive Chain (P:Program) (ops:Array Oper):List Oper->BR->BR->Prop
 |nil (σ:BR):Chain P ops [] σ σ
 |op {o:Oper} {rest:List Oper} {σ σ':BR} {ns:List (Operand×Ap)} {x:Ap} (d:Option Tmp) (h:CJ P o ns σ.ents x σ.ents) (hn:needs σ ns) (hg:XQ ops σ o.guard) (hd:o.dst=d)
  (k:Chain P ops rest (σ.tN d x) σ'):Chain P ops (o::rest) σ σ'
 |oe {o:Oper} {rest:List Oper} {σ σ':BR} {ns:List (Operand×Ap)} {x:Ap} {es':List Bd} (d:Option Tmp) (E:List Bd) (h:CJ P o ns σ.ents x es') (he:es'=E) (hn:needs σ ns) (hg:XQ ops σ o.guard) (hd:o.dst=d)
  (k:Chain P ops rest (σ.put d x E) σ'):Chain P ops (o::rest) σ σ'
 |skip {o:Oper} {rest:List Oper} {σ σ':BR} (d:Option Tmp) (hg:Ye ops σ o.guard) (hd:o.dst=d) (k:Chain P ops rest (σ.tN d (.d (.lit undef))) σ'):Chain P ops (o::rest) σ σ'
 |any {o:Oper} {rest:List Oper} {σ σ':BR} {x:Ap} (d:Option Tmp) (h:St P ops σ x σ.ents false o) (hd:o.dst=d) (k:Chain P ops rest (σ.tN d x) σ'):Chain P ops (o::rest) σ σ'
 |arH {o:Oper} {rest:List Oper} {σ σ':BR} {x:Ap} {E:List Bd} {bar:Bool} (d:Option Tmp) (h:St P ops σ x E bar o) (hd:o.dst=d) (k:Chain P ops rest (σ.put d x E) σ'):Chain P ops (o::rest) σ σ'
 |conv {rest:List Oper} {σ σ':BR} (σ2:BR) (h:∀C ok H a w,Holds C ok H σ a w->∃ok',Holds C ok' H σ2 a w) (k:Chain P ops rest σ2 σ'):Chain P ops rest σ σ'
def Qo :Code->Ad
 | .seq a b=>Qo a&&Qo b
 | .cond _ a b=>Qo a&&Qo b
 | .block _ a=>Qo a
 | .loop a=>Qo a
 | .scope a=>Qo a
 | .rangeFunc .. =>false
 |_=>true
def xI (ro:AB Nat)(c:Code):Prop:=ro=none\/Qo c=true
variable {c x y:Code}
def xI.two (h:xI ro c)(e:Qo c=(Qo x&&Qo y)):xI ro x/\xI ro y:=by
 rcases h with h|h
 ·exact⟨.inl h,.inl h⟩
 rw[e,DR]at h;exact⟨.inr h.1,.inr h.2⟩
def adn (P:Cc)(c:Code)(σ:BR)(Q:Exit->BR->Prop):Prop:=
 ∀(ro:AB Nat),xI ro c->∀(C:Ez) (ok:Nat->Prop) (H:A8 CM) (a:Act) (w:Ba),Holds C ok H σ a w->c.wpIn (Jh ro) 0 P (λe a' w'=>∃ok' H' σ',Holds C ok' H' σ' a' w'/\Q e σ') a w
structure Bo (P:Program) (c:Code) (σ:BR) (Q:Exit->BR->Prop):Prop where
 run:adn P c σ Q
section
variable {P:Cc} {σ σ':BR} {Q:Exit->BR->Prop}
def Bo.mono {Q':Exit->BR->Prop}(h:Bo P c σ Q)(j:∀e σ,Q e σ->Q' e σ):Bo P c σ Q':=
 ⟨λro q C ok H a w u=>V6 (h.run ro q C ok H a w u) λ_ _ _ ⟨ok',H',σ',h1,h2⟩=>⟨ok',H',σ',h1,j _ _ h2⟩⟩
def Bo.skip (h:Q .normal σ):Bo P .skip σ Q:=⟨λ_ _ _ ok H a w j=>wpIn_skip ⟨ok,H,σ,j,h⟩⟩
def Ew:=@Bo.skip
def Bo.label {l:Nat}(h:Q .normal σ):Bo P (.label l) σ Q:=⟨λ_ _ _ ok H a w j=>wpIn_label ⟨ok,H,σ,j,h⟩⟩
def Bo.exit {i:Nat}(h:Q (.exit i) σ):Bo P (.exit i) σ Q:=⟨λ_ _ _ ok H a w j=>wpIn_exit ⟨ok,H,σ,j,h⟩⟩
def Ce:=@Bo.exit
def Bo.ret (h:Q .ret σ):Bo P .ret σ Q:=⟨λ_ _ _ ok H a w j=>wpIn_ret ⟨ok,H,σ,j,h⟩⟩
def F6:=@Bo.ret
def Jw (K:BR->Prop)(Q:Exit->BR->Prop):Exit->BR->Prop
 | .normal,σ=>K σ
 |e,σ=>Q e σ
def Bo.seq (K:BR->Prop)(q:Bo P x σ (Jw K Q))(u:∀σ',K σ'->Bo P y σ' Q):Bo P (.seq x y) σ Q:=⟨λro j C ok H a w z=>
 wpIn_seq (V6 (q.run ro (j.two rfl).1 C ok H a w z) (by
  rintro e a' w' ⟨ok',H',σ',h1,h2⟩;cases e with
  |normal=>exact(u σ' h2).run ro (j.two rfl).2 C ok' H' a' w' h1
  |_=>exact⟨ok',H',σ',h1,h2⟩))⟩
def a00 (j:BR)(q:Bo P x σ (Jw (λσ'=>σ'=j) Q))(u:Bo P y j Q):Bo P (.seq x y) σ Q:=Bo.seq _ q (λ_ e=>e▸u)
def Bo.cond {c:CB}(b:Ad)(u:σ.get c=.d (.lit (.bool b)))(z:b=true->Bo P x σ Q)(I:b=false->Bo P y σ Q):Bo P (.cond c x y) σ Q:=by
 refine⟨λro q C ok H a w j=>?_⟩;have e:=(u▸j.get c).bool;exact wpIn_cond_split e (λh=>(z h).run ro (q.two rfl).1 C ok H a w j) (λh=>(I h).run ro (q.two rfl).2 C ok H a w j)
def aO1 (i:Nat)(Q:Exit->BR->Prop):Exit->BR->Prop
 | .exit j,σ=>if j=i then Q .normal σ else Q (.exit j) σ
 |e,σ=>Q e σ
def Bo.block {i:Nat}{c:Code}(h:Bo P c σ (aO1 i Q)):Bo P (.block i c) σ Q:=⟨λro u C ok H a w z=>
 wpIn_block (V6 (h.run ro u C ok H a w z) (by
  rintro e a' w' ⟨ok',H',σ',h1,h2⟩;cases e with
  |exit j=>
   show if j=i then _ else _
   simp only[aO1]at h2;split<;>rename_i q
   ·rw[ET q]at h2;exact⟨ok',H',σ',h1,h2⟩
   rw[Ef q]at h2;exact⟨ok',H',σ',h1,h2⟩
  |_=>exact⟨ok',H',σ',h1,h2⟩))⟩
def Ar:=@Bo.block
def aYY {P:Cc}{Q:Exit->Act->Ba->Prop}(I:Nat->Act->Ba->Prop)(round:∀n a w,I n a w->c.wpIn (Jh ro) 0 P (Exit.then (λa' w'=>∃m,m<n/\I m a' w') Q) a w):∀n a w,I n a w->(Code.loop c).wpIn (Jh ro) 0 P Q a w:=by
 intro n a w Z b k cs J L M
 have key:∀n a w,I n a w->∃e a' w',Q e a' w'/\ArrivesIn (Machine.fenced P (Jh ro)) P (lone (b.atR a (.code c::.inLoop c::k)) cs w) b k cs e a' w':=by
  intro n
  induction n using Nat.strongRecOn with
  |_ n ih=>
   intro a w hI;obtain⟨e,u,z,j,harr⟩:=round n a w hI b (.inLoop c::k) cs J L M;cases e with
   |normal=>
    obtain⟨m,O,U⟩:=j;obtain⟨e₂,a₂,w₂,Y,q⟩:=ih m O u z U;exact⟨e₂,a₂,w₂,Y,.of_steps (StepsIn.trans harr (.one (fenced_calm L M rfl) stepR_inLoop)) q⟩
   |exit id=>exact⟨_,u,z,j,.pass (x:=.inLoop c) rfl (λ_ _=>.inl Bf) harr⟩
   |goto l=>exact⟨_,u,z,j,.pass (x:=.inLoop c) rfl (λ_ _=>.inl Bf) harr⟩
   |ret=>exact⟨_,u,z,j,.pass (x:=.inLoop c) rfl (λ_ _=>.inl Bf) harr⟩
   |panic ch=>exact⟨_,u,z,j,.pass (x:=.inLoop c) rfl (λ_ _=>.inl Bf) harr⟩
   |outgrown=>exact⟨_,u,z,j,.pass (x:=.inLoop c) rfl (λ_ _=>.inl Bf) harr⟩
 obtain⟨e,a',w',j,harr⟩:=key n a w Z;exact⟨e,a',w',j,.of_steps (.one (fenced_calm L M rfl) stepR_loop) harr⟩
def Bo.loop (I:Nat->BR->Prop)(n:Nat)(h:I n σ)(round:∀n σ,I n σ->Bo P c σ (Jw (λσ'=>∃m,m<n/\I m σ') Q)):Bo P (.loop c) σ Q:=by
 refine⟨λro u C ok H a w j=>?_⟩;refine aYY (λn a w=>∃ok H σ,Holds C ok H σ a w/\I n σ) ?_ n a w ⟨ok,H,σ,j,h⟩;rintro n a w ⟨ok,H,σ,j,z⟩;refine V6 ((round n σ z).run ro u C ok H a w j) ?_;rintro e a' w' ⟨ok',H',σ',h1,h2⟩;cases e with
 |normal=>obtain⟨m,hm,q⟩:=h2;exact⟨m,hm,ok',H',σ',h1,q⟩
 |_=>exact⟨ok',H',σ',h1,h2⟩
end
def eF {P:Cc}{σ S:BR}{Q:Exit->BR->Prop}{c:Code}(hs:CO σ S)(h:Bo P c S Q):Bo P c σ Q:=⟨λro j C ok H a w q=>by
 obtain⟨ok',H',h'⟩:=hs C ok H a w q
 exact h.run ro j C ok' H' a w h'⟩
def D9:=@eF
section
variable {P:Cc} {ops:Bg Oper} {Q:Exit->Act->Ba->Prop}
def aEc {F:Fence}(I:Bg Ad->Act->Ba->Prop)(j:∀l a w,I l a w->l.size=ops.size)(u:∀l a w,I l a w->∀i,i∈Region.ready .any ops l->wpOpIn F n P ops Q i (λa' w'=>I (l.setIfInBounds i true) a' w') a w)(q:∀l a w,I l a w->Region.ready .any ops l=[]->Q .normal a w):
 ∀(Az:Nat) l a w,toCome l<=Az->I l a w->wpAnyIn F n P .any ops Q Az l a w:=by
 intro Az
 induction Az with
 |zero=>
  intro l a w O L
  have U:Region.ready .any ops l=[]:=by
   unfold Region.ready;rw[aGV];intro i hi;have z:i<l.size:=by rw[j l a w L];simpa using hi
   have Y:l.toList.filter (!·)=[]:=He (by unfold toCome at O;omega);rw[aGV]at Y;have :=Y (l[i]) Bf;have M:l[i]=true:=a4o
   simp[Array.getD,z,M]
  exact⟨U,q l a w L U⟩
 |succ Az Z=>
  intro l a w O L;refine⟨q l a w L,λi hi=>?_⟩;have J:=hi;unfold Region.ready at J;rw[Gs]at J;have z:i<l.size:=by rw[j l a w L];simpa using J.1
  have hf:l.getD i true=false:=by
   grind
  have hs:=toCome_set z hf;exact wpOpIn_mono (λa' w' h=>Z _ a' w' AQ h) (u l a w L i hi)
end
def JE (o:Oper)(j:Nat):Ad:=o.after.toList.any λe=>e.on=j&&Region.binds .any e
def X6 (ops:Bg Oper):Ad:=(List.range ops.size).all λi=>match ops[i]? with
 |some o=>((List.range ops.size).all λj=>match(ops[j]?).bind (·.dst)with
  |some d=> !(tmpsOf o).contains d||JE o j||(match ops[j]? with |some q=>JE q i|none=>false)
  |none=>true)&&(match o.guard with |some (j,_)=>JE o j|none=>true)
 |none=>true
inductive Fh (P:Program) (ops:Array Oper):List Oper->BR->List Ap->List (List Bd)->List Bool->BR->Prop
 |nil (σ:BR):Fh P ops [] σ [] [] [] σ
 |op {o:Oper} {rest:List Oper} {σ σ':BR} {ns:List (Operand×Ap)} {x:Ap} {rs:List Ap} {ess:List (List Bd)} {bs:List Bool} (d:Option Tmp) (h:CJ P o ns σ.ents x σ.ents) (hn:needs σ ns)
  (hg:XQ ops σ o.guard) (hd:o.dst=d) (ht:(MF ns).all (tmpsOf o).contains=true) (k:Fh P ops rest (σ.tN d x) rs ess bs σ'):Fh P ops (o::rest) σ (x::rs) (σ.ents::ess) (false::bs) σ'
 |oe {o:Oper} {rest:List Oper} {σ σ':BR} {ns:List (Operand×Ap)} {x:Ap} {es':List Bd} {rs:List Ap} {ess:List (List Bd)} {bs:List Bool} (d:Option Tmp) (E:List Bd) (h:CJ P o ns σ.ents x es') (he:es'=E) (hn:needs σ ns)
  (hg:XQ ops σ o.guard) (hd:o.dst=d) (ht:(MF ns).all (tmpsOf o).contains=true) (k:Fh P ops rest (σ.put d x E) rs ess bs σ'):Fh P ops (o::rest) σ (x::rs) (E::ess) (true::bs) σ'
 |any {o:Oper} {rest:List Oper} {σ σ':BR} {x:Ap} {rs:List Ap} {ess:List (List Bd)} {bs:List Bool} (d:Option Tmp) (h:St P ops σ x σ.ents false o) (hd:o.dst=d) (k:Fh P ops rest (σ.tN d x) rs ess bs σ'):Fh P ops (o::rest) σ (x::rs) (σ.ents::ess) (false::bs) σ'
 |arH {o:Oper} {rest:List Oper} {σ σ':BR} {x:Ap} {E:List Bd} {bar:Bool} {rs:List Ap} {ess:List (List Bd)} {bs:List Bool} (d:Option Tmp) (h:St P ops σ x E bar o) (hd:o.dst=d) (k:Fh P ops rest (σ.put d x E) rs ess bs σ'):Fh P ops (o::rest) σ (x::rs) (E::ess) (bar::bs) σ'
 |skip {o:Oper} {rest:List Oper} {σ σ':BR} {rs:List Ap} {ess:List (List Bd)} {bs:List Bool} (d:Option Tmp) (hg:Ye ops σ o.guard) (hd:o.dst=d) (k:Fh P ops rest (σ.tN d (.d (.lit undef))) rs ess bs σ'):Fh P ops (o::rest) σ (.d (.lit undef)::rs) (σ.ents::ess) (false::bs) σ'
variable {Q:Exit->BR->Prop}{bs:A8 Ad}{ess:A8 (A8 Bd)}{l:A8 Oper}{rs:A8 Ap}{sl:A8 Nat}{σ':BR}
section
variable {P:Cc} {ops:Bg Oper} {es:A8 Bd}
def Gp (ops:Bg Oper)(σ0:BR)(r:Nat->Ap)(ev:Nat->A8 Bd):Nat->BR
 |0=>σ0
 |i+1=>match ops[i]? with
  |some o=>(Gp ops σ0 r ev i).put o.dst (r i) (ev i)
  |none=>Gp ops σ0 r ev i
def Fh.aI1 (N:Nat)(h:Fh P ops l σ rs ess bs σ')(σ0:BR)(r:Nat->Ap)(ev:Nat->A8 Bd)(bar:Nat->Ad):∀i,(∀k:Nat,k<l.length->l[k]? =ops[i+k]?)->i+l.length=N->σ=Gp ops σ0 r ev i->
 (∀(k:Nat) y,rs[k]? =some y->r (i+k)=y)->(∀(k:Nat) y,ess[k]? =some y->ev (i+k)=y)->(∀(k:Nat) y,bs[k]? =some y->bar (i+k)=y)->
 (∀j (o:Oper),i<=j->j<N->ops[j]? =some o->St P ops (Gp ops σ0 r ev j) (r j) (ev j) (bar j) o)/\σ'=Gp ops σ0 r ev N:=by
 induction h with
 |nil σ=>
  intro i hl J I M _ _;have :i=N:=jw
  subst this;exact⟨λj o Z L ho=>AQ,I⟩
 | @op o rest σ σ' ns x rs ess bs d ho hn hg hd ht k ih=>
   intro i hl J I M O hb;subst hd;have U:ops[i]? =some o:=vY
   have Y:r i=x:=a2A
   have u:ev i=σ.ents:=aFK
   obtain⟨h1,h2⟩:=ih (i+1) (λk hk=>uS) rG (by
    rw[BR.amr];simp only[Gp,U,Y,u];rw[←I]) (λk y z=>xG)
    (λk y z=>Opn) (λk y z=>a15)
   refine⟨λj o' Z L q=>?_,h2⟩;by_cases e:i=j
   ·subst e;rw[U]at q;obtain rfl:=Dx q;exact⟨.inl ⟨ns,by rw[Y,u,←I];exact ho,I▸hn,ht,I▸hg⟩,λ_=>by rw[u,←I]⟩
   exact h1 j o' AQ L q
 | @oe o rest σ σ' ns x es' rs ess bs d E ho hE hn hg hd ht k ih=>
   intro i hl J I M O hb;subst hd;subst hE;have U:ops[i]? =some o:=vY
   have Y:r i=x:=a2A
   have u:ev i=es':=by simpa using O 0 es' Bf
   have hbr:bar i=true:=by simpa using hb 0 true Bf
   obtain⟨h1,h2⟩:=ih (i+1) (λk hk=>uS) rG (by
    simp only[Gp,U,Y,u];rw[←I]) (λk y z=>xG)
    (λk y z=>Opn) (λk y z=>a15)
   refine⟨λj o' Z L q=>?_,h2⟩;by_cases e:i=j
   ·subst e;rw[U]at q;obtain rfl:=Dx q;exact⟨.inl ⟨ns,by rw[Y,u,←I];exact ho,I▸hn,ht,I▸hg⟩,λhf=>by rw[hbr]at hf;cases hf⟩
   exact h1 j o' AQ L q
 | @any o rest σ σ' x rs ess bs d hs hd k ih=>
   intro i hl J I M O hb;subst hd;have U:ops[i]? =some o:=vY
   have Y:r i=x:=a2A
   have u:ev i=σ.ents:=aFK
   obtain⟨h1,h2⟩:=ih (i+1) (λk hk=>uS) rG (by
    rw[BR.amr];simp only[Gp,U,Y,u];rw[←I]) (λk y z=>xG)
    (λk y z=>Opn) (λk y z=>a15)
   refine⟨λj o' Z L q=>?_,h2⟩;by_cases e:i=j
   ·subst e;rw[U]at q;obtain rfl:=Dx q;refine⟨?_,λ_=>by rw[u,←I]⟩;rw[Y,u,←I];exact hs.1
   exact h1 j o' AQ L q
 | @arH o rest σ σ' x E br rs ess bs d hs hd k ih=>
   intro i hl J I M O hb;subst hd;have U:ops[i]? =some o:=vY
   have Y:r i=x:=a2A
   have u:ev i=E:=by simpa using O 0 E Bf
   have hbr:bar i=br:=by simpa using hb 0 br Bf
   obtain⟨h1,h2⟩:=ih (i+1) (λk hk=>uS) rG (by
    simp only[Gp,U,Y,u];rw[←I]) (λk y z=>xG)
    (λk y z=>Opn) (λk y z=>a15)
   refine⟨λj o' Z L q=>?_,h2⟩;by_cases e:i=j
   ·subst e;rw[U]at q;obtain rfl:=Dx q;rw[Y,u,hbr,←I];exact hs
   exact h1 j o' AQ L q
 | @skip o rest σ σ' rs ess bs d hg hd k ih=>
   intro i hl J I M O hb;subst hd;have U:ops[i]? =some o:=vY
   have Y:r i=.d (.lit undef):=by simpa using M 0 (.d (.lit undef)) Bf
   have u:ev i=σ.ents:=aFK
   obtain⟨h1,h2⟩:=ih (i+1) (λk hk=>uS) rG (by
    rw[BR.amr];simp only[Gp,U,Y,u];rw[←I]) (λk y z=>xG)
    (λk y z=>Opn) (λk y z=>a15)
   refine⟨λj o' Z L q=>?_,h2⟩;by_cases e:i=j
   ·subst e;rw[U]at q;obtain rfl:=Dx q;exact⟨.inr ⟨Y,by rw[u,←I],I▸hg⟩,λ_=>by rw[u,←I]⟩
   exact h1 j o' AQ L q
def Fh.facts (h:Fh P ops l σ rs ess bs σ')(σ0:BR)(r:Nat->Ap)(ev:Nat->A8 Bd)(bar:Nat->Ad):∀i,(∀k:Nat,l[k]? =ops[i+k]?)->i+l.length=ops.size->σ=Gp ops σ0 r ev i->
 (∀(k:Nat) y,rs[k]? =some y->r (i+k)=y)->(∀(k:Nat) y,ess[k]? =some y->ev (i+k)=y)->(∀(k:Nat) y,bs[k]? =some y->bar (i+k)=y)->
 (∀j (o:Oper),i<=j->ops[j]? =some o->St P ops (Gp ops σ0 r ev j) (r j) (ev j) (bar j) o)/\σ'=Gp ops σ0 r ev ops.size:=by
 intro i hl q u z I J;obtain⟨h1,h2⟩:=h.aI1 ops.size σ0 r ev bar i (λk _=>hl k) q u z I J
 grind
def a7j {σ0:BR}{r:Nat->Ap}{ev:Nat->A8 Bd}{t:Nat}:∀i,(∀j (o:Oper),j<i->ops[j]? =some o->o.dst≠some t)->(Gp ops σ0 r ev i).slots.getD t .junk=σ0.slots.getD t .junk
 |0,_=>rfl
 |i+1,h=>by
  have q:=a7j (σ0:=σ0) (r:=r) (ev:=ev) i (λj o J u=>h j o AQ u);simp only[Gp];split
  ·rename_i o u;have z:=h i o AQ u;cases hd:o.dst with
   |none=>exact q
   |some d=>
    have I:d≠t:=λe=>z (by rw[hd,e]);show((Gp ops σ0 r ev i).slots.set d (r i)).getD t .junk=_;rw[←q];simp[List.getD,eB I]
  exact q
def rU {σ0:BR}{r:Nat->Ap}{ev:Nat->A8 Bd}:∀i,(Gp ops σ0 r ev i).slots.length=σ0.slots.length
 |0=>rfl
 |i+1=>by
  simp only[Gp];split
  ·rename_i o j;cases hd:o.dst with
   |none=>exact rU i
   |some d=>show((Gp ops σ0 r ev i).slots.set d (r i)).length=_;rw[YZ];exact rU i
  exact rU i
def a3s {σ0:BR}{r:Nat->Ap}{ev:Nat->A8 Bd}:∀i,(Gp ops σ0 r ev i).base=σ0.base
 |0=>rfl
 |i+1=>by
  simp only[Gp];split
  ·exact a3s i
  exact a3s i
def a1f {σ0:BR}{r:Nat->Ap}{ev:Nat->A8 Bd}(q:∀(i j:Nat) (o u:Oper) (d:Tmp),ops[i]? =some o->ops[j]? =some u->o.dst=some d->u.dst=some d->i=j){t j:Nat}{o:Oper}(z:ops[j]? =some o)(hd:o.dst=some t)(O:t<σ0.slots.length):
 ∀i,j<i->(Gp ops σ0 r ev i).slots.getD t .junk=r j
 |0,h=>AQ
 |i+1,h=>by
  by_cases e:j=i
  ·subst e;simp only[Gp,z,hd];have hl:t<(Gp ops σ0 r ev j).slots.length:=by rw[rU];exact O
   show((Gp ops σ0 r ev j).slots.set t (r j)).getD t .junk=_;simp[List.getD,hl]
  have I:=a1f (r:=r) (ev:=ev) q z hd O i AQ;simp only[Gp];split
  ·rename_i u J;cases L:u.dst with
   |none=>exact I
   |some d=>
    have M:d≠t:=λe'=>e (q j i o u t z J hd (by rw[L,e']));show((Gp ops σ0 r ev i).slots.set d (r i)).getD t .junk=_;rw[←I];simp[List.getD,eB M]
  exact I
def aeQ (h:X6 ops=true):∀(i:Nat) (o:Oper),ops[i]? =some o->(∀(j:Nat) (q:Oper) (d:Tmp),ops[j]? =some q->q.dst=some d->d∈tmpsOf o->JE o j=true\/JE q i=true)/\(∀j b,o.guard=some (j,b)->JE o j=true):=by
 intro i o u;unfold X6 at h
 grind
def XB (ops:Bg Oper)(bs:A8 Ad):Ad:=(List.range ops.size).all λi=> !(bs.getD i false)||
 (((List.range i).all λj=>(List.range (i+1)).any λm=>j<m&&(match ops[m]? with |some o=>JE o j|none=>false))&&
  ((List.range ops.size).all λk=> !decide (i<k)||(List.range k).any λm=>i<=m&&(match ops[k]? with |some o=>JE o m|none=>false)))
def aew (h:XB ops bs=true)(hi:i<ops.size)(L:bs.getD i false=true){D:Nat->Prop}(hd:∀(j:Nat) (o:Oper),ops[j]? =some o->D j->∀m,JE o m=true->D m)(M:∀(o:Oper),ops[i]? =some o->∀m,JE o m=true->D m):∀j,j<i->D j:=by
 unfold XB at h;rw[En]at h;have h1:=h i IU;simp only[L,El,OW,DR,En]at h1
 have key:∀n j,i-j<=n->j<i->D j:=by
  intro n
  induction n with
  |zero=>intro j h2 h3;omega
  |succ n O=>
   intro j h2 h3;have I:=h1.1 j X8;rw[Ip]at I;obtain⟨m,hm,J⟩:=I;simp only[bZ]at hm;simp only[DR,IQ]at J;obtain⟨Y,q⟩:=J;have u:m<ops.size:=AQ
   have z:ops[m]? =some ops[m]:=by simp[u]
   rw[z]at q;by_cases e:m=i
   ·subst e;exact M _ z j q
   exact hd m _ z (O m AQ AQ) j q
 exact λj U=>key (i-j) j (EW _) U
def RJ (ops:Bg Oper):Ad:=(List.range ops.size).all λi=>match ops[i]? with
 |some o=>o.after.toList.all λ(e:Edge)=> !Region.binds .any e||(e.on<i)
 |none=>true
def qg (h:RJ ops=true):∀(i:Nat) (o:Oper),ops[i]? =some o->∀e∈o.after.toList,Region.binds .any e=true->e.on<i:=by
 intro i o j e q u;unfold RJ at h
 grind
def TI (ops:Bg Oper)(bs:A8 Ad)(sl:A8 Nat):Ad:=(List.range ops.size).all λi=> !(bs.getD i false)||(!sl.contains i&&
 ((List.range i).all λj=>sl.contains j||(List.range (i+1)).any λm=>(decide (j<m)&& !sl.contains m)&&(match ops[m]? with |some o=>JE o j|none=>false))&&
  ((List.range ops.size).all λk=> !decide (i<k)||(List.range k).any λm=>i<=m&&(match ops[k]? with |some o=>JE o m|none=>false)))
def aKT (h:TI ops bs sl=true)(hi:i<ops.size)(O:bs.getD i false=true){D:Nat->Prop}(hd:∀(j:Nat) (o:Oper),ops[j]? =some o->D j->∀m,JE o m=true->D m)(U:∀(o:Oper),ops[i]? =some o->∀m,JE o m=true->D m):∀j,j<i->sl.contains j=false->D j:=by
 unfold TI at h;rw[En]at h;have h1:=h i IU;simp only[O,El,OW,DR,En]at h1
 have key:∀n j,i-j<=n->j<i->sl.contains j=false->D j:=by
  intro n
  induction n with
  |zero=>
   grind
  |succ n Y=>
   intro j h2 h3 q;have L:=h1.1.2 j X8;rw[q,OW,Ip]at L;obtain⟨m,hm,M⟩:=L;simp only[bZ]at hm;simp only[DR,IQ,Ui]at M;obtain⟨⟨h6,u⟩,z⟩:=M;have I:m<ops.size:=AQ
   have J:ops[m]? =some ops[m]:=by simp[I]
   rw[J]at z;by_cases e:m=i
   ·subst e;exact U _ J j z
   exact hd m _ J (Y m AQ AQ u) j z
 exact λj Z hs=>key (i-j) j (EW _) Z hs
def acI (h:TI ops bs sl=true)(hi:i<ops.size)(U:bs.getD i false=true){D:Nat->Prop}(hd:∀(j:Nat) (o:Oper),ops[j]? =some o->D j->∀m,JE o m=true->D m):
 ∀k,i<k->∀(o:Oper),ops[k]? =some o->(∀m,JE o m=true->D m)->D i:=by
 unfold TI at h;rw[En]at h;have h1:=h i IU;simp only[U,El,OW,DR,En]at h1;intro k
 induction k using Nat.strongRecOn with
 |_ k Y=>
  intro I o L q;have Z:k<ops.size:=(IK.1 L).1;have M:=h1.2 k (by simpa using Z);simp only[I,decide_true,El,OW,Ip]at M;obtain⟨m,hm,O⟩:=M;simp only[bZ]at hm;simp only[DR,IQ,L]at O;obtain⟨h6,h7⟩:=O;have u:=q m h7;by_cases e:m=i
  ·subst e;exact u
  have J:m<ops.size:=AQ
  have z:ops[m]? =some ops[m]:=by simp[J]
  exact Y m hm AQ _ z (hd m _ z u)
def aMS (h:TI ops bs sl=true)(hi:i<ops.size)(j:bs.getD i false=true):sl.contains i=false:=by
 unfold TI at h
 grind
def Bo.aAw (M:(RJ ops&&Xt ops&&Yh ops σ.slots.length&&X6 ops)=true)(sl:A8 Nat)(O:TI ops bs sl=true)(h:Fh P ops ops.toList σ rs ess bs σ')(hsl:∀i,i∈sl->bs.getD i false=false/\∀m,i<=m->m<=ops.size->∀o,ops[i]? =some o->St P ops ⟨(Gp ops σ (λi=>rs.getD i .junk) (λi=>ess.getD i []) i).slots,(Gp ops σ (λi=>rs.getD i .junk) (λi=>ess.getD i []) m).ents,σ.base⟩ (rs.getD i .junk) (Gp ops σ (λi=>rs.getD i .junk) (λi=>ess.getD i []) m).ents false o)(ro:AB Nat)(C:Ez)(ok:Nat->Prop)(H:A8 CM)(a:Act)(w:Ba)(hh:Holds C ok H σ a w)(Q:Exit->Act->Ba->Prop)(hQ:∀ok' H' a' w',Holds C ok' H' σ' a' w'->Q .normal a' w'):wpAnyIn (Jh ro) 0 P .any ops Q ops.size (Array.replicate ops.size false) a { w with drawn:=w.drawn+1 }:=by
 simp only[DR]at M;obtain⟨⟨⟨he,hd⟩,hs⟩,hc⟩:=M;have avm:=qg he;have hinj:=aeU hd;have M:=aeQ hc
 have avn:∀(i:Nat) (o:Oper) (d:Tmp),ops[i]? =some o->o.dst=some d->d<σ.slots.length:=by
  intro i o d h1 h2;unfold Yh at hs;rw[En]at hs;simpa using hs d (abY h1 h2)
 let r:Nat->Ap:=λi=>rs.getD i .junk
 let ev:Nat->A8 Bd:=λi=>ess.getD i []
 let bar:Nat->Ad:=λi=>bs.getD i false
 obtain⟨avW,hend⟩:=h.facts σ r ev bar 0 (λk=>Bf) Bf rfl (λk y hy=>by simp[r,List.getD,hy]) (λk y hy=>by simp[ev,List.getD,hy]) (λk y hy=>by simp[bar,List.getD,hy])
 let U:Nat->BR:=Gp ops σ r ev
 have hU:∀i,i<ops.size->(U (i+1)).ents=ev i:=by
  intro i hi;have L:ops[i]? =some ops[i]:=VL
  show(Gp ops σ r ev (i+1)).ents=_;simp only[Gp,L];rfl
 have hconst:∀n lo,(∀b,lo<=b->b<lo+n->bar b=false)->lo+n<=ops.size->(U (lo+n)).ents=(U lo).ents:=by
  intro n
  induction n with
  |zero=>intro lo _ _;rfl
  |succ n ih=>
   intro lo z hle;have h1:=ih lo (λb h1 h2=>z b h1 AQ) AQ;have hi:lo+n<ops.size:=AQ
   have L:ops[lo+n]? =some ops[lo+n]:=VL
   have h2:=(avW (lo+n) _ AQ L).2 (z (lo+n) AQ AQ);rw[←V3,hU _ hi,h2];exact h1
 have Y:∀lo hi,lo<=hi->hi<=ops.size->(∀b,lo<=b->b<hi->bar b=false)->(U hi).ents=(U lo).ents:=by
  intro lo hi h1 h2 h3;obtain⟨n,rfl⟩:=Nat.exists_eq_add_of_le h1;exact hconst n lo h3 h2
 let I:Bg Ad->Act->Ba->Prop:=λl a w=>l.size=ops.size/\∃ok H m,m<=ops.size/\(∀b,bar b=true->b<ops.size->(l.getD b false=true↔b<m))/\E5 C ok H (U m).ents w/\a.tmps.size=σ.slots.length/\Marks C ok w a.defers/\
  (∀t,t<σ.slots.length->(∀(j:Nat) (o:Oper),ops[j]? =some o->o.dst=some t->l.getD j false=false)->R ok w H (σ.slots.getD t .junk) (a.tmps.getD t undef))/\
  (∀(i:Nat) (o:Oper) (d:Tmp),ops[i]? =some o->o.dst=some d->l.getD i false=true->R ok w H (r i) (a.tmps.getD d undef))/\
  (∀(j:Nat) (o:Oper),ops[j]? =some o->l.getD j false=true->∀i,JE o i=true->l.getD i false=true)
 refine aEc I (λl a w h=>h.1) ?_ ?_ ops.size _ _ _ ?_ ?_
 ·rintro l a w ⟨h1,ok,H,m,avX,J,hmem0,hsz,hdf,h5,h6,h7⟩ i hi;unfold Region.ready at hi;rw[Gs]at hi;obtain⟨hi1,hi2⟩:=hi;have hi':i<ops.size:=by simpa using hi1
  have L:ops[i]? =some ops[i]:=by simp[hi']
  simp only[DR]at hi2;have aBo:=hi2.2;rw[L]at aBo;simp only[JR,MO]at aBo;have apD:=λe he=>(TP.1 aBo) e he
  have Z:∀j,JE ops[i] j=true->l.getD j false=true/\j<i:=by
   intro j u;unfold JE at u;rw[Ip]at u;obtain⟨e,hee,u⟩:=u;simp only[DR,IQ]at u;have :=apD e (by simpa using hee);simp only[u.2,El,OW]at this;rw[u.1]at this;exact⟨this,u.1▸avm i _ L e hee u.2⟩
  have hself:l.getD i false=false:=by
   have h8:=hi2.1;have hil:i<l.size:=AQ
   simp[Array.getD,hil]at h8 ⊢;exact h8
  have arI:∀(j:Nat) (o:Oper),ops[j]? =some o->l.getD j false=true->∀m,JE o m=true->l.getD m false=true:=λj o u hl m hm=>h7 j o u hl m hm
  have hEi:(i<=m->sl.contains i=false)->(U i).ents=(U m).ents:=λhns=>by
   by_cases him:i<=m
   ·refine(Y i m him avX (λb h2 h3=>?_)).symm;rw[←Z4];intro z;have hbl:=(J b z AQ).2 h3;by_cases e:b=i
    ·subst e;rw[hself]at hbl;cases hbl
    have :=aKT O (show b<ops.size by omega) z (D:=λj=>l.getD j false=true) arI (λo L m hm=>arI b o L hbl m hm) i AQ (hns him);rw[hself]at this;cases this
   refine Y m i AQ AQ (λb h2 h3=>?_);rw[←Z4];intro z;have :=acI O (show b<ops.size by omega) z (D:=λj=>l.getD j false=true) arI i h3 _ L (λm hm=>(Z m hm).1);exact absurd ((J b z AQ).1 this) AQ
  obtain⟨E0,E1,hmem,hfact,hE1,hE2⟩:∃E0 E1,E5 C ok H E0 w/\St P ops ⟨(U i).slots,E0,σ.base⟩ (r i) E1 (bar i) ops[i]/\(bar i=false->E1=(U m).ents)/\(bar i=true->E1=ev i):=by
   by_cases hs:i<=m/\i∈sl
   ·have h9:=hsl i hs.2;refine⟨(U m).ents,(U m).ents,hmem0,?_,λ_=>rfl,λz=>?_⟩
    ·rw[show bar i=false from h9.1];exact h9.2 m hs.1 avX _ L
    rw[show bar i=false from h9.1]at z;cases z
   have hE:=hEi (λhim=>by
    rw[←Z4]
    intro hc;exact hs ⟨him,by simpa using hc⟩)
   refine⟨(U i).ents,ev i,by rw[hE];exact hmem0,?_,λz=>?_,λ_=>rfl⟩
   ·have hf:=avW i ops[i] AQ L;have hbase:(U i).base=σ.base:=a3s i;have :U i=⟨(U i).slots,(U i).ents,σ.base⟩:=by rw[←hbase]
    exact this▸hf
   rw[(avW i _ AQ L).2 z];exact hE
  have hread:∀t,t∈tmpsOf ops[i]->R ok w H ((Gp ops σ r ev i).slots.getD t .junk) (a.tmps.getD t undef):=by
   intro t ht;by_cases hw:∃(j:Nat) (o:Oper),ops[j]? =some o/\o.dst=some t
   ·obtain⟨j,o,u,q⟩:=hw;rcases(M i _ L).1 j o t u q ht with hce|hce
    ·obtain⟨hdj,hji⟩:=Z j hce;rw[a1f hinj u q (avn j o t u q) i hji];exact h6 j o t u q hdj
    have hij:i<j:=by
     unfold JE at hce;rw[Ip]at hce;obtain⟨e,hee,hce⟩:=hce;simp only[DR,IQ]at hce;exact hce.1▸avm j _ u e hee hce.2
    rw[a7j i (λj' o' hj' ho' hd'=>by have :=hinj j j' o o' t u ho' q hd';omega)];refine h5 t (avn j o t u q) (λj' o' ho' hd'=>?_);have hjj:=hinj j j' o o' t u ho' q hd';subst hjj;rw[←Z4];intro hd;rw[h7 j o u hd i hce]at hself;cases hself
   have hw':∀(j:Nat) (o:Oper),ops[j]? =some o->o.dst≠some t:=λj o h1 h2=>hw ⟨j,o,h1,h2⟩;rw[a7j i (λj o _ u=>hw' j o u)];by_cases htn:t<σ.slots.length
   ·exact h5 t htn (λj o u q=>absurd q (hw' j o u))
   rw[aRb htn];exact .junk _
  have aC7:∀j d v,JE ops[i] j=true->(ops[j]?).bind (·.dst)=some d->(Gp ops σ r ev i).slots.getD d .junk=.d (.lit v)->yielded ops a.tmps j=(match v with | .bool b=>some b|_=>none):=by
   intro j d v u q z;cases hoj:ops[j]? with
   |none=>rw[hoj]at q;simp at q
   |some oj=>
    rw[hoj]at q;simp only[Aj]at q;obtain⟨hdj,hji⟩:=Z j u;have hdn:=avn j oj d hoj q;rw[a1f hinj hoj q hdn i hji]at z;have hv:=(z▸h6 j oj d hoj q hdj).bool
    have hs:a.tmps[d]? =some v:=by
     have :d<a.tmps.size:=by rw[hsz];exact hdn
     simp[Array.getD,this]at hv;simp[this,hv]
    unfold yielded;rw[hoj];simp only[Aj,q,hs];cases v<;>rfl
  have hput:∀(x:Ap) (v:BI) (ok':Nat->Prop) (H':A8 CM) (w':Ba),x=r i->FP ok w ok' w'->Names H H'->E5 C ok' H' E1 w'->R ok' w' H' x v->I (l.setIfInBounds i true) (a.put ops[i].dst v) w':=by
   intro x v ok' H' w' hx hgr hnm hmem' hR;subst hx
   have hother:∀(d t:Nat),ops[i].dst=some d->d≠t->(a.put ops[i].dst v).tmps.getD t undef=a.tmps.getD t undef:=by
    intro d t hd hne;rw[hd];exact aEY hne
   obtain⟨m',aKz,aHw,aKA⟩:∃m',m'<=ops.size/\(∀b,bar b=true->b<ops.size->((l.setIfInBounds i true).getD b false=true↔b<m'))/\E5 C ok' H' (U m').ents w':=by
    have hget:∀b,b≠i->(l.setIfInBounds i true).getD b false=l.getD b false:=λb z=>by
     simp only[JY,UA (Ne.symm z)]
    have aKB:(l.setIfInBounds i true).getD i false=true:=by simp[Array.getD,h1,hi']
    cases hbi:bar i with
    |false=>
     refine⟨m,avX,λb z hbs=>?_,?_⟩
     ·have hne:b≠i:=λe=>by subst e;rw[hbi]at z;cases z
      rw[hget b hne];exact J b z hbs
     rw[←hE1 hbi];exact hmem'
    |true=>
     refine⟨i+1,AQ,λb z hbs=>?_,by rw[hU i hi',←hE2 hbi];exact hmem'⟩;by_cases e:b=i
     ·subst e;rw[aKB];simp
     rw[hget b e];constructor
     ·intro hbl;apply rV;intro hn;have :=aKT O hbs z (D:=λj=>l.getD j false=true) arI (λo L m hm=>arI b o L hbl m hm) i AQ (aMS O hi' hbi);rw[hself]at this;cases this
     intro hlt;exact aKT O hi' hbi (D:=λj=>l.getD j false=true) arI (λo ho' m hm=>by rw[L]at ho';obtain rfl:=Dx ho';exact(Z m hm).1) b AQ (aMS O hbs z)
   refine⟨Zl,ok',H',m',aKz,aHw,aKA,by rw[size_put];exact hsz,by rw[a1S];exact hdf.mono hgr,?_,?_,?_⟩
   ·intro t ht hno
    have hne:ops[i].dst≠some t:=by
     intro e;have :=hno i _ L e;simp[Array.getD,h1,hi']at this
    have hold:(a.put ops[i].dst v).tmps.getD t undef=a.tmps.getD t undef:=by
     cases hdi:ops[i].dst with
     |none=>rfl
     |some d=>exact hdi▸hother d t hdi (λe=>hne (by rw[hdi,e]))
    rw[hold];refine(h5 t ht (λj o u q=>?_)).mono hgr hnm;have hij:i≠j:=λe=>by subst e;rw[L]at u;obtain rfl:=Dx u;exact hne q
    have :=hno j o u q;simpa only[JY,UA hij]using this
   ·intro k o d hk hkd hl;by_cases hik:i=k
    ·subst hik;rw[L]at hk;obtain rfl:=Dx hk;rw[hkd,aGE (by rw[hsz];exact avn i _ d L hkd)];exact hR
    have hl':l.getD k false=true:=by
     simp only[JY,UA hik]at hl ⊢;exact hl
    have :=(h6 k o d hk hkd hl').mono hgr hnm;cases hdst:ops[i].dst with
    |none=>exact this
    |some d'=>
     have hne:d'≠d:=λe=>hik (hinj i k _ _ d' L hk hdst (e▸hkd));rw[←hdst,hother d' d hdst hne];exact this
   intro j o u hl k hk;have hil:i<l.size:=AQ
   by_cases hik:i=k
   ·subst hik;simp[Array.getD,hil]
   have hkk:l.getD k false=true:=by
    by_cases hij:i=j
    ·subst hij;rw[L]at u;obtain rfl:=Dx u;exact(Z k hk).1
    have hl':l.getD j false=true:=by
     simp only[JY,UA hij]at hl ⊢;exact hl
    exact h7 j o u hl' k hk
   simp only[JY,UA hik]at hkk ⊢;exact hkk
  unfold wpOpIn;rw[L];show if Region.wanted ops[i] (yielded ops a.tmps)=true then _ else _
  rcases hfact.1 with⟨ns,hop,apE,hnt,hg⟩|⟨hx,hev,hg⟩
  ·have hwant:Region.wanted ops[i] (yielded ops a.tmps)=true:=by
    unfold Region.wanted;rcases hg with hg|⟨j,want,d,b,hg,u,z,rfl⟩
    ·rw[hg]
    rw[hg];show(yielded ops a.tmps j==some b)=true;rw[aC7 j d _ ((M i _ L).2 j b hg) u z];simp
   rw[ET hwant];refine Yt ?_ (hop.inR ro C ok H a w _ hmem (λn hn=>?_))
   ·rintro a' w' ⟨v,ok',H',rfl,hgr,hnn,hm',hx⟩;exact hput _ v ok' H' w' rfl hgr hnn hm' hx
   have hnv:=Xo apE n hn;obtain⟨x,y⟩:=n;simp only at hnv ⊢;subst hnv;cases x with
   |tmp t=>
    refine hread t ?_;rw[En]at hnt
    have :t∈MF ns:=by
     unfold MF;rw[bV];exact⟨_,hn,rfl⟩
    simpa using hnt t this
   |const v=>exact .d _ _ (.lit v)
   |global g=>exact .d _ _ (.lit _)
   |func f=>exact .d _ _ (.fn (.func f) [] [] #[] #[] rfl rfl (λi hi=>Tf) (λi hi=>Tf))
  have hwant:Region.wanted ops[i] (yielded ops a.tmps)=false:=by
   unfold Region.wanted;obtain⟨j,want,d,v,hg,u,z,hv⟩:=hg;rw[hg];show(yielded ops a.tmps j==some want)=false;rw[aC7 j d _ ((M i _ L).2 j want hg) u z];rcases hv with rfl|rfl
   ·simp
   rfl
  rw[Ef (by rw[hwant];simp)];exact⟨λ_ _=>trivial,hput _ _ ok H w hx.symm (.refl _ _) (.refl _) (by rw[hev];exact hmem) (.d _ _ (.lit _))⟩
 ·rintro l a w ⟨h1,ok,H,m,avX,J,hmem,hsz,hdf,h5,h6,h7⟩ hr
  have hall:∀n i,i<n->i<ops.size->l.getD i false=true:=by
   intro n
   induction n with
   |zero=>intro i hi;omega
   |succ n ih=>
    intro i hi hi2;by_cases hn:i<n
    ·exact ih i hn hi2
    have hin:i=n:=AQ
    subst hin;rw[←Bool.not_eq_false];intro hf;have L:ops[i]? =some ops[i]:=by simp[hi2]
    have hmem:i∈Region.ready .any ops l:=by
     unfold Region.ready;rw[Gs];refine⟨by simpa using hi2,?_⟩;have hil:i<l.size:=AQ
     have hf':l.getD i true=false:=a8P
     rw[hf',L];simp only[JV,Fv,JR,MO];rw[TP];intro e he;cases hbe:Region.binds .any e with
     |false=>simp
     |true=>
      have hlt:=avm i _ L e qB hbe;rw[ih e.on AQ AQ];simp
    rw[hr]at hmem;simp at hmem
  refine hQ ok H _ _ ?_;subst hend
  have hE:(U ops.size).ents=(U m).ents:=Y m ops.size avX (EW _) (λb h2 h3=>by
   rw[←Z4];intro z
   exact absurd ((J b z h3).1 (hall (b+1) b AQ h3)) AQ)
  refine⟨by show E5 C ok H (U ops.size).ents w;rw[hE];exact hmem,by rw[rU];exact hsz,hdf,by rw[a3s];exact hh.base,λt ht=>?_⟩;rw[rU]at ht;by_cases hw:∃(j:Nat) (o:Oper),ops[j]? =some o/\o.dst=some t
  ·obtain⟨j,o,u,q⟩:=hw;have hjn:j<ops.size:=(IK.1 u).1;rw[a1f hinj u q ht ops.size hjn];exact h6 j o t u q (hall (j+1) j AQ hjn)
  have hw':∀(j:Nat) (o:Oper),ops[j]? =some o->o.dst≠some t:=λj o h1 h2=>hw ⟨j,o,h1,h2⟩;rw[a7j ops.size (λj o _ u=>hw' j o u)];exact h5 t ht (λj o u q=>absurd q (hw' j o u))
 ·unfold toCome;simp
 refine⟨Bf,ok,H,0,FB _,λb z _=>by simp[Array.getD],?_,hh.size,hh.defers.mono (λb z=>⟨z,rfl⟩),λt ht _=>?_,λi o d _ _ hl=>?_,λj o _ hl=>?_⟩
 ·exact⟨⟨hh.mem.fr.os,hh.mem.fr.tape,hh.mem.fr.output,hh.mem.fr.size,hh.mem.fr.block⟩,hh.mem.AY,hh.mem.AZ,hh.mem.kZ,hh.mem.names,hh.mem.hlen,λk e h h1 h2=>(hh.mem.ent k e h h1 h2).drew,hh.mem.blk,hh.mem.Iw⟩
 ·exact R.mono (w:=w) (ok:=ok) (w':={ w with drawn:=w.drawn+1 }) (λb z=>⟨z,rfl⟩) (.refl _) (hh.slot t ht)
 ·simp[Array.getD]at hl
 simp[Array.getD]at hl
def Bo.aBp {id:Nat}(hm:P.follows .mixedOrders=true)(j:(RJ ops&&Xt ops&&Yh ops σ.slots.length&&X6 ops)=true)(sl:A8 Nat)(q:TI ops bs sl=true)(h:Fh P ops ops.toList σ rs ess bs σ')(hsl:∀i,i∈sl->bs.getD i false=false/\∀m,i<=m->m<=ops.size->∀o,ops[i]? =some o->St P ops ⟨(Gp ops σ (λi=>rs.getD i .junk) (λi=>ess.getD i []) i).slots,(Gp ops σ (λi=>rs.getD i .junk) (λi=>ess.getD i []) m).ents,σ.base⟩ (rs.getD i .junk) (Gp ops σ (λi=>rs.getD i .junk) (λi=>ess.getD i []) m).ents false o)(u:Q .normal σ'):Bo P (.region id ops true) σ Q:=
 ⟨λro _ C ok H a w z=>a1j hm (Bo.aAw j sl q h hsl ro C ok H a w z _ λok' H' _ _ h=>⟨ok',H',σ',h,u⟩)⟩
def aLa (h:XB ops bs=true):TI ops bs []=true:=by
 unfold TI;unfold XB at h;simpa using h
def Bo.draw {id:Nat}{σ σ':BR}{Q:Exit->BR->Prop}{rs:A8 Ap}{ess:A8 (A8 Bd)}{bs:A8 Ad}(hm:P.follows .mixedOrders=true)(j:(RJ ops&&Xt ops&&Yh ops σ.slots.length&&X6 ops)=true)(q:XB ops bs=true)(h:Fh P ops ops.toList σ rs ess bs σ')(u:Q .normal σ'):Bo P (.region id ops true) σ Q:=
 Bo.aBp hm j [] (aLa q) h (λ_ hi=>absurd hi Gn) u
def DN:=@Bo.draw
end
def Ed (P:Cc)(f:FuncId)(args:A8 Ap)(E:A8 Bd)(q:Ap)(E':A8 Bd):Prop:=
 ∀(ok:Nat->Prop) (X:A8 Nat) (H:A8 CM) (w:Ba) (j:Bg BI),E5 ⟨w,ok,X,H⟩ ok H E w->j.size=args.length->(∀i,i<args.length->R ok w H (args.getD i .junk) (j.getD i undef))->
  Calls P f j w λe w'=>∃v ok' H',e=.returned v/\E5 ⟨w,ok,X,H⟩ ok' H' E' w'/\R ok' w' H' q v
def Holds.aAx (h:Holds C ok H σ a w)(t:Nat):R ok w H (σ.slots.getD t .junk) (a.tmps.getD t undef):=h.get (.tmp t)
def BR.enter (args:A8 Ap)(n:Nat)(E:A8 Bd):BR:=⟨args++List.replicate (n-args.length) .junk,E,E.length⟩
def R.lit (h:R ok w H (.d (.lit u)) v):v=u:=by
 cases h with |d _ _ h=>cases h;rfl
structure Ei (P:Program) (t:TypeId) (agg:Bool) (size:Nat):Prop where
 agg:∀w,(isAgg t).run P w=.ok agg w
 size:∀w,(sizeOf t).run P w=.ok size w
def aCo (P:Cc)(t:Bz)(agg:Ad)(size:Nat):Ad:=
 (match P.underlying t with |some (.struct _)|some (.array _ _)=>agg|some _=> !agg|none=>false)&&(match P.info? t with |some i=>i.size=size|none=>false)
variable {agg:Ad}{t:Bz}
def Fj (h:aCo P t agg size=true):Ei P t agg size:=by
 unfold aCo at h;simp only[DR]at h;refine⟨λw=>?_,λw=>?_⟩
 ·have h1:=h.1;cases j:P.underlying t with
  |none=>
   grind
  |some d=>
   rw[j]at h1;have e:(underlying t).run P w=.ok d w:=aCn
   simp only[isAgg,G6,e,GL];cases d<;>cases agg<;>simp_all
 have h2:=h.2;cases hi:P.info? t with
 |none=>
  grind
 |some i=>
  rw[hi]at h2;have :i.size=size:=LJ
  simp[sizeOf,typeInfo,hi,this]
variable {α:Type}{b f off:Nat}{c x y:CB}{cs:A8 Ap}{e' t':Bz}{i:Int}{kd:IntKind}{r v:BI}{s:BP}{xs:A8 D}{p:α->Prop}
section
variable {P:Cc} {o:Oper} {es:A8 Bd}
def MR {a:α}(h:∀n∈[a],p n):p a:=h a Bf
def FX {a b:α}(h:∀n∈[a,b],p n):p a/\p b:=⟨h a Bf,h b Bf⟩
def aFu {v:Ap}(j:o.op=.move x:=by exact rfl):CJ P o [(x,v)] es v es:=
 .pure λ_ _ a _ _ _ q=>⟨a.eval x,by simp[execOp,j],q (x,v) Bf⟩
def al1 {v:Ap}(j:o.op=.assign x:=by exact rfl):CJ P o [(x,v)] es v es:=
 .pure λ_ _ a _ _ _ q=>⟨a.eval x,by simp[execOp,j],q (x,v) Bf⟩
def ahO {v:Ap}(b:Ad)(q:b=true)(u:o.op=.pick c x y:=by exact rfl):CJ P o [(c,.d (.lit (.bool b))),(x,v)] es v es:=
 .pure λ_ _ a _ _ _ j=>⟨a.eval x,by
  have :=(FX j).1.lit;simp only at this
  simp[execOp,u,this,asBool,q],(FX j).2⟩
def ai2 {v:Ap}(b:Ad)(q:b=false)(u:o.op=.pick c x y:=by exact rfl):CJ P o [(c,.d (.lit (.bool b))),(y,v)] es v es:=
 .pure λ_ _ a _ _ _ j=>⟨a.eval y,by
  have :=(FX j).1.lit;simp only at this
  simp[execOp,u,this,asBool,q],(FX j).2⟩
def Iy {op:BinOp}(q:o.op=.binOp op t x y t')(h:∀w,(binOp op t u v).run P w=.ok r w)(z:u.oneCell'=true/\u matches .int _ _| .string _| .bool _):
 CJ P o [(x,.d (.lit u)),(y,.d (.lit v))] es (.d (.lit r)) es:=
 .pure λ_ _ a w _ _ j=>⟨r,by
  have h1:=(FX j).1.lit;have h2:=(FX j).2.lit;simp only at h1 h2
  have I:(eqGuard op t x y u v).run P w=.ok () w:=by
   unfold eqGuard;cases u<;>simp at z<;>(cases op<;>simp[pure,Sem.run_pure'])
  simp only[execOp,q,h1,h2,G6,I,h w,GL,Hf],.d _ _ (.lit _)⟩
def aEI {op:UnOp}(j:o.op=.unOp op t x)(h:∀w,(Op.unary op u).run P w=.ok r w):CJ P o [(x,.d (.lit u))] es (.d (.lit r)) es:=
 .pure λ_ _ a w _ _ q=>⟨r,by
  have h1:=(MR q).lit;simp only at h1
  simp only[execOp,j,h1,G6,h w,GL,Hf],.d _ _ (.lit _)⟩
def aS0 {s:Bz}(j:o.op=.convert s t x)(h:∀w,(convert s t u).run P w=.ok r w):CJ P o [(x,.d (.lit u))] es (.d (.lit r)) es:=
 .pure λ_ _ a w _ _ q=>⟨r,by
  have h1:=(MR q).lit;simp only at h1
  simp only[execOp,j,h1,G6,h w,GL,Hf],.d _ _ (.lit _)⟩
def ab5 {i:Nat}{xs:A8 Ap}{v:Ap}(z:o.op=.extract x i)(I:xs[i]? =some v):CJ P o [(x,.eH xs)] es v es:=
 .pure λok H a w _ _ J=>by
  have h1:=MR J;simp only at h1;generalize L:a.eval x=u at h1;cases h1 with
  |eH _ vs hl h=>
   obtain⟨hi,q⟩:=I4.1 I;have h2:=h i hi;have M:xs.getD i .junk=v:=by simp[List.getD,hi,q]
   have j:i<vs.size:=AQ
   have O:vs.getD i undef=vs[i]:=by simp[Array.getD,j]
   rw[M,O]at h2;exact⟨vs[i],by simp[execOp,z,L,Instr.extract,j],h2⟩
def aWa (I:P.underlying t=some (.slice e))(j:o.op=.call { callee:=.builtin .len,args:= #[x],argTypes:= #[t] }:=by exact rfl):
 CJ P o [(x,.d (.sl xs))] es (.d (.lit (.int .i64 xs.length))) es:=
 .pure λok H a w _ _ J=>by
  have h1:=MR J;simp only at h1;generalize q:a.eval x=u at h1;have z:(underlying t).run P w=.ok (.slice e) w:=by simp[underlying,I]
  refine⟨_,?_,.d _ _ (.lit _)⟩;cases h1 with
  |d _ _ h=>
   cases h with
   |sl0 ad cap=>simp[execOp,j,resolve,invoke,builtin,Builtin.len_,q,z,goInt]
   |sl _ b off cap size=>simp[execOp,j,resolve,invoke,builtin,Builtin.len_,q,z,goInt]
def afJ (j:P.underlying t=some .string)(q:o.op=.call { callee:=.builtin .len,args:= #[x],argTypes:= #[t] }:=by exact rfl):
 CJ P o [(x,.d (.lit (.string s)))] es (.d (.lit (.int .i64 s.size))) es:=
 .pure λok H a w _ _ u=>by
  have h1:=(MR u).lit;simp only at h1;have z:(underlying t).run P w=.ok .string w:=aCn
  exact⟨_,by simp[execOp,q,resolve,invoke,builtin,Builtin.len_,h1,z,goInt],.d _ _ (.lit _)⟩
def Hq {es:A8 Bd}(u:∀(k:Nat) (e:Bd) (h:CM),es[k]? =some e->H[k]? =some h->Fb ok w H h e)(hl:H.length=es.length){e:Bd}(q:es[k]? =some e):
 ∃h,H[k]? =some h/\Fb ok w H h e:=by
 have j:k<H.length:=by rw[hl];exact(I4.1 q).1
 exact⟨H[k],by simp[j],u k e _ q (by simp[j])⟩
def aa7 {s:Nat}(J:es[k]? =some (.arr e' s xs))(L:P.underlying t=some (.slice e))(M:o.op=.call { callee:=.builtin .len,args:= #[x],argTypes:= #[t] }:=by exact rfl):
 CJ P o [(x,.aQ k)] es (.d (.lit (.int .i64 xs.length))) es:=
 .pure λok H a w j hl O=>by
  have h1:=MR O;simp only at h1;generalize U:a.eval x=u at h1;have Y:(underlying t).run P w=.ok (.slice e) w:=by simp[underlying,L]
  obtain⟨h,Z,q⟩:=Hq j hl J;refine⟨_,?_,.d _ _ (.lit _)⟩;cases h1 with
  |aQ _ ad n cap s' I=>
   rw[Z]at I;obtain rfl:=Dx I;obtain⟨_,_,ys,⟨_,ho2⟩,_⟩:=q
   have z:n=xs.length:=by
    grind
   subst z;simp[execOp,M,resolve,invoke,builtin,Builtin.len_,U,Y,goInt]
structure ED (P:Program) (t:TypeId) (f off:Nat):Prop where
 run:∀(b o:Nat) w,(Instr.fieldAt t (.pointer (some ⟨b,o,none⟩)) f).run P w=.ok (.pointer (some ⟨b,o+off,none⟩)) w
def aM9 (P:Cc)(t:Bz)(f off:Nat):Ad:=
 match P.underlying t with
 |some (.struct q)=>match q[f]? with
  |some j=>j.offset=off&&(match P.info? j.type with |some i=>i.size≠0|none=>false)
  |none=>false
 |_=>false
def EK {P:Cc}(h:aM9 P t f off=true):ED P t f off:=by
 unfold aM9 at h;refine⟨λb o w=>?_⟩;split at h
 ·rename_i q u;split at h
  ·rename_i z I;simp only[DR,IQ]at h;obtain⟨h1,h2⟩:=h;split at h2
   ·rename_i i hi;have hs:(sizeOf z.type).run P w=.ok i.size w:=by simp[sizeOf,typeInfo,hi]
    have h3:i.size≠0:=LJ
    have j:(underlying t).run P w=.ok (.struct q) w:=by simp[underlying,u]
    simp[Instr.fieldAt,j,I,Instr.sureAddr,fieldPlace,hs,h3,addr_add,h1]
   cases h2
  cases h
 cases h
def aiR {cs:A8 D}(I:ED P t f off)(J:o.op=.fieldAddr t x f:=by exact rfl):CJ P o [(x,.d (.ref cs j))] es (.d (.ref cs (j+off))) es:=
 .pure λok H a w _ _ L=>by
  have h1:=MR L;simp only at h1;generalize M:a.eval x=u at h1;cases h1 with
  |d _ _ h=>
   cases h with
   |ref _ _ b p q z O U=>
    refine⟨.pointer (some ⟨b,p+(j+off),none⟩),?_,.d _ _ (.ref cs (j+off) b p q z O U)⟩;simp only[execOp,J,M,G6,I.run,GL,Hf,V3]
def aaV (q:ED P t f off)(z:o.op=.fieldAddr t x f:=by exact rfl):CJ P o [(x,.ptr k j)] es (.ptr k (j+off)) es:=
 .pure λok H a w _ _ I=>by
  have h1:=MR I;simp only at h1;generalize J:a.eval x=u at h1;cases h1 with
  |ptr _ _ b s h=>
   refine⟨.pointer (some ⟨b,j+off,none⟩),?_,.ptr _ _ b s h⟩;simp only[execOp,z,J,G6,q.run,GL,Hf]
def afl {i:Nat}(q:ED P t f off)(z:o.op=.fieldAddr t x f:=by exact rfl):CJ P o [(x,.lY k i j)] es (.lY k i (j+off)) es:=
 .pure λok H a w _ _ I=>by
  have h1:=MR I;simp only at h1;generalize J:a.eval x=u at h1;cases h1 with
  |lY _ _ _ b n cap s h=>
   refine⟨.pointer (some ⟨b,i*s+(j+off),none⟩),?_,.lY _ _ _ b n cap s h⟩;simp only[execOp,z,J,G6,q.run,GL,Hf,V3]
def zZ {k:IntKind}{el:D}(Z:P.underlying t=some (.slice e))(hT:Ei P e agg size)(h0:0<=i)(hi:xs[i.toNat]? =some el)(hs:el.cells.length=size)(ho:o.op=.indexAddr t x y:=by exact rfl):CJ P o [(x,.d (.sl xs)),(y,.d (.lit (.int k i)))] es (.d (.ref el.cells 0)) es:=
 .pure λok H a w _ _ U=>by
  have h1:=(FX U).1;have h2:=(FX U).2.lit;simp only at h1 h2;generalize he:a.eval x=u at h1;have hu:(underlying t).run P w=.ok (.slice e) w:=by simp[underlying,Z]
  obtain⟨z,J⟩:=I4.1 hi;cases h1 with
  |d _ _ h=>
   cases h with
   |sl0 ad cap=>simp at z
   |sl _ b off cap q Y L M hf hx hc=>
    have hd:xs.getD i.toNat EM=el:=by simp[List.getD,z,J]
    have O:q=size:=by rw[←M _ z,hd,hs]
    subst O;refine⟨.pointer (some ⟨b,off+i.toNat*q+0,none⟩),?_,.d _ _ (.ref el.cells 0 b (off+i.toNat*q) (λh=>L AQ (by rw[hs]at h;exact h)) ?_ ?_ ?_)⟩
    ·have hlen:0<=i/\i<(xs.length:Int):=⟨h0,AQ⟩
     simp only[execOp,ho,he,h2,Instr.indexAt,asIntOf,G6,Hf,hu,GL,Sem.run_ite,hlen,and_self,KL,hT.size,addr_add,QK]
    ·intro j I;rw[hs]at I;rw[←hd];exact hf _ z j I
    ·intro j I;rw[hs]at I;rw[V3];exact hx _ z j I
    intro j I;rw[hs]at I;rw[V3,←hd];exact hc _ z j I
def aad (U:es[k]? =some (.arr e' size xs))(Y:P.underlying t=some (.slice e))(Z:Ei P e agg size)(h0:0<=i)(hi:i.toNat<xs.length)(ho:o.op=.indexAddr t x y:=by exact rfl):CJ P o [(x,.aQ k),(y,.d (.lit (.int kd i)))] es (.lY k i.toNat 0) es:=
 .pure λok H a w q hl J=>by
  have h1:=(FX J).1;have h2:=(FX J).2.lit;simp only at h1 h2;generalize he:a.eval x=u at h1;have hu:(underlying t).run P w=.ok (.slice e) w:=by simp[underlying,Y]
  obtain⟨h,L,z⟩:=Hq q hl U;cases h1 with
  |aQ _ ad n cap s' M=>
   rw[L]at M;obtain rfl:=Dx M;obtain⟨hs,_,ys,⟨_,I⟩,_⟩:=z;simp only at hs;subst hs;rcases I with⟨j,h3⟩|⟨g,O,cur,j,_⟩
   ·omega
   simp only[mY]at j;obtain⟨rfl,rfl,rfl⟩:=j;refine⟨.pointer (some ⟨g,i.toNat*s'+0,none⟩),?_,.lY _ _ _ _ _ _ _ L⟩;have hlen:0<=i/\i<(xs.length:Int):=⟨h0,AQ⟩
   simp only[execOp,ho,he,h2,Instr.indexAt,asIntOf,G6,Hf,hu,GL,Sem.run_ite,hlen,and_self,KL,Z.size,addr_add,KD,QK]
def aaA {k:IntKind}{c:UInt8}(q:P.underlying t=some .string)(u:0<=i)(hi:s[i.toNat]? =some c)(z:o.op=.index t x y:=by exact rfl):
 CJ P o [(x,.d (.lit (.string s))),(y,.d (.lit (.int k i)))] es (.d (.lit (.int .u8 c.toNat))) es:=
 .pure λok H a w _ _ j=>by
  have h1:=(FX j).1.lit;have h2:=(FX j).2.lit;simp only at h1 h2;have I:(underlying t).run P w=.ok .string w:=aIE
  exact⟨_,by simp only[execOp,z,h1,h2,Instr.index,asIntOf,G6,Hf,I,GL,u,KL,hi],.d _ _ (.lit _)⟩
def Jy (l:A8 Ap):A8 D:=l.map λ| .d x=>x|_=>EM
def Ap.Dp:Ap->Ad
 | .d _=>true
 |_=>false
def R.toD {x:Ap}(h:R ok w H x v)(hd:x.Dp=true):EJ ok w ((λ| .d x=>x|_=>EM) x) v:=by
 cases h with
 |d _ _ h=>exact h
 |_=>simp[Ap.Dp]at hd
def Qh (agg:Ad)(cs:A8 D)(off n:Nat):D:=if agg then .agg ((cs.drop off).take n)else cs.getD off EM
def a3G {P:Cc}{p:Nat}{cs:A8 D}(M:Ei P t agg n)(hn:off+n<=cs.length)(h1:agg=false->n=1)(U:∀i,i<cs.length->(cs.getD i EM).leaf=true)(Y:∀j,j<cs.length->(w.cell? ⟨b,p+j,none⟩).isSome=true)(O:∀j,j<cs.length->EJ ok w (cs.getD j EM) (cellAt w b (p+j))):
 ∃v,(Instr.loadAt t (.pointer (some ⟨b,p+off,none⟩))).run P w=.ok v w/\EJ ok w (Qh agg cs off n) v:=by
 have q:∀j,j<cs.length->w.cell? ⟨b,p+j,none⟩=some (cellAt w b (p+j)):=by
  intro j I;have :=Y j I;obtain⟨u,Z⟩:=SA.1 this;simp[cellAt,Z]
 cases agg with
 |false=>
  have :=h1 rfl;subst this;refine⟨cellAt w b (p+off),?_,O off AQ⟩;have L:=q off AQ;simp[Instr.loadAt,Instr.sureAddr,loadVar,M.agg,L]
 |true=>
  let vs:Bg BI:=((List.range n).map λj=>cellAt w b (p+(off+j))).toArray
  have z:vs.size=n:=by simp[vs]
  have J:∀j,j<n->vs.getD j undef=cellAt w b (p+(off+j)):=by
   intro j I;simp[vs,Array.getD,I]
  refine⟨.agg vs,?_,?_⟩
  ·simp only[Instr.loadAt,Instr.sureAddr,G6,Hf,GL]
   have h:=ae0 (P:=P) w t b (p+off) vs (M.agg w) (by rw[z];exact M.size w) (λj I=>by
    rw[z]at I;rw[J j I,V3]
    exact q (off+j) AQ)
   exact h
  simp only[Qh,KL];have hlen:((cs.drop off).take n).length=n:=Ej
  have L:∀i,i<n->((cs.drop off).take n).getD i EM=cs.getD (off+i) EM:=by
   grind
  refine .agg _ vs (by rw[hlen,z]) (λi hi=>?_) (λi hi=>?_)
  ·rw[hlen]at hi;rw[L i hi];exact U _ AQ
  rw[hlen]at hi;rw[L i hi,J i hi];exact O _ AQ
def adC {cs:A8 D}(z:Ei P t agg n)(I:off+n<=cs.length)(h1:agg=false->n=1)(J:o.op=.load t x:=by exact rfl):
 CJ P o [(x,.d (.ref cs off))] es (.d (Qh agg cs off n)) es:=
 .pure λok H a w _ _ q=>by
  have j:=MR q;simp only at j;generalize L:a.eval x=u at j;cases j with
  |d _ _ h=>
   cases h with
   |ref _ _ b p M O U Y=>
    obtain⟨v,Z,hd⟩:=a3G z I h1 O U Y;exact⟨v,by simp only[execOp,J,L,G6,Z,GL,Hf],.d _ _ hd⟩
def wX (l:A8 Ap):(Jy l).length=l.length:=by simp[Jy]
def aSJ {l:A8 Ap}{i:Nat}(h:i<l.length):(Jy l).getD i EM=(λ| .d x=>x|_=>EM) (l.getD i .junk):=by
 simp[Jy,List.getD,h]
def aDv (O:Fb ok w H h (.box cs))(hd:cs.all Ap.Dp=true):
 ∃b,h.v=.pointer (some ⟨b,0,none⟩)/\(∀i,i<(Jy cs).length->((Jy cs).getD i EM).leaf=true)/\(∀j,j<(Jy cs).length->(w.cell? ⟨b,0+j,none⟩).isSome=true)/\(∀j,j<(Jy cs).length->EJ ok w ((Jy cs).getD j EM) (cellAt w b (0+j))):=by
 obtain⟨b,vs,T,h1,h2,h3,I⟩:=O;rw[En]at hd
 have q:∀j,j<cs.length->w.cell? ⟨b,0+j,none⟩=some (vs.toList.getD j undef):=by
  intro j u;rw[KD];have z:j<vs.size:=by simpa using(by omega:j<vs.toList.length)
  simp[World.cell?,h2,z,List.getD]
 refine⟨b,h1,λi hi=>?_,λj u=>?_,λj u=>?_⟩
 ·rw[wX]at hi;rw[aSJ hi];have J:=(I i hi).1;have L:=hd (cs.getD i .junk) OE;cases M:cs.getD i .junk with
  |d x=>rw[M]at J;exact J
  |_=>rw[M]at L;simp[Ap.Dp]at L
 ·rw[wX]at u;rw[q j u];rfl
 rw[wX]at u;rw[aSJ u];unfold cellAt;rw[q j u];exact(I j u).2.toD (hd (cs.getD j .junk) aCs)
def ag4 (O:es[k]? =some (.box cs))(hd:cs.all Ap.Dp=true)(U:Ei P t agg n)(Y:off+n<=cs.length)(h1:agg=false->n=1)(Z:o.op=.load t x:=by exact rfl):
 CJ P o [(x,.ptr k off)] es (.d (Qh agg (Jy cs) off n)) es:=
 .pure λok H a w q hl z=>by
  have j:=MR z;simp only at j;generalize he:a.eval x=u at j;obtain⟨h,hh,I⟩:=Hq q hl O;obtain⟨b,J,hf,hx,hc⟩:=aDv I hd;cases j with
  |ptr _ _ b' s L=>
   rw[hh]at L;obtain rfl:=Dx L;simp at J;subst J;obtain⟨v,M,hD⟩:=a3G U (by rw[wX];exact Y) h1 hf hx hc;rw[KD]at M;exact⟨v,by simp only[execOp,Z,he,G6,M,GL,Hf],.d _ _ hD⟩
def aOO {v:Ap}(Y:es[k]? =some (.box cs))(Z:cs[off]? =some v)(hT:Ei P t false 1)(ho:o.op=.load t x:=by exact rfl):CJ P o [(x,.ptr k off)] es v es:=
 .pure λok H a w z hl J=>by
  have q:=MR J;simp only at q;generalize he:a.eval x=u at q;obtain⟨h,hh,b,vs,T,M,h2,h3,h4⟩:=Hq z hl Y;cases q with
  |ptr _ _ b' s O=>
   rw[hh]at O;obtain rfl:=Dx O;simp at M;subst M;obtain⟨I,L⟩:=I4.1 Z;have U:=(h4 off I).2;have e1:cs.getD off .junk=v:=by simp[List.getD,I,L]
   have j:off<vs.size:=by simpa using(by omega:off<vs.toList.length)
   have e2:vs.toList.getD off undef=vs[off]:=yP
   rw[e1,e2]at U;refine⟨vs[off],?_,U⟩;have hc:w.cell? ⟨b',off,none⟩=some vs[off]:=by simp[World.cell?,h2,j]
   simp[execOp,ho,he,Instr.loadAt,Instr.sureAddr,loadVar,hT.agg,hc]
end
variable {H':A8 CM}
def E5.change (hm:E5 C ok H es w)(B:Nat->Prop)(hos:w'.os=w.os)(M:w'.tape=w.tape)(hout:w'.output=w.output)(q:w.heap.size<=w'.heap.size)(J:∀b,b<w.heap.size->¬B b->w'.heap[b]? =w.heap[b]?)(hB:∀b,B b->b<w.heap.size->¬ok b/\(C.w0.heap.size<=b\/b∈C.X))(hok:∀b,ok b->ok' b)(L:∀b,ok' b->ok b\/(w.heap.size<=b/\b<w'.heap.size))(z:Names H H')(hlen:H'.length=es'.length)(I:∀(k:Nat) (e:Bd) (h:CM),es'[k]? =some e->H'[k]? =some h->
  (es[k]? =some e/\H[k]? =some h/\(e.live=true->∀b,EC h.v=some b->¬B b))\/
  (Fb ok' w' H' h e/\(e.live=true->∀b,EC h.v=some b->¬ok' b/\b<w'.heap.size/\(C.w0.heap.size<=b\/b∈C.X)/\
   ∀(k':Nat) (e':Bd) (h':CM),k'≠k->es'[k']? =some e'->e'.live=true->H'[k']? =some h'->EC h'.v≠some b))):
 E5 C ok' H' es' w'/\FP ok w ok' w':=by
 have hg:FP ok w ok' w':=λb j=>⟨hok b j,J b (hm.kZ b j) (λu=>(hB b u (hm.kZ b j)).1 j)⟩
 refine⟨⟨⟨hos.trans hm.fr.os,M.trans hm.fr.tape,hout.trans hm.fr.output,EI hm.fr.size q,λk hk hx=>?_⟩,λb j=>hok b (hm.AY b j),?_,?_,hm.names.trans z,hlen,?_,?_,?_⟩,hg⟩
 ·have hkw:k<w.heap.size:=XH hk hm.fr.size;rw[J k hkw (λj=>(hB k j hkw).2.elim (λh=>AQ) hx)];exact hm.fr.block k hk hx
 ·intro b j;rcases L b j with h|⟨h,_⟩
  ·exact hm.AZ b h
  exact .inr (.inl (EI hm.fr.size h))
 ·intro b j;rcases L b j with h|⟨_,h⟩
  ·exact XH (hm.kZ b h) q
  exact h
 ·intro k e h Z hh;rcases I k e h Z hh with⟨h1,h2,h3⟩|⟨h1,_⟩
  ·exact(hm.ent k e h h1 h2).mono hg z (λhl b j=>J b (hm.blk k e h b h1 hl h2 j).2.1 (h3 hl b j))
  exact h1
 ·intro k e h b Z hl hh j;rcases I k e h Z hh with⟨h1,h2,h3⟩|⟨_,h1⟩
  ·have :=hm.blk k e h b h1 hl h2 j;refine⟨λu=>?_,XH this.2.1 q,this.2.2⟩;rcases L b u with h4|⟨h4,_⟩
   ·exact this.1 h4
   omega
  exact⟨(h1 hl b j).1,(h1 hl b j).2.1,(h1 hl b j).2.2.1⟩
 intro k k' e e' h h' b Z he' hl O hh hh' j u;apply rV;intro U;rcases I k e h Z hh with⟨h1,h2,h3⟩|⟨_,h1⟩
 ·rcases I k' e' h' he' hh' with⟨Y,h2',h3'⟩|⟨_,Y⟩
  ·exact U (hm.Iw k k' e e' h h' b h1 Y hl O h2 h2' j u)
  exact(Y O b u).2.2.2 k e h U Z hl hh j
 exact(h1 hl b j).2.2.2 k' e' h' (λe=>U e.symm) he' O hh' u
variable {l:A8 α}
def a5z {i:Nat}{z:α}(h:i<l.length):l.getD i z=l[i]:=by simp[List.getD,h]
def Y8 {a x:α}(h:(l++[a])[k]? =some x):l[k]? =some x\/(k=l.length/\x=a):=by
 grind
def E5.push (hm:E5 C ok H es w)(o:Obj)(h:CM)(e:Bd)(z:∀b,EC h.v=some b->b=w.heap.size)(Z:Fb ok (w.alloc o) (H++[h]) h e):E5 C ok (H++[h]) (es++[e]) (w.alloc o)/\FP ok w ok (w.alloc o):=by
 refine hm.change (λ_=>False) rfl rfl rfl Bf (λb z _=>MH _ _ _ z) (λ_ h=>h.elim) (λ_ h=>h) (λ_ h=>.inl h) (IW _ _) jh ?_;intro k e' h' I q;rcases Y8 I with h1|⟨h1,h2⟩
 ·left;refine⟨h1,?_,λ_ _ _ h=>h⟩;have Y:k<H.length:=aKa
  grind
 subst h2;have Y:k=H.length:=aHB
 subst Y;simp at q;subst q;refine .inr ⟨Z,λ_ b J=>?_⟩;obtain rfl:=z b J;refine⟨λh3=>absurd (hm.kZ _ h3) AQ,Bf,.inl hm.fr.size,λk' L M hne O hl j u=>?_⟩;rcases Y8 O with h3|⟨h3,_⟩
 ·have U:k'<H.length:=by rw[hm.hlen];exact(I4.1 h3).1
  rw[KI U]at j;exact absurd (hm.blk k' L M _ h3 hl j u).2.1 AQ
 grind
def E5.fresh (hm:E5 C ok H es w)(o:Obj):
 E5 C (λb=>ok b\/b=w.heap.size) H es (w.alloc o)/\FP ok w (λb=>ok b\/b=w.heap.size) (w.alloc o):=by
 refine hm.change (λ_=>False) rfl rfl rfl Bf (λb j _=>MH _ _ _ j) (λ_ h=>h.elim) (λ_ h=>.inl h) (λb h=>?_) (.refl _) hm.hlen ?_
 ·rcases h with h|rfl
  ·exact .inl h
  exact .inr ⟨EW _,Bf⟩
 grind
def E5.drew (hm:E5 C ok H es w):E5 C ok H es w.drew/\FP ok w ok w.drew:=
 hm.change (λ_=>False) rfl rfl rfl (EW _) (λ_ _ _=>rfl) (λ_ h=>h.elim) (λ_ h=>h) (λ_ h=>.inl h) (.refl _) hm.hlen λ_ _ _ j q=>.inl ⟨j,q,λ_ _ _ h=>h⟩
def Fb.dead:Fb ok w H h .dead:=trivial
def R.ams {x:Ap}(h:R ok w H x v)(hl:x.cells.all Ap.leaf=true):Gx ok w H x.cells v.cells.toList:=by
 rw[En]at hl;cases h with
 |d x v h=>
  cases h with
  |agg cs vs hs z J=>
   refine⟨by simp[Ap.cells,D.cells,Value.cells,hs],λi hi=>?_⟩;simp only[Ap.cells,D.cells,Df]at hi;have L:(Ap.cells (.d (.agg cs))).getD i .junk=.d (cs.getD i EM):=by simp[Ap.cells,D.cells,List.getD,hi]
   have q:i<vs.size:=AQ
   have I:(Value.cells (.agg vs)).toList.getD i undef=vs.getD i undef:=aTn
   rw[L,I];exact⟨z i hi,.d _ _ (J i hi)⟩
  |lit v=>
   have h1:=hl (.d (.lit v)) (by simp[Ap.cells,D.cells]);have e:v.cells= #[v]:=by cases v<;>first|rfl|(simp[Ap.leaf,D.leaf,Value.oneCell']at h1)
   refine⟨by simp[Ap.cells,D.cells,e],λi hi=>?_⟩;simp[Ap.cells,D.cells]at hi;subst hi;rw[e];exact⟨h1,.d _ _ (.lit v)⟩
  |sl0 ad cap=>
   refine⟨rfl,λi hi=>?_⟩;simp[Ap.cells,D.cells]at hi;subst hi;exact⟨rfl,.d _ _ (.sl0 ad cap)⟩
  |sl es b off cap size h1 h2 h3 u M O=>
   refine⟨rfl,λi hi=>?_⟩;simp[Ap.cells,D.cells]at hi;subst hi;exact⟨rfl,.d _ _ (.sl es b off cap size h1 h2 h3 u M O)⟩
  |ref cs off b o h1 h2 h3 u=>
   refine⟨rfl,λi hi=>?_⟩;simp[Ap.cells,D.cells]at hi;subst hi;exact⟨rfl,.d _ _ (.ref cs off b o h1 h2 h3 u)⟩
  |fn f first cap vs us h1 h2 h3 u=>
   refine⟨rfl,λi hi=>?_⟩;simp[Ap.cells,D.cells]at hi;subst hi;exact⟨rfl,.d _ _ (.fn f first cap vs us h1 h2 h3 u)⟩
  |RX t x v h1=>
   refine⟨rfl,λi hi=>?_⟩;simp[Ap.cells,D.cells]at hi;subst hi;exact⟨rfl,.d _ _ (.RX t x v h1)⟩
 |ptr k off b s h=>
  exact⟨rfl,λi hi=>by simp[Ap.cells]at hi;subst hi;exact⟨rfl,.ptr k off b s h⟩⟩
 |aQ k ad n cap s h=>
  exact⟨rfl,λi hi=>by simp[Ap.cells]at hi;subst hi;exact⟨rfl,.aQ k ad n cap s h⟩⟩
 |lY k i off b n cap s h=>
  exact⟨rfl,λj hi=>by simp[Ap.cells]at hi;subst hi;exact⟨rfl,.lY k i off b n cap s h⟩⟩
 |fn f first cap vs us h1 h2 h3 u=>
  exact⟨rfl,λi hi=>by simp[Ap.cells]at hi;subst hi;exact⟨rfl,.fn f first cap vs us h1 h2 h3 u⟩⟩
 |mp k v s hl h=>
  have e:v.cells= #[v]:=by cases v<;>first|rfl|(simp[Value.oneCell']at hl)
  exact⟨by simp[Ap.cells,e],λj hi=>by simp[Ap.cells]at hi;subst hi;rw[e];exact⟨rfl,.mp k v s hl h⟩⟩
 |clip xs ad h=>exact⟨rfl,λi hi=>by simp[Ap.cells]at hi;subst hi;exact⟨rfl,.clip xs ad h⟩⟩
 |yh k ad n cap s h=>exact⟨rfl,λi hi=>by simp[Ap.cells]at hi;subst hi;exact⟨rfl,.yh k ad n cap s h⟩⟩
 |eH xs vs h1 h2=>have :=hl (.eH xs) (by simp[Ap.cells]);simp[Ap.leaf]at this
 |ag xs vs h1 z h2=>
  refine⟨by simp[Ap.cells,Value.cells,h1],λi hi=>?_⟩;have q:i<vs.size:=by rw[h1];exact hi
  have I:(Value.cells (.agg vs)).toList.getD i undef=vs.getD i undef:=aTn
  rw[I];exact⟨z i hi,h2 i hi⟩
 |junk v=>have :=hl .junk (by simp[Ap.cells]);simp[Ap.leaf]at this
variable {ys:A8 α}{z:BI}
section
variable {P:Cc} {o:Oper} {es:A8 Bd}
def a3e (w:Ba):∀b,EC (CM.v ⟨.pointer (some ⟨w.heap.size,0,none⟩),0⟩)=some b->b=w.heap.size:=λb j=>by simpa[EC]using j.symm
def CJ.eff {x:Ap}(h:∀(C:Ez) (ok:Nat->Prop) (H:A8 CM) (a:Act) (w:Ba),E5 C ok H es w->(∀n∈ns,R ok w H n.2 (a.eval n.1))->
  ∃v w' ok' H',((execOp a.eval o).run P w=.ok (.value v) w'\/(v=undef/\(execOp a.eval o).run P w=.ok .skip w'))/\FP ok w ok' w'/\Names H H'/\E5 C ok' H' es' w'/\R ok' w' H' x v):CJ P o ns es x es':=by
 intro C ok H a w Q hm u;obtain⟨v,w',ok',H',j,h1,h2,h3,q⟩:=h C ok H a w hm u;unfold Oper.wp;rcases j with j|⟨rfl,j⟩
 ·rw[j];exact⟨v,ok',H',rfl,h1,h2,h3,q⟩
 rw[j];exact⟨undef,ok',H',rfl,h1,h2,h3,q⟩
def amy {v:Ap}(hl:v.cells.all Ap.leaf=true)(q:o.op=.box t x:=by exact rfl):CJ P o [(x,v)] es (.ptr es.length 0) (es++[.box v.cells]):=
 .eff λC ok H a w hm u=>by
  have h1:=MR u;simp only at h1
  have j:Fb ok (w.alloc (.cells (a.eval x).cells t)) (H++[⟨.pointer (some ⟨w.heap.size,0,none⟩),0⟩]) ⟨.pointer (some ⟨w.heap.size,0,none⟩),0⟩ (.box v.cells):=
   ⟨w.heap.size,(a.eval x).cells,t,rfl,Vq w _,(h1.ams hl).mono (λb j=>⟨j,MH _ _ _ (hm.kZ b j)⟩) (IW _ _)⟩
  obtain⟨h2,h3⟩:=hm.push (.cells (a.eval x).cells t) ⟨.pointer (some ⟨w.heap.size,0,none⟩),0⟩ _ (a3e w) j;refine⟨_,_,ok,_,.inl ?_,h3,IW _ _,h2,.ptr _ _ w.heap.size 0 Qg⟩;simp[execOp,q,Instr.box,newVar,newRow]
def QC :BI->D
 | .slice none 0 0=>.sl []
 |v=>.lit v
def lI (v:BI):EJ ok w (QC v) v:=by
 unfold QC;split
 ·exact .sl0 none 0
 exact .lit v
def sD (h:v.oneCell'=true):(QC v).leaf=true:=by
 unfold QC;split
 ·rfl
 exact h
def GN (z:BI):A8 Ap:=z.cells.toList.map λv=>.d (QC v)
def aaY (q:(P.info? t).bind (·.zero)=some z)(hl:z.cells.all (·.oneCell')=true)(u:o.op=.alloc t:=by exact rfl):CJ P o [] es (.ptr es.length 0) (es++[.box (GN z)]):=
 .eff λC ok H a w hm M=>by
  have I:Fb ok (w.alloc (.cells z.cells t)) (H++[⟨.pointer (some ⟨w.heap.size,0,none⟩),0⟩]) ⟨.pointer (some ⟨w.heap.size,0,none⟩),0⟩ (.box (GN z)):=by
   refine⟨w.heap.size,z.cells,t,rfl,Vq w _,by simp[GN],λi hi=>?_⟩;simp only[GN,Df,Ua]at hi;have J:(GN z).getD i .junk=.d (QC z.cells[i]):=by simp[GN,List.getD,hi]
   have L:z.cells.toList.getD i undef=z.cells[i]:=OE
   rw[J,L];exact⟨sD ((TP.1 hl) _ Bf),.d _ _ (lI _)⟩
  obtain⟨h2,h3⟩:=hm.push (.cells z.cells t) ⟨.pointer (some ⟨w.heap.size,0,none⟩),0⟩ _ (a3e w) I;refine⟨_,_,ok,_,.inl ?_,h3,IW _ _,h2,.ptr _ _ w.heap.size 0 Qg⟩;obtain⟨i,hi,j⟩:=lg.1 q;simp[execOp,u,Instr.alloc,zeroValue,typeInfo,hi,j,newVar,newRow]
def OA {l:A8 Bd}{a x:Bd}(q:k<l.length)(h:(l.set k a)[j]? =some x):(j=k/\x=a)\/(j≠k/\l[j]? =some x):=by
 grind
def E5.upd (hm:E5 C ok H es w){M e:Bd}(hk:es[k]? =some M)(I:M.live=true)(hh:H[k]? =some h)(hb:EC h.v=some b)(hos:w'.os=w.os)(J:w'.tape=w.tape)(O:w'.output=w.output)(hsize:w'.heap.size=w.heap.size)(z:∀c,c≠b->w'.heap[c]? =w.heap[c]?)(he:FP ok w ok w'->Fb ok w' H h e):E5 C ok H (es.set k e) w'/\FP ok w ok w':=by
 have U:=hm.blk k M h b hk I hh hb;have hg:FP ok w ok w':=λc q=>⟨q,z c (λe=>U.1 (e▸q))⟩
 refine hm.change (λc=>c=b) hos J O AQ (λc _ q=>z c q) (λc q _=>by subst q;exact⟨U.1,U.2.2⟩) (λ_ h=>h) (λ_ h=>.inl h) (.refl _) jh ?_;intro j e' h' hj u;have Y:k<es.length:=(I4.1 hk).1;rcases OA Y hj with⟨rfl,rfl⟩|⟨L,Z⟩
 ·rw[hh]at u;obtain rfl:=Dx u;refine .inr ⟨he hg,λ_ c q=>?_⟩;rw[hb]at q;obtain rfl:=Dx q;refine⟨U.1,AQ,U.2.2,λk' e'' h'' L hk' hl' aLU aLV=>L ?_⟩;rcases OA Y hk' with⟨rfl,_⟩|⟨_,hk''⟩
  ·rfl
  exact hm.Iw k' j e'' M h'' h b hk'' hk hl' I aLU hh aLV hb
 refine .inl ⟨Z,u,λhl c q hcb=>L ?_⟩;subst hcb;exact hm.Iw j k e' M h' h c Z hk hl I u hh q hb
def aIN (w:Ba)(g:Nat)(cs:Bg BI)(k:Nat)(h:k≠g):(w.setRow g cs).heap[k]? =w.heap[k]? :=setRow_other w g k cs h
def setAt (cs:A8 α)(off:Nat)(ys:A8 α):A8 α:=cs.take off++ys++cs.drop (off+ys.length)
def UE {cs:A8 α}(h:off+ys.length<=cs.length):(setAt cs off ys).length=cs.length:=by simp[setAt];omega
def bF {cs:A8 α}(h:off+ys.length<=cs.length)(i:Nat)(z:α):(setAt cs off ys).getD i z=if off<=i/\i<off+ys.length then ys.getD (i-off) z else cs.getD i z:=by
 unfold setAt;have h1:(cs.take off).length=off:=Ej
 by_cases hi:i<off
 ·grind
 by_cases j:i<off+ys.length
 ·rw[ET AQ];simp only[List.getD]
  grind
 rw[Ef AQ]
 grind
def aW1 {v:Ap}(hk:es[k]? =some (.box cs))(hl:v.cells.all Ap.leaf=true)(hs:∀w,(sizeOf t).run P w=.ok n w)(hn:v.cells.length=n)(hle:off+n<=cs.length)(ho:o.op=.store t x y:=by exact rfl):
 CJ P o [(x,.ptr k off),(y,v)] es .junk (es.set k (.box (setAt cs off v.cells))):=
 .eff λC ok H a w hm I=>by
  have h1:=(FX I).1;have h2:=(FX I).2;simp only at h1 h2;generalize he:a.eval x=u at h1;obtain⟨h,hh,U⟩:=Hq hm.ent hm.hlen hk;obtain⟨b,vs,T,hb,q,J,L⟩:=U;have j:=h2.ams hl;cases h1 with
  |ptr _ _ M s hH=>
   rw[hh]at hH;obtain rfl:=Dx hH;simp at hb;subst hb;have z:(a.eval y).cells.toList.length=n:=by rw[j.1,hn]
   have aR1:vs.size=cs.length:=jw
   have Y:(a.eval y).cells.size=n:=UW
   have hst:=aBa (P:=P) M off T (a.eval y).cells.toList 0 vs w q (by rw[z];omega) (λu hu=>by
    obtain⟨i,hi,rfl⟩:=G8 hu;have O:=j.2 i (by rw[←j.1];exact hi);have :=O.2.leaf O.1
    rwa [a5z hi]at this)
   simp only[QK]at hst;have hlt:M<w.heap.size:=(IK.1 q).1
   obtain⟨h3,h4⟩:=hm.upd (e:=.box (setAt cs off v.cells)) (w':=w.setRow M (vs.toList.take off++(a.eval y).cells.toList++vs.toList.drop (off+(a.eval y).cells.toList.length)).toArray) hk rfl hh rfl rfl rfl rfl aIh (λc hc=>aIN _ _ _ _ hc) (λhg=>by
    refine⟨M,_,T,rfl,wG w M vs _ T (0,0) q,?_,λi hi=>?_⟩
    ·have Z:(vs.toList.take off++(a.eval y).cells.toList++vs.toList.drop (off+(a.eval y).cells.toList.length))=setAt vs.toList off (a.eval y).cells.toList:=rfl;rw[Z,aAJ,UE (by have :=vs.length_toList;omega),UE AQ];simpa using J
    have Z:(vs.toList.take off++(a.eval y).cells.toList++vs.toList.drop (off+(a.eval y).cells.toList.length))=setAt vs.toList off (a.eval y).cells.toList:=rfl;rw[UE AQ]at hi;rw[Z,aAJ,bF (by have :=vs.length_toList;omega),bF AQ,z,hn];split
    ·have O:=j.2 (i-off) AQ;exact⟨O.1,O.2.mono hg (.refl _)⟩
    exact⟨(L i hi).1,(L i hi).2.mono hg (.refl _)⟩)
   refine⟨undef,_,ok,H,.inr ⟨rfl,?_⟩,h4,.refl _,h3,.junk _⟩;simp only[execOp,ho,he,Instr.storeAt,Instr.sureAddr,storeVar,G6,Hf,GL,hs,Y,ne_eq,not_true_eq_false,LH,hst]
end
def Wx (x:D)(es:A8 D):flat (x::es)=x.cells.map .d++flat es:=Ug
def mW (xs ys:A8 D):flat (xs++ys)=flat xs++flat ys:=Ug
def Tm {size:Nat}:∀{es:A8 D},(∀x∈es,x.cells.length=size)->(flat es).length=es.length*size
 | [],_=>Ug
 |x::es,h=>by
  rw[Wx,Ee,Df,h x Bf,Tm (λy j=>h y (IE _ j)),GH,dV,Vx]
def flat_get {size:Nat}:∀{es:A8 D},(∀x∈es,x.cells.length=size)->∀i j,i<es.length->j<size->(flat es).getD (i*size+j) .junk=.d ((es.getD i EM).cells.getD j EM)
 | [],_,i,j,hi,_=>Tf
 |x::es,h,0,j,_,q=>by
  have u:=h x Bf;rw[Wx,Nat.zero_mul,KD]
  grind
 |x::es,h,i+1,j,hi,q=>by
  have u:=h x Bf;have z:=flat_get (λy I=>h y (IE _ I)) i j IU q;rw[Wx];simp only[List.getD]at z ⊢;rw[QI (by simp[u,dV];omega)]
  grind
variable {m:Nat}{ty:Bz}{x:BI}{xs ys:A8 D}
section
variable {P:Cc} {o:Oper} {es:A8 Bd}
structure Y3 (w:World) (v:Value) (m size:Nat) (news:List Value):Prop where
 len:news.length=m*size
 one:∀u∈news,u.oneCell'=true
 at_:(∃ad c,v=.slice (some ad) m c/\∀(j:Nat) (u:Value),news[j]? =some u->w.cell? (ad.add j)=some u)\/(∃c,v=.slice none 0 c/\m=0)
def iY (H:A8 CM)(h:EJ ok w (.sl ys) v)(hs:∀x∈ys,x.cells.length=size):
 ∃z,Y3 w v ys.length size z/\Gx ok w H (flat ys) z:=by
 cases h with
 |sl0 ad cap=>
  refine⟨[],⟨Bf,Bf,?_⟩,Ug,λi hi=>a8W⟩;cases ad with
  |none=>exact .inr ⟨cap,rfl,rfl⟩
  |some ad=>exact .inl ⟨ad,cap,rfl,λj u h=>J9⟩
 |sl _ b off cap q hcap hok hs' hf hx hc=>
  by_cases hy:ys=[]
  ·subst hy;refine⟨[],⟨Bf,Bf,.inl ⟨⟨b,off,none⟩,cap,rfl,λj u h=>J9⟩⟩,Ug,λi hi=>a8W⟩
  have J:0<ys.length:=qh.2 hy;have hsz:q=size:=by rw[←hs' 0 J];exact hs _ (by simp[List.getD,J])
  subst hsz;have hl:=Tm hs
  have key:∀k,k<ys.length*q->∃i j,k=i*q+j/\i<ys.length/\j<q:=by
   intro k I
   have hp:0<q:=by
    rcases Vb q with h0|h0
    ·rw[h0,Nat.mul_zero]at I;omega
    exact h0
   exact⟨k/q,k % q,by rw[Vo];exact(a5f k q).symm,zu (by rwa [Vo]at I),qK _ hp⟩
  let z:A8 BI:=(List.range (ys.length*q)).map λk=>cellAt w b (off+k)
  have L:z.length=ys.length*q:=by simp[z]
  have O:∀k,k<ys.length*q->z.getD k undef=cellAt w b (off+k):=by
   intro k I;simp[z,List.getD,I]
  have M:Gx ok w H (flat ys) z:=by
   refine⟨by rw[L,hl],λk I=>?_⟩;rw[hl]at I;obtain⟨i,j,rfl,hi,U⟩:=key k I;rw[flat_get hs i j hi U,O _ I];exact⟨hf i hi j U,.d _ _ (hc i hi j U)⟩
  refine⟨z,⟨L,λu hu=>?_,.inl ⟨⟨b,off,none⟩,cap,rfl,λk u I=>?_⟩⟩,M⟩
  ·obtain⟨k,I,rfl⟩:=G8 hu;have h5:=M.2 k (by rw[←M.1];exact I);have :=h5.2.leaf h5.1
   rwa [a5z I]at this
  obtain⟨Y,rfl⟩:=I4.1 I;rw[addr_add];have Z:k<ys.length*q:=by rw[←L];exact Y
  obtain⟨i,j,e,hi,U⟩:=key k Z;have hxx:=hx i hi j U;rw[←e]at hxx;obtain⟨u',hu'⟩:=SA.1 hxx;have :=O k Z;rw[a5z Y]at this;rw[this];simp[cellAt,hu']
structure GU (P:Program) (t e:TypeId) (size bytes:Nat):Prop where
 und:P.underlying t=some (.slice e)
 info:∃i z,P.info? e=some i/\i.zero=some z/\i.size=size/\i.bytes=bytes/\z.cells.size=size
 pos:0<size
def aRD (P:Cc)(t e size j:Nat):Ad:=
 (match P.underlying t with |some (.slice e')=>e'=e|_=>false)&&(match P.info? e with |some i=>i.size=size&&(i.bytes=j)&&(match i.zero with |some z=>z.cells.size=size|none=>false)|none=>false)&&(0<size)
def KP {P:Cc}{t e:Nat}(h:aRD P t e size j=true):GU P t e size j:=by
 unfold aRD at h;simp only[DR,IQ]at h;obtain⟨⟨h1,h2⟩,h3⟩:=h;refine⟨?_,?_,h3⟩
 ·split at h1
  ·rename_i e' u;rw[u];simp at h1;rw[h1]
  cases h1
 split at h2
 ·rename_i i hi;simp only[DR,IQ]at h2;obtain⟨⟨I,J⟩,q⟩:=h2;split at q
  ·rename_i z L;exact⟨i,z,hi,L,I,J,XP⟩
  cases q
 cases h2
def aYA {O:Nat}(hE:GU P t e size O){xs:A8 BI}(L:w.ownsRow 0 e size v n xs){I:A8 BI}(q:Y3 w x m size I)(hb:(n+m)*O<=140737488355328)(hn:n+m<=maxLen):
 ∃v' w',(Builtin.append_ #[t,t] ty #[v,x]).run P w=.ok v' w'/\w'.ownsRow 0 e size v' (n+m) (xs++I)/\w.grownBy w' v.ownBlock/\(∀g,EC v'=some g->EC v=some g\/w.heap.size<=g):=by
 obtain⟨i,z,hi,hz,hs,Z,hzs⟩:=hE.info;rcases q.at_ with⟨ad,c,rfl,J⟩|⟨c,rfl,rfl⟩
 ·obtain⟨v',w',hr,ho',hg,hnil⟩:=run_append_own (P:=P) w 0 t ty e i z size O hE.und hi hz hs Z hzs hE.pos v n xs L ad m c I q.len J q.one hn hb (FB _);refine⟨v',w',hr,ho',hg,λg U=>?_⟩;rcases L.2 with⟨rfl,rfl⟩|⟨g0,cap,cur,rfl,hbg,hg0,hnc,hcm,hcs,htake⟩
  ·have hx:xs=[]:=He (by simpa using L.1);subst hx;obtain⟨v2,w2,M,ho2,_,_⟩:=run_append_own (P:=P) w w.heap.size t ty e i z size O hE.und hi hz hs Z hzs hE.pos _ 0 [] (a1k w w.heap.size e size) ad m c I q.len J q.one hn hb (EW _);rw[hr]at M;simp only[Result.ok.injEq]at M;obtain⟨rfl,rfl⟩:=M;rcases ho2.2 with⟨rfl,_⟩|⟨g',_,_,rfl,hle,_⟩
   ·simp[EC]at U
   simp[EC]at U;subst U;exact .inr hle
  by_cases Y:n+m<=cap
  ·have hfit:n*i.size+I.length<=cur.size:=by rw[q.len,hcs,hs,←iJ];exact LZ _ Y
   have M:=run_append_room (P:=P) w t ty e i hE.und hi g0 n cap cur hg0 ad m c I (by rw[hs];exact q.len) J q.one Y hfit;rw[hr]at M;simp only[Result.ok.injEq]at M;obtain⟨rfl,rfl⟩:=M;exact .inl U
  have holds:∀(j:Nat) (u:BI),xs[j]? =some u->w.cell? ((⟨g0,0,none⟩:Addr).add j)=some u:=L.cells (g:=g0) rfl;have M:=run_append_grow (P:=P) w t ty e i z hE.und hi hz ⟨g0,0,none⟩ n cap xs (by rw[hs];exact L.1) holds ad m c I (by rw[hs];exact q.len) J AQ (by unfold maxLen at hn;omega) (growslice_fits AQ (by rw[Z];exact hb));rw[hr]at M;simp only[Result.ok.injEq]at M;obtain⟨rfl,rfl⟩:=M;simp[EC]at U
  grind
 have hnews:I=[]:=He (by simpa using q.len);subst hnews;refine⟨v,w,?_,by simpa using L,⟨rfl,rfl,rfl,EW _,λ_ _ _=>rfl⟩,λg hg=>.inl hg⟩;rcases L.2 with⟨rfl,rfl⟩|⟨g,cap,cur,rfl,_,_,hnc,_⟩
 ·simp[Builtin.append_,a6d hE.und,sizeOf,typeInfo,hi,Builtin.lenOf,Builtin.firstCells]
 simp[Builtin.append_,a6d hE.und,sizeOf,typeInfo,hi,Builtin.lenOf,Builtin.firstCells,hnc,storeCells]
def aJq {I:Nat}(hE:GU P t e size I){xs:A8 BI}(u:nC w e size v n xs){q:A8 BI}(j:Y3 w x m size q)(hb:(n+m)*I<=140737488355328)(hn:n+m<=maxLen):
 ∃v' w',(Builtin.append_ #[t,t] ty #[v,x]).run P w=.ok v' w'/\nC w' e size v' (n+m) (xs++q)/\w.grownBy w' v.ownBlock/\(∀g,EC v'=some g->EC v=some g\/w.heap.size<=g):=by
 rcases u.2 with h|⟨g,cap,U,rfl,h0,Z,hnc,hcm,hcs,htake⟩
 ·obtain⟨v',w',h1,h2,h3,h4⟩:=aYA (ty:=ty) hE ⟨u.1,.inl h⟩ j hb hn;exact⟨v',w',h1,.of h2,h3,h4⟩
 obtain⟨i,z,hi,hz,hs,hby,hzs⟩:=hE.info;have hlen:(xs++q).length=(n+m)*size:=by rw[Ee,u.1,j.len,iJ]
 rcases j.at_ with⟨ad,c,rfl,L⟩|⟨c,rfl,rfl⟩
 ·by_cases J:n+m<=cap
  ·have O:n*i.size+q.length<=U.size:=by
    rw[j.len,hs,←iJ];exact EI (LZ _ J) hcs
   have hr:=run_append_room (P:=P) w t ty e i hE.und hi g n cap U Z ad m c q (by rw[hs];exact j.len) L j.one J O;rw[hs]at hr O;refine⟨_,_,hr,⟨hlen,.inr ⟨g,cap,_,rfl,FB _,wG w g U _ e _ Z,J,hcm,?_,?_⟩⟩,⟨rfl,rfl,rfl,Bf,λk _ hk=>setRow_other w g k _ (λe=>hk (by simp[Value.ownBlock,e]))⟩,λg' M=>.inl M⟩
   ·simp only[aA9,Ee,H7,LY,Ua];omega
   grind
  obtain⟨v',w',h1,h2,h3⟩:=run_append_arg_grows (P:=P) w t ty e i z size I hE.und hi hz hs hby hzs hE.pos ⟨g,0,none⟩ n cap xs u.1 (u.cells (g:=g) rfl) ad m c q j.len L AQ hn hb;refine⟨v',w',h1,.of h2,⟨h3.os,h3.tape,h3.output,h3.size,λk hk _=>h3.block k hk Bf⟩,λg' M=>.inr ?_⟩;rcases h2.2 with⟨rfl,_⟩|⟨g2,_,_,rfl,hle2,_⟩
  ·simp[EC]at M
  simp[EC]at M;subst M;exact hle2
 have Y:q=[]:=He (by simpa using j.len);subst Y;refine⟨.slice (some ⟨g,0,none⟩) n cap,w,?_,Ql,⟨rfl,rfl,rfl,EW _,λ_ _ _=>rfl⟩,λg hg=>.inl hg⟩;simp[Builtin.append_,a6d hE.und,sizeOf,typeInfo,hi,Builtin.lenOf,Builtin.firstCells,hnc,storeCells]
def E5.turn (hm:E5 C ok H es w){Z e:Bd}{h':CM}(hk:es[k]? =some Z)(M:Z.live=true)(hh:H[k]? =some h)(hos:w'.os=w.os)(O:w'.tape=w.tape)(hout:w'.output=w.output)(U:w.heap.size<=w'.heap.size)(J:∀c,c<w.heap.size->EC h.v≠some c->w'.heap[c]? =w.heap[c]?)(hb':∀g,EC h'.v=some g->g<w'.heap.size/\(EC h.v=some g\/w.heap.size<=g))(he:FP ok w ok w'->Fb ok w' (H++[h']) h' e):E5 C ok (H++[h']) (es.set k .dead++[e]) w'/\FP ok w ok w':=by
 have h0:=λb hb=>hm.blk k Z h b hk M hh hb;have hkl:k<es.length:=(I4.1 hk).1;have hg:FP ok w ok w':=λc I=>⟨I,J c (hm.kZ c I) (λe=>(h0 c e).1 I)⟩
 refine hm.change (λc=>EC h.v=some c) hos O hout U J (λc I _=>⟨(h0 c I).1,(h0 c I).2.2⟩) (λ_ h=>h) (λ_ h=>.inl h) (IW _ _) jh ?_;intro j e' hj' hj u;rcases Y8 hj with h1|⟨h1,h2⟩
 ·have hjl:j<H.length:=by rw[hm.hlen];simpa using(I4.1 h1).1
  rw[KI hjl]at u;rcases OA hkl h1 with⟨rfl,rfl⟩|⟨hne,h3⟩
  ·exact .inr ⟨trivial,λh=>Gu⟩
  refine .inl ⟨h3,u,λhl c I hcb=>hne ?_⟩;exact hm.Iw j k e' Z hj' h c h3 hk hl M u hh I hcb
 subst h2;have hk2:j=H.length:=by rw[hm.hlen];simpa using h1
 subst hk2;simp at u;subst u;refine .inr ⟨he hg,λ_ c I=>?_⟩;obtain⟨h3,q⟩:=hb' c I;refine⟨λhok=>?_,h3,?_,λk' e'' h'' hne hk' Y z L=>?_⟩
 ·rcases q with q|q
  ·grind
  have :=hm.kZ c hok;omega
 ·rcases q with q|q
  ·exact(h0 c q).2.2
  exact .inl (EI hm.fr.size q)
 rcases Y8 hk' with h5|⟨h5,_⟩
 ·have hkl':k'<H.length:=by rw[hm.hlen];simpa using(I4.1 h5).1
  rw[KI hkl']at z;rcases OA hkl h5 with⟨rfl,rfl⟩|⟨hne',h6⟩
  ·cases Y
  rcases q with q|q
  ·exact hne' (hm.Iw k' k e'' Z h'' h c h6 hk Y M z hh L q)
  have :=(hm.blk k' e'' h'' c h6 Y z L).2.1;omega
 grind
def a0K {e:Nat}{xs:A8 BI}(h:nC w e size v n xs){g:Nat}(j:EC v=some g):g<w.heap.size:=by
 rcases h.2 with⟨rfl,_⟩|⟨u,_,_,rfl,_,q,_⟩
 ·simp[EC]at j
 simp[EC]at j;subst j;exact(IK.1 q).1
def aKY {e:Nat}{xs:A8 BI}(h:nC w e size v n xs):v.ownBlock=EC v:=by
 rcases h.2 with⟨rfl,_⟩|⟨j,_,_,rfl,_⟩<;>rfl
def Qq (j:R ok w H (.aQ k) v)(q:H[k]? =some h):v=h.v:=by
 cases j with
 |aQ _ ad n cap s u=>
  grind
def amJ (hm:E5 C ok H es w){q:Nat}(hE:GU P t e size q)(hk:es[k]? =some (.arr e size xs))(hv:R ok w H (.aQ k) v){j:A8 BI}(L:Y3 w x ys.length size j)(I:Gx ok w H (flat ys) j)(hys:∀y∈ys,y.cells.length=size)(hb:(xs.length+ys.length)*q<=140737488355328)(hn:xs.length+ys.length<=maxLen):
 ∃v' w' H',(Builtin.append_ #[t,t] ty #[v,x]).run P w=.ok v' w'/\FP ok w ok w'/\Names H H'/\E5 C ok H' (es.set k .dead++[.arr e size (xs++ys)]) w'/\R ok w' H' (.aQ es.length) v':=by
 obtain⟨h,hh,hok⟩:=Hq hm.ent hm.hlen hk;obtain rfl:=Qq hv hh;obtain⟨h1,h2,EU,z,hrs⟩:=hok;obtain⟨v',w',hr,J,M,O⟩:=aJq (P:=P) (ty:=ty) hE z L hb hn
 obtain⟨h3,h4⟩:=hm.turn (h':=⟨v',size⟩) (e:=.arr e size (xs++ys)) hk rfl hh M.os M.tape M.output M.size (λc hc hne=>M.block c hc (by rw[aKY z];exact λe=>hne e.symm)) (λg U=>⟨a0K J U,O g U⟩) (λY=>by
  refine⟨rfl,λy hy=>?_,EU++j,jw,?_⟩
  ·rcases Ie.1 hy with h|h
   ·exact h2 y h
   exact hys y h
  have Z:=hrs.mono Y (IW H [⟨v',size⟩]);have a2:=I.mono Y (IW H [⟨v',size⟩]);rw[mW];refine⟨by rw[Ee,Ee,Z.1,a2.1],λi hi=>?_⟩;by_cases u:i<(flat xs).length
  ·have e1:(flat xs++flat ys).getD i .junk=(flat xs).getD i .junk:=by simp[List.getD,KI u]
   have e2:(EU++j).getD i undef=EU.getD i undef:=by simp[List.getD,KI (by rw[Z.1];exact u:i<EU.length)]
   rw[e1,e2];exact Z.2 i u
  have hi3:i-(flat xs).length<(flat ys).length:=aGP
  have e1:(flat xs++flat ys).getD i .junk=(flat ys).getD (i-(flat xs).length) .junk:=by simp[List.getD,QI (Xp u)]
  have e2:(EU++j).getD i undef=j.getD (i-(flat xs).length) undef:=by simp[List.getD,QI (by rw[Z.1];omega:EU.length<=i),Z.1]
  rw[e1,e2];exact a2.2 _ hi3)
 refine⟨v',w',_,hr,h4,IW _ _,h3,?_⟩;have hH:(H++[(⟨v',size⟩:CM)])[es.length]? =some ⟨v',size⟩:=Qg
 rcases J.2 with⟨rfl,_⟩|⟨g',c',_,rfl,_⟩
 ·exact .aQ _ _ _ _ size hH
 exact .aQ _ _ _ _ size hH
def afV {s x:CB}(hE:GU P t e size j)(M:es[k]? =some (.arr e size xs))(q:∀y∈ys,y.cells.length=size)(O:(xs.length+ys.length)*j<=140737488355328)(U:xs.length+ys.length<=maxLen)(Y:o.op=.call { callee:=.builtin .append,args:= #[s,x],argTypes:= #[t,t] }:=by exact rfl):
 CJ P o [(s,.aQ k),(x,.d (.sl ys))] es (.aQ es.length) (es.set k .dead++[.arr e size (xs++ys)]):=
 .eff λC ok H a w hm u=>by
  have h1:=(FX u).1;have h2:=(FX u).2;simp only at h1 h2;have I:EJ ok w (.sl ys) (a.eval x):=by cases h2 with |d _ _ h=>exact h
  obtain⟨L,z,J⟩:=iY H I q;obtain⟨v',w',H',Z,r1,r2,r3,r4⟩:=amJ (ty:=o.type) hm hE M h1 z J q O U;refine⟨v',w',ok,H',.inl ?_,r1,r2,r3,r4⟩;simp[execOp,Y,resolve,invoke,builtin,Z]
def wW (hm:E5 C ok H es w)(e:Bz)(size:Nat):
 E5 C ok (H++[⟨.slice none 0 0,size⟩]) (es++[.arr e size []]) w/\R ok w (H++[⟨.slice none 0 0,size⟩]) (.aQ es.length) (.slice none 0 0):=by
 obtain⟨h,_⟩:=hm.change (ok':=ok) (w':=w) (H':=H++[⟨.slice none 0 0,size⟩]) (es':=es++[.arr e size []]) (λ_=>False) rfl rfl rfl (EW _) (λ_ _ _=>rfl) (λ_ h=>h.elim) (λ_ h=>h) (λ_ h=>.inl h) (IW _ _) jh (by
  intro k e' h' q j;rcases Y8 q with h1|⟨h1,h2⟩
  ·have u:k<H.length:=aKa
   rw[KI u]at j;exact .inl ⟨h1,j,λ_ _ _ h=>h⟩
  subst h2;have u:k=H.length:=aHB
  subst u;simp at j;subst j
  exact .inr ⟨⟨rfl,Bf,[],⟨Bf,.inl ⟨rfl,rfl⟩⟩,Ug,λi hi=>a8W⟩,λ_ b z=>by simp[EC]at z⟩)
 exact⟨h,.aQ _ _ _ _ size Qg⟩
def CW (e:Bz)(size:Nat)(j:o.op=.assign (.const (.slice none 0 0)):=by exact rfl):CJ P o [] es (.aQ es.length) (es++[.arr e size []]):=
 .eff λC ok H a w hm _=>by
  obtain⟨h1,h2⟩:=wW hm e size;exact⟨.slice none 0 0,w,ok,_,.inl aDH,.refl _ _,IW _ _,h1,h2⟩
def amb (j:o.op=.assign (.const (.slice none 0 0)):=by exact rfl):CJ P o [] es (.d (.sl [])) es:=
 .pure λ_ _ a w _ _ _=>⟨.slice none 0 0,aDH,.d _ _ (.sl0 none 0)⟩
def ae6 (j:o.op=.move (.const (.slice none 0 0)):=by exact rfl):CJ P o [] es (.d (.sl [])) es:=
 .pure λ_ _ a w _ _ _=>⟨.slice none 0 0,aDH,.d _ _ (.sl0 none 0)⟩
end
def aRY (off:Nat):∀(vs:A8 BI) (i:Nat) (cells:Bg BI),off+i+vs.length<=cells.size->
 ((vs.zipIdx i).foldl (λcs (p:BI×Nat)=>cs.setIfInBounds (off+p.2) p.1) cells).toList=setAt cells.toList (off+i) vs
 | [],i,cells,h=>by simp[setAt]
 |v::vs,i,cells,h=>by
  simp only[GH]at h;rw[List.zipIdx_cons,Fl];rw[aRY off vs (i+1) _ Ej];simp only[aGw];have j:off+i<cells.toList.length:=Ej
  unfold setAt;rw[aJo,ET j];have h1:(cells.toList.take (off+i)).length=off+i:=Ej
  have q:(List.take (off+i) cells.toList++v::List.drop (off+i+1) cells.toList).take (off+(i+1))=cells.toList.take (off+i)++[v]:=by
   grind
  have u:(List.take (off+i) cells.toList++v::List.drop (off+i+1) cells.toList).drop (off+(i+1)+vs.length)=cells.toList.drop (off+i+(vs.length+1)):=by
   rw[List.drop_append,h1,a7r AQ];have :off+(i+1)+vs.length-(off+i)=vs.length+1:=AQ
   rw[this];simp[aDY];congr 1;omega
  rw[q,u];simp
def Oq :A8 (Nat×CB)->A8 Ap->A8 (CB×Ap)
 |(_,x)::j,v::vs=>(x,v)::Oq j vs
 |_,_=>[]
def Ot (place:Nat->AB (Nat×Nat))(n:Nat):A8 (Nat×CB)->A8 Ap->Ad
 |(i,_)::j,v::vs=>(match place i with |some (off,s)=>v.cells.length=s&&(off+s<=n)&&v.cells.all Ap.leaf|none=>false)&&Ot place n j vs
 | [],[]=>true
 |_,_=>false
def MI (place:Nat->AB (Nat×Nat)):A8 Ap->A8 (Nat×CB)->A8 Ap->A8 Ap
 |cs,(i,_)::j,v::vs=>MI place (setAt cs ((place i).getD (0,0)).1 v.cells) j vs
 |cs,_,_=>cs
def Gx.setAt {ys:A8 Ap}{vs us:A8 BI}(h:Gx ok w H cs vs)(k:Gx ok w H ys us)(j:off+ys.length<=cs.length):Gx ok w H (setAt cs off ys) (setAt vs off us):=by
 refine⟨by rw[UE (by rw[h.1,k.1];exact j),UE j,h.1],λi hi=>?_⟩;rw[UE j]at hi;rw[bF j,bF (by rw[h.1,k.1];exact j),k.1];split
 ·exact k.2 _ AQ
 exact h.2 i hi
def zG {ok:Nat->Prop}{w:Ba}{H:A8 CM}{place:Nat->AB (Nat×Nat)}{a:Act}:∀(q:A8 (Nat×CB)) (vs:A8 Ap) (cs:A8 Ap) (cells:Bg BI),Gx ok w H cs cells.toList->Ot place cs.length q vs=true->
 (∀n∈Oq q vs,R ok w H n.2 (a.eval n.1))->∃j,Instr.fill place cells (q.map λp=>(p.1,a.eval p.2))=some j/\Gx ok w H (MI place cs q vs) j.toList
 | [],[],cs,cells,I,_,_=>⟨cells,rfl,I⟩
 | [],_::_,_,_,_,h,_=>by simp[Ot]at h
 |_::_,[],_,_,_,h,_=>by simp[Ot]at h
 |(i,x)::q,v::vs,cs,cells,I,h,L=>by
  simp only[Ot,DR]at h;obtain⟨h1,h2⟩:=h;cases hp:place i with
  |none=>
   grind
  |some os=>
   obtain⟨off,s⟩:=os;rw[hp]at h1;simp only[DR,IQ]at h1;obtain⟨⟨h3,h4⟩,U⟩:=h1;have M:Gx ok w H v.cells (a.eval x).cells.toList:=(L (x,v) (by simp[Oq])).ams U;have Y:(a.eval x).cells.size=s:=by have :=M.1;simp at this;omega
   have O:cells.size=cs.length:=by simpa using I.1
   have u:((a.eval x).cells.zipIdx.foldl (λcs (p:BI×Nat)=>cs.setIfInBounds (off+p.2) p.1) cells).toList=setAt cells.toList off (a.eval x).cells.toList:=by
    rw[←Array.foldl_toList,Array.toList_zipIdx];exact aRY off (a.eval x).cells.toList 0 cells Ej
   have z:=I.setAt M (off:=off) AQ;rw[←u]at z;obtain⟨j,Z,hR⟩:=zG q vs (setAt cs off v.cells) _ z (by rw[UE AQ];exact h2) (λn J=>L n (by simp[Oq,J]));refine⟨j,?_,?_⟩
   ·simp only[Gh,Instr.fill,hp];rw[Ef Ej];exact Z
   simp only[MI,hp,MO];exact hR
def Ro (z:BI)(n:Nat):A8 Ap:=(List.range n).map λk=>(GN z).getD (k % z.cells.size) .junk
def acv (hl:z.cells.all (·.oneCell')=true)(q:0<z.cells.size):Gx ok w H (Ro z n) (((Array.range n).map (z.cells[· % z.cells.size]!)).toList):=by
 refine⟨by simp[Ro],λi hi=>?_⟩;have j:i<n:=by simpa[Ro]using hi
 have hm:i % z.cells.size<z.cells.size:=qK _ q;have u:(Ro z n).getD i .junk=.d (QC z.cells[i % z.cells.size]):=by simp[Ro,GN,List.getD,j,hm]
 have I:(((Array.range n).map (z.cells[· % z.cells.size]!)).toList).getD i undef=z.cells[i % z.cells.size]:=by simp[List.getD,j,hm]
 rw[u,I];exact⟨sD ((TP.1 hl) _ Bf),.d _ _ (lI _)⟩
def aCq (hl:z.cells.all (·.oneCell')=true):Gx ok w H (GN z) z.cells.toList:=by
 refine⟨by simp[GN],λi hi=>?_⟩;simp only[GN,Df,Ua]at hi;have j:(GN z).getD i .junk=.d (QC z.cells[i]):=by simp[GN,List.getD,hi]
 have q:z.cells.toList.getD i undef=z.cells[i]:=OE
 rw[j,q];exact⟨sD ((TP.1 hl) _ Bf),.d _ _ (lI _)⟩
def aEK {P:Cc}{w:Ba}:∀(l:A8 Field),(∀f∈l,(P.info? f.type).isSome=true)->
 (l.mapM λf=>(do pure (f.offset,←sizeOf f.type):Sem (Nat×Nat))).run P w=.ok (l.map λf=>(f.offset,P.cellsOf f.type)) w
 | [],_=>rfl
 |f::l,h=>by
  obtain⟨i,hi⟩:=SA.1 (h f Bf);have j:=aEK (P:=P) (w:=w) l (λg q=>h g (by simp[q]));have hs:(sizeOf f.type).run P w=.ok i.size w:=by simp[sizeOf,typeInfo,hi]
  have u:P.cellsOf f.type=i.size:=by simp[Program.cellsOf,hi]
  simp only[List.mapM_cons,G6,hs,GL,Hf,j,Gh,u]
structure Jq (P:Program) (t:TypeId) (places:List (Nat×Nat)) (z:Value):Prop where
 fields:∃fs,P.underlying t=some (.struct fs)/\(∀f∈fs.toList,(P.info? f.type).isSome=true)/\(fs.toList.map λf=>(f.offset,P.cellsOf f.type))=places
 zero:(P.info? t).bind (·.zero)=some z
 one:z.cells.all (·.oneCell')=true
def aPl (P:Cc)(t:Bz)(j:A8 (Nat×Nat)):Ad:=
 match P.underlying t with
 |some (.struct q)=>q.toList.all (λf=>(P.info? f.type).isSome)&&decide ((q.toList.map λf=>(f.offset,P.cellsOf f.type))=j)
 |_=>false
variable {j:A8 (Nat×Nat)}
def Md (h:aPl P t j=true)(q:(P.info? t).bind (·.zero)=some z)(h1:z.cells.all (·.oneCell')=true):Jq P t j z:=by
 unfold aPl at h;split at h
 ·rename_i u I;simp only[DR,En,IQ]at h;exact⟨⟨u,I,h.1,h.2⟩,q,h1⟩
 cases h
variable {j q:Bg (Nat×CB)}{len:Nat}
section
variable {P:Cc} {o:Oper} {es:A8 Bd}
def a5W (q:(P.info? t).bind (·.zero)=some z)(w:Ba):(zeroValue t).run P w=.ok z w:=by
 obtain⟨i,hi,j⟩:=lg.1 q;simp[zeroValue,typeInfo,hi,j]
def aOo {l:A8 Ap}(h:l.all Ap.Dp=true):l=(Jy l).map .d:=by
 rw[En]at h;unfold Jy;rw[cO]
 conv=>lhs;rw[←List.map_id l]
 refine lM λx j=>?_;have :=h x j;cases x<;>first|rfl|(simp[Ap.Dp]at this)
def aXQ {j:A8 (Nat×Nat)}(Z:Jq P t j z)(vs:A8 Ap)(hp:Ot (λ(i:Nat)=>j[i]?) (GN z).length q.toList vs=true)(ho:o.op=.build t q:=by exact rfl):
 CJ P o (Oq q.toList vs) es (.ag (MI (λ(i:Nat)=>j[i]?) (GN z) q.toList vs)) es:=
 .pure λok H a w _ _ hn=>by
  obtain⟨⟨U,hu,hf,J⟩,hz,h1⟩:=Z;have L:=a5W (P:=P) hz w;have M:(underlying t).run P w=.ok (.struct U) w:=aA6
  have hm:(U.mapM λf=>(do pure (f.offset,←sizeOf f.type):Sem (Nat×Nat))).run P w=.ok j.toArray w:=by
   rw[aCY];rw[a1A,aEK _ hf,J];rfl
  obtain⟨u,hc,I⟩:=zG (place:=λ(i:Nat)=>j[i]?) q.toList vs (GN z) z.cells (aCq (ok:=ok) (w:=w) (H:=H) h1) hp hn;refine⟨.agg u,?_,.ag _ _ (by simpa using I.1) (λi hi=>(I.2 i hi).1) (λi hi=>?_)⟩
  rotate_left
  ·have h3:=(I.2 i hi).2;have O:i<u.size:=by have :=I.1;simp at this;omega
   have Y:u.toList.getD i undef=u.getD i undef:=by simp[List.getD,Array.getD,O]
   grind
  have e:(q.map λ(i,x)=>(i,a.eval x)).toList=q.toList.map λp=>(p.1,a.eval p.2):=Bf
  have Y:(λ(i:Nat)=>j.toArray[i]?)=(λ(i:Nat)=>j[i]?):=by funext i;simp
  simp only[execOp,ho,Instr.build,G6,L,M,hm,GL];rw[e,Y,hc];rfl
def amk {j:A8 (Nat×Nat)}(hS:Jq P t j z)(vs:A8 Ap)(hp:Ot (λ(i:Nat)=>j[i]?) (GN z).length q.toList vs=true)(hd:(MI (λ(i:Nat)=>j[i]?) (GN z) q.toList vs).all Ap.Dp=true)(ho:o.op=.build t q:=by exact rfl):
 CJ P o (Oq q.toList vs) es (.d (.agg (Jy (MI (λ(i:Nat)=>j[i]?) (GN z) q.toList vs)))) es:=
 .pure λok H a w _ _ hn=>by
  obtain⟨⟨Z,hu,hf,I⟩,hz,h1⟩:=hS;have J:=a5W (P:=P) hz w;have L:(underlying t).run P w=.ok (.struct Z) w:=aA6
  have hm:(Z.mapM λf=>(do pure (f.offset,←sizeOf f.type):Sem (Nat×Nat))).run P w=.ok j.toArray w:=by
   rw[aCY];rw[a1A,aEK _ hf,I];rfl
  obtain⟨u,hc,M⟩:=zG (place:=λ(i:Nat)=>j[i]?) q.toList vs (GN z) z.cells (aCq (ok:=ok) (w:=w) (H:=H) h1) hp hn;refine⟨.agg u,?_,.d _ _ ?_⟩
  ·have e:(q.map λ(i,x)=>(i,a.eval x)).toList=q.toList.map λp=>(p.1,a.eval p.2):=Bf
   have e2:(λ(i:Nat)=>j.toArray[i]?)=(λ(i:Nat)=>j[i]?):=by funext i;simp
   simp only[execOp,ho,Instr.build,G6,J,L,hm,GL];rw[e,e2,hc];rfl
  rw[aOo hd]at M;generalize Jy (MI (λ(i:Nat)=>j[i]?) (GN z) q.toList vs)=xs at M ⊢;obtain⟨h2,h3⟩:=M;simp only[Df]at h2 h3
  have hg:∀i,i<xs.length->(xs.map Ap.d).getD i .junk=.d (xs.getD i EM):=by
   grind
  have O:u.size=xs.length:=LJ
  refine .agg xs u O ?_ ?_<;>intro i hi
  ·have :=(h3 i hi).1;rw[hg i hi]at this;exact this
  have U:=(h3 i hi).2;rw[hg i hi]at U;have Y:i<u.size:=AQ
  have e:u.toList.getD i undef=u.getD i undef:=by simp[List.getD,Array.getD,Y]
  rw[e]at U;cases U with |d _ _ h=>exact h
def ac9 {cells:Bg BI}{fr:Nat×Nat}(u:∀y∈ys,y.cells.length=size)(M:w.heap[b]? =some (.cells cells e fr))(z:ok b)(I:Gx ok w H (flat ys) cells.toList):
 EJ ok w (.sl ys) (.slice (some ⟨b,0,none⟩) ys.length ys.length):=by
 have hl:=Tm u;have J:cells.size=ys.length*size:=by have :=I.1;simp at this;omega
 have O:∀i,i<ys.length->ys.getD i EM∈ys:=λi hi=>OE
 have L:∀i j,i<ys.length->j<size->i*size+j<ys.length*size:=by
  intro i j hi q
  calc i*size+j<i*size+size:=AQ
   _=(i+1)*size:=by rw[dV]
   _<=ys.length*size:=LZ _ hi
 have U:∀i j,i<ys.length->j<size->w.cell? ⟨b,0+(i*size+j),none⟩=some (cells.toList.getD (i*size+j) undef):=by
  intro i j hi q;have :=L i j hi q;rw[KD];simp[World.cell?,M,J,this,List.getD]
 refine .sl ys b 0 ys.length size (EW _) (λ_ _=>z) (λi hi=>u _ (O i hi)) (λi hi j q=>?_) (λi hi j q=>?_) (λi hi j q=>?_)
 ·have :=(I.2 (i*size+j) (by rw[hl];exact L i j hi q)).1;rw[flat_get u i j hi q]at this;exact this
 ·grind
 have :=(I.2 (i*size+j) (by rw[hl];exact L i j hi q)).2;rw[flat_get u i j hi q]at this;unfold cellAt;rw[U i j hi q];cases this with |d _ _ h=>exact h
def aQr {u:Nat}(hE:GU P t e size u)(hz:(P.info? e).bind (·.zero)=some z)(h1:z.cells.all (·.oneCell')=true)(Y:z.cells.size=size)(hlen:len*size<=16777216){vs:A8 Ap}(hp:Ot (λi=>some (i*size,size)) (len*size) j.toList vs=true)(hn:∀n∈Oq j.toList vs,R ok w H n.2 (a.eval n.1)):
 ∃cells,(Instr.buildSlice t len (j.map λ(i,x)=>(i,a.eval x))).run P w=.ok (.slice (some ⟨w.heap.size,0,none⟩) len len) (w.alloc (.cells cells e))/\Gx ok w H (MI (λi=>some (i*size,size)) (Ro z (len*size)) j.toList vs) cells.toList:=by
 obtain⟨i,z',hi,_,hs,_,_⟩:=hE.info;have Z:=a5W (P:=P) hz w;have I:(sizeOf e).run P w=.ok size w:=aDD
 have J:(underlying t).run P w=.ok (.slice e) w:=aJt
 have e0:(j.map λ(i,x)=>(i,a.eval x)).toList=j.toList.map λp=>(p.1,a.eval p.2):=Bf
 have hzl:(Ro z (len*size)).length=len*size:=by simp[Ro]
 have L:0<z.cells.size:=by rw[Y];exact hE.pos
 obtain⟨q,hc,hR⟩:=zG (place:=λi=>some (i*size,size)) j.toList vs (Ro z (len*size)) _ (acv (ok:=ok) (w:=w) (H:=H) (n:=len*size) h1 L) (by rw[hzl];exact hp) hn;refine⟨q,?_,hR⟩;have M:¬(len*size>2^24):=AQ
 by_cases O:len*size=0
 ·have hr0:(Array.range (len*size)).map (λk=>(z.cells[k % z.cells.size]! :BI))= #[]:=by rw[O];simp
  rw[hr0]at hc;have U:(Array.range (len*size)).map (λk=>((#[]:Bg BI)[k % (#[]:Bg BI).size]! :BI))= #[]:=by rw[O];simp
  simp only[Instr.buildSlice,G6,J,GL,I,M,LH,Sem.run_ite,O,KL,Hf];simp only[O]at U;rw[U,e0,hc];rfl
 simp only[Instr.buildSlice,G6,J,GL,I,M,LH,Sem.run_ite,O,Z,Hf];rw[e0,hc];rfl
def aFL {q:Nat}(hE:GU P t e size q)(M:(P.info? e).bind (·.zero)=some z)(h1:z.cells.all (·.oneCell')=true)(J:z.cells.size=size)(hlen:len*size<=16777216)(vs:A8 Ap)(ys:A8 D)(hp:Ot (λi=>some (i*size,size)) (len*size) j.toList vs=true)(L:MI (λi=>some (i*size,size)) (Ro z (len*size)) j.toList vs=flat ys)(hl:ys.length=len)(u:ys.all (λy=>y.cells.length=size)=true)(O:o.op=.buildSlice t len j:=by exact rfl):
 CJ P o (Oq j.toList vs) es (.d (.sl ys)) es:=
 .eff λC ok H a w hm U=>by
  obtain⟨cells,Y,I⟩:=aQr hE M h1 J hlen hp U;rw[L]at I;obtain⟨h2,h3⟩:=hm.fresh (.cells cells e);refine⟨.slice (some ⟨w.heap.size,0,none⟩) len len,_,_,H,.inl ?_,h3,.refl _,h2,.d _ _ ?_⟩
  ·simp only[execOp,O,G6,Y,GL,Hf]
  rw[←hl];exact ac9 (H:=H) (λy L=>by rw[En]at u;simpa using u y L) (Vq w _) (.inr rfl) (I.mono h3 (.refl _))
def a2W {q:Nat}(hE:GU P t e size q)(hz:(P.info? e).bind (·.zero)=some z)(h1:z.cells.all (·.oneCell')=true)(U:z.cells.size=size)(hlen:len*size<=16777216)(vs:A8 Ap)(ys:A8 D)(hp:Ot (λi=>some (i*size,size)) (len*size) j.toList vs=true)(Y:MI (λi=>some (i*size,size)) (Ro z (len*size)) j.toList vs=flat ys)(hl:ys.length=len)(I:ys.all (λy=>y.cells.length=size)=true)(ho:o.op=.buildSlice t len j:=by exact rfl):
 CJ P o (Oq j.toList vs) es (.aQ es.length) (es++[.arr e size ys]):=
 .eff λC ok H a w hm hn=>by
  obtain⟨cells,hr,u⟩:=aQr hE hz h1 U hlen hp hn;rw[Y]at u;have J:∀y∈ys,y.cells.length=size:=λy Y=>by rw[En]at I;simpa using I y Y
  have hfl:=Tm J;have L:cells.size=ys.length*size:=by have :=u.1;simp at this;omega
  have M:=hE.pos
  have Z:ys.length<=16777216:=by
   have :ys.length*1<=ys.length*size:=Nat.mul_le_mul_left _ M
   grind
  obtain⟨h2,h3⟩:=hm.push (.cells cells e) ⟨.slice (some ⟨w.heap.size,0,none⟩) len len,size⟩ (.arr e size ys) (λb O=>by simpa[EC]using O.symm) (by
   refine⟨rfl,J,cells.toList,⟨by simpa using L,.inr ⟨w.heap.size,len,cells,by rw[hl],FB _,Vq w _,AQ,qH,QE (by rw[L,hl]),?_⟩⟩,?_⟩
   ·rw[Qx Ej]
   exact u.mono (λb O=>⟨O,MH _ _ _ (hm.kZ b O)⟩) (IW _ _))
  refine⟨.slice (some ⟨w.heap.size,0,none⟩) len len,_,ok,_,.inl ?_,h3,IW _ _,h2,.aQ _ _ _ _ size Qg⟩;simp only[execOp,ho,G6,hr,GL,Hf]
end
variable {ats:Bg Bz}{f:FuncId}{fn:Func}
section
variable {P:Cc} {ops:Bg Oper} {Q:Exit->Act->Ba->Prop} {φ:Nat->BI->Ba->Prop} {W:Ba} {a0:Act} {i:Nat}
variable {d:AB Tmp} {t:Bz} {p:String} {af:Bg Edge} {g:AB (Nat×Ad)}
def Enters (P:Cc)(f:FuncId):Prop:=∀args w,(callFunc f args).run P w=.ok (.enter f args) w
def enters_of {c:Code}(q:P.funcs[f]? =some fn)(j:(fn.name== "runtime.NumGoroutine")=false)(u:fn.body=some c):Enters P f:=by
 intro args w;have h1:fn.name≠ "runtime.NumGoroutine" :=Vf
 simp[callFunc,q,h1,u]
def IC (P:Cc)(f:FuncId):Ad:=match P.funcs[f]? with
 |some fn=> !(fn.name== "runtime.NumGoroutine")&&fn.body.isSome
 |none=>false
def Un (h:IC P f=true):Enters P f:=by
 unfold IC at h;cases j:P.funcs[f]? with
 |none=>rw[j]at h;cases h
 |some fn=>
  rw[j]at h;simp only[DR,Ui]at h;obtain⟨c,q⟩:=SA.1 h.2;exact enters_of j h.1 q
def zi {aSc:Bg CB}(j:o.op=.call { callee:=.value (.func f),args:=aSc,argTypes:=ats }):execOp a.eval o=callFunc f (aSc.map a.eval):=by
 have q:a.eval (.func f)=.func (.func f) #[] #[]:=rfl;unfold execOp;simp[j,resolve,Deferred.ofValue,invoke,q]
end
inductive ES where
 |ent (k:Nat)
 |nil (size:Nat)
def ES.hd (H:A8 CM):ES->CM
 | .ent k=>H.getD k ⟨undef,0⟩
 | .nil s=>⟨.slice none 0 0,s⟩
def Ap.X3 (srcs:A8 ES)(n:Nat):Ap->Ap
 | .d x=>.d x
 | .ptr k off=>match srcs[k]? with |some (.ent j)=>.ptr j off|some (.nil _)=>.junk|none=>.ptr (n+(k-srcs.length)) off
 | .aQ k=>match srcs[k]? with |some (.ent j)=>.aQ j|some (.nil _)=>.junk|none=>.aQ (n+(k-srcs.length))
 | .lY k i off=>match srcs[k]? with |some (.ent j)=>.lY j i off|some (.nil _)=>.junk|none=>.lY (n+(k-srcs.length)) i off
 | .mp k=>match srcs[k]? with |some (.ent j)=>.mp j|some (.nil _)=>.junk|none=>.mp (n+(k-srcs.length))
 | .yh k=>match srcs[k]? with |some (.ent j)=>.yh j|some (.nil _)=>.junk|none=>.yh (n+(k-srcs.length))
 | .clip xs=>.clip xs
 |_=>.junk
def Ap.up (srcs:A8 ES)(n:Nat):Ap->Ap
 | .eH xs=>.eH (xs.map (Ap.X3 srcs n))
 | .fn f fi ca=>.fn f (fi.map (Ap.X3 srcs n)) (ca.map (Ap.X3 srcs n))
 |x=>x.X3 srcs n
def aHj (srcs:A8 ES):Ap->Ap->Prop
 | .d x,y=>y=.d x
 | .ptr k off,y=>∃i,y=.ptr i off/\srcs[i]? =some (.ent k)
 | .mp k,y=>∃i,y=.mp i/\srcs[i]? =some (.ent k)
 |_,_=>False
def xP (srcs:A8 ES):A8 Ap->A8 Ap->Prop
 |x::xs,y::ys=>aHj srcs x y/\xP srcs xs ys
 | [],[]=>True
 |_,_=>False
def a0w {srcs:A8 ES}:∀{xs ys:A8 Ap},xP srcs xs ys->xs.length=ys.length
 | [],[],_=>rfl
 |_::xs,_::ys,h=>by simp[a0w h.2]
 | [],_::_,h=>h.elim
 |_::_,[],h=>h.elim
def aIv {srcs:A8 ES}:∀{xs ys:A8 Ap},xP srcs xs ys->∀i,i<ys.length->aHj srcs (xs.getD i .junk) (ys.getD i .junk)
 | [],[],_,i,hi=>Tf
 |_::xs,_::ys,h,0,_=>by simpa using h.1
 |_::xs,_::ys,h,i+1,hi=>by simpa using aIv h.2 i IU
 | [],_::_,h,_,_=>h.elim
 |_::_,[],h,_,_=>h.elim
def aUJ (srcs:A8 ES):Ap->Ap->Prop
 | .fn f fi ca,y=>∃j q,y=.fn f j q/\xP srcs fi j/\xP srcs ca q
 | .d x,y=>y=.d x\/(∃i s,x=.lit (.slice none 0 0)/\y=.aQ i/\srcs[i]? =some (.nil s))\/(x=.lit (.slice none 0 0)/\y=.d (.sl []))
 | .aQ k,y=>∃i,y=.aQ i/\srcs[i]? =some (.ent k)
 | .ptr k off,y=>∃i,y=.ptr i off/\srcs[i]? =some (.ent k)
 | .mp k,y=>∃i,y=.mp i/\srcs[i]? =some (.ent k)
 |_,_=>False
def Bd.closed:Bd->Ad
 | .box cs=>cs.all Ap.Dp
 | .loop .. =>false
 |_=>true
variable {e:Bd}
def Fb.any (q:Fb ok w H h e)(I:e.closed=true):Fb ok w H2 h e:=by
 cases e with
 |dead=>trivial
 |box cs=>
  obtain⟨b,vs,T,h1,h2,h3,z⟩:=q;refine⟨b,vs,T,h1,h2,h3,λi hi=>⟨(z i hi).1,?_⟩⟩;have u:=(z i hi).2;simp only[Bd.closed,En]at I;have j:=I (cs.getD i .junk) OE;cases J:cs.getD i .junk with
  |d x=>rw[J]at u;cases u with |d _ _ h=>exact .d _ _ h
  |_=>rw[J]at j;simp[Ap.Dp]at j
 |arr e s es=>
  obtain⟨h1,h2,xs,h3,z,u⟩:=q;refine⟨h1,h2,xs,h3,z,λi hi=>⟨(u i hi).1,?_⟩⟩;have j:=(u i hi).2;have hm:(flat es).getD i .junk∈flat es:=OE
  unfold flat at hm ⊢;simp only[Vt,FT]at hm;obtain⟨x,_,y,_,L⟩:=hm;unfold flat at j;rw[←L]at j ⊢;cases j with |d _ _ h=>exact .d _ _ h
 |map es=>exact q
 |fF es=>exact q
 |iter es vis=>exact q
 |loop=>cases I
def Bd.up (srcs:A8 ES)(n:Nat):Bd->Bd
 | .box cs=>.box (cs.map (Ap.X3 srcs n))
 |e=>e
def Ap.avo (srcs:A8 ES):Ap->Ad
 | .d _=>true
 | .mp k=>match srcs[k]? with |some (.ent _)=>true|_=>false
 | .ptr k _=>match srcs[k]? with |some (.ent _)=>true|_=>false
 |_=>false
def Bd.apF (srcs:A8 ES):Bd->Ad
 | .box cs=>cs.all (Ap.avo srcs)
 | .loop .. =>false
 |_=>true
def Bd.arL (srcs:A8 ES)(n:Nat):Bd->Ad
 | .box cs=>cs.all λx=>x.Dp||(x.X3 srcs n).leaf
 | .loop .. =>false
 |_=>true
def Bd.agt (srcs:A8 ES)(n:Nat)(e:Bd):(e.up srcs n).live=e.live:=by cases e<;>rfl
variable {srcs:A8 ES}{x:Ap}
def aVX (h:x.Dp=true):x.X3 srcs n=x:=by cases x<;>first|rfl|cases h
def Bd.aDe (h:e.closed=true):e.up srcs n=e:=by
 cases e with
 |box cs=>
  simp only[Bd.closed,En]at h;show Bd.box (cs.map (Ap.X3 srcs n))=Bd.box cs
  rw[show cs.map (Ap.X3 srcs n)=cs from by
   conv=>rhs;rw[←List.map_id cs]
   exact lM λx j=>aVX (h x j)]
 |_=>rfl
def aPf {srcs:A8 ES}{n:Nat}:∀{E:A8 Bd},E.all Bd.closed=true->E.map (Bd.up srcs n)=E
 | [],_=>rfl
 |e::E,h=>by
  simp only[List.all_cons,DR]at h;rw[Gh,Bd.aDe h.1,aPf h.2]
def ajr (h:e.closed=true):e.arL srcs n=true:=by
 cases e with
 |box cs=>
  simp only[Bd.closed,Bd.arL,En]at h ⊢;intro x j;rw[h x j];rfl
 |loop=>cases h
 |_=>rfl
variable {Hc:A8 CM}
def Fb.down (L:∀(j:Nat) (s:ES),srcs[j]? =some s->Hc[j]? =some (ES.hd H s))(hd:e.apF srcs=true)(u:Fb ok w H h (e.up srcs n)):Fb ok w Hc h e:=by
 cases e with
 |dead=>
  trivial
 |arr=>
  exact u.any rfl
 |map=>
  exact u
 |fF=>
  exact u
 |iter=>
  exact u
 |loop=>
  cases hd
 |box cs=>
  obtain⟨b,vs,T,h1,h2,h3,M⟩:=u;refine⟨b,vs,T,h1,h2,by rw[h3,Df],λi hi=>?_⟩;obtain⟨I,q⟩:=M i aB8;rw[WI _ _ _ hi]at q I;simp only[Bd.apF,En]at hd;have z:=hd (cs.getD i .junk) OE;generalize cs.getD i .junk=x at q z I ⊢;generalize vs.toList.getD i undef=v at q ⊢;cases x with
  |d x=>
     exact⟨I,by cases q with |d _ _ h=>exact .d _ _ h⟩
  |mp k=>
   refine⟨rfl,?_⟩;simp only[Ap.avo]at z;simp only[Ap.X3]at q;cases hs:srcs[k]? with
   |none=>
    grind
   |some s=>
    cases s with
    |nil _=>
     grind
    |ent j=>
     rw[hs]at q;cases q with
     |mp _ _ s hl J=>
      refine .mp k _ s hl ?_;rw[L k _ hs];simp[ES.hd,List.getD,J]
  |ptr k off=>
   refine⟨rfl,?_⟩;simp only[Ap.avo]at z;simp only[Ap.X3]at q;cases hs:srcs[k]? with
   |none=>
    grind
   |some s=>
    cases s with
    |nil _=>
     grind
    |ent j=>
     rw[hs]at q;cases q with
     |ptr _ _ b s J=>
      refine .ptr k off b s ?_;rw[L k _ hs];simp[ES.hd,List.getD,J]
  |_=>
    simp[Ap.avo]at z
def Nc (srcs:A8 ES)(es E':A8 Bd):A8 Bd:=
 (es.zipIdx.map λ(e,j)=>match srcs.findIdx? (λs=>match s with | .ent k=>k==j| .nil _=>false)with |some i=>(E'.getD i .dead).up srcs es.length|none=>e)++(E'.drop srcs.length).map (Bd.up srcs es.length)
def U1 (srcs:A8 ES)(es E E':A8 Bd):Ad:=
 decide (srcs.length=E.length)&&(srcs.length<=E'.length)&&E.all (Bd.apF srcs)&&E'.all (Bd.arL srcs es.length)&&
 decide ((srcs.filterMap λs=>match s with | .ent k=>some k| .nil _=>none).Nodup)&&
 ((srcs.zip E').all λp=>match p.1 with | .ent _=>true| .nil _=> !p.2.live)&&(srcs.all λs=>match s with | .ent k=>k<es.length&&(es.getD k .dead).live| .nil _=>true)
def Mem (srcs:A8 ES)(es:A8 Bd):A8 Bd->Prop
 |E=>∀(i:Nat) (s:ES),srcs[i]? =some s->match s with | .ent k=>(E[i]?).map (Bd.up srcs es.length)=es[k]? | .nil sz=>∃e,E[i]? =some (.arr e sz [])
def Ws (I:Hc=srcs.map (ES.hd H))(q:∀(i k:Nat),srcs[i]? =some (.ent k)->k<H.length)(J:Names Hc H')(h:R ok w H' x v):R ok w (H++H'.drop srcs.length) (x.X3 srcs H.length) v:=by
 have key:∀(k:Nat) (hd:CM),H'[k]? =some hd->(∀(j:Nat),srcs[k]? =some (.ent j)->(H++H'.drop srcs.length)[j]? =some hd)/\(srcs[k]? =none->(H++H'.drop srcs.length)[H.length+(k-srcs.length)]? =some hd):=by
  intro k hd O;refine⟨λj z=>?_,λu=>?_⟩
  ·have L:=q k j z;have h1:Hc[k]? =some (H.getD j ⟨undef,0⟩):=by rw[I,LC,z];rfl
   have h2:=J _ _ h1
   grind
  have M:srcs.length<=k:=Ql
  grind
 cases h with
 |d x v h=>
    exact .d x v h
 |ptr k off b s h=>
  obtain⟨h1,h2⟩:=key k _ h;simp only[Ap.X3];split<;>rename_i hs
  ·exact .ptr _ off b s (h1 _ hs)
  ·exact .junk _
  exact .ptr _ off b s (h2 hs)
 |aQ k ad n cap s h=>
  obtain⟨h1,h2⟩:=key k _ h;simp only[Ap.X3];split<;>rename_i hs
  ·exact .aQ _ ad n cap s (h1 _ hs)
  ·exact .junk _
  exact .aQ _ ad n cap s (h2 hs)
 |lY k i off b n cap s h=>
  obtain⟨h1,h2⟩:=key k _ h;simp only[Ap.X3];split<;>rename_i hs
  ·exact .lY _ i off b n cap s (h1 _ hs)
  ·exact .junk _
  exact .lY _ i off b n cap s (h2 hs)
 |mp k v s hl h=>
  obtain⟨h1,h2⟩:=key k _ h;simp only[Ap.X3];split<;>rename_i hs
  ·exact .mp _ v s hl (h1 _ hs)
  ·exact .junk _
  exact .mp _ v s hl (h2 hs)
 |clip xs ad h=>
  exact .clip xs ad h
 |yh k ad n cap s h=>
  obtain⟨h1,h2⟩:=key k _ h;simp only[Ap.X3];split<;>rename_i hs
  ·exact .yh _ ad n cap s (h1 _ hs)
  ·exact .junk _
  exact .yh _ ad n cap s (h2 hs)
 |fn f first cap vs us hl hm h h'=>
  exact .junk _
 |eH xs vs hl h=>
  exact .junk _
 |ag xs vs hl U h=>
  exact .junk _
 |junk v=>
  exact .junk _
def aSt (q:Hc=srcs.map (ES.hd H))(j:∀(i k:Nat),srcs[i]? =some (.ent k)->k<H.length)(u:Names Hc H')(h:R ok w H' x v):R ok w (H++H'.drop srcs.length) (x.up srcs H.length) v:=by
 cases h with
 |eH xs vs hl h=>exact .eH _ vs jc (λi hi=>aSD)
 |ag xs vs hl z h=>exact .junk _
 |d x v h=>exact Ws q j u (.d x v h)
 |ptr k off b s h=>exact Ws q j u (.ptr k off b s h)
 |aQ k ad n cap s h=>exact Ws q j u (.aQ k ad n cap s h)
 |lY k i off b n cap s h=>exact Ws q j u (.lY k i off b n cap s h)
 |mp k v s hl h=>exact Ws q j u (.mp k v s hl h)
 |clip xs ad h=>exact Ws q j u (.clip xs ad h)
 |yh k ad n cap s h=>exact Ws q j u (.yh k ad n cap s h)
 |fn f first cap vs us hl hm h h'=>exact .fn f _ _ vs us jc (by simp[hm]) (λi hi=>aSD) (λi hi=>by rw[Df]at hi;rw[WI _ _ _ hi];exact Ws q j u (h' i hi))
 |junk v=>exact .junk _
def Fb.upw (I:Hc=srcs.map (ES.hd H))(u:∀(i k:Nat),srcs[i]? =some (.ent k)->k<H.length)(J:Names Hc H')(hl:H.length=n)(z:e.arL srcs n=true)(j:Fb ok w H' h e):
 Fb ok w (H++H'.drop srcs.length) h (e.up srcs n):=by
 cases e with
 |dead=>trivial
 |arr=>exact j.any rfl
 |map=>exact j
 |fF=>exact j
 |iter=>exact j
 |loop=>cases z
 |box cs=>
  obtain⟨b,vs,T,h1,h2,h3,L⟩:=j;refine⟨b,vs,T,h1,h2,by rw[h3,Df],λi hi=>?_⟩;rw[Df]at hi;obtain⟨M,O⟩:=L i hi;simp only[Bd.arL,En]at z;have q:=z (cs.getD i .junk) OE;rw[WI _ _ _ hi];refine⟨?_,by have :=Ws I u J O;rwa [hl]at this⟩;rcases Bool.or_eq_true_iff.1 q with q|q
  ·rw[aVX q];exact M
  exact q
def G5 :A8 CB->A8 Ap->A8 (CB×Ap)
 |x::xs,v::vs=>(x,v)::G5 xs vs
 |_,_=>[]
def O5 (srcs:A8 ES):A8 Ap->A8 Ap->Prop
 |x::xs,y::ys=>aUJ srcs x y/\O5 srcs xs ys
 | [],[]=>True
 |_,_=>False
def aSA {srcs:A8 ES}:∀{xs ys:A8 Ap},O5 srcs xs ys->xs.length=ys.length
 | [],[],_=>rfl
 |_::xs,_::ys,h=>by simp[aSA h.2]
 | [],_::_,h=>h.elim
 |_::_,[],h=>h.elim
variable {ops:A8 CB}
def aZA:∀{xs ys:A8 Ap},ops.length=xs.length->O5 srcs xs ys->∀i,i<ys.length->∃o x,ops[i]? =some o/\(o,x)∈G5 ops xs/\aUJ srcs x (ys.getD i .junk):=by
 induction ops with
 |nil=>
  intro xs ys hl h i hi;cases xs with
  |nil=>cases ys with |nil=>simp at hi|cons _ _=>exact h.elim
  |cons _ _=>simp at hl
 |cons o ops j=>
  intro xs ys hl h i hi;cases xs with
  |nil=>simp at hl
  |cons x xs=>
   cases ys with
   |nil=>exact h.elim
   |cons y ys=>
    cases i with
    |zero=>exact⟨o,x,rfl,by simp[G5],h.1⟩
    |succ i=>
     obtain⟨q,u,h1,h2,h3⟩:=j NY h.2 i IU;exact⟨q,u,V7,by simp[G5,h2],X8⟩
def ajT:b∈(srcs.filterMap λs=>match s with | .ent k=>EC (H.getD k ⟨undef,0⟩).v| .nil _=>none)↔∃k,.ent k∈srcs/\EC (H.getD k ⟨undef,0⟩).v=some b:=by
 grind
variable {E E':A8 Bd}{dX fB:A8 Ap}{ops:Bg CB}
section
variable {P:Cc} {o:Oper} {es:A8 Bd}
def aVh :∀{srcs:A8 ES},(srcs.filterMap λs=>match s with | .ent k=>some k| .nil _=>none).Nodup->∀(i j k:Nat),srcs[i]? =some (.ent k)->srcs[j]? =some (.ent k)->i=j
 | [],_,i,j,k,h,_=>J9
 |s::srcs,z,i,j,k,hi,u=>by
  have q:∀(n:Nat),srcs[n]? =some (.ent k)->k∈srcs.filterMap λs=>match s with | .ent k=>some k| .nil _=>none:=λn h=>by
   rw[bV];exact⟨_,Zi h,rfl⟩
  have I:(srcs.filterMap λs=>match s with | .ent k=>some k| .nil _=>none).Nodup:=by
   grind
  match i,j with
  |0,0=>
   rfl
  |0,j+1=>
   simp at hi u;subst hi;simp only[Uj]at z;exact absurd (q j u) (KQ.1 z).1
  |i+1,0=>
   simp at hi u;subst u;simp only[Uj]at z;exact absurd (q i hi) (KQ.1 z).1
  |i+1,j+1=>
    rw[aVh I i j k IU Ql]
def aLP (hm:E5 C ok H es w)(srcs:A8 ES){res:Ap}(hr:Ed P f fB E res E')(hb:U1 srcs es E E'=true)(hE:Mem srcs es E)(ha:O5 srcs dX fB){ops:A8 CB}(hl:ops.length=dX.length)(hn:∀n∈G5 ops dX,R ok w H n.2 (a.eval n.1)):
 Calls P f (ops.map a.eval).toArray w λe w'=>∃v ok' H',e=.returned v/\FP ok w ok' w'/\Names H H'/\E5 C ok' H' (Nc srcs es E') w'/\R ok' w' H' (res.up srcs es.length) v:=by
 unfold U1 at hb;simp only[DR,IQ,En]at hb;obtain⟨⟨⟨⟨⟨⟨hb1,hb2⟩,hb3⟩,hb4⟩,hb5⟩,hb6⟩,hb7⟩:=hb;have hidx:=aVh hb5
 let Hc:=srcs.map (ES.hd H)
 let X:=srcs.filterMap λs=>match s with | .ent k=>EC (H.getD k ⟨undef,0⟩).v| .nil _=>none
 have hX:∀b,b∈X↔∃k,.ent k∈srcs/\EC (H.getD k ⟨undef,0⟩).v=some b:=λb=>ajT
 have O:∀(i k:Nat),srcs[i]? =some (.ent k)->k<es.length/\(es.getD k .dead).live=true:=by
  intro i k hi;have :=hb7 _ (Zi hi);simpa using this
 have hlt:∀(i k:Nat),srcs[i]? =some (.ent k)->k<H.length:=λi k hi=>by rw[hm.hlen];exact(O i k hi).1
 have hHk:∀(k:Nat),k<H.length->H[k]? =some (H.getD k ⟨undef,0⟩):=λk hk=>by simp[List.getD,hk]
 have arM:∀(k:Nat),k<es.length->es[k]? =some (es.getD k .dead):=λk hk=>by simp[List.getD,hk]
 have L:∀b,b∈X->∃(i k:Nat),srcs[i]? =some (.ent k)/\EC (H.getD k ⟨undef,0⟩).v=some b/\¬ok b/\b<w.heap.size/\(C.w0.heap.size<=b\/b∈C.X):=by
  intro b hb;obtain⟨k,hk,hbk⟩:=(hX b).1 hb;obtain⟨i,hi,M⟩:=G8 hk;have hi':srcs[i]? =some (.ent k):=by simp[hi,M]
  have :=hm.blk k _ _ b (arM k (O i k hi').1) (O i k hi').2 (hHk k (hlt i k hi')) hbk;exact⟨i,k,hi',hbk,this⟩
 have hmc:E5 ⟨w,ok,X,Hc⟩ ok Hc E w:=by
  refine⟨.refl _ _,λ_ h=>h,λ_ h=>.inl h,hm.kZ,.refl _,by simp[Hc,hb1],?_,?_,?_⟩
  ·intro i e h M I;have hi:i<srcs.length:=aG3
   have hcl:e.apF srcs=true:=hb3 e (Zi M);have aLW:∀(j:Nat) (s:ES),srcs[j]? =some s->Hc[j]? =some (ES.hd H s):=λj s hs=>by simp[Hc,hs]
   have hs:srcs[i]? =some srcs[i]:=VL
   have hd:=hE i _ hs;simp only[Hc,LC,hs,JR,Kq]at I;cases hsi:srcs[i]with
   |ent k=>
    rw[hsi]at hd I hs;simp only[ES.hd]at I;subst I;simp only at hd;rw[M,JR]at hd;exact Fb.down aLW hcl (hm.ent k _ _ hd.symm (hHk k (hlt i k hs)))
   |nil sz=>
    rw[hsi]at hd I;simp only[ES.hd]at I;subst I;obtain⟨e',he'⟩:=hd;rw[M]at he';obtain rfl:=Dx he';exact⟨rfl,Bf,[],⟨Bf,.inl ⟨rfl,rfl⟩⟩,Ug,λi hi=>a8W⟩
  ·intro i e h b M J I z;have hi:i<srcs.length:=aG3
   have hs:srcs[i]? =some srcs[i]:=VL
   simp only[Hc,LC,hs,JR,Kq]at I;cases hsi:srcs[i]with
   |ent k=>
    rw[hsi]at I hs;simp only[ES.hd]at I;subst I;have hbX:b∈X:=(hX b).2 ⟨k,Zi hs,z⟩;obtain⟨_,_,_,_,h1,h2,_⟩:=L b hbX;exact⟨h1,h2,.inr hbX⟩
   |nil sz=>
    rw[hsi]at I;simp only[ES.hd]at I;subst I;simp[EC]at z
  intro i j e e' h h' b M he' J U I hh' z Y;have hi:i<srcs.length:=aG3
  have hj:j<srcs.length:=by rw[hb1];exact(I4.1 he').1
  have hs:srcs[i]? =some srcs[i]:=VL
  have hs':srcs[j]? =some srcs[j]:=by simp[hj]
  simp only[Hc,LC,hs,JR,Kq]at I;simp only[Hc,LC,hs',JR,Kq]at hh';cases hsi:srcs[i]with
  |nil sz=>rw[hsi]at I;simp only[ES.hd]at I;subst I;simp[EC]at z
  |ent k=>
   cases hsj:srcs[j]with
   |nil sz=>rw[hsj]at hh';simp only[ES.hd]at hh';subst hh';simp[EC]at Y
   |ent k'=>
    rw[hsi]at I hs;rw[hsj]at hh' hs';simp only[ES.hd]at I hh';subst I;subst hh';have hkk:=hm.Iw k k' _ _ _ _ b (arM k (O i k hs).1) (arM k' (O j k' hs').1) (O i k hs).2 (O j k' hs').2 (hHk k (hlt i k hs)) (hHk k' (hlt j k' hs')) z Y;subst hkk;exact hidx i j k hs hs'
 have hargs:∀i,i<fB.length->R ok w Hc (fB.getD i .junk) ((ops.map a.eval).toArray.getD i undef):=by
  intro i hi;obtain⟨op,x,ho,hmem,Z⟩:=aZA hl ha i hi;have hR:=hn _ hmem
  have e:(ops.map a.eval).toArray.getD i undef=a.eval op:=by
   obtain⟨h1,h2⟩:=I4.1 ho;simp[Array.getD,h1,h2]
  rw[e];simp only at hR;generalize fB.getD i .junk=y at Z ⊢;generalize a.eval op=u at hR ⊢;have hHc:∀(j:Nat) (s:ES),srcs[j]? =some s->Hc[j]? =some (ES.hd H s):=λj s hs=>by simp[Hc,hs]
  cases x with
  |d x=>
   rcases Z with rfl|⟨j,s,rfl,rfl,hs⟩|⟨rfl,rfl⟩
   ·cases hR with |d _ _ h=>exact .d _ _ h
   ·have :=hR.lit;rw[this];exact .aQ j none 0 0 s (hHc j _ hs)
   have :=hR.lit;rw[this];exact .d _ _ (.sl0 none 0)
  |aQ k=>
   obtain⟨j,rfl,hs⟩:=Z;cases hR with
   |aQ _ ad n cap s hH=>
    refine .aQ j ad n cap s ?_;rw[hHc j _ hs];simp[ES.hd,List.getD,hH]
  |ptr k off=>
   obtain⟨j,rfl,hs⟩:=Z;cases hR with
   |ptr _ _ b s hH=>
    refine .ptr j off b s ?_;rw[hHc j _ hs];simp[ES.hd,List.getD,hH]
  |mp k=>
   obtain⟨j,rfl,hs⟩:=Z;cases hR with
   |mp _ _ s hl hH=>
    refine .mp j _ s hl ?_;rw[hHc j _ hs];simp[ES.hd,List.getD,hH]
  |fn f fi ca=>
   obtain⟨fi',ca',rfl,h1,h2⟩:=Z
   have one:∀(x y:Ap) (v:BI),aHj srcs x y->R ok w H x v->R ok w Hc y v:=by
    intro x y v hxy hx;cases x with
    |d x=>obtain rfl:=hxy;cases hx with |d _ _ h=>exact .d _ _ h
    |mp k=>
     obtain⟨j,rfl,hs⟩:=hxy;cases hx with
     |mp _ _ s hl hH=>
      refine .mp j _ s hl ?_;rw[hHc j _ hs];simp[ES.hd,List.getD,hH]
    |ptr k off=>
     obtain⟨j,rfl,hs⟩:=hxy;cases hx with
     |ptr _ _ b s hH=>
      refine .ptr j off b s ?_;rw[hHc j _ hs];simp[ES.hd,List.getD,hH]
    |_=>exact hxy.elim
   cases hR with
   |fn _ _ _ vs us hl1 hl2 h3 h4=>
    refine .fn f fi' ca' vs us (by rw[hl1,a0w h1]) (by rw[hl2,a0w h2]) (λi hi=>?_) (λi hi=>?_)
    ·exact one _ _ _ (aIv h1 i hi) (h3 i (by rw[a0w h1];exact hi))
    exact one _ _ _ (aIv h2 i hi) (h4 i (by rw[a0w h2];exact hi))
  |_=>exact Z.elim
 refine(hr ok X Hc w _ hmc (by simp[hl,aSA ha]) hargs).mono ?_;rintro e w' ⟨v,ok',H',rfl,q,hR⟩;have hgr:FP ok w ok' w':=λb hb=>⟨q.AY b hb,q.fr.block b (hm.kZ b hb) (λhbX=>by obtain⟨_,_,_,_,h1,_⟩:=L b hbX;exact h1 hb)⟩
 have aRg:srcs.length<=H'.length:=by rw[q.hlen];exact hb2
 refine⟨v,ok',H++H'.drop srcs.length,rfl,hgr,IW _ _,?_,by have :=aSt rfl hlt q.names hR;rwa [hm.hlen]at this⟩
 let idx:Nat->AB Nat:=λj=>srcs.findIdx? (λs=>match s with | .ent k=>k==j| .nil _=>false)
 have aKC:∀(j i:Nat),idx j=some i->srcs[i]? =some (.ent j):=by
  intro j i h;simp only[idx,aMj]at h;obtain⟨h1,h2,_⟩:=h;have :srcs[i]? =some srcs[i]:=Zl
  cases hs:srcs[i]with
  |ent k=>rw[hs]at h2 this;simp at h2;rw[this,h2]
  |nil _=>rw[hs]at h2;simp at h2
 have aKD:∀(j:Nat),idx j=none->∀(i:Nat),srcs[i]? ≠some (.ent j):=by
  intro j h i hi;simp only[idx,List.findIdx?_eq_none_iff]at h;have :=h _ (Zi hi);simp at this
 have hlow:∀(j:Nat),j<es.length->(Nc srcs es E')[j]? =some (match idx j with |some i=>(E'.getD i .dead).up srcs es.length|none=>es.getD j .dead):=by
  intro j hj;unfold Nc;rw[KI (by simpa using hj)];simp only[LC,List.getElem?_zipIdx,arM j hj,JR,KD];rfl
 have aI4:(Nc srcs es E').length=es.length+(E'.length-srcs.length):=by simp[Nc]
 have hhigh:∀(j:Nat),es.length<=j->(Nc srcs es E')[j]? =(E'[srcs.length+(j-es.length)]?).map (Bd.up srcs es.length):=by
  intro j hj;unfold Nc;rw[QI (by simpa using hj),LC,WR];simp
 have aKE:∀(j:Nat),j<es.length->(H++H'.drop srcs.length)[j]? =H[j]? :=λj hj=>KI (by rw[hm.hlen];exact hj)
 have aI5:∀(j:Nat),es.length<=j->(H++H'.drop srcs.length)[j]? =H'[srcs.length+(j-es.length)]? :=by
  intro j hj;rw[QI (by rw[hm.hlen];exact hj),WR,hm.hlen]
 have hcls:∀(j:Nat) (e:Bd) (h:CM),(Nc srcs es E')[j]? =some e->e.live=true\/True->(H++H'.drop srcs.length)[j]? =some h->
  (∃(i:Nat) (e0:Bd),e=e0.up srcs es.length/\E'[i]? =some e0/\H'[i]? =some h/\((j<es.length/\srcs[i]? =some (.ent j))\/(es.length<=j/\i=srcs.length+(j-es.length))))\/(j<es.length/\es[j]? =some e/\H[j]? =some h/\∀(i:Nat),srcs[i]? ≠some (.ent j)):=by
  intro j e h M _ I;by_cases hj:j<es.length
  ·rw[hlow j hj]at M;rw[aKE j hj]at I;cases hi:idx j with
   |none=>
    rw[hi]at M;simp only[Kq]at M;exact .inr ⟨hj,by rw[arM j hj,M],I,aKD j hi⟩
   |some i=>
    rw[hi]at M;simp only[Kq]at M;have hs:=aKC j i hi;have hil:i<srcs.length:=(I4.1 hs).1;have hiE:i<E'.length:=AQ
    refine .inl ⟨i,_,M.symm,by simp[List.getD,hiE],?_,.inl ⟨hj,hs⟩⟩;refine q.names i h ?_;simp only[Hc,LC,hs,JR,ES.hd];simp[List.getD,I]
  rw[hhigh j AQ]at M;rw[aI5 j AQ]at I;rw[jG]at M;obtain⟨e0,M,rfl⟩:=M;exact .inl ⟨_,_,rfl,M,I,.inr ⟨AQ,rfl⟩⟩
 have hold:∀(j:Nat) (e:Bd) (h:CM) (b:Nat),es[j]? =some e->H[j]? =some h->(∀(i:Nat),srcs[i]? ≠some (.ent j))->e.live=true->EC h.v=some b->b<w.heap.size/\b∉X/\¬ok b/\(C.w0.heap.size<=b\/b∈C.X):=by
  intro j e h b M I hno J z;have h1:=hm.blk j e h b M J I z;refine⟨h1.2.1,λhbX=>?_,h1.1,h1.2.2⟩;obtain⟨i,k,hs,hbk,_⟩:=L b hbX;have :=hm.Iw j k e _ h _ b M (arM k (O i k hs).1) J (O i k hs).2 I (hHk k (hlt i k hs)) z hbk;subst this;exact hno i hs
 have arN:∀(i:Nat) (e:Bd) (h:CM) (b:Nat),E'[i]? =some e->H'[i]? =some h->e.live=true->EC h.v=some b->¬ok' b/\b<w'.heap.size/\(w.heap.size<=b\/b∈X):=λi e h b M I J z=>q.blk i e h b M J I z;refine⟨⟨q.fr.os.trans hm.fr.os,q.fr.tape.trans hm.fr.tape,q.fr.output.trans hm.fr.output,EI hm.fr.size q.fr.size,λk hk hx=>?_⟩,λb hb=>q.AY b (hm.AY b hb),?_,q.kZ,hm.names.trans (IW _ _),?_,?_,?_,?_⟩
 ·have hkw:k<w.heap.size:=XH hk hm.fr.size
  rw[q.fr.block k hkw (λhkX=>by
   obtain⟨_,_,_,_,_,_,h⟩:=L k hkX;rcases h with h|h
   ·omega
   exact hx h)]
  exact hm.fr.block k hk hx
 ·intro b hb;rcases q.AZ b hb with h|h|h
  ·exact hm.AZ b h
  ·exact .inr (.inl (EI hm.fr.size h))
  obtain⟨_,_,_,_,_,_,h⟩:=L b h;exact .inr h
 ·rw[aI4,Ee,LY,hm.hlen,q.hlen]
 ·intro j e h M I;rcases hcls j e h M (.inr trivial) I with⟨i,e0,rfl,h1,h2,_⟩|⟨_,h1,h2,h3⟩
  ·exact Fb.upw rfl hlt q.names hm.hlen (hb4 e0 (Zi h1)) (q.ent i e0 h h1 h2)
  refine(hm.ent j e h h1 h2).mono hgr (IW _ _) (λJ b z=>?_);have h4:=hold j e h b h1 h2 h3 J z;exact q.fr.block b h4.1 h4.2.1
 ·intro j e h b M J I z;rcases hcls j e h M (.inr trivial) I with⟨i,e0,rfl,h1,h2,_⟩|⟨_,h1,h2,h3⟩
  ·have h4:=arN i e0 h b h1 h2 aGr z;refine⟨h4.1,h4.2.1,?_⟩;rcases h4.2.2 with h5|h5
   ·exact .inl (EI hm.fr.size h5)
   obtain⟨_,_,_,_,_,_,h⟩:=L b h5;exact h
  have h4:=hold j e h b h1 h2 h3 J z;refine⟨λhok'=>?_,XH h4.1 q.fr.size,h4.2.2.2⟩;rcases q.AZ b hok' with h5|h5|h5
  ·exact h4.2.2.1 h5
  ·have :w.heap.size<=b:=h5;omega
  exact h4.2.1 h5
 intro j j' e e' h h' b M he' J U I hh' z Y;rcases hcls j e h M (.inr trivial) I with⟨i,e0,rfl,h1,h2,h3⟩|⟨_,h1,h2,h3⟩
 ·rcases hcls j' e' h' he' (.inr trivial) hh' with⟨i',e0',rfl,h1',h2',h3'⟩|⟨_,h1',h2',h3'⟩
  ·have hii:=q.Iw i i' e0 e0' h h' b h1 h1' aGr (by rw[Bd.agt]at U;exact U) h2 h2' z Y;subst hii;rcases h3 with⟨_,h4⟩|⟨h4,h5⟩
   ·rcases h3' with⟨_,h4'⟩|⟨h4',h5'⟩
    ·rw[h4]at h4';simpa using h4'
    have :=(I4.1 h4).1;omega
   rcases h3' with⟨_,h4'⟩|⟨h4',h5'⟩
   ·have :=(I4.1 h4').1;omega
   omega
  have h4:=hold j' e' h' b h1' h2' h3' U Y;rcases(arN i e0 h b h1 h2 aGr z).2.2 with h5|h5
  ·omega
  exact absurd h5 h4.2.1
 rcases hcls j' e' h' he' (.inr trivial) hh' with⟨i',e0',rfl,h1',h2',h3'⟩|⟨_,h1',h2',h3'⟩
 ·have h4:=hold j e h b h1 h2 h3 J z;rcases(arN i' e0' h' b h1' h2' (by rw[Bd.agt]at U;exact U) Y).2.2 with h5|h5
  ·omega
  exact absurd h5 h4.2.1
 exact hm.Iw j j' e e' h h' b h1 h1' J U h2 h2' z Y
def aPW (srcs:A8 ES){j:Ap}(q:Ed P f fB E j E')(u:IC P f=true)(z:U1 srcs es E E'=true)(hE:Mem srcs es E)(ha:O5 srcs dX fB)(hl:ops.toList.length=dX.length)(I:o.op=.call { callee:=.value (.func f),args:=ops,argTypes:=ats }:=by exact rfl):CJ P o (G5 ops.toList dX) es (j.up srcs es.length) (Nc srcs es E'):=by
 intro C ok H a w Q hm J;unfold Oper.wp;rw[zi I,Un u,bg];have e:ops.map a.eval=(ops.toList.map a.eval).toArray:=a5r
 rw[e];refine(aLP hm srcs q z hE ha hl J).mono ?_;rintro e w' ⟨v,ok',H',rfl,h1,h2,h3,L⟩;exact⟨v,ok',H',rfl,h1,h2,h3,L⟩
end
def Ai (n:Int):D:=.lit (.int .i64 n)
def Dk (n:Int):D:=.lit (.int .u8 n)
def E9 (b:Ad):D:=.lit (.bool b)
def DW (s:BP):D:=.lit (.string s)
def BZ (e:α->D)(l:A8 α):D:=.sl (l.map e)
def BH (x:D):A8 Ap:=x.cells.map .d
def Au (l:A8 α)(i:Int):AB α:=if 0<=i then l[i.toNat]? else none
def DC (j:Nat)(l m:A8 α):AB (A8 α):=if(l.length+m.length)*j<=140737488355328 then some (l++m)else none
def Ig (s:BP)(i:Int):AB Int:=if 0<=i then(s[i.toNat]?).map λc=>(c.toNat:Int)else none
def Hy (l:A8 α)(lo hi:Int):AB (A8 α):=if 0<=lo/\lo<=hi/\hi<=l.length then some ((l.drop lo.toNat).take (hi.toNat-lo.toNat))else none
def Oj (s:BP)(lo hi:Int):AB BP:=if 0<=lo/\lo<=hi/\hi<=s.size then some (s.extract lo.toNat hi.toNat)else none
def Jg (j:Nat)(z:α)(n c:Int):AB (A8 α):=if 0<=n/\n<=c/\(j:Int)*c<=140737488355328 then some (List.replicate n.toNat z)else none
variable {x:α}
def Gy (h:Au l i=some x):0<=i/\l[i.toNat]? =some x:=by
 unfold Au at h;split at h
 ·exact⟨‹_›,h⟩
 cases h
variable {β:Type}
def ajl {i:Nat}(f:α->β)(h:l[i]? =some x):(l.map f)[i]? =some (f x):=by simp[h]
def SK {b:Ad}{y z:α}(j:b=true)(h:(bif b then x else y)=z):x=z:=by subst j;exact h
def RZ {b:Ad}{y z:α}(j:b=false)(h:(bif b then x else y)=z):y=z:=by subst j;exact h
def Dq {x:AB α}{f:α->AB β}{z:β}(h:x.bind f=some z):∃a,x=some a/\f a=some z:=lg.1 h
def Az :Nat:=9223372036854775808
variable {e:Bz}{hi lo:AB CB}{j s:Nat}{l:Int}{r:BP}{x:CB}
section
variable {P:Cc} {o:Oper} {es:A8 Bd} {α:Type}
def aZq (enc:α->D)(l:A8 α)(j:P.underlying t=some (.slice e))(q:o.op=.call { callee:=.builtin .len,args:= #[x],argTypes:= #[t] }:=by exact rfl):
 CJ P o [(x,.d (BZ enc l))] es (.d (Ai l.length)) es:=by
 have :=aWa (es:=es) (xs:=l.map enc) j q;rw[Df]at this;exact this
def Kt (enc:α->D)(l:A8 α)(j:es[k]? =some (.arr e' s (l.map enc)))(q:P.underlying t=some (.slice e))(u:o.op=.call { callee:=.builtin .len,args:= #[x],argTypes:= #[t] }:=by exact rfl):
 CJ P o [(x,.aQ k)] es (.d (Ai l.length)) es:=by
 have :=aa7 j q u;rw[Df]at this;exact this
def aXe (s:BP)(j:P.underlying t=some .string)(q:o.op=.call { callee:=.builtin .len,args:= #[x],argTypes:= #[t] }:=by exact rfl):
 CJ P o [(x,.d (DW s))] es (.d (Ai s.size)) es:=afJ j q
def ZG {k:IntKind}(enc:α->D){l:A8 α}{a:α}(h:Au l i=some a)(j:P.underlying t=some (.slice e))(q:Ei P e agg size)(hs:(enc a).cells.length=size)(u:o.op=.indexAddr t x y:=by exact rfl):
 CJ P o [(x,.d (BZ enc l)),(y,.d (.lit (.int k i)))] es (.d (.ref (enc a).cells 0)) es:=
 zZ j q (Gy h).1 (ajl enc (Gy h).2) hs u
def Il (enc:α->D){l:A8 α}{a:α}(h:Au l i=some a)(j:es[k]? =some (.arr e' size (l.map enc)))(q:P.underlying t=some (.slice e))(u:Ei P e agg size)(z:o.op=.indexAddr t x y:=by exact rfl):
 CJ P o [(x,.aQ k),(y,.d (.lit (.int kd i)))] es (.lY k i.toNat 0) es:=
 aad j q u (Gy h).1 (by have :=(I4.1 (Gy h).2).1;simpa using this) z
def agC {s:BP}{n:Int}(h:Ig s i=some n):∃c,0<=i/\s[i.toNat]? =some c/\n=c.toNat:=by
 unfold Ig at h;split at h
 ·grind
 cases h
def Ls {k:IntKind}{n:Int}{s:BP}(h:Ig s i=some n)(j:P.underlying t=some .string)(q:o.op=.index t x y:=by exact rfl):
 CJ P o [(x,.d (DW s)),(y,.d (.lit (.int k i)))] es (.d (Dk n)) es:=by
 obtain⟨c,u,h1,rfl⟩:=agC h;exact aaA j u h1 q
def zh {l m r:A8 α}(h:DC b l m=some r):r=l++m/\(l.length+m.length)*b<=140737488355328:=by
 unfold DC at h;split at h
 ·grind
 cases h
def a5u (j:0<b)(h:n*b<=140737488355328):n<=maxLen:=by
 have :n*1<=n*b:=Nat.mul_le_mul_left _ j;unfold maxLen;omega
def Dv {s:CB}(enc:α->D){l m r:A8 α}(h:DC j l m=some r)(hE:GU P t e size j)(q:es[k]? =some (.arr e size (l.map enc)))(u:∀a,(enc a).cells.length=size)(z:0<j)(I:o.op=.call { callee:=.builtin .append,args:= #[s,x],argTypes:= #[t,t] }:=by exact rfl):
 CJ P o [(s,.aQ k),(x,.d (BZ enc m))] es (.aQ es.length) (es.set k .dead++[.arr e size (r.map enc)]):=by
 obtain⟨rfl,h2⟩:=zh h;have :=afV (ys:=m.map enc) hE q (λy J=>by obtain⟨a,_,rfl⟩:=FT.1 J;exact u a) LJ (by simpa using a5u z h2) I;rw[←Jb]at this;exact this
def aXf {s:BP}{lo hi:Int}(h:Oj s lo hi=some r):(0<=lo/\lo<=hi/\hi<=s.size)/\r=s.extract lo.toNat hi.toNat:=by
 unfold Oj at h;split at h
 ·grind
 cases h
def xZ (x:AB CB)(n:Int):A8 (CB×Ap):=match x with |some y=>[(y,.d (Ai n))]|none=>[]
def qx {h:Int}{s:BP}(hr:Oj s l h=some r)(hl:lo=none->l=0)(Z:hi=none->h=s.size)(ht:P.underlying t=some .string)(J:o.op=.slice t x lo hi none:=by exact rfl):
 CJ P o ((x,.d (DW s))::(xZ lo l++xZ hi h)) es (.d (DW r)) es:=
 .pure λok H a w _ _ M=>by
  obtain⟨⟨O,h1,h2⟩,rfl⟩:=aXf hr;have q:=(M (x,.d (DW s)) Bf).lit;simp only at q;have L:(underlying t).run P w=.ok .string w:=aK1
  refine⟨.string (s.extract l.toNat h.toNat),?_,.d _ _ (.lit _)⟩;have u:∀y,lo=some y->a.eval y=.int .i64 l:=λy e=>(M (y,.d (Ai l)) aAO).lit;have I:∀y,hi=some y->a.eval y=.int .i64 h:=λy e=>(M (y,.d (Ai h)) aAO).lit;have e1:((0:Int)<=h/\h<=(s.size:Int)):=⟨AQ,h2⟩
  have e2:((0:Int)<=l/\l<=(h.toNat:Int)):=⟨O,AQ⟩
  cases lo with
  |none=>
   have U:=hl rfl;subst U;cases hi with
   |none=>
    have j:=Z rfl;subst j;simp[execOp,J,q,Instr.sliceAt,Instr.slice,L,Instr.sliceBounds]
   |some y=>
    simp[execOp,J,q,Instr.sliceAt,Instr.slice,L,Instr.sliceBounds,Instr.sliceBound,I y rfl,asIntOf,e1]
  |some z=>
   cases hi with
   |none=>
    have j:=Z rfl;subst j;have Y:((0:Int)<=l/\l<=(s.size:Int)):=⟨O,AQ⟩
    simp[execOp,J,q,Instr.sliceAt,Instr.slice,L,Instr.sliceBounds,Instr.sliceBound,u z rfl,asIntOf,Y]
   |some y=>
    simp[execOp,J,q,Instr.sliceAt,Instr.slice,L,Instr.sliceBounds,Instr.sliceBound,u z rfl,I y rfl,asIntOf,e1];intro hc;have :=hc O;omega
def aWw {l r:A8 α}{lo hi:Int}(h:Hy l lo hi=some r):(0<=lo/\lo<=hi/\hi<=l.length)/\r=(l.drop lo.toNat).take (hi.toNat-lo.toNat):=by
 unfold Hy at h;split at h
 ·grind
 cases h
def aRd {ad:AB Addr}{cap l h:Nat}(Y:EJ ok w (.sl xs) (.slice ad xs.length cap))(hs:∀x∈xs,x.cells.length=size)(h1:l<=h)(h2:h<=xs.length):
 EJ ok w (.sl ((xs.drop l).take (h-l))) (.slice (if cap=l then ad else ad.map (·.add (l*size))) (h-l) (cap-l)):=by
 have hlen:((xs.drop l).take (h-l)).length=h-l:=Ej
 by_cases Z:h-l=0
 ·have :(xs.drop l).take (h-l)=[]:=by rw[Z];rfl
  rw[this,Z];exact .sl0 _ _
 have I:0<xs.length:=AQ
 generalize hn:xs.length=n at Y;cases Y with
 |sl0=>
  simp at I
 |sl _ b off _ q hcap J L hf hx hc=>
  have M:q=size:=by
   grind
  subst M;have O:cap≠l:=AQ
  rw[Ef O];simp only[JR,addr_add]
  have U:∀i,i<h-l->((xs.drop l).take (h-l)).getD i EM=xs.getD (l+i) EM:=by
   intro i hi;simp[List.getD,TF hi,WR]
  have u:∀i j,off+l*q+(i*q+j)=off+((l+i)*q+j):=by
   grind
  have :=EJ.sl ((xs.drop l).take (h-l)) b (off+l*q) (cap-l) q (ok:=ok) (w:=w) (by rw[hlen];omega) (λh1 h2=>J (by rw[hlen]at h1;omega) h2) (λi hi=>by rw[hlen]at hi;rw[U i hi];exact L _ AQ)
   (λi hi j z=>by rw[hlen]at hi;rw[U i hi];exact hf _ AQ j z) (λi hi j z=>by rw[hlen]at hi;rw[u];exact hx _ AQ j z)
   (λi hi j z=>by rw[hlen]at hi;rw[U i hi,u];exact hc _ AQ j z)
  rw[hlen]at this;exact this
def Rs {h:Int}(enc:α->D){xs r:A8 α}(hr:Hy xs l h=some r)(hl:lo=none->l=0)(hh:hi=none->h=xs.length)(ht:P.underlying t=some (.slice e))(O:Ei P e agg size)(hc:∀a,(enc a).cells.length=size)(U:o.op=.slice t x lo hi none:=by exact rfl):CJ P o ((x,.d (BZ enc xs))::(xZ lo l++xZ hi h)) es (.d (BZ enc r)) es:=
 .pure λok H a w _ _ hn=>by
  obtain⟨⟨h0,h1,h2⟩,rfl⟩:=aWw hr;have hx:=hn (x,.d (BZ enc xs)) Bf;simp only at hx;generalize Y:a.eval x=v at hx;have Z:(underlying t).run P w=.ok (.slice e) w:=aK1
  have L:∀y,lo=some y->a.eval y=.int .i64 l:=λy e=>(hn (y,.d (Ai l)) aAO).lit;have M:∀y,hi=some y->a.eval y=.int .i64 h:=λy e=>(hn (y,.d (Ai h)) aAO).lit;have u:EJ ok w (.sl (xs.map enc)) v:=by cases hx with |d _ _ h=>exact h
  have I:∃ad cap,v=.slice ad (xs.map enc).length cap/\(xs.map enc).length<=cap:=by
   generalize hys:xs.map enc=ys at u;cases u with
   |sl0 ad cap=>
    grind
   |sl _ b off cap size j=>
    grind
  obtain⟨ad,cap,rfl,j⟩:=I;have q:=aRd (l:=l.toNat) (h:=h.toNat) u (size:=size) (λy hy=>aJG) AQ Ej;rw[←dI,←bJ]at q;rw[Df]at j;refine⟨_,?_,.d _ _ q⟩;have e1:((0:Int)<=h/\h<=(cap:Int)):=⟨AQ,AQ⟩
  cases lo with
  |none=>
   have hl0:=hl rfl;subst hl0;cases hi with
   |none=>
    have J:=hh rfl;subst J;simp[execOp,U,Y,Instr.sliceAt,Instr.slice,Z,Instr.sliceBounds,O.size]
   |some y=>
    simp[execOp,U,Y,Instr.sliceAt,Instr.slice,Z,Instr.sliceBounds,Instr.sliceBound,M y rfl,asIntOf,e1,O.size]
  |some z=>
   cases hi with
   |none=>
    have J:=hh rfl;subst J;have e2':((0:Int)<=l/\l<=(xs.length:Int)):=⟨h0,AQ⟩
    simp[execOp,U,Y,Instr.sliceAt,Instr.slice,Z,Instr.sliceBounds,Instr.sliceBound,L z rfl,asIntOf,e2',O.size]
   |some y=>
    simp[execOp,U,Y,Instr.sliceAt,Instr.slice,Z,Instr.sliceBounds,Instr.sliceBound,L z rfl,M y rfl,asIntOf,e1,O.size];intro hc';have :=hc' h0;omega
def qR (P:Cc)(t:Bz)(f off:Nat)(agg:Ad)(n:Nat):Ad:=
 match P.underlying t with
 |some (.struct q)=>match q[f]? with
  |some j=>j.offset=off&&aCo P j.type agg n
  |none=>false
 |_=>false
def agi {f:Nat}{cs:A8 D}(hp:qR P t f off agg n=true)(hn:off+n<=cs.length)(h1:agg=false->n=1)(M:o.op=.field t x f:=by exact rfl):CJ P o [(x,.d (.agg cs))] es (.d (Qh agg cs off n)) es:=
 .pure λok H a w _ _ I=>by
  have J:=MR I;simp only at J;generalize O:a.eval x=v at J;unfold qR at hp;split at hp
  ·rename_i Z hu;split at hp
   ·rename_i j U;simp only[DR,IQ]at hp;obtain⟨rfl,q⟩:=hp;have q:=Fj q;have u:(underlying t).run P w=.ok (.struct Z) w:=aA6
    cases J with
    |d _ _ h=>
     cases h with
     |agg _ vs hl L Y=>
      cases agg with
      |false=>
       have :=h1 rfl;subst this;have z:j.offset<vs.size:=AQ
       refine⟨vs[j.offset],?_,?_⟩
       ·simp[execOp,M,O,Instr.field,u,U,asAgg,part,q.agg,z]
       have :=Y j.offset AQ;simp[Array.getD,z]at this;exact .d _ _ this
      |true=>
       refine⟨.agg (vs.extract j.offset (j.offset+n)),?_,?_⟩
       ·simp[execOp,M,O,Instr.field,u,U,asAgg,part,q.agg,q.size]
       simp only[Qh,KL];have hlen:((cs.drop j.offset).take n).length=n:=Ej
       have hg:∀i,i<n->((cs.drop j.offset).take n).getD i EM=cs.getD (j.offset+i) EM:=by
        grind
       refine .d _ _ (.agg _ _ (by rw[hlen];simp;omega) ?_ ?_)<;>intro i hi<;>rw[hlen]at hi<;>rw[hg i hi]
       ·exact L _ AQ
       have :=Y (j.offset+i) AQ
       have e:(vs.extract j.offset (j.offset+n)).getD i undef=vs.getD (j.offset+i) undef:=by
        have h3:j.offset+i<vs.size:=AQ
        have h4:i<(vs.extract j.offset (j.offset+n)).size:=Ej
        have h5:i<min (j.offset+n) vs.size-j.offset:=AQ
        simp[Array.getD,h3,h5]
       rw[e];exact this
   cases hp
  cases hp
def Ap.flat:Ap->Ad
 | .d (.lit _)=>true
 | .eH xs=>xs.all λx=>match x with | .d (.lit _)=>true|_=>false
 |_=>false
def aUv (es:A8 Bd):Ap->Ap->Prop
 | .d x,y=>y=.d x
 | .aQ k,y=>∃e s xs,es[k]? =some (.arr e s xs)/\y=.d (.sl xs)
 |_,_=>False
def jR (es:A8 Bd):A8 Ap->A8 Ap->Prop
 |x::xs,y::ys=>aUv es x y/\jR es xs ys
 | [],[]=>True
 |_,_=>False
def aCf :∀{xs ys:A8 Ap},jR es xs ys->xs.length=ys.length
 | [],[],_=>rfl
 |_::xs,_::ys,h=>by simp[aCf h.2]
 | [],_::_,h=>h.elim
 |_::_,[],h=>h.elim
def aNO {ops:A8 CB}:∀{xs ys:A8 Ap},ops.length=xs.length->jR es xs ys->∀i,i<ys.length->∃o x,ops[i]? =some o/\(o,x)∈G5 ops xs/\aUv es x (ys.getD i .junk):=by
 induction ops with
 |nil=>
  intro xs ys hl h i hi;cases xs with
  |nil=>cases ys with |nil=>simp at hi|cons _ _=>exact h.elim
  |cons _ _=>simp at hl
 |cons o ops j=>
  intro xs ys hl h i hi;cases xs with
  |nil=>simp at hl
  |cons x xs=>
   cases ys with
   |nil=>exact h.elim
   |cons y ys=>
    cases i with
    |zero=>exact⟨o,x,rfl,by simp[G5],h.1⟩
    |succ i=>
     obtain⟨q,u,h1,h2,h3⟩:=j NY h.2 i IU;exact⟨q,u,V7,by simp[G5,h2],X8⟩
def pW {e:Nat}(he:Fb ok w H h (.arr e s xs))(z:∀b,ok b->ok' b)(M:∀b,EC h.v=some b->ok' b):EJ ok' w (.sl xs) h.v:=by
 obtain⟨h1,h2,ys,⟨h3,h4⟩,h5⟩:=he;rcases h4 with⟨L,h7⟩|⟨g,cap,u,L,h7,h8,h9,h10,O,U⟩
 ·rw[He h7,L];exact .sl0 none 0
 rw[L];have I:=M g (by rw[L];rfl);have J:=Tm h2
 have Y:∀i j,i<xs.length->j<s->i*s+j<xs.length*s:=by
  intro i j hi q
  calc i*s+j<i*s+s:=AQ
   _=(i+1)*s:=by rw[dV]
   _<=xs.length*s:=LZ _ hi
 have hcur:xs.length*s<=u.size:=by
  exact EI (LZ _ h9) O
 have hc:∀i j,i<xs.length->j<s->w.cell? ⟨g,0+(i*s+j),none⟩=some (ys.getD (i*s+j) undef):=by
  intro i j hi q;have Z:=Y i j hi q;rw[KD]
  have e1:ys.getD (i*s+j) undef=u[i*s+j]' AQ:=by
   rw[←U];simp[List.getD,TF Z,show i*s+j<u.size by omega]
  rw[e1];simp[World.cell?,h8,show i*s+j<u.size by omega]
 have hg:∀i,i<xs.length->xs.getD i EM∈xs:=λi hi=>OE
 refine .sl xs g 0 cap s h9 (λ_ _=>I) (λi hi=>h2 _ (hg i hi)) (λi hi j q=>?_) (λi hi j q=>?_) (λi hi j q=>?_)
 ·have :=(h5.2 (i*s+j) (by rw[J];exact Y i j hi q)).1;rw[flat_get h2 i j hi q]at this;exact this
 ·rw[hc i j hi q];rfl
 have :=(h5.2 (i*s+j) (by rw[J];exact Y i j hi q)).2;rw[flat_get h2 i j hi q]at this;unfold cellAt;rw[hc i j hi q];cases this with |d _ _ h=>exact h.mono (λb M=>⟨z b M,rfl⟩)
def dc {I:Ap}(hr:Ed P f fB [] I [])(hf:IC P f=true)(z:I.flat=true)(ha:jR es dX fB)(hl:ops.toList.length=dX.length)(ho:o.op=.call { callee:=.value (.func f),args:=ops,argTypes:=ats }:=by exact rfl):CJ P o (G5 ops.toList dX) es I es:=by
 intro C ok H a w Q hm hn;unfold Oper.wp;rw[zi ho,Un hf,bg];have e:ops.map a.eval=(ops.toList.map a.eval).toArray:=a5r
 rw[e]
 let J:Nat->Prop:=λb=>b<w.heap.size
 have hmc:E5 ⟨w,J,[],[]⟩ J [] [] w:=
  ⟨.refl _ _,λ_ h=>h,λ_ h=>.inl h,λ_ h=>h,.refl _,rfl,λk e h L _=>vT,λk e h b L=>vT,λk k' e e' h h' b L=>vT⟩
 refine(hr J [] [] w _ hmc (by simp[hl,aCf ha]) (λi hi=>?_)).mono ?_
 ·obtain⟨op,x,ho',U,j⟩:=aNO hl ha i hi;have O:=hn _ U
  have e:(ops.toList.map a.eval).toArray.getD i undef=a.eval op:=by
   obtain⟨h1,h2⟩:=I4.1 ho';have h3:i<ops.size:=V7
   have Y:ops[i]=op:=LJ
   simp[Array.getD,h3,Y]
  rw[e];simp only at O;generalize fB.getD i .junk=y at j;generalize a.eval op=u at O;cases x with
  |d x=>
   obtain rfl:=j;cases O with |d _ _ h=>exact .d _ _ (h.mono (λb M=>⟨hm.kZ b M,rfl⟩))
  |aQ k=>
   obtain⟨e',s,xs,hk,rfl⟩:=j;obtain⟨h,hh,hok⟩:=Hq hm.ent hm.hlen hk;obtain rfl:=Qq O hh;exact .d _ _ (pW hok (λb M=>hm.kZ b M) (λb M=>(hm.blk k _ h b hk rfl hh M).2.1))
  |_=>exact j.elim
 rintro e w' ⟨v,ok',H',rfl,q,O⟩;have Z:∀b,b<w.heap.size->¬False->w'.heap[b]? =w.heap[b]? :=λb M _=>q.fr.block b M Bf;obtain⟨h1,h2⟩:=hm.change (ok':=ok) (H':=H) (es':=es) (w':=w') (λ_=>False) q.fr.os q.fr.tape q.fr.output q.fr.size Z (λ_ h=>h.elim) (λ_ h=>h) (λ_ h=>.inl h) (.refl _) hm.hlen (λk e h L hh=>.inl ⟨L,hh,λ_ _ _ h=>h⟩);refine⟨v,ok,H,rfl,h2,.refl _,h1,?_⟩;cases O with
 |d x v h=>
  cases x with
  |lit u=>cases h;exact .d _ _ (.lit _)
  |_=>simp[Ap.flat]at z
 |eH xs vs hl' h=>
  refine .eH xs vs hl' (λi hi=>?_);simp only[Ap.flat,En]at z;have h3:=z (xs.getD i .junk) OE;have Y:=h i hi;generalize xs.getD i .junk=x at h3 Y;generalize vs.getD i undef=u at Y;cases Y with
  |d y _ h5=>
   cases y with
   |lit u=>cases h5;exact .d _ _ (.lit _)
   |_=>simp at h3
  |_=>simp at h3
 |_=>simp[Ap.flat]at z
end
def Ap.thaw (k:Nat)(xs:A8 D):Ap->Ap
 | .aQ j=>if j=k then .d (.sl xs)else .aQ j
 | .lY j i off=>if j=k then .junk else .lY j i off
 |x=>x
def BR.thaw (σ:BR)(k:Nat)(xs:A8 D):BR:=⟨σ.slots.map (Ap.thaw k xs),σ.ents.set k .dead,σ.base⟩
def Jk (k:Nat){e:Nat}(hk:σ.ents[k]? =some (.arr e s xs)):∀C ok H a w,Holds C ok H σ a w->∃ok',Holds C ok' H (σ.thaw k xs) a w:=by
 intro C ok H a w u;obtain⟨hd,M,hok⟩:=Hq u.mem.ent u.mem.hlen hk;have I:k<σ.ents.length:=(I4.1 hk).1
 let ok':Nat->Prop:=λb=>ok b\/EC hd.v=some b
 have hblk:=λb q=>u.mem.blk k _ hd b hk rfl M q;have hg:FP ok w ok' w:=λb q=>⟨.inl q,rfl⟩
 refine⟨ok',⟨u.mem.fr,λb q=>.inl (u.mem.AY b q),?_,?_,u.mem.names,by simp[BR.thaw,u.mem.hlen],?_,?_,?_⟩,by simp[BR.thaw,u.size],u.defers.mono hg,u.base,?_⟩
 ·rintro b (q|q)
  ·exact u.mem.AZ b q
  grind
 ·rintro b (q|q)
  ·exact u.mem.kZ b q
  grind
 ·intro j e' h' he J;rcases OA I he with⟨rfl,rfl⟩|⟨_,L⟩
  ·trivial
  exact(u.mem.ent j e' h' L J).mono hg (.refl _) (λ_ _ _=>rfl)
 ·intro j e' h' b he hl J q;rcases OA I he with⟨rfl,rfl⟩|⟨hne,L⟩
  ·cases hl
  have h3:=u.mem.blk j e' h' b L hl J q;refine⟨λz=>?_,h3.2⟩;rcases z with z|z
  ·exact h3.1 z
  exact hne (u.mem.Iw j k e' _ h' hd b L hk hl rfl J M q z)
 ·intro i j e1 e2 h1 h2 b he1 he2 U Y hh1 hh2 hb1 hb2;rcases OA I he1 with⟨rfl,rfl⟩|⟨_,Z⟩
  ·cases U
  rcases OA I he2 with⟨rfl,rfl⟩|⟨_,aFe⟩
  ·cases Y
  exact u.mem.Iw i j e1 e2 h1 h2 b Z aFe U Y hh1 hh2 hb1 hb2
 intro t ht;simp only[BR.thaw,Df]at ht
 have e1:(σ.thaw k xs).slots.getD t .junk=(σ.slots.getD t .junk).thaw k xs:=by
  simp only[BR.thaw];exact WI _ _ _ ht
 rw[e1];have O:=(u.slot t ht).mono hg (oP H);generalize σ.slots.getD t .junk=x at O ⊢;generalize a.tmps.getD t undef=v at O ⊢;cases x with
 |aQ j=>
  simp only[Ap.thaw];split
  ·rename_i hj;subst hj;obtain rfl:=Qq O M;exact .d _ _ (pW hok (λb q=>.inl q) (λb q=>.inr q))
  exact O
 |lY j i off=>
  simp only[Ap.thaw];split
  ·exact .junk _
  exact O
 |_=>
   exact O
def Ed.view {args:A8 Ap}{e:Nat}(h:Ed P f args [] (.aQ 0) [.arr e s xs]):Ed P f args [] (.d (.sl xs)) []:=by
 intro ok X H w q hm hs ha;refine(h ok X H w q hm hs ha).mono ?_;rintro e' w' ⟨v,ok',H',rfl,j,L⟩;have M:H=[]:=He hm.hlen;have hl:H'.length=1:=j.hlen
 match H',hl with
 | [hd],_=>
   obtain rfl:=Qq L (h:=hd) rfl;have I:=j.ent 0 _ hd rfl rfl;have z:=λb z=>j.blk 0 _ hd b rfl rfl rfl z
   let J:Nat->Prop:=λb=>ok' b\/EC hd.v=some b
   refine⟨hd.v,J,[],rfl,⟨j.fr,λb h=>.inl (j.AY b h),?_,?_,by intro k v O;subst M;simp at O,rfl,λk e h u=>uH,λk e h b u=>uH,λk k' e e' h h' b u=>uH⟩,.d _ _ (pW I (λb h=>.inl h) (λb h=>.inr h))⟩
   ·rintro b (h|h)
    ·exact j.AZ b h
    exact .inr (z b h).2.2
   rintro b (h|h)
   ·exact j.kZ b h
   exact(z b h).2.1
def aml (es E':A8 Bd)(j:E'.all Bd.closed=true):Nc [] es E'=es++E':=by
 unfold Nc;simp only[List.findIdx?_nil,QM,a81];rw[aPf j];congr 1;apply nH
 grind
variable {res':Ap}
def aHi {j:Ap}(z:Ed P f fB [] j E')(I:IC P f=true)(q:E'.all Bd.closed=true)(ha:O5 [] dX fB)(hl:ops.toList.length=dX.length)(J:j.up [] es.length=res')(L:o.op=.call { callee:=.value (.func f),args:=ops,argTypes:=ats }:=by exact rfl):CJ P o (G5 ops.toList dX) es res' (es++E'):=by
 have :=aPW (es:=es) [] z I (by
  have u:E'.all (Bd.arL [] es.length)=true:=by
   rw[En]at q ⊢;exact λe M=>ajr (q e M)
  simp[U1,u]) (λi s h=>J9) ha hl L
 rw[aml _ _ q,J]at this;exact this
def aNH {j:Ap}(q:Ed P f fB [] j [])(u:IC P f=true)(ha:O5 [] dX fB)(hl:ops.toList.length=dX.length)(z:j.up [] es.length=res')(I:o.op=.call { callee:=.value (.func f),args:=ops,argTypes:=ats }:=by exact rfl):CJ P o (G5 ops.toList dX) es res' es:=by
 have :=aHi (es:=es) q u rfl ha hl z I
 grind
variable {x y:Code}
section
variable {P:Cc} {σ:BR} {Q:Exit->BR->Prop}
def aEJ (P:Cc)(σ:BR):ResultVar->Ap->Prop
 | .tmp t,x=>x=σ.slots.getD t .junk
 | .cell t T,x=>∃k cs agg n,σ.slots.getD t .junk=.ptr k 0/\σ.ents[k]? =some (.box cs)/\cs.all Ap.Dp=true/\Ei P T agg n/\n<=cs.length/\(agg=false->n=1)/\x=.d (Qh agg (Jy cs) 0 n)
def Gj {P:Cc}{σ:BR}{t:Tmp}{x:Ap}(h:x=σ.slots.getD t .junk):aEJ P σ (.tmp t) x:=h
def ZU (P:Cc)(σ:BR):A8 ResultVar->A8 Ap->Prop
 |r::rs,x::xs=>aEJ P σ r x/\ZU P σ rs xs
 | [],[]=>True
 |_,_=>False
def oZ :A8 Ap->Ap
 | [x]=>x
 |xs=>.eH xs
def gI (P:Cc)(fn:Func)(j:Ap)(E':A8 Bd):Exit->BR->Prop
 | .ret,σ=>∃xs π,ZU P σ fn.results.toList xs/\WY σ.base σ.ents π=true/\j=(oZ xs).back π/\E'=Tv σ.ents π
 | .normal,σ=>∃xs π,ZU P σ fn.results.toList xs/\WY σ.base σ.ents π=true/\j=(oZ xs).back π/\E'=Tv σ.ents π
 |_,_=>False
def aIL (tmps:Bg BI):ResultVar->Sem BI
 | .tmp t=>pure (tmps.getD t undef)
 | .cell t T=>do loadVar T (←asAddr (tmps.getD t undef))
def ac3 (h:Holds C ok H σ a w){r:ResultVar}{x:Ap}(j:aEJ P σ r x):
 ∃v,(aIL a.tmps r).run P w=.ok v w/\R ok w H x v:=by
 cases r with
 |tmp t=>
  obtain rfl:=j;exact⟨_,rfl,h.aAx t⟩
 |cell t T=>
  obtain⟨k,cs,agg,n,hs,J,hd,L,hn,h1,rfl⟩:=j;have hp:=hs▸h.aAx t;obtain⟨M,O,q⟩:=Hq h.mem.ent h.mem.hlen J;obtain⟨b,z,U,Y,Z⟩:=aDv q hd;generalize hu:a.tmps.getD t undef=u at hp;cases hp with
  |ptr _ _ b' s I=>
   rw[O]at I;obtain rfl:=Dx I;simp at z;subst z;show ∃v,((do loadVar T (←asAddr (a.tmps.getD t undef)):Sem BI)).run P w=.ok v w/\_;rw[hu];obtain⟨v,j,hD⟩:=a3G L (off:=0) (by rw[wX];omega) h1 U Y Z;refine⟨v,?_,.d _ _ hD⟩;simp only[Instr.loadAt,Instr.sureAddr,G6,Hf,GL,KD]at j;simp only[asAddr,G6,Hf,GL];exact j
def aTW {C:Ez}{ok:Nat->Prop}{H:A8 CM}{a:Act}{w:Ba}(h:Holds C ok H σ a w):∀(rs:A8 ResultVar) (xs:A8 Ap),ZU P σ rs xs->
 ∃vs:A8 BI,(rs.mapM (aIL a.tmps)).run P w=.ok vs w/\vs.length=xs.length/\∀i,i<xs.length->R ok w H (xs.getD i .junk) (vs.getD i undef)
 | [],[],_=>⟨[],rfl,rfl,λi hi=>Tf⟩
 | [],_::_,h'=>h'.elim
 |_::_,[],h'=>h'.elim
 |r::rs,x::xs,h'=>by
  obtain⟨v,q,z⟩:=ac3 (P:=P) h h'.1;obtain⟨vs,j,hl,u⟩:=aTW h rs xs h'.2;refine⟨v::vs,?_,jc,λi hi=>?_⟩
  ·simp only[List.mapM_cons,G6,q,j,GL,Hf]
  grind
def aj0 (h:Holds C ok H σ a w){xs:A8 Ap}(z:ZU P σ fn.results.toList xs):
 ∃v,(results fn a.tmps).run P w=.ok v w/\R ok w H (oZ xs) v:=by
 obtain⟨vs,q,hl,j⟩:=aTW (P:=P) h _ _ z
 have hm:(results fn a.tmps).run P w=.ok (if h:vs.toArray.size=1 then vs.toArray[0]else .tuple vs.toArray) w:=by
  have e:results fn a.tmps=(do let vs ←fn.results.mapM (aIL a.tmps);pure (if h:vs.size=1 then vs[0]else .tuple vs)):=rfl;rw[e,aCY];simp only[G6,a1A,q,GL,Hf]
 refine⟨_,hm,?_⟩
 match xs,hl,j with
 | [x],hl,j=>
   have h1:vs.toArray.size=1:=NY
   rw[dif_pos h1];have :=j 0 Bf
   have e:vs.getD 0 undef=vs.toArray[0]:=by
    have :0<vs.length:=jc
    simp[List.getD,this]
   rw[e]at this;exact this
 | [],hl,j=>
   have h1:¬vs.toArray.size=1:=by simp at hl;simp[hl]
   rw[dif_neg h1];exact .eH [] _ NY (λi hi=>Tf)
 |x::y::xs,hl,j=>
  have h1:¬vs.toArray.size=1:=by simp at hl;simp[hl]
  rw[dif_neg h1];refine .eH _ _ NY (λi hi=>?_);have :=j i hi;have u:i<vs.length:=AQ
  have e:vs.toArray.getD i undef=vs.getD i undef:=by simp[Array.getD,List.getD,u]
  rw[e];exact this
def ahL {D:Nat}{x:AB (A8 Deferred)}(h:w.heap[D]? =some (.deferred x))(o:Nat):w.cell? ⟨D,o,none⟩=none:=by
 unfold World.cell?;rw[h]
def Holds.take {σ:BR}(Z:∀b,C.ok0 b->b<C.w0.heap.size)(h:Holds C ok H σ a w){D:Nat}{Ds:A8 Nat}(hd:∀d∈Ds,ok d/\C.w0.heap.size<=d/\w.heap[d]? =some (.deferred (some [])))(hD:ok D/\C.w0.heap.size<=D/\w.heap[D]? =some (.deferred (some [])))(M:(D::Ds).Nodup):
 ∃ok',Holds C ok' H σ { a with defers:=Ds.map λD=>{ target:=.collected D,args:= #[] } } (w.putObj D (.deferred none))/\∀d∈Ds,ok' d/\C.w0.heap.size<=d/\(w.putObj D (.deferred none)).heap[d]? =some (.deferred (some [])):=by
 obtain⟨h1,h2,h3⟩:=hD;have q:∀b,b≠D->(w.putObj D (.deferred none)).heap[b]? =w.heap[b]? :=λb j=>Ya j;have I:∀b o,ok b->(w.cell? ⟨b,o,none⟩).isSome=true->ok b/\b≠D:=λb o j J=>⟨j,λe=>by subst e;rw[ahL h3]at J;cases J⟩
 have Y:FP (λb=>ok b/\b≠D) w (λb=>ok b/\b≠D) (w.putObj D (.deferred none)):=λb j=>⟨j,q b j.2⟩
 have O:∀(k:Nat) (e:Bd) (hd:CM) (b:Nat),σ.ents[k]? =some e->e.live=true->H[k]? =some hd->EC hd.v=some b->b≠D:=λk e hd b u hl z j U=>(h.mem.blk k e hd b u hl z j).1 (U▸h1)
 have L:∀d∈Ds,(ok d/\d≠D)/\C.w0.heap.size<=d/\(w.putObj D (.deferred none)).heap[d]? =some (.deferred (some [])):=λd hdm=>by
  grind
 refine⟨λb=>ok b/\b≠D,⟨⟨⟨h.mem.fr.os,h.mem.fr.tape,h.mem.fr.output,by simpa[World.putObj]using h.mem.fr.size,λk hk hX=>by rw[q k AQ];exact h.mem.fr.block k hk hX⟩,λb j=>⟨h.mem.AY b j,λe=>by have :=Z b j;omega⟩,λb j=>h.mem.AZ b j.1,λb j=>by simpa[World.putObj]using h.mem.kZ b j.1,h.mem.names,h.mem.hlen,?_,?_,?_⟩,h.size,⟨Ds,rfl,(KQ.1 M).2,L⟩,h.base,λt ht=>((h.slot t ht).shrink I).mono Y (.refl _)⟩,L⟩
 ·intro k e hd u z;exact((h.mem.ent k e hd u z).shrink I (λb ms c j J=>⟨j,λe=>by subst e;rw[h3]at J;cases J⟩)).mono Y (.refl _) λhl b j=>q b (O k e hd b u hl z j)
 ·intro k e hd b u hl z j;obtain⟨h4,h5,h6⟩:=h.mem.blk k e hd b u hl z j;exact⟨λhx=>h4 hx.1,by simpa[World.putObj]using h5,h6⟩
 exact h.mem.Iw
def aJP {fn:Func}{Rr:Ending->Ba->Prop}{C:Ez}(u:∀b,C.ok0 b->b<C.w0.heap.size){H:A8 CM}{σ:BR}(z:∀ok a w,Holds C ok H σ a w->∃v,(results fn a.tmps).run P w=.ok v w/\Rr (.returned v) w):∀(Ds:A8 Nat) {ok:Nat->Prop} {a:Act} {w:Ba},Holds C ok H σ a w->(∀d∈Ds,ok d/\C.w0.heap.size<=d/\w.heap[d]? =some (.deferred (some [])))->Ds.Nodup->
  LeavesInM (Jh none) 0 P fn a.tmps Rr (Ds.map λD=>{ target:=.collected D,args:= #[] }) .returning w
 | [],ok,a,w,h,_,_=>z ok a w h
 |D::Ds,ok,a,w,h,hd,I=>by
  obtain⟨ok',h',j⟩:=h.take u (λd q=>hd d (IE _ q)) (hd D (Gz ..)) I;have h2:=aJP u z Ds h' j (KQ.1 I).2;exact⟨Bf,.inl ⟨D,_,rfl,run_takeDeferred (hd D (Gz ..)).2.2,h2⟩⟩
def Ed.dR {f:FuncId}{fn:Func}{c:Code}{args:A8 Ap}{E E':A8 Bd}{u:Ap}(Y:P.funcs[f]? =some fn)(Z:fn.body=some c)(h:Bo P c (.enter args fn.ntmps E) (gI P fn u E')):Ed P f args E u E':=by
 intro ok X H w j hm hs ha;refine(a5k (ro:=none) (n:=0)).1 (aGd Y Z trivial (V6 (h.run none (.inl rfl) ⟨w,ok,X,H⟩ ok H _ w ?_) ?_) rfl)
 ·refine⟨hm,?_,.nil _ _ _,hm.hlen,λt ht=>?_⟩
  ·simp[BR.enter,hs]
  simp only[BR.enter];by_cases e:t<args.length
  ·have U:(args++List.replicate (fn.ntmps-args.length) Ap.junk).getD t .junk=args.getD t .junk:=aEE
   have e2:(j++Array.replicate (fn.ntmps-j.size) undef).getD t undef=j.getD t undef:=by
    simp[JY,Yl (show t<j.size by omega)]
   grind
  have U:(args++List.replicate (fn.ntmps-args.length) Ap.junk).getD t .junk=.junk:=by
   grind
  rw[U];exact .junk _
 rintro e a' w' ⟨ok',H',σ',h1,h2⟩;obtain⟨Ds,I,J,L⟩:=h1.defers
 have key:∀(x:A8 Ap) (π:A8 (Nat×Ad)),ZU P σ' fn.results.toList x->WY σ'.base σ'.ents π=true->u=(oZ x).back π->E'=Tv σ'.ents π->
  LeavesInM (Jh none) 0 P fn a'.tmps (λe w'=>∃v ok' H',e=.returned v/\E5 ⟨w,ok,X,H⟩ ok' H' E' w'/\R ok' w' H' u v) a'.defers .returning w':=by
  rintro x π z q rfl rfl;rw[I];refine aJP (P:=P) (C:=⟨w,ok,X,H⟩) hm.kZ (λM a2 w2 h3=>?_) Ds h1 L J;obtain⟨v,hv,hR⟩:=aj0 (P:=P) h3 z;exact⟨v,hv,v,M,_,rfl,h3.mem.norm π (h3.base▸q),hR.back π⟩
 cases e with
 |ret=>
  obtain⟨x,π,z,q,h3,O⟩:=h2;exact key x π z q h3 O
 |normal=>
  obtain⟨x,π,z,q,h3,O⟩:=h2;exact key x π z q h3 O
 |_=>
   exact h2.elim
def Ec:=@Ed.dR
def Ah (j:Bo P x σ (Jw (λs=>Bo P y s Q) Q)):Bo P (.seq x y) σ Q:=Bo.seq _ j (λ_ h=>h)
def Bo.join {x y:Code}(K:BR->Prop)(j:∀s,K s->Bo P y s Q)(q:(∀s,K s->Bo P y s Q)->Bo P x σ (Jw (λs=>Bo P y s Q) Q)):Bo P (.seq x y) σ Q:=Bo.seq _ (q j) (λ_ h=>h)
def D7:=@Bo.join
def O9 (j:σ.get c=.d (.lit (.bool true)))(h:Bo P x σ Q):Bo P (.cond c x y) σ Q:=Bo.cond true j (λ_=>h) (λh=>Gu)
def Nv (j:σ.get c=.d (.lit (.bool false)))(h:Bo P y σ Q):Bo P (.cond c x y) σ Q:=Bo.cond false j (λh=>Gu) (λ_=>h)
def F5 {id:Nat}{ops:Bg Oper}(hm:P.follows .mixedOrders=true)(j:(RJ ops&&Xt ops&&Yh ops σ.slots.length&&X6 ops)=true)(q:XB ops bs=true)(h:Fh P ops ops.toList σ rs ess bs σ')(u:Bo P y σ' Q):Bo P (.seq (.region id ops true) y) σ Q:=
 Bo.seq (λs=>s=σ') (.draw hm j q h rfl) (λ_ e=>e▸u)
end
variable {a:Ad}{s:Bz}{x y:CB}
section
variable {P:Cc} {o:Oper} {es:A8 Bd}
def agd {cs:A8 D}{y:D}(j:y=Qh agg cs off n)(q:Ei P t agg n)(u:off+n<=cs.length)(h1:agg=false->n=1)(z:o.op=.load t x:=by exact rfl):CJ P o [(x,.d (.ref cs off))] es (.d y) es:=j▸adC q u h1 z
def am2 {y:D}(j:y=Qh agg (Jy cs) off n)(q:es[k]? =some (.box cs))(hd:cs.all Ap.Dp=true)(u:Ei P t agg n)(z:off+n<=cs.length)(h1:agg=false->n=1)(I:o.op=.load t x:=by exact rfl):
 CJ P o [(x,.ptr k off)] es (.d y) es:=j▸ag4 q hd u z h1 I
def aXW {f:Nat}{cs:A8 D}{y:D}(j:y=Qh agg cs off n)(hp:qR P t f off agg n=true)(q:off+n<=cs.length)(h1:agg=false->n=1)(u:o.op=.field t x f:=by exact rfl):CJ P o [(x,.d (.agg cs))] es (.d y) es:=j▸agi hp q h1 u
def acH {j:A8 (Nat×Nat)}{y:D}(u:Jq P t j z)(vs:A8 Ap)(I:o.op=.build t q)(J:y=.agg (Jy (MI (λ(i:Nat)=>j[i]?) (GN z) q.toList vs)))(hp:Ot (λ(i:Nat)=>j[i]?) (GN z).length q.toList vs=true)(hd:(MI (λ(i:Nat)=>j[i]?) (GN z) q.toList vs).all Ap.Dp=true):CJ P o (Oq q.toList vs) es (.d y) es:=J▸amk u vs hp hd I
def aZK {j k:IntKind}{n:Int}(hs:P.underlying s=some (.int j))(q:P.underlying t=some (.int k))(u:o.op=.convert s t x:=by exact rfl):CJ P o [(x,.d (.lit (.int j n)))] es (.d (.lit (.int k (k.wrap n)))) es:=
 aS0 u λw=>by simp[convert,underlying,hs,q,Conv.intToInt]
def abX {u:BP}(hs:P.underlying s=some .string)(j:P.underlying t=some .string)(q:o.op=.convert s t x:=by exact rfl):CJ P o [(x,.d (DW u))] es (.d (DW u)) es:=
 aS0 q λw=>by simp[convert,underlying,hs,j]
def aiY {b:Ad}(j:P.underlying t=some .bool)(q:o.op=.binOp .eql t x y t':=by exact rfl):CJ P o [(x,.d (E9 a)),(y,.d (E9 b))] es (.d (E9 (a==b))) es:=
 Iy (u:=.bool a) (v:=.bool b) (r:=.bool (a==b)) q (λw=>by
  show((do pure (.bool (←Op.equal t (.bool a) (.bool b))):Sem BI)).run P w=_
  simp only[G6,run_equal_bool w t a b j,GL,Hf]) ⟨rfl,rfl⟩
def anL {b:Ad}(j:P.underlying t=some .bool)(q:o.op=.binOp .neq t x y t':=by exact rfl):CJ P o [(x,.d (E9 a)),(y,.d (E9 b))] es (.d (E9 (!(a==b)))) es:=
 Iy (u:=.bool a) (v:=.bool b) (r:=.bool (!(a==b))) q (λw=>by
  show((do pure (.bool (!(←Op.equal t (.bool a) (.bool b)))):Sem BI)).run P w=_
  simp only[G6,run_equal_bool w t a b j,GL,Hf]) ⟨rfl,rfl⟩
end
def bn {A Rr:Type}(body:(A->AB Rr)->A->AB Rr):Nat->A->AB Rr
 |0,_=>none
 |n+1,a=>body (bn body n) a
variable {A Rr:Type}
def Du {q:Code}(S:A->BR)(body:(A->AB Rr)->A->AB Rr)(r:Rr)(a0:A)(hs:CO σ (S a0))(h:Go.Proofs.YtfmoknlmaldmlaaGreat.bn body Az a0=some r)(round:∀(J:BR->Prop) (k:A->AB Rr),(∀σ' a,CO σ' (S a)->k a=some r->J σ')->∀a,body k a=some r->Bo P q (S a) (Jw J Q)):Bo P (.loop q) σ Q:=by
 refine Bo.loop (λn s=>∃a,CO s (S a)/\Go.Proofs.YtfmoknlmaldmlaaGreat.bn body n a=some r) Az ⟨a0,hs,h⟩ ?_;rintro n s ⟨a,j,u⟩;refine D9 j ?_;cases n with
 |zero=>cases u
 |succ n=>exact round _ (Go.Proofs.YtfmoknlmaldmlaaGreat.bn body n) (λσ' a h1 h2=>⟨n,Zc n,a,h1,h2⟩) a u
def aP {A B Rr:Type}(body:(A->B->AB Rr)->A->B->AB Rr):Nat->A->B->AB Rr
 |0,_,_=>none
 |n+1,a,b=>body (aP body n) a b
variable {B:Type}
def DX {u:Code}(S:A->B->BR)(body:(A->B->AB Rr)->A->B->AB Rr)(r:Rr)(a0:A)(q:B)(hs:CO σ (S a0 q))(h:Go.Proofs.YtfmoknlmaldmlaaGreat.aP body Az a0 q=some r)(round:∀(J:BR->Prop) (k:A->B->AB Rr),(∀σ' a b,CO σ' (S a b)->k a b=some r->J σ')->∀a b,body k a b=some r->Bo P u (S a b) (Jw J Q)):Bo P (.loop u) σ Q:=by
 refine Bo.loop (λn s=>∃a b,CO s (S a b)/\Go.Proofs.YtfmoknlmaldmlaaGreat.aP body n a b=some r) Az ⟨a0,q,hs,h⟩ ?_;rintro n s ⟨a,b,j,z⟩;refine D9 j ?_;cases n with
 |zero=>cases z
 |succ n=>exact round _ (Go.Proofs.YtfmoknlmaldmlaaGreat.aP body n) (λσ' a b h1 h2=>⟨n,Zc n,a,b,h1,h2⟩) a b z
def iU {A B C Rr:Type}(body:(A->B->C->AB Rr)->A->B->C->AB Rr):Nat->A->B->C->AB Rr
 |0,_,_,_=>none
 |n+1,a,b,c=>body (iU body n) a b c
def Qw {z:Code}{C:Type}(S:A->B->C->BR)(body:(A->B->C->AB Rr)->A->B->C->AB Rr)(r:Rr)(a0:A)(q:B)(u:C)(hs:CO σ (S a0 q u))(h:Go.Proofs.YtfmoknlmaldmlaaGreat.iU body Az a0 q u=some r)(round:∀(J:BR->Prop) (k:A->B->C->AB Rr),(∀σ' a b c,CO σ' (S a b c)->k a b c=some r->J σ')->∀a b c,body k a b c=some r->Bo P z (S a b c) (Jw J Q)):Bo P (.loop z) σ Q:=by
 refine Bo.loop (λn s=>∃a b c,CO s (S a b c)/\Go.Proofs.YtfmoknlmaldmlaaGreat.iU body n a b c=some r) Az ⟨a0,q,u,hs,h⟩ ?_;rintro n s ⟨a,b,c,j,I⟩;refine D9 j ?_;cases n with
 |zero=>cases I
 |succ n=>exact round _ (Go.Proofs.YtfmoknlmaldmlaaGreat.iU body n) (λσ' a b c h1 h2=>⟨n,Zc n,a,b,c,h1,h2⟩) a b c I
def WU {A B C D Rr:Type}(body:(A->B->C->D->AB Rr)->A->B->C->D->AB Rr):Nat->A->B->C->D->AB Rr
 |0,_,_,_,_=>none
 |n+1,a,b,c,d=>body (WU body n) a b c d
def Bo.WU {P:Cc}{σ:BR}{Q:Exit->BR->Prop}{I:Code}{A B C D Rr:Type}(S:A->B->C->D->BR)(body:(A->B->C->D->AB Rr)->A->B->C->D->AB Rr)(r:Rr)(a0:A)(q:B)(u:C)(z:D)(hs:CO σ (S a0 q u z))(h:Go.Proofs.YtfmoknlmaldmlaaGreat.WU body Az a0 q u z=some r)(round:∀(J:BR->Prop) (k:A->B->C->D->AB Rr),(∀σ' a b c d,CO σ' (S a b c d)->k a b c d=some r->J σ')->∀a b c d,body k a b c d=some r->Bo P I (S a b c d) (Jw J Q)):Bo P (.loop I) σ Q:=by
 refine Bo.loop (λn s=>∃a b c d,CO s (S a b c d)/\Go.Proofs.YtfmoknlmaldmlaaGreat.WU body n a b c d=some r) Az ⟨a0,q,u,z,hs,h⟩ ?_;rintro n s ⟨a,b,c,d,j,L⟩;refine D9 j ?_;cases n with
 |zero=>cases L
 |succ n=>exact round _ (Go.Proofs.YtfmoknlmaldmlaaGreat.WU body n) (λσ' a b c d h1 h2=>⟨n,Zc n,a,b,c,d,h1,h2⟩) a b c d L
def D5 {A B C D E Rr:Type}(body:(A->B->C->D->E->AB Rr)->A->B->C->D->E->AB Rr):Nat->A->B->C->D->E->AB Rr
 |0,_,_,_,_,_=>none
 |n+1,a,b,c,d,e=>body (D5 body n) a b c d e
def a2T {L:Code}{C D E:Type}(S:A->B->C->D->E->BR)(body:(A->B->C->D->E->AB Rr)->A->B->C->D->E->AB Rr)(r:Rr)(a0:A)(q:B)(u:C)(z:D)(I:E)(hs:CO σ (S a0 q u z I))(h:Go.Proofs.YtfmoknlmaldmlaaGreat.D5 body Az a0 q u z I=some r)(round:∀(J:BR->Prop) (k:A->B->C->D->E->AB Rr),(∀σ' a b c d e,CO σ' (S a b c d e)->k a b c d e=some r->J σ')->∀a b c d e,body k a b c d e=some r->Bo P L (S a b c d e) (Jw J Q)):Bo P (.loop L) σ Q:=by
 refine Bo.loop (λn s=>∃a b c d e,CO s (S a b c d e)/\Go.Proofs.YtfmoknlmaldmlaaGreat.D5 body n a b c d e=some r) Az ⟨a0,q,u,z,I,hs,h⟩ ?_;rintro n s ⟨a,b,c,d,e,j,M⟩;refine D9 j ?_;cases n with
 |zero=>cases M
 |succ n=>exact round _ (Go.Proofs.YtfmoknlmaldmlaaGreat.D5 body n) (λσ' a b c d e h1 h2=>⟨n,Zc n,a,b,c,d,e,h1,h2⟩) a b c d e M
def GV {A B C D E F Rr:Type}(body:(A->B->C->D->E->F->AB Rr)->A->B->C->D->E->F->AB Rr):Nat->A->B->C->D->E->F->AB Rr
 |0,_,_,_,_,_,_=>none
 |n+1,a,b,c,d,e,f=>body (GV body n) a b c d e f
def Bo.GV {P:Cc}{σ:BR}{Q:Exit->BR->Prop}{M:Code}{A B C D E F Rr:Type}(S:A->B->C->D->E->F->BR)(body:(A->B->C->D->E->F->AB Rr)->A->B->C->D->E->F->AB Rr)(r:Rr)(a0:A)(q:B)(u:C)(z:D)(I:E)(L:F)(hs:CO σ (S a0 q u z I L))(h:Go.Proofs.YtfmoknlmaldmlaaGreat.GV body Az a0 q u z I L=some r)(round:∀(J:BR->Prop) (k:A->B->C->D->E->F->AB Rr),(∀σ' a b c d e f,CO σ' (S a b c d e f)->k a b c d e f=some r->J σ')->∀a b c d e f,body k a b c d e f=some r->Bo P M (S a b c d e f) (Jw J Q)):Bo P (.loop M) σ Q:=by
 refine Bo.loop (λn s=>∃a b c d e f,CO s (S a b c d e f)/\Go.Proofs.YtfmoknlmaldmlaaGreat.GV body n a b c d e f=some r) Az ⟨a0,q,u,z,I,L,hs,h⟩ ?_;rintro n s ⟨a,b,c,d,e,f,j,O⟩;refine D9 j ?_;cases n with
 |zero=>cases O
 |succ n=>exact round _ (Go.Proofs.YtfmoknlmaldmlaaGreat.GV body n) (λσ' a b c d e f h1 h2=>⟨n,Zc n,a,b,c,d,e,f,h1,h2⟩) a b c d e f O
def adF {A B C D E F G Rr:Type}(body:(A->B->C->D->E->F->G->AB Rr)->A->B->C->D->E->F->G->AB Rr):Nat->A->B->C->D->E->F->G->AB Rr
 |0,_,_,_,_,_,_,_=>none
 |n+1,a,b,c,d,e,f,g=>body (adF body n) a b c d e f g
def Bo.adF {P:Cc}{σ:BR}{Q:Exit->BR->Prop}{O:Code}{A B C D E F G Rr:Type}(S:A->B->C->D->E->F->G->BR)(body:(A->B->C->D->E->F->G->AB Rr)->A->B->C->D->E->F->G->AB Rr)(r:Rr)(a0:A)(q:B)(u:C)(z:D)(I:E)(L:F)(M:G)(hs:CO σ (S a0 q u z I L M))(h:Go.Proofs.YtfmoknlmaldmlaaGreat.adF body Az a0 q u z I L M=some r)(round:∀(J:BR->Prop) (k:A->B->C->D->E->F->G->AB Rr),(∀σ' a b c d e f g,CO σ' (S a b c d e f g)->k a b c d e f g=some r->J σ')->∀a b c d e f g,body k a b c d e f g=some r->Bo P O (S a b c d e f g) (Jw J Q)):Bo P (.loop O) σ Q:=by
 refine Bo.loop (λn s=>∃a b c d e f g,CO s (S a b c d e f g)/\Go.Proofs.YtfmoknlmaldmlaaGreat.adF body n a b c d e f g=some r) Az ⟨a0,q,u,z,I,L,M,hs,h⟩ ?_;rintro n s ⟨a,b,c,d,e,f,g,j,U⟩;refine D9 j ?_;cases n with
 |zero=>cases U
 |succ n=>exact round _ (Go.Proofs.YtfmoknlmaldmlaaGreat.adF body n) (λσ' a b c d e f g h1 h2=>⟨n,Zc n,a,b,c,d,e,f,g,h1,h2⟩) a b c d e f g U
variable {c:Int}
section
variable {P:Cc} {o:Oper} {es:A8 Bd} {α:Type}
def aY2 {z:α}{n:Int}{r:A8 α}(h:Jg b z n c=some r):(0<=n/\n<=c/\(b:Int)*c<=140737488355328)/\r=List.replicate n.toNat z:=by
 unfold Jg at h;split at h
 ·grind
 cases h
def Zw {q:BI}{n:Int}{r:A8 α}(enc:α->D)(z:α)(h:Jg j z n c=some r)(hE:GU P t e size j)(hz:(P.info? e).bind (·.zero)=some q)(h1:q.cells.all (·.oneCell')=true)(U:q.cells.size=size)(L:GN q=(enc z).cells.map .d)(hb:0<j)(ho:o.op=.makeSlice t x y:=by exact rfl):CJ P o [(x,.d (Ai n)),(y,.d (Ai c))] es (.aQ es.length) (es++[.arr e size (List.map enc r)]):=
 .eff λC ok H a w hm hn=>by
  obtain⟨⟨h0,Y,hbc⟩,rfl⟩:=aY2 h;have hx:=(FX hn).1.lit;have hy:=(FX hn).2.lit;simp only at hx hy;obtain⟨i,z',hi,hz',hs,Z,_⟩:=hE.info;have hzv:i.zero=some q:=by rw[hi]at hz;simpa using hz
  have M:c<=9223372036854775807:=by
   have h2:(1:Int)*c<=(j:Int)*c:=Int.mul_le_mul_of_nonneg_right AQ AQ;omega
  have hr:=run_make (P:=P) w t e i q hE.und hi hzv .i64 .i64 n c h0 Y (by rw[Z];omega) M;rw[hs]at hr
  let cells:=madeCells q.cells (c.toNat*size)
  have O:=hE.pos;have u:cells.size=c.toNat*size:=size_madeCells _ _;have hlc:(GN q).length=size:=by simp[GN,U]
  have I:∀y∈List.map enc (List.replicate n.toNat z),y.cells.length=size:=by
   grind
  have J:=Tm I;have hlen:(List.map enc (List.replicate n.toNat z)).length=n.toNat:=Bf
  rw[hlen]at J;have aR2:n.toNat*size<=c.toNat*size:=LZ _ AQ
  have hrs:∀{ok:Nat->Prop} {w:Ba} {H:A8 CM},Gx ok w H (flat (List.map enc (List.replicate n.toNat z))) (cells.toList.take (n.toNat*size)):=by
   intro ok w H;refine⟨by rw[J,H7,Ua,u];omega,λk hk=>?_⟩;rw[J]at hk;have hd:=a5f k size;have hq:k/size<n.toNat:=zu (by rwa [Vo]at hk);have hm':k % size<size:=qK _ O;have e0:k=k/size*size+k % size:=by rw[Vo];exact hd.symm
   have e1:(flat (List.map enc (List.replicate n.toNat z))).getD k .junk=.d ((enc z).cells.getD (k % size) EM):=by
    have hg:=flat_get I (k/size) (k % size) (by rw[hlen];exact hq) hm';rw[←e0]at hg;rw[hg]
    grind
   have hcl:(enc z).cells.length=size:=by rw[←hlc,L];simp
   have e2:(Ap.d ((enc z).cells.getD (k % size) EM))=(GN q).getD (k % size) .junk:=by
    rw[L];have :k % size<(enc z).cells.length:=AQ
    grind
   have hmz:k % size<q.cells.size:=AQ
   have e3:(cells.toList.take (n.toNat*size)).getD k undef=q.cells[k % size]:=by
    have hk2:k<c.toNat*size:=AQ
    have e:cells.toList=(List.range (c.toNat*size)).map λi=>q.cells[i % q.cells.size]! :=by
     show(madeCells q.cells (c.toNat*size)).toList=_;simp[madeCells]
    rw[e];simp only[List.getD,TF hk]
    grind
   rw[e1,e2,e3];have e4:(GN q).getD (k % size) .junk=.d (QC q.cells[k % size]):=by simp[GN,List.getD,hmz]
   rw[e4];exact⟨sD ((TP.1 h1) _ Bf),.d _ _ (lI _)⟩
  obtain⟨h2,h3⟩:=hm.push (.cells cells e) ⟨.slice (some ⟨w.heap.size,0,none⟩) n.toNat c.toNat,size⟩ (.arr e size (List.map enc (List.replicate n.toNat z))) (λb hb=>by simpa[EC]using hb.symm) (by
   refine⟨rfl,I,cells.toList.take (n.toNat*size),⟨?_,.inr ⟨w.heap.size,c.toNat,cells,by rw[hlen],FB _,Vq w _,by rw[hlen];omega,qH,QE u.symm,by rw[hlen]⟩⟩,hrs⟩
   rw[hlen,H7,Ua,u];omega)
  refine⟨.slice (some ⟨w.heap.size,0,none⟩) n.toNat c.toNat,_,ok,_,.inl ?_,h3,IW _ _,h2,.aQ _ _ _ _ size Qg⟩;simp only[execOp,ho,hx,hy,G6,hr,GL,Hf];rfl
def gCopy (l m:A8 α):A8 α:=m.take l.length++l.drop m.length
def aky {bytes:Nat}(enc:α->D)(l m:A8 α)(hE:GU P t e size bytes)(hk:es[k]? =some (.arr e size (List.map enc l)))(hc:∀a,(enc a).cells.length=size)(ho:o.op=.call { callee:=.builtin .copy,args:= #[x,y],argTypes:= #[t,t] }:=by exact rfl):
 CJ P o [(x,.aQ k),(y,.d (BZ enc m))] es .junk (es.set k (.arr e size (List.map enc (gCopy l m)))):=
 .eff λC ok H a w hm hn=>by
  have hx:=(FX hn).1;have hy:=(FX hn).2;simp only at hx hy;obtain⟨h,hh,hok⟩:=Hq hm.ent hm.hlen hk;have hxv:=Qq hx hh;obtain⟨i,z',hi,hz',hs,hby,_⟩:=hE.info;have hu:(underlying t).run P w=.ok (.slice e) w:=aJt
  have hsz:(sizeOf e).run P w=.ok size w:=aDD
  have Y:∀(q:A8 α),∀y∈q.map enc,y.cells.length=size:=λq y hy=>aJG
  have hyR:EJ ok w (.sl (m.map enc)) (a.eval y):=by cases hy with |d _ _ h=>exact h
  obtain⟨z,U,aLX⟩:=iY H hyR (Y m);obtain⟨h1,h2,ys,Z,hrs⟩:=hok;have hlm:(m.map enc).length=m.length:=Bf
  have hll:(l.map enc).length=l.length:=Bf
  have hnl:z.length=m.length*size:=by rw[U.len,hlm]
  let n:=Nat.min m.length l.length
  have hlenx:(Builtin.lenOf (a.eval y)).run P w=.ok m.length w:=by
   rcases U.at_ with⟨ad,c,e1,_⟩|⟨c,e1,e2⟩
   ·rw[e1];simp[Builtin.lenOf]
   rw[e1];rw[hlm]at e2;simp[Builtin.lenOf,e2]
  have J:(Builtin.firstCells size n (a.eval y)).run P w=.ok (z.take (n*size)).toArray w:=by
   rcases U.at_ with⟨ad,c,e1,hcells⟩|⟨c,e1,e2⟩
   ·rw[e1];refine run_firstCells_some (P:=P) w size n ad _ c (z.take (n*size)) ?_ ?_
    ·rw[H7,hnl];have :n*size<=m.length*size:=LZ _ (aDJ _ _);omega
    intro j v hj;rw[a9a]at hj;split at hj
    ·exact hcells j v hj
    cases hj
   rw[e1];rw[hlm]at e2;have :z=[]:=He (by rw[hnl,e2];simp);simp[Builtin.firstCells,this]
  have hone:∀u∈z.take (n*size),u.oneCell'=true:=λu hu=>U.one u (gJ hu);have hn1:n<=m.length:=aDJ _ _;have hn2:n<=l.length:=Nat.min_le_right _ _
  have I:(z.take (n*size)).length=n*size:=by
   rw[H7,hnl];have :n*size<=m.length*size:=LZ _ hn1;omega
  have hgc:gCopy l m=m.take n++l.drop n:=by
   unfold gCopy;by_cases hle:m.length<=l.length
   ·have e1:n=m.length:=zJ hle;rw[e1,Qx hle,H9]
   have e1:n=l.length:=Nat.min_eq_right AQ;rw[e1,a7r AQ,PS]
  have L:(gCopy l m).length=l.length:=by rw[hgc];simp;omega
  rcases Z.2 with⟨hv,hl0⟩|⟨g,cap,M,hv,_,hg,hncap,hcm,hcs,htake⟩
  ·
   rw[hll]at hl0;have hn0:n=0:=AQ
   have hl:l=[]:=He hl0;have hge:gCopy l m=l:=by rw[hgc,hn0];simp
   rw[hge]
   have hset:es.set k (.arr e size (List.map enc l))=es:=by
    apply nH;intro j;by_cases hj:k=j
    ·subst hj;have hkl:=(I4.1 hk).1;rw[List.getElem?_set_self hkl,hk]
    rw[eB hj]
   rw[hset];refine⟨goInt n,w,ok,H,.inl ?_,.refl _ _,.refl _,hm,.junk _⟩;have e0:Nat.min m.length 0=n:=by rw[hn0];simp
   have hf0:(Builtin.firstCells size 0 (a.eval y)).run P w=.ok #[] w:=by rw[hn0]at J;simpa using J
   simp[execOp,ho,resolve,invoke,builtin,Builtin.copy_,hxv,hv,hu,hlenx,hsz,hf0,hn0]
  ·rw[hll]at hv hncap htake;have hlt:g<w.heap.size:=(IK.1 hg).1
   have hfit:n*size<=M.size:=by
    exact EI (LZ _ AQ) hcs
   have hst:=aBa (P:=P) g 0 e (z.take (n*size)) 0 M w hg (by rw[I];omega) hone;have aFl:∀y∈(gCopy l m).map enc,y.cells.length=size:=Y _
   obtain⟨h3,h4⟩:=hm.upd (e:=.arr e size (List.map enc (gCopy l m))) (w':=w.setRow g (M.toList.take (0+0)++z.take (n*size)++M.toList.drop (0+0+(z.take (n*size)).length)).toArray) hk rfl hh (by rw[hv];rfl) rfl rfl rfl aIh (λc hc=>aIN _ _ _ _ hc) (λhg'=>by
    refine⟨h1,aFl,z.take (n*size)++ys.drop (n*size),?_,?_⟩
    ·refine⟨?_,.inr ⟨g,cap,_,by rw[Df,L];exact hv,FB _,wG w g M _ e (0,0) hg,by rw[Df,L];exact hncap,hcm,?_,?_⟩⟩
     ·simp only[Ee,I,LY,Z.1,Df,L];have :n*size<=l.length*size:=LZ _ hn2;omega
     ·simp only[QK,a5o,JJ,KD,I];simp only[aA9,Ee,I,LY,Ua];rw[show n*size+(M.size-n*size)=M.size by omega];exact hcs
     simp only[QK,a5o,JJ,KD,I,aAJ];rw[Df,L,←htake];rw[List.take_append,I,Qx (by rw[I];exact LZ _ hn2)];congr 1;rw[List.drop_take]
    have ha:=aLX.mono hg' (oP H);have hb:=hrs.mono hg' (oP H);have aLY:=Tm (Y l);have aBz:=Tm (Y m);have aI8:=Tm aFl;have aR3:n*size<=l.length*size:=LZ _ hn2;have aR4:n*size<=m.length*size:=LZ _ hn1;refine⟨by simp only[aI8,Ee,I,LY,Z.1,Df,L];omega,λj hj=>?_⟩;rw[aI8,Df,L]at hj;have hpos:=hE.pos;have e0:j=j/size*size+j % size:=by rw[Vo];exact(a5f j size).symm
    have hq:j/size<l.length:=zu (by rwa [Vo]at hj);have hr:j % size<size:=qK _ hpos;have hg3:=flat_get aFl (j/size) (j % size) (by rw[Df,L];exact hq) hr;rw[←e0]at hg3;by_cases hjn:j<n*size
    ·have hqn:j/size<n:=zu (by rwa [Vo]at hjn);have hg2:=flat_get (Y m) (j/size) (j % size) (by rw[hlm];omega) hr;rw[←e0]at hg2
     have O:((gCopy l m).map enc).getD (j/size) EM=(m.map enc).getD (j/size) EM:=by
      rw[hgc];simp only[List.getD,Jb];rw[KI Ej,bJ,TF hqn]
     rw[hg3,O,←hg2]
     have e5:(z.take (n*size)++ys.drop (n*size)).getD j undef=z.getD j undef:=by
      simp only[List.getD];rw[KI (by rw[I];exact hjn),TF hjn]
     rw[e5];exact ha.2 j (by rw[aBz,hlm];omega)
    have hqn:n<=j/size:=(Nat.le_div_iff_mul_le hpos).2 AQ;have hg1:=flat_get (Y l) (j/size) (j % size) (by rw[hll];exact hq) hr;rw[←e0]at hg1
    have O:((gCopy l m).map enc).getD (j/size) EM=(l.map enc).getD (j/size) EM:=by
     rw[hgc];have hlt':(m.take n).length=n:=Ej
     simp only[List.getD,Jb];rw[QI (by rw[Df,hlt'];exact hqn),Df,hlt',dI,WR];congr 2;omega
    rw[hg3,O,←hg1]
    have e5:(z.take (n*size)++ys.drop (n*size)).getD j undef=ys.getD j undef:=by
     simp only[List.getD];rw[QI (by rw[I];omega),I,WR];congr 2;omega
    rw[e5]
    exact hb.2 j (by rw[aLY,hll];omega))
   refine⟨goInt n,_,ok,H,.inl ?_,h4,.refl _,h3,.junk _⟩;have e0:Nat.min m.length l.length=n:=rfl;simp[execOp,ho,resolve,invoke,builtin,Builtin.copy_,hxv,hv,hu,hlenx,hsz,e0,J];rw[hst];simp
end
def DL (s:BP):A8 Int:=s.data.toList.map λc=>(c.toNat:Int)
def JI (s:BP):(DL s).length=s.size:=by unfold DL;rw[Df,Ua];rfl
variable {k k':IntKind}{r u v:Int}
section
variable {P:Cc} {o:Oper} {es:A8 Bd} {α:Type}
def a6M :∀(l:A8 Int),flat (l.map Dk)=l.map λn=>.d (Dk n)
 | []=>rfl
 |n::l=>by rw[Gh,Wx,a6M l];rfl
def afU {u:Bz}{i:TypeInfo}(ht:P.underlying t=some (.slice e))(hu:P.underlying u=some .string)(hi:P.info? e=some i)(hz:i.zero=some (.int .u8 0))(j:i.size=1)(Z:i.bytes=1){v:BI}{xs:A8 BI}(z:nC w e 1 v n xs)(s:BP)(M:n+s.size<=maxLen)(J:n+s.size<=140737488355328):
 ∃v' w',(Builtin.append_ #[t,u] ty #[v,.string s]).run P w=.ok v' w'/\nC w' e 1 v' (n+s.size) (xs++Lib.strCells s)/\w.grownBy w' v.ownBlock/\(∀Y,EC v'=some Y->EC v=some Y\/w.heap.size<=Y):=by
 have L:xs.length=n:=by simpa using z.1
 have hlen:(xs++Lib.strCells s).length=(n+s.size)*1:=by rw[Ee,L,Lib.strCells_length,kC]
 rcases z.2 with⟨rfl,rfl⟩|⟨g,cap,cur,rfl,_,hg,hnc,O,hcs,U⟩
 ·have hx:xs=[]:=He L;subst hx;obtain⟨v',w',q1,q2,q3,q4⟩:=Lib.run_append_own_string (P:=P) w w.heap.size t u ty e i ht hu hi hz j Z _ 0 [] (a1k w w.heap.size e 1) s M J (EW _);refine⟨v',w',q1,.of q2,q3,λY q=>.inr ?_⟩;rcases q2.2 with⟨rfl,_⟩|⟨g2,_,_,rfl,hle,_⟩
  ·simp[EC]at q
  simp[EC]at q;subst q;exact hle
 rw[kC]at hcs U;by_cases I:n+s.size<=cap
 ·have hr:=Lib.run_append_room_string (P:=P) w t u ty e i ht hu hi j g n cap cur hg s I AQ;refine⟨_,_,hr,⟨hlen,.inr ⟨g,cap,_,rfl,FB _,wG w g cur _ e _ hg,I,O,?_,?_⟩⟩,⟨rfl,rfl,rfl,Bf,λk _ hk=>setRow_other w g k _ (λe=>hk (by simp[Value.ownBlock,e]))⟩,λY q=>.inl q⟩
  ·grind
  grind
 have hr:=Lib.run_append_grow_string (P:=P) w t u ty e i (.int .u8 0) ht hu hi hz ⟨g,0,none⟩ n cap xs (by rw[j];simpa using L) (z.cells (g:=g) rfl) s AQ (by unfold maxLen at M;omega) (by rw[Z];exact growslice_fits AQ AQ);have hge:=wC w (n+s.size) cap e;have O:grownCap w (n+s.size) cap e<=maxLen:=a1a w (n+s.size) cap e M;refine⟨_,_,hr,⟨hlen,.inr ⟨w.heap.size,_,_,rfl,FB _,Vq w.drew _,hge,O,QE ?_,?_⟩⟩,⟨rfl,rfl,rfl,Bf,λk hk _=>MH w.drew _ k hk⟩,λY q=>.inr (by simp[EC]at q;omega)⟩
 ·have hz1:(Value.int IntKind.u8 0).cells.size=1:=rfl;simp only[Array.size_append,aA9,size_zeroCells,hz1,L,Lib.strCells_length];omega
 grind
def aa9 {s:CB}{u:Bz}{k:Nat}{l r:A8 Int}{j:BP}(h:DC 1 l (DL j)=some r)(hE:GU P t e 1 1)(hz:(P.info? e).bind (·.zero)=some (.int .u8 0))(hu:P.underlying u=some .string)(hk:es[k]? =some (.arr e 1 (List.map Dk l)))(ho:o.op=.call { callee:=.builtin .append,args:= #[s,x],argTypes:= #[t,u] }:=by exact rfl):CJ P o [(s,.aQ k),(x,.d (DW j))] es (.aQ es.length) (es.set k .dead++[.arr e 1 (List.map Dk r)]):=
 .eff λC ok H a w hm hn=>by
  obtain⟨rfl,hlen⟩:=zh h;rw[JI,kC]at hlen;have hs:=(FX hn).1;have hx:=(FX hn).2.lit;simp only at hs hx;obtain⟨hd,hh,hok⟩:=Hq hm.ent hm.hlen hk;have hsv:=Qq hs hh;obtain⟨h1,h2,ys,I,hrs⟩:=hok;obtain⟨i,z',hi,hz',hs1,hby,_⟩:=hE.info;have hz2:i.zero=some (.int .u8 0):=by rw[hi]at hz;simpa using hz
  have L:(l.map Dk).length=l.length:=Bf
  have M:(l.map Dk).length+j.size<=maxLen:=by rw[L];unfold maxLen;omega
  obtain⟨v',w',hr,J,O,U⟩:=afU (P:=P) (ty:=o.type) hE.und hu hi hz2 hs1 hby I j M (by rw[L];exact hlen)
  obtain⟨h3,h4⟩:=hm.turn (h':=⟨v',1⟩) (e:=.arr e 1 (List.map Dk (l++DL j))) hk rfl hh O.os O.tape O.output O.size (λc hc hne=>O.block c hc (by rw[aKY I];exact λe=>hne e.symm)) (λg Y=>⟨a0K J Y,U g Y⟩) (λhgr=>by
   refine⟨rfl,λy hy=>by obtain⟨q,_,rfl⟩:=FT.1 hy;rfl,ys++Lib.strCells j,?_,?_⟩
   ·have e:(List.map Dk (l++DL j)).length=(l.map Dk).length+j.size:=by simp[JI]
    rw[e];exact J
   have Z:=hrs.mono hgr (IW H [⟨v',1⟩]);have hfl:(flat (l.map Dk)).length=l.length:=by rw[a6M];simp
   have hcl:(Lib.strCells j)=(DL j).map (.int .u8):=by unfold Lib.strCells DL;rw[cO];rfl
   rw[Jb,mW,a6M (DL j),hcl];refine⟨by rw[Ee,Ee,Z.1,Df,Df],λi hi=>?_⟩;by_cases z:i<(flat (l.map Dk)).length
   ·have e1:(flat (l.map Dk)++(DL j).map λn=>Ap.d (Dk n)).getD i .junk=(flat (l.map Dk)).getD i .junk:=by simp[List.getD,KI z]
    have e2:(ys++(DL j).map (Value.int .u8)).getD i undef=ys.getD i undef:=by simp[List.getD,KI (by rw[Z.1];exact z:i<ys.length)]
    rw[e1,e2];exact Z.2 i z
   have hi3:i-(flat (l.map Dk)).length<(DL j).length:=by rw[Ee,Df]at hi;omega
   have e1:(flat (l.map Dk)++(DL j).map λn=>Ap.d (Dk n)).getD i .junk=.d (Dk (DL j)[i-(flat (l.map Dk)).length]):=by simp[List.getD,QI (Xp z),hi3]
   have e2:(ys++(DL j).map (Value.int .u8)).getD i undef=.int .u8 (DL j)[i-(flat (l.map Dk)).length]:=by simp[List.getD,QI (by rw[Z.1];omega:ys.length<=i),Z.1,hi3]
   rw[e1,e2]
   exact⟨rfl,.d _ _ (.lit _)⟩)
  have hH:(H++[(⟨v',1⟩:CM)])[es.length]? =some ⟨v',1⟩:=Qg
  refine⟨v',w',ok,_,.inl ?_,h4,IW _ _,h3,?_⟩
  ·simp[execOp,ho,resolve,invoke,builtin,hx,hsv,hr]
  rcases J.2 with⟨rfl,_⟩|⟨g',c',_,rfl,_⟩
  ·exact .aQ _ _ _ _ 1 hH
  exact .aQ _ _ _ _ 1 hH
def aj6 {I J:Bz}{s:BP}(hs:P.underlying I=some .string)(hd:P.underlying J=some (.slice e))(O:P.underlying e=some (.int .u8))(U:o.op=.convert I J x:=by exact rfl):CJ P o [(x,.d (DW s))] es (.d (BZ Dk (DL s))) es:=
 .eff λC ok H a w hm Y=>by
  have M:=(MR Y).lit;simp only at M;have Z:=run_bytes_of_string (P:=P) w I J e s hs hd O;obtain⟨h1,h2⟩:=hm.drew;obtain⟨h3,h4⟩:=h1.fresh (.cells (bytesRow s (grownCap w s.size 0 e)) e ((bytesRow s (grownCap w s.size 0 e)).size,(bytesRow s (grownCap w s.size 0 e)).size+1));refine⟨.slice (some ⟨w.heap.size,0,none⟩) s.size (grownCap w s.size 0 e),_,_,H,.inl ?_,h2.trans h4,.refl _,h3,.d _ _ ?_⟩
  ·simp only[execOp,U,M,G6,Z,GL,Hf]
  have q:((DL s).map Dk).length=s.size:=by simp[JI]
  have u:∀i,i<s.size->(w.drew.alloc (.cells (bytesRow s (grownCap w s.size 0 e)) e ((bytesRow s (grownCap w s.size 0 e)).size,(bytesRow s (grownCap w s.size 0 e)).size+1))).cell? ⟨w.heap.size,0+(i*1+0),none⟩=some (.int .u8 ((s.data.toList.getD i 0).toNat)):=by
   intro i hi;have hb:(w.drew.alloc (.cells (bytesRow s (grownCap w s.size 0 e)) e ((bytesRow s (grownCap w s.size 0 e)).size,(bytesRow s (grownCap w s.size 0 e)).size+1))).heap[w.heap.size]? =some (.cells (bytesRow s (grownCap w s.size 0 e)) e ((bytesRow s (grownCap w s.size 0 e)).size,(bytesRow s (grownCap w s.size 0 e)).size+1)):=Vq w.drew _;rw[KD,kC,QK];have z:i<s.data.size:=hi
   have hg:(bytesRow s (grownCap w s.size 0 e))[i]? =some (.int .u8 ((s.data.toList.getD i 0).toNat)):=by
    unfold bytesRow;rw[Yl UW];simp[qQ z,List.getD]
   unfold World.cell?;simp only[hb];simpa using hg
  have hl:∀i,i<s.size->((DL s).map Dk).getD i EM=Dk ((s.data.toList.getD i 0).toNat):=by
   intro i hi;have z:i<s.data.size:=hi;simp[DL,List.getD,qQ z]
  have z0:∀j,j<1->j=0:=λj L=>AQ
  have :=EJ.sl (ok:=λb=>ok b\/b=w.drew.heap.size) (w:=w.drew.alloc (.cells (bytesRow s (grownCap w s.size 0 e)) e ((bytesRow s (grownCap w s.size 0 e)).size,(bytesRow s (grownCap w s.size 0 e)).size+1))) ((DL s).map Dk) w.heap.size 0 (grownCap w s.size 0 e) 1 (by rw[q];exact wC w s.size 0 e) (λ_ _=>.inr rfl)
   (λi hi=>by rw[q]at hi;rw[hl i hi];rfl)
   (λi hi j L=>by rw[q]at hi;rw[z0 j L,hl i hi];rfl)
   (λi hi j L=>by rw[q]at hi;rw[z0 j L,u i hi];rfl)
   (λi hi j L=>by rw[q]at hi;rw[z0 j L];unfold cellAt;rw[u i hi,hl i hi];exact .lit _)
  rw[q]at this;exact this
def F8 (op:BinOp)(k:IntKind)(x y:Int):Int:=
 match op with
 | .and=>k.wrap ((BitVec.ofInt k.bits x&&& BitVec.ofInt k.bits y).toNat)
 | .or=>k.wrap ((BitVec.ofInt k.bits x|||BitVec.ofInt k.bits y).toNat)
 | .xor=>k.wrap ((BitVec.ofInt k.bits x^^^BitVec.ofInt k.bits y).toNat)
 |_=>k.wrap ((BitVec.ofInt k.bits x&&& ~~~(BitVec.ofInt k.bits y)).toNat)
def SL (j:o.op=.binOp .and t x y t':=by exact rfl):CJ P o [(x,.d (.lit (.int k u))),(y,.d (.lit (.int k v)))] es (.d (.lit (.int k (F8 .and k u v)))) es:=
 Iy j (λw=>a7x) ⟨rfl,rfl⟩
def YH (j:o.op=.binOp .or t x y t':=by exact rfl):CJ P o [(x,.d (.lit (.int k u))),(y,.d (.lit (.int k v)))] es (.d (.lit (.int k (F8 .or k u v)))) es:=
 Iy j (λw=>a7x) ⟨rfl,rfl⟩
def aRa (j:o.op=.binOp .xor t x y t':=by exact rfl):CJ P o [(x,.d (.lit (.int k u))),(y,.d (.lit (.int k v)))] es (.d (.lit (.int k (F8 .xor k u v)))) es:=
 Iy j (λw=>a7x) ⟨rfl,rfl⟩
def aeA (j:o.op=.binOp .andNot t x y t':=by exact rfl):CJ P o [(x,.d (.lit (.int k u))),(y,.d (.lit (.int k v)))] es (.d (.lit (.int k (F8 .andNot k u v)))) es:=
 Iy j (λw=>a7x) ⟨rfl,rfl⟩
def jT (k:IntKind)(x:Int):Int:=F8 .xor k (if k.signed then -1 else k.max) x
def aVl (j:o.op=.unOp .xor t x:=by exact rfl):CJ P o [(x,.d (.lit (.int k u)))] es (.d (.lit (.int k (jT k u)))) es:=
 aEI j (λw=>by simp[Op.unary,Op.intBits,jT,F8])
def QZ (op:BinOp)(k:IntKind)(x y:Int):AB Int:=
 if y<0 then none else some (match op with | .shl=>k.wrap (x*2^(min y.toNat k.bits))|_=>x.fdiv (2^(min y.toNat k.bits)))
def a6x (h:QZ .shl k u v=some r)(j:o.op=.binOp .shl t x y t':=by exact rfl):CJ P o [(x,.d (.lit (.int k u))),(y,.d (.lit (.int k' v)))] es (.d (.lit (.int k r))) es:=by
 unfold QZ at h;split at h
 ·cases h
 rename_i q;obtain rfl:=Dx h;exact Iy j (λw=>by simp[binOp,Op.shift,q]) ⟨rfl,rfl⟩
def aSK (h:QZ .shr k u v=some r)(j:o.op=.binOp .shr t x y t':=by exact rfl):CJ P o [(x,.d (.lit (.int k u))),(y,.d (.lit (.int k' v)))] es (.d (.lit (.int k r))) es:=by
 unfold QZ at h;split at h
 ·cases h
 rename_i q;obtain rfl:=Dx h;exact Iy j (λw=>by simp[binOp,Op.shift,q]) ⟨rfl,rfl⟩
def uU (k:IntKind)(a b:Int):AB Int:=if b=0 then none else some (k.wrap (a.tdiv b))
def XY (a b:Int):AB Int:=if b=0 then none else some (a.tmod b)
def abg (h:uU k u v=some r)(j:o.op=.binOp .quo t x y t':=by exact rfl):CJ P o [(x,.d (.lit (.int k u))),(y,.d (.lit (.int k v)))] es (.d (.lit (.int k r))) es:=by
 unfold uU at h;split at h
 ·cases h
 rename_i q;obtain rfl:=Dx h;exact Iy j (λw=>by simp[binOp,Op.intDiv,q]) ⟨rfl,rfl⟩
def aIO (h:XY u v=some r)(j:o.op=.binOp .rem t x y t':=by exact rfl):CJ P o [(x,.d (.lit (.int k u))),(y,.d (.lit (.int k v)))] es (.d (.lit (.int k r))) es:=by
 unfold XY at h;split at h
 ·cases h
 rename_i q;obtain rfl:=Dx h;exact Iy j (λw=>by simp[binOp,Op.intDiv,q]) ⟨rfl,rfl⟩
end
variable {e i k:Nat}
section
variable {P:Cc} {o:Oper} {es:A8 Bd} {α:Type}
def aVe {v:BI}(O:H[k]? =some h)(z:Fb ok w H h (.arr e size xs))(hi:i<xs.length)(U:R ok w H (.lY k i off) v):
 ∃g cap j ys,h.v=.slice (some ⟨g,0,none⟩) xs.length cap/\w.heap[g]? =some (.cells j e (0,0))/\xs.length<=cap/\cap<=maxLen/\xs.length*size<=j.size/\cap*size<=j.size/\j.toList.take (xs.length*size)=ys/\ys.length=xs.length*size/\Gx ok w H (flat xs) ys/\(∀x∈xs,x.cells.length=size)/\v=.pointer (some ⟨g,i*size+off,none⟩):=by
 obtain⟨h1,h2,ys,⟨h3,Y⟩,Z⟩:=z;rcases Y with⟨u,h7⟩|⟨g,cap,j,u,h7,h8,L,I,q,J⟩
 ·omega
 refine⟨g,cap,j,ys,u,h8,L,I,EI (LZ _ L) q,q,J,h3,Z,h2,?_⟩;cases U with
 |lY _ _ _ b n c s M=>
  rw[O]at M;obtain rfl:=Dx M;simp only[mY,Kq,Addr.mk.injEq]at u;simp only at h1;rw[u.1.1,h1]
def aNt (hi:i<n)(q:j<size):i*size+j<n*size:=
 calc i*size+j<i*size+size:=AQ
  _=(i+1)*size:=by rw[dV]
  _<=n*size:=LZ _ hi
def KN {y:D}(enc:α->D){l:A8 α}{a:α}(hy:y=Qh agg (enc a).cells off n)(hk:es[k]? =some (.arr e size (List.map enc l)))(ha:l[i]? =some a)(hT:Ei P t agg n)(hn:off+n<=(enc a).cells.length)(h1:agg=false->n=1)(ho:o.op=.load t x:=by exact rfl):CJ P o [(x,.lY k i off)] es (.d y) es:=
 .pure λok H ac w M hl Y=>by
  have hx:=MR Y;simp only at hx;subst hy;obtain⟨h,hh,Z⟩:=Hq M hl hk;obtain⟨O,hia⟩:=I4.1 ha;have q:i<(List.map enc l).length:=bW
  obtain⟨g,cap,z,ys,e1,e2,e3,e4,e5,e5',e6,e7,e8,e9,e10⟩:=aVe hh Z q hx;have J:(List.map enc l).getD i EM=enc a:=by simp[List.getD,O,hia]
  have hsz:(enc a).cells.length=size:=by
   grind
  have hfl:=Tm e9
  have u:∀j,j<size->w.cell? ⟨g,i*size+j,none⟩=some (ys.getD (i*size+j) undef):=by
   intro j L;have I:=aNt q L;have hcur:(List.map enc l).length*size<=z.size:=e5;have h15:i*size+j<z.size:=AQ
   have e11:ys.getD (i*size+j) undef=z[i*size+j]'(h15):=by
    rw[←e6]
    grind
   rw[e11];simp[World.cell?,e2,show i*size+j<z.size by omega]
  have U:∀j,j<size->((enc a).cells.getD j EM).leaf=true/\EJ ok w ((enc a).cells.getD j EM) (ys.getD (i*size+j) undef):=by
   intro j L;have I:=e8.2 (i*size+j) (by rw[hfl];exact aNt q L);rw[flat_get e9 i j q L,J]at I;refine⟨I.1,?_⟩;cases I.2 with |d _ _ h=>exact h
  obtain⟨v,hr,hD⟩:=a3G (ok:=ok) (w:=w) (b:=g) (p:=i*size) (cs:=(enc a).cells) hT hn h1 (λj L=>(U j AQ).1) (λj L=>by rw[u j AQ];rfl) (λj L=>by unfold cellAt;rw[u j AQ];exact(U j AQ).2);exact⟨v,by simp only[execOp,ho,e10,G6,hr,GL,Hf],.d _ _ hD⟩
def ZK (enc:α->D){l:A8 α}{a a':α}{v:Ap}(hk:es[k]? =some (.arr e size (List.map enc l)))(ha:l[i]? =some a)(hl:v.cells.all Ap.leaf=true)(hs:∀w,(sizeOf t).run P w=.ok n w)(hn:v.cells.length=n)(hle:off+n<=(enc a).cells.length)(hset:(enc a').cells.map Ap.d=setAt ((enc a).cells.map Ap.d) off v.cells)(hc:∀b,(enc b).cells.length=size)(ho:o.op=.store t x y:=by exact rfl):
 CJ P o [(x,.lY k i off),(y,v)] es .junk (es.set k (.arr e size (List.map enc (l.set i a')))):=
 .eff λC ok H J w hm hn'=>by
  have h1:=(FX hn').1;have h2:=(FX hn').2;simp only at h1 h2;obtain⟨h,hh,hok⟩:=Hq hm.ent hm.hlen hk;obtain⟨Y,hia⟩:=I4.1 ha;have aLZ:i<(List.map enc l).length:=by simpa using Y
  have hok1:=hok.1;obtain⟨g,cap,z,ys,e1,e2,e3,e4,e5,e5',e6,e7,e8,e9,e10⟩:=aVe hh hok aLZ h1;have I:=h2.ams hl;have hll:(List.map enc l).length=l.length:=Bf
  rw[hll]at e1 e3 e6 e7;have hea:(enc a).cells.length=size:=hc a;have Z:(J.eval y).cells.toList.length=n:=by rw[I.1,hn]
  have hsz:(J.eval y).cells.size=n:=by simpa using Z
  have hcur:l.length*size<=z.size:=by simpa using e5
  have hend:i*size+off+n<=l.length*size:=by
   have :(i+1)*size<=l.length*size:=LZ _ Y
   grind
  have hst:=aBa (P:=P) g (i*size+off) e (J.eval y).cells.toList 0 z w e2 (by rw[Z];omega) (λu hu=>by
   obtain⟨j,L,rfl⟩:=G8 hu;have h5:=I.2 j (by rw[←I.1];exact L);have :=h5.2.leaf h5.1
   rwa [a5z L]at this)
  simp only[QK]at hst;have O:∀(q:A8 α),∀y∈q.map enc,y.cells.length=size:=λq y hy=>aJG
  obtain⟨h3,h4⟩:=hm.upd (e:=.arr e size (List.map enc (l.set i a'))) (w':=w.setRow g (z.toList.take (i*size+off)++(J.eval y).cells.toList++z.toList.drop (i*size+off+(J.eval y).cells.toList.length)).toArray) hk rfl hh (by rw[e1];rfl) rfl rfl rfl aIh (λc hc=>aIN _ _ _ _ hc) (λhg'=>by
   have esz:(setAt z.toList (i*size+off) (J.eval y).cells.toList).length=z.toList.length:=UE (by have :=z.length_toList;omega);refine⟨hok1,O _,setAt ys (i*size+off) (J.eval y).cells.toList,⟨?_,.inr ⟨g,cap,_,by simp;exact e1,FB _,wG w g z _ e (0,0) e2,by simpa using e3,e4,?_,?_⟩⟩,?_⟩
   ·rw[UE AQ];simpa using e7
   ·have h9:(setAt z.toList (i*size+off) (J.eval y).cells.toList).toArray.size=z.size:=by rw[aA9,esz];simp
    show _<=(setAt z.toList (i*size+off) (J.eval y).cells.toList).toArray.size;rw[h9];exact e5'
   ·rw[aAJ];show(setAt z.toList (i*size+off) (J.eval y).cells.toList).take _=_;rw[←e6];have hlen':(List.map enc (l.set i a')).length=l.length:=Bf
    rw[hlen'];apply nH;intro j;have hcl:=z.length_toList;by_cases L:j<l.length*size
    ·have a1:((setAt z.toList (i*size+off) (J.eval y).cells.toList).take (l.length*size))[j]? =some ((setAt z.toList (i*size+off) (J.eval y).cells.toList).getD j undef):=by
      rw[TF L];simp[List.getD,show j<(setAt z.toList (i*size+off) (J.eval y).cells.toList).length by rw[esz];omega]
     have tl:(z.toList.take (l.length*size)).length=l.length*size:=Ej
     have sl:(setAt (z.toList.take (l.length*size)) (i*size+off) (J.eval y).cells.toList).length=l.length*size:=by rw[UE AQ,tl]
     have a2:(setAt (z.toList.take (l.length*size)) (i*size+off) (J.eval y).cells.toList)[j]? =some ((setAt (z.toList.take (l.length*size)) (i*size+off) (J.eval y).cells.toList).getD j undef):=by
      simp[List.getD,show j<(setAt (z.toList.take (l.length*size)) (i*size+off) (J.eval y).cells.toList).length by omega]
     rw[a1,a2,bF AQ,bF AQ];congr 1;split
     ·rfl
     simp[List.getD,TF L]
    have tl:(z.toList.take (l.length*size)).length=l.length*size:=Ej
    have sl:(setAt (z.toList.take (l.length*size)) (i*size+off) (J.eval y).cells.toList).length=l.length*size:=by rw[UE AQ,tl]
    rw[OZ Ej,OZ AQ]
   have hb:=e8.mono hg' (oP H);have hcr:=I.mono hg' (oP H);have hfl:=Tm (O l);have aBz:=Tm (O (l.set i a'));refine⟨by rw[UE AQ,e7,aBz];simp,λj L=>?_⟩;rw[aBz]at L;simp only[Df,YZ]at L
   have hpos:0<size:=by
    rcases Vb size with h0|h0
    ·rw[h0,Nat.mul_zero]at L;omega
    exact h0
   have e0:j=j/size*size+j % size:=by rw[Vo];exact(a5f j size).symm
   have hq:j/size<l.length:=zu (by rwa [Vo]at L);have hr:j % size<size:=qK _ hpos
   have hdiv:j/size=i↔i*size<=j/\j<i*size+size:=by
    rw[Nat.div_eq_iff hpos,Vo];omega
   rw[Z]at hb hcr;generalize j/size=qd at e0 hq hdiv;generalize j % size=M at e0 hr;have hg3:=flat_get (O (l.set i a')) qd M (by simpa using hq) hr;rw[←e0]at hg3;have hg1:=flat_get (O l) qd M (by simpa using hq) hr;rw[←e0]at hg1;rw[hg3,bF AQ,Z];by_cases U:qd=i
   ·have hnew:(List.map enc (l.set i a')).getD (qd) EM=enc a':=by rw[U];simp[List.getD,Y]
    have hold:(List.map enc l).getD (qd) EM=enc a:=by rw[U];simp[List.getD,Y,hia]
    rw[hnew];have aR5:(enc a').cells.length=size:=hc a'
    have e11:Ap.d ((enc a').cells.getD (M) EM)=(setAt ((enc a).cells.map Ap.d) off v.cells).getD (M) .junk:=by
     rw[←hset];simp[List.getD,show M<(enc a').cells.length by omega]
    rw[e11,bF (by rw[Df,hn];exact hle),hn];have hji:j=i*size+M:=by rw[←U];exact e0
    by_cases hin:off<=M/\M<off+n
    ·rw[ET hin,ET AQ];have :j-(i*size+off)=M-off:=AQ
     rw[this];exact hcr.2 _ AQ
    rw[Ef hin,Ef AQ];have e12:((enc a).cells.map Ap.d).getD (M) .junk=.d ((enc a).cells.getD (M) EM):=by simp[List.getD,show M<(enc a).cells.length by omega]
    rw[e12,←hold,←hg1];exact hb.2 j (by rw[hfl];simpa using L)
   have hsame:(List.map enc (l.set i a')).getD (qd) EM=(List.map enc l).getD (qd) EM:=by
    simp[List.getD,eB (Ne.symm U)]
   have hnot:¬(i*size+off<=j/\j<i*size+off+n):=by
    rintro⟨ha1,ha2⟩;exact U (hdiv.2 ⟨AQ,AQ⟩)
   rw[Ef hnot,hsame,←hg1]
   exact hb.2 j (by rw[hfl];simpa using L))
  refine⟨undef,_,ok,H,.inr ⟨rfl,?_⟩,h4,.refl _,h3,.junk _⟩;simp only[execOp,ho,e10,Instr.storeAt,Instr.sureAddr,storeVar,G6,Hf,GL,hs,hsz,ne_eq,not_true_eq_false,LH,hst]
end
def Ap.WV (k:Nat)(cs:A8 D):Ap->Ap
 | .ptr j off=>if j=k then .d (.ref cs off)else .ptr j off
 |x=>x
def BR.WV (σ:BR)(k:Nat)(cs:A8 D):BR:=⟨σ.slots.map (Ap.WV k cs),σ.ents.set k .dead,σ.base⟩
def Ri (k:Nat)(hk:σ.ents[k]? =some (.box cs))(hd:cs.all Ap.Dp=true):∀C ok H a w,Holds C ok H σ a w->∃ok',Holds C ok' H (σ.WV k (Jy cs)) a w:=by
 intro C ok H a w q;obtain⟨h,M,hok⟩:=Hq q.mem.ent q.mem.hlen hk;have I:k<σ.ents.length:=(I4.1 hk).1;obtain⟨b0,O,hf,hx,hc⟩:=aDv hok hd
 let ok':Nat->Prop:=λb=>ok b\/EC h.v=some b
 have hblk:=λb u=>q.mem.blk k _ h b hk rfl M u;have hg:FP ok w ok' w:=λb u=>⟨.inl u,rfl⟩
 refine⟨ok',⟨q.mem.fr,λb u=>.inl (q.mem.AY b u),?_,?_,q.mem.names,by simp[BR.WV,q.mem.hlen],?_,?_,?_⟩,by simp[BR.WV,q.size],q.defers.mono hg,q.base,?_⟩
 ·rintro b (u|u)
  ·exact q.mem.AZ b u
  grind
 ·rintro b (u|u)
  ·exact q.mem.kZ b u
  grind
 ·intro j e' h' he J;rcases OA I he with⟨rfl,rfl⟩|⟨_,L⟩
  ·trivial
  exact(q.mem.ent j e' h' L J).mono hg (.refl _) (λ_ _ _=>rfl)
 ·intro j e' h' b he hl J u;rcases OA I he with⟨rfl,rfl⟩|⟨hne,L⟩
  ·cases hl
  have h3:=q.mem.blk j e' h' b L hl J u;refine⟨λz=>?_,h3.2⟩;rcases z with z|z
  ·exact h3.1 z
  exact hne (q.mem.Iw j k e' _ h' h b L hk hl rfl J M u z)
 ·intro i j e1 e2 h1 h2 b he1 he2 U Y hh1 hh2 hb1 hb2;rcases OA I he1 with⟨rfl,rfl⟩|⟨_,Z⟩
  ·cases U
  rcases OA I he2 with⟨rfl,rfl⟩|⟨_,aFe⟩
  ·cases Y
  exact q.mem.Iw i j e1 e2 h1 h2 b Z aFe U Y hh1 hh2 hb1 hb2
 intro t ht;simp only[BR.WV,Df]at ht
 have e1:(σ.WV k (Jy cs)).slots.getD t .junk=(σ.slots.getD t .junk).WV k (Jy cs):=by
  simp only[BR.WV];exact WI _ _ _ ht
 rw[e1];have hR:=(q.slot t ht).mono hg (oP H);generalize σ.slots.getD t .junk=x at hR ⊢;generalize a.tmps.getD t undef=v at hR ⊢;cases x with
 |ptr j off=>
  simp only[Ap.WV];split
  ·rename_i hj;subst hj;cases hR with
   |ptr _ _ b s hH=>
    rw[M]at hH;obtain rfl:=Dx hH;simp at O;subst O;have :=EJ.ref (ok:=ok') (w:=w) (Jy cs) off b 0 (λ_=>.inr rfl) hf hx (λj hj=>(hc j hj).mono hg);rw[KD]at this;exact .d _ _ this
  exact hR
 |_=>
   exact hR
variable {d:D}
section
variable {P:Cc} {o:Oper} {es:A8 Bd} {α β γ:Type}
def a0L {ok:Nat->Prop}{w:Ba}{H:A8 CM}{a:Act}:∀{xs:A8 CB} {vs:A8 Ap},xs.length=vs.length->(∀n∈G5 xs vs,R ok w H n.2 (a.eval n.1))->∀i,i<vs.length->R ok w H (vs.getD i .junk) ((xs.map a.eval).getD i undef)
 | [],[],_,_,i,hi=>Tf
 | [],_::_,h,_,_,_=>J9
 |_::_,[],h,_,_,_=>J9
 |x::xs,v::vs,h,j,0,_=>by simpa using j (x,v) (by simp[G5])
 |x::xs,v::vs,h,j,i+1,hi=>by
  have :=a0L OO (λn q=>j n (by simp[G5,q])) i IU;simpa using this
def Pz {fn:Fn}{j:Bg CB}(q:A8 D)(hl:j.toList.length=q.length)(z:o.op=.makeFunc fn #[] j:=by exact rfl):CJ P o (G5 j.toList (q.map .d)) es (.d (.fn fn [] q)) es:=
 .pure λok H a w _ _ I=>by
  refine⟨.func fn #[] (j.map a.eval),by simp[execOp,z,Instr.makeFunc],.d _ _ (.fn fn [] q #[] _ rfl NY (λi hi=>Tf) (λi hi=>?_))⟩;have h1:=a0L (xs:=j.toList) (vs:=q.map .d) NY I i IU;have J:(q.map Ap.d).getD i .junk=.d (q.getD i EM):=OE
  have u:i<j.size:=by
    have :j.size=q.length:=NY
    omega
  have L:(j.toList.map a.eval).getD i undef=(j.map a.eval).getD i undef:=by simp[List.getD,Array.getD,u]
  rw[J,L]at h1;cases h1 with |d _ _ h=>exact h
def aSh (hm:E5 C ok H es w){z:A8 D}{u:Ap}(Z:Ed P f (z.map .d) [] u [])(q:Bg BI)(hs:q.size=z.length)(O:∀i,i<z.length->EJ ok w (z.getD i EM) (q.getD i undef))(J:u.up [] es.length=u):
 Calls P f q w λe w'=>∃v ok' H',e=.returned v/\FP ok w ok' w'/\Names H H'/\E5 C ok' H' es w'/\R ok' w' H' u v:=by
 have U:E5 ⟨w,ok,[],[]⟩ ok [] [] w:=
  ⟨.refl _ _,λ_ h=>h,λ_ h=>.inl h,hm.kZ,.refl _,rfl,λk e h I _=>by simp at I,λk e h b I=>by simp at I,λk k' e e' h h' b I=>by simp at I⟩
 refine(Z ok [] [] w q U zT (λi hi=>?_)).mono ?_
 ·have L:i<z.length:=IU
  have e1:(z.map Ap.d).getD i .junk=.d (z.getD i EM):=by simp[List.getD,L]
  rw[e1];exact .d _ _ (O i L)
 rintro e w' ⟨v,ok',H',rfl,j,hR⟩;have Y:H'=[]:=He j.hlen
 obtain⟨h1,h2⟩:=hm.change (ok':=ok') (H':=H) (es':=es) (w':=w') (λ_=>False) j.fr.os j.fr.tape j.fr.output j.fr.size (λb M _=>j.fr.block b M Bf) (λ_ h=>h.elim) j.AY (λb M=>by
  rcases j.AZ b M with h|h|h
  ·exact .inl h
  ·exact .inr ⟨h,j.kZ b M⟩
  simp at h) (.refl _) hm.hlen (λk e h I hh=>.inl ⟨I,hh,λ_ _ _ h=>h⟩)
 refine⟨v,ok',H,rfl,h2,.refl _,h1,?_⟩;have :=aSt (srcs:=[]) (H:=H) (Hc:=[]) (H':=H') rfl (λi k h=>J9) (λk v O=>by simp at O) hR;rw[hm.hlen,J,Y]at this;simpa using this
def aKQ (j cs:A8 D){q:Ap}(hr:Ed P f ((j++cs).map .d) [] q [])(hf:IC P f=true)(hl:ops.toList.length=j.length)(J:q.up [] es.length=q)(ho:o.op=.call { callee:=.value x,args:=ops,argTypes:=ats }:=by exact rfl):CJ P o ((x,.d (.fn (.func f) [] cs))::G5 ops.toList (j.map .d)) es q es:=by
 intro C ok H a w Q hm hn;have L:=hn (x,.d (.fn (.func f) [] cs)) Bf;simp only at L;have z:=a0L (xs:=ops.toList) (vs:=j.map .d) NY (λn M=>hn n (IE _ M));generalize hv:a.eval x=v at L;cases L with
 |d _ _ h=>
  cases h with
  |fn _ _ _ vs us O U h1 h2=>
   have Y:vs= #[]:=nO bW;subst Y;unfold Oper.wp
   have he:(execOp a.eval o).run P w=.ok (.enter f ((ops.map a.eval)++us)) w:=by
    have :=Un hf (ops.map a.eval++us) w;simp[execOp,ho,resolve,hv,Deferred.ofValue,invoke,this]
   rw[he,bg];have Z:(ops.map a.eval).size=j.length:=NY
   refine(aSh hm hr _ (by simp[Z,U]) (λi hi=>?_) J).mono ?_
   ·by_cases u:i<j.length
    ·have h3:=z i Ql;have e1:(j.map Ap.d).getD i .junk=.d (j.getD i EM):=aCs
     have I:i<ops.size:=aVU
     have e2:(ops.toList.map a.eval).getD i undef=(ops.map a.eval++us).getD i undef:=by
      simp[List.getD,JY,Yl,I]
     have e3:(j++cs).getD i EM=j.getD i EM:=by simp[List.getD,KI u]
     rw[e1,e2]at h3;rw[e3];cases h3 with |d _ _ h=>exact h
    have I:i-j.length<cs.length:=aGP
    have e3:(j++cs).getD i EM=cs.getD (i-j.length) EM:=by simp[List.getD,QI (Xp u)]
    have e4:(ops.map a.eval++us).getD i undef=us.getD (i-j.length) undef:=by
     simp only[JY]
     grind
    rw[e3,e4];exact h2 _ I
   rintro e w' ⟨v,ok',H',rfl,h3,h4,h5,h6⟩;exact⟨v,ok',H',rfl,h3,h4,h5,h6⟩
def TU (P:Cc)(j:α->D)(q:β->D)(d:D)(g:α->AB β):Prop:=∃f cs,d=.fn (.func f) [] cs/\IC P f=true/\∀a b,g a=some b->Ed P f (([j a]++cs).map .d) [] (.d (q b)) []
def aF (P:Cc)(j:α->D)(q:β->D)(u:γ->D)(d:D)(g:α->β->AB γ):Prop:=∃f cs,d=.fn (.func f) [] cs/\IC P f=true/\∀a b c,g a b=some c->Ed P f (([j a,q b]++cs).map .d) [] (.d (u c)) []
def zk (P:Cc)(j:β->D)(d:D)(g:AB β):Prop:=∃f cs,d=.fn (.func f) [] cs/\IC P f=true/\∀b,g=some b->Ed P f (cs.map .d) [] (.d (j b)) []
def wo {j:α->D}{q:β->D}{g:α->AB β}{a:α}{b:β}(hd:TU P j q d g)(h:g a=some b)(u:o.op=.call { callee:=.value x,args:= #[y],argTypes:=ats }:=by exact rfl):
 CJ P o [(x,.d d),(y,.d (j a))] es (.d (q b)) es:=by
 obtain⟨f,cs,rfl,z,I⟩:=hd;exact aKQ [j a] cs (I a b h) z rfl rfl u
def jH {z:CB}{j:α->D}{q:β->D}{u:γ->D}{g:α->β->AB γ}{a:α}{b:β}{c:γ}(hd:aF P j q u d g)(h:g a b=some c)(I:o.op=.call { callee:=.value x,args:= #[y,z],argTypes:=ats }:=by exact rfl):
 CJ P o [(x,.d d),(y,.d (j a)),(z,.d (q b))] es (.d (u c)) es:=by
 obtain⟨f,cs,rfl,J,L⟩:=hd;exact aKQ [j a,q b] cs (L a b c h) J rfl rfl I
def a4G {j:β->D}{g:AB β}{b:β}(hd:zk P j d g)(h:g=some b)(q:o.op=.call { callee:=.value x,args:= #[],argTypes:=ats }:=by exact rfl):
 CJ P o [(x,.d d)] es (.d (j b)) es:=by
 obtain⟨f,cs,rfl,u,z⟩:=hd;exact aKQ [] cs (z b h) u rfl rfl q
end
end Go.Proofs.YtfmoknlmaldmlaaGreat
