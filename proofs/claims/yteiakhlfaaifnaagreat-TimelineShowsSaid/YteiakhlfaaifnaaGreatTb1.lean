/- Part 1 of the laws' proofs (short forms by wip/shrink2.py). -/
import Derived.Test.YteiakhlfaaifnaaGreatRows
import Derived.WalkSpells
import Derived.WalkLawsBesides
import Derived.Lib.Hide
import Derived.Laws.AppendOwnNone
import Derived.Laws.CopyOwn
import Derived.RangeFuncRecord
import Derived.Lib.OwnBridge
import Derived.Sort.OwnSortedInts
import Derived.ProofKit
import Derived.Shelf.Small.Strs
import Derived.Shelf.Strings.Shaped
import Derived.Shelf.Sort.Plain
import Derived.Shelf.Slices.Turned
import Derived.Shelf.Slices.Clone
import Derived.Shelf.Slices.Cells
import Derived.Shelf.Slices.In.SortNone
import Derived.Shelf.Slices.Empties
import Derived.Shelf.SlSortCmp.NoneTotal
import Derived.Shelf.Spec.SlicesInsertGrow
import Derived.StillTailTactics
import Derived.OpenShut
set_option linter.defProp false
set_option linter.unnecessarySimpa false
set_option linter.unusedSectionVars false
set_option linter.unusedVariables false
set_option linter.unusedSimpArgs false
namespace Go.Proofs.YteiakhlfaaifnaaGreat
open Go.RowKit Go.Proofs.Tryz
abbrev AA.{u}:=List.{u}
abbrev AB.{u}:=Option.{u}
abbrev BH:=ByteArray
abbrev BJ:=Value
abbrev BU:=World
abbrev Bh.{u}:=Array.{u}
abbrev Bz:=Operand
abbrev Ch:=Program
abbrev Bq:=TypeId
abbrev Ac:=Bool
abbrev AQ (n:Nat):Nat×Ac:=(n,true)
variable {p:Prop}
def Bo (h:p:=by exact λh=>AZ<|CV):p:=h
def Ei (h:p:=by exact Bl.exit<|AZ<|CV):p:=h
def Hf (h:p:=by exact Bl.exit<|AZ<|Py):p:=h
def Oc (h:p:=by exact Cc<|M _ _ _ (Ag [AQ 0]) h):p:=h
def TD (h:p:=by exact Cc<|L _ _ (Ag []) h):p:=h
def Xy (h:p:=by exact Cc<|L _ _ (Ag [AQ 0]) h):p:=h
def Y6 (h:p:=by exact Nj A8<|Nj A8<|Nj A8<|Nj A8<|trivial):p:=h
def WT (h:p:=by exact Cc<|L _ _ _ (Ag [AQ 0]) h):p:=h
def Vd (h:p:=by exact Cc<|J _ _ (Ag []) h):p:=h
def rW (h:p:=by exact Cc<|O _ _ _ (Ag [AQ 0,AQ 1]) h):p:=h
def a9h (h:p:=by exact .nil<|Or.inl ⟨(),(CM h).symm,(⟨[],[],trivial,A8,A8,A8⟩)⟩):p:=h
def aM7 (h:p:=by exact .aW<|AZ<|Bl.ret<|by rw[←CM h];exact⟨[Cm ({ j with Content:=q })],[],⟨⟨1,BD (Au ({ j with Content:=q })),true,29,A8,A8,A8,Fg,DZ A8,ZT,A8⟩,trivial⟩,A8,A8,A8⟩):p:=h
def uU (h:p:=by exact Cc<|L _ _ _ (Ag [AQ 0,AQ 1]) h):p:=h
def oC (h:p:=by exact Cc<|J _ _ _ (Ag [AQ 0]) h):p:=h
def Uc (h:p:=by exact AZ<|AZ<|CV):p:=h
def aAo (h:p:=by exact .aN<|Cc<|M _ _ _ (Ag [AQ 1]) h):p:=h
def a0Q (h:p:=by exact Cc<|O _ _ (Ag []) h):p:=h
def aWQ (h:p:=by exact λI=>AZ<|Bg h (λh=>I (j==12) (Ag []) h) λh=>AZ<|Bg h (λh=>I (j==13) (Ag []) h) λh=>Cc<|I (j==14) (Ag []) h):p:=h
def aOc (h:p:=by exact λI=>AZ<|Bg h (λh=>I (j==5) (Ag []) h) λh=>AZ<|Bg h (λh=>I (j==8) (Ag []) h) λh=>Cc<|I (j==10) (Ag []) h):p:=h
def yZ (h:p:=by exact Cc<|U _ _ _ (Ag [AQ 0]) h):p:=h
def aVV (h:p:=by exact λh=>Bl.ret<|⟨.inr rfl,(dF I).slots,(.ready,none),.normal,A8,rfl,(x1 J L (Ag [AQ 2,AQ 6]) h)⟩):p:=h
def aQJ (h:p:=by exact Bl.ret<|⟨.inr rfl,(Xk j J).slots,(.ready,none),.normal,A8,rfl,(Y x8 x9 (Ag [AQ 0,AQ 1]) h)⟩):p:=h
def a0D (h:p:=by exact λh=>Bl.exit<|I (Ag []) h):p:=h
def jI (h:p:=by exact Bl.exit<|AZ<|JQ):p:=h
def qO (h:p:=by exact Cc<|M _ _ (Ag []) h):p:=h
def Ir (h:p:=by exact BF h Bo λh=>AZ<|CV):p:=h
def a7p (h:p:=by exact BF h Bo λh=>Cc<|M _ _ (Ag [AQ 0]) h):p:=h
def a3e (h:p:=by exact BF h Bo λh=>Cc<|J _ _ (Ag [AQ 0]) h):p:=h
def sQ (h:p:=by exact .aT<|BF h Bo λh=>TD):p:=h
def zI (h:p:=by exact .aW<|BF h Bo λh=>TD):p:=h
def aIA (h:p:=by exact .aN<|Cc<|J _ _ _ (Ag [(0,false),AQ 2]) h):p:=h
def a7O (h:p:=by exact Cc<|I _ _ _ (Ag [AQ 0]) h):p:=h
def aGA (h:p:=by exact Cc<|M _ _ _ (Ag [AQ 0,AQ 1]) h):p:=h
def aGj (h:p:=by exact Cc<|J _ _ _ (Ag [AQ 0,AQ 1]) h):p:=h
def a6Q (h:p:=by exact .aT<|BF h Bo λh=>a0Q):p:=h
def mX (h:p:=by exact λh=>AZ<|Py):p:=h
def aEG (h:p:=by exact .aN<|Cc<|L _ _ _ (Ag [AQ 1]) h):p:=h
def a8K (h:p:=by exact Cc<|M _ _ _ (Ag []) h):p:=h
def aF3 (h:p:=by exact .aW<|AZ<|BF h Bo λh=>Vd):p:=h
def um (h:p:=by exact .aN<|L q (Ag []) h):p:=h
def aOA (h:p:=by exact BF h Bo λh=>Cc<|O _ _ (Ag [AQ 0,AQ 1]) h):p:=h
def aLk (h:p:=by exact BF h Bo λh=>Cc<|L _ _ (Ag [AQ 0,AQ 1]) h):p:=h
def aLW (h:p:=by exact λh=>Bl.block<|Cc<|J _ _ (Ag [(0,false),AQ 1]) h):p:=h
def aHD (h:p:=by exact AZ<|BF h Bo λh=>Xy):p:=h
def aOH (h:p:=by exact .f (x:=.aQ 1) (E5 [.ent 0] [.aQ 0,AU J] (aIK U))<|aAo):p:=h
def aJp (h:p:=by exact .aT<|BF h Bo λh=>Vd):p:=h
def aIG (h:p:=by exact .aT<|BF h Bo λh=>Xy):p:=h
def a1d (h:p:=by exact Aa<|AZ<|Ir):p:=h
def A8 (h:p:=by kernel_rfl):p:=h
def CV (h:p:=by cases h;exact .ret (Ew [])):p:=h
def AL (h:p:=by omega):p:=h
def CU (h:p:=by cases h;kernel_rfl):p:=h
def Ba (h:p:=by decide):p:=h
def Py (h:p:=by cases h;exact .ret (Ew [AQ 0])):p:=h
def Bf (h:p:=by simp):p:=h
def JQ (h:p:=by cases h;exact .ret (Ew [AQ 1])):p:=h
def Gm (h:p:=by simp only[Oh];omega):p:=h
def Eh (h:p:=by simp;omega):p:=h
def Jt (h:p:=by cases h;exact .ret (Ew [AQ 2])):p:=h
def a4R (h:p:=by rw[←CM h];exact⟨[Cm EI,Ai false],[],⟨⟨0,BD (Au EI),true,29,by kernel_rfl,by kernel_rfl,by kernel_rfl,Fg,DZ (by kernel_rfl),(by intro J;cases J),by kernel_rfl⟩,FY (by kernel_rfl),trivial⟩,by kernel_rfl,by kernel_rfl,by kernel_rfl⟩):p:=h
def a2y (h:p:=by rw[←CM h];exact⟨[Cm q,Ai true],[],⟨⟨0,BD (Au q),true,29,by kernel_rfl,by kernel_rfl,by kernel_rfl,Fg,DZ (by kernel_rfl),(by intro J;cases J),by kernel_rfl⟩,FY (by kernel_rfl),trivial⟩,by kernel_rfl,by kernel_rfl,by kernel_rfl⟩):p:=h
def Xu (h:p:=by rw[←CM h];exact⟨[],[AQ 0],trivial,by kernel_rfl,by kernel_rfl,by kernel_rfl⟩):p:=h
def JU (h:p:=by intro L;cases L):p:=h
def IQ (h:p:=by simpa using hi):p:=h
def MZ (h:p:=by obtain⟨a,_,rfl⟩:=GH.1 q;rfl):p:=h
def vF (h:p:=by unfold Func.isWrapper;first|(rw[Dw (by decide+kernel)];kernel_rfl)|(rw[EC (by decide+kernel)];exact⟨rfl,rfl⟩)):p:=h
def nE (h:p:=by subst e;have h:=i;exact AO h λq j h=>.a 2<|.ca (a2f j)<|.aW<|by cases h;kernel_rfl):p:=h
def Zu (h:p:=by cases h;exact .ret (Ew [AQ 0,AQ 1,AQ 2,AQ 3])):p:=h
def GN (h:p:=by cases h):p:=h
def PS (h:p:=by decide+kernel):p:=h
def aR2 (h:p:=by rw[←CM h];exact⟨[Cm EI,AU J],[],⟨⟨0,BD (Au EI),true,29,by kernel_rfl,by kernel_rfl,by kernel_rfl,Fg,DZ (by kernel_rfl),(by intro M;cases M),by kernel_rfl⟩,FY (by kernel_rfl),trivial⟩,by kernel_rfl,by kernel_rfl,by kernel_rfl⟩):p:=h
def LC (h:p:=by simpa using h2):p:=h
def aYF (h:p:=by rw[←CM h];exact⟨[Iz q],[],⟨⟨0,BD (FW q),true,9,by kernel_rfl,by kernel_rfl,by kernel_rfl,jP,DZ (by kernel_rfl),(by intro I;cases I),by kernel_rfl⟩,trivial⟩,by kernel_rfl,by kernel_rfl,by kernel_rfl⟩):p:=h
def aXm (h:p:=by rw[←CM h];exact⟨[Cm I],[],⟨⟨1,BD (Au I),true,29,by kernel_rfl,by kernel_rfl,by kernel_rfl,Fg,DZ (by kernel_rfl),(by intro L;cases L),by kernel_rfl⟩,trivial⟩,by kernel_rfl,by kernel_rfl,by kernel_rfl⟩):p:=h
def aT9 (h:p:=by rw[←CM h];exact⟨[Cm j],[],⟨⟨1,BD (Au j),true,29,by kernel_rfl,by kernel_rfl,by kernel_rfl,Fg,DZ (by kernel_rfl),(by intro L;cases L),by kernel_rfl⟩,trivial⟩,by kernel_rfl,by kernel_rfl,by kernel_rfl⟩):p:=h
def aXE (h:p:=by rw[←CM h];exact⟨[Cm I],[],⟨⟨2,BD (Au I),true,29,by kernel_rfl,by kernel_rfl,by kernel_rfl,Fg,DZ (by kernel_rfl),(by intro M;cases M),by kernel_rfl⟩,trivial⟩,by kernel_rfl,by kernel_rfl,by kernel_rfl⟩):p:=h
def a4W (h:p:=by subst e;have h:=i;exact AO h λq j h=>.a 2<|.p (Lh (k:=.i64) j IJ)<|.aW<|by cases h;kernel_rfl):p:=h
def O5 (h:p:=by intro hh;cases hh):p:=h
def OQ (h:p:=by simp[List.getD,hi]):p:=h
def Il (h:p:=by simp at h):p:=h
def Ri (h:p:=by simp only[Em,Oh];omega):p:=h
def nO (h:p:=by simpa using J):p:=h
def LZ (h:p:=by simpa using h):p:=h
def N7 (h:p:=by simpa using hl):p:=h
def MO (h:p:=by rw[Em];omega):p:=h
def Vj (h:p:=by simpa using L.lt x (by simp[hx])):p:=h
def a1m (h:p:=by have :=hb (k+1) y (by simpa using J);simpa[UZ,Vy 1 k]using this):p:=h
def ZT (h:p:=by intro J;cases J):p:=h
def vM (h:p:=by have :=hl (k+1) (by simpa using hk);simpa[UZ,Vy 1 k]using this):p:=h
def zX (h:p:=by have :=U (k+1) y (by simpa using J);simpa[UZ,Vy 1 k]using this):p:=h
def wM (h:p:=by have :=Y (k+1) y (by simpa using J);simpa[UZ,Vy 1 k]using this):p:=h
def NG (h:p:=by rw[Vo];omega):p:=h
def Q8 (h:p:=by rw[←hm.hlen];simp):p:=h
def QU (h:p:=by intro q;cases q):p:=h
def Ul (h:p:=by intro M;cases M):p:=h
def nH (h:p:=by cases h;exact .ret (Ew [(0,false),AQ 1])):p:=h
def Uk (h:p:=by simp only[La];omega):p:=h
def qc (h:p:=by have :Aw=9223372036854775808:=rfl;omega):p:=h
def Q9 (h:p:=by simpa using I):p:=h
def RF (h:p:=by rw[DK];omega):p:=h
def Zi (h:p:=by first|exact O|kernel_rfl):p:=h
def qh (h:p:=by cases h;exact .ret (Ew [AQ 3])):p:=h
def aOO (h:p:=by rw[←CM h];exact⟨[],[AQ 0,AQ 1,AQ 2,AQ 3],trivial,by kernel_rfl,by kernel_rfl,by kernel_rfl⟩):p:=h
def iw (h:p:=by obtain⟨a,_,rfl⟩:=GH.1 j;rfl):p:=h
def pV (h:p:=by simp[Act.eval,Array.replicate]):p:=h
def aQe (h:p:=by subst e;have h:=i;exact .a 2<|AO h λq I h=>.mg 12 3 (Ai q) (.bi I)<|.aW<|by cases h;kernel_rfl):p:=h
def Xw (h:p:=by rw[J5]at h;exact h):p:=h
def a1E (h:p:=by cases h;exact .ret (Ew [AQ 4])):p:=h
def ZL (h:p:=by rw[J5];exact aCx hs):p:=h
def Qo (h:p:=by rw[aZm];rfl):p:=h
def aLg (h:p:=by subst e;have h:=i;exact AO h λq j h=>.a 4<|.ca (agq j)<|.aW<|by cases h;kernel_rfl):p:=h
def aNa (h:p:=by subst e;have h:=i;exact AO h λq j h=>.a 4<|.ca (ahi j)<|.aW<|by cases h;kernel_rfl):p:=h
def aTr (h:p:=by subst e;have h:=i;exact AO h λq j h=>.a 4<|.ca (ap4 j)<|.aW<|by cases h;kernel_rfl):p:=h
def aOg (h:p:=by subst e;have h:=i;exact AO h λq j h=>.a 4<|.ca (acT j)<|.aW<|by cases h;kernel_rfl):p:=h
def a0k (h:p:=by simpa using(hl 0 (by simp)).symm):p:=h
def Wy (h:p:=by simpa using h3):p:=h
def WW (h:p:=by simpa using j):p:=h
def Sj (h:p:=by simp at hi):p:=h
def WU (h:p:=by simpa using q):p:=h
def WA (h:p:=by simpa using e):p:=h
def Y4 (h:p:=by simpa using h1):p:=h
def aGP (h:p:=by rw[alloc_eq_grow,alloc_eq_grow,grow_grow];rfl):p:=h
def Ud (h:p:=by simp[flat]):p:=h
def aIt (h:p:=by cases h;exact .ret (Ew [AQ 0,AQ 1])):p:=h
def oW (h:p:=by rw[ha,DK,HY];omega):p:=h
def aG (h:p:=by simpa using Y):p:=h
def a7W (h:p:=by simp only[aRb];split<;>omega):p:=h
def aUe (h:p:=by simpa using hk):p:=h
def mQ (h:p:=by simp[Aw];omega):p:=h
def fC (h:p:=by simp[hm.hlen]):p:=h
def aBC (h:p:=by rw[Em];simp only[Oh];omega):p:=h
def wF (h:p:=by rw[HY];omega):p:=h
def a6r (h:p:=by simpa using U 0 x (by simp)):p:=h
def tX (h:p:=by intro Y;cases Y):p:=h
def rX (h:p:=by rw[j]at h;exact h):p:=h
def sN (h:p:=by intro U;cases U):p:=h
def lK (h:p:=by simp at M;omega):p:=h
def aGV (h:p:=by rw[J rfl b (by rw[h1];rfl)];exact h2):p:=h
def aEL (h:p:=by obtain⟨b,_,rfl⟩:=GH.1 hy;exact hc b):p:=h
def wJ (h:p:=by unfold maxLen;omega):p:=h
def XA (h:p:=by simp[hi]):p:=h
def kS (h:p:=by simpa using L):p:=h
def a4M (h:p:=by simp[binOp,Op.intBits,FB]):p:=h
def aAV (h:p:=by simp only[H8];simp;omega):p:=h
def aFG (h:p:=by cases h;exact .ret (Ew [AQ 5])):p:=h
def a0c (h:p:=by simp[underlying,ht]):p:=h
def aXj (h:p:=by rw[DK]at hi;rw[TT _ _ _ hi];exact VO q j I (h i hi)):p:=h
def rV (h:p:=by simpa using hm):p:=h
def aRS (h:p:=by subst e;have h:=i;exact Dp.aW<|by cases h;kernel_rfl):p:=h
def a8a (h:p:=by rw[h3.keys];simp[CY,aEM]):p:=h
def nM (h:p:=by simpa using q2):p:=h
def a8U (h:p:=by simp[Act.eval,Act.put]):p:=h
def aU4 (h:p:=by have :=((a2m l [b]).2 x).1 j;rw[←aJX];exact this.dR):p:=h
def aH6 (h:p:=by simpa using Y 0 σ.ents (by simp)):p:=h
def fE (h:p:=by rw[ha,Ho]):p:=h
def a7i (h:p:=by rw[h1];rfl):p:=h
def wZ (h:p:=by simp[List.getD,j]):p:=h
def aNf (h:p:=by rw[DK]at hi;rw[TT _ _ _ hi];exact(h i hi).vU π):p:=h
def oI (h:p:=by simpa using M):p:=h
def aCn (h:p:=by intro I;cases I):p:=h
def a7j (h:p:=by simp[Op.bytesLess]at h):p:=h
def aRj (h:p:=by simp only[a99,dec_lt h,Bd,CX h,Af,SE,FK,BO]):p:=h
def a1J (h:p:=by intro h;cases h):p:=h
def aGG (h:p:=by rw[hm.hlen];exact(H6.1 h1).1):p:=h
def aOE (h:p:=by simpa using(by omega:i<(ops.map a.eval).size)):p:=h
def a3d (h:p:=by rw[World.cell?,j];rfl):p:=h
def a4p (h:p:=by constructor<;>omega):p:=h
def xB (h:p:=by simpa using hs):p:=h
def aSg (h:p:=by rw[h2];exact⟨rfl,rfl,rfl,Eo _,λ_ _=>rfl⟩):p:=h
def aXk (h:p:=by cases h;exact .ret (Ew [(0,false),AQ 5])):p:=h
def aMO (h:p:=by rw[ha];exact FQ (aAw _ _) (by rw[HY];omega)):p:=h
def aIm (h:p:=by rw[←h.len];exact(Ic.1 h1).1):p:=h
def aSY (h:p:=by have :=a01 s ⟨k,key,0⟩;unfold Fj at *;omega):p:=h
def a8w (h:p:=by rw[map_take hi,ha]):p:=h
def aHu (h:p:=by simp[sizeOf,typeInfo,hi,hs]):p:=h
def a5m (h:p:=by simp[underlying,hu]):p:=h
def aJM (h:p:=by first|exact M|kernel_rfl):p:=h
def aLe (h:p:=by simp[Value.cells,List.getD,Array.getD,q]):p:=h
def dn (h:p:=by simp[hl]):p:=h
def aGn (h:p:=by have :=eq_of_beq h;omega):p:=h
def a8C (h:p:=by simp[underlying,q]):p:=h
def jT (h:p:=by simp at I):p:=h
def aBM (h:p:=by simpa using this):p:=h
def pI (h:p:=by rw[e];rfl):p:=h
def aGJ (h:p:=by rw[hb1];exact(H6.1 O).1):p:=h
def aHj (h:p:=by rw[Bc.ah6]at L;exact L):p:=h
def a5J (h:p:=by intro O;cases O):p:=h
def aPe (h:p:=by unfold LQ at j;rw[EJ hl]at j;exact j):p:=h
def aPq (h:p:=by simp[Array.getD,hil]at hf ⊢;exact hf):p:=h
def aEQ (h:p:=by simp[underlying,hE.und]):p:=h
def aXY (h:p:=by obtain⟨a,_,rfl⟩:=GH.1 hy;exact hc a):p:=h
def aLt (h:p:=by unfold UA at j;rw[Em,Em]at j;omega):p:=h
def jU (h:p:=by cases h'):p:=h
def aNb (h:p:=by rw[aRa J];exact λe=>hne e.symm):p:=h
def aBN (h:p:=by simpa using hj):p:=h
def aNd (h:p:=by rw[UpR];exact fuel_lt (by decide)):p:=h
def a2Z (h:p:=by simpa using hc):p:=h
def aXO (h:p:=by simp[stepG,stepG.exec,Frame.atR]):p:=h
def aKN (h:p:=by simp[List.getD,er e]):p:=h
def a7M (h:p:=by simp[flat]at hi):p:=h
def aIC (h:p:=by simp[List.getD,KZ I]):p:=h
def aFX (h:p:=by simp[List.getD,KZ e]):p:=h
def aJU (h:p:=by simpa[ED]using q.symm):p:=h
def a5s (h:p:=by rw[Ij];omega):p:=h
def lD (h:p:=by simp[h1]):p:=h
def aFL (h:p:=by rw[hm.hlen];exact h1):p:=h
def aGd (h:p:=by simp[World.setRow]):p:=h
def aHZ (h:p:=by simp only[a99,DY,BO]):p:=h
def a2p (h:p:=by apply aUt;simp):p:=h
def a0x (h:p:=by rw[J];rfl):p:=h
def a8O (h:p:=by simp[go_sem]):p:=h
def a8V (h:p:=by rw[J5];exact h):p:=h
def aAI (h:p:=by simpa using hp):p:=h
def aFt (h:p:=by rw[Em];simp;omega):p:=h
def ku (h:p:=by simp[q]):p:=h
def aL1 (h:p:=by have :=Jk h1;omega):p:=h
def aGB (h:p:=by simp[execOp,j];rfl):p:=h
def aIZ (h:p:=by simp[underlying,j]):p:=h
def aII (h:p:=by rw[Em]at hi;omega):p:=h
def aHG (h:p:=by rw[Vo];simp;omega):p:=h
def aG9 (h:p:=by simp[List.getD,I]):p:=h
def aHd (h:p:=by rw[DK];exact hi):p:=h
def a8J (h:p:=by simp[a1B,e]):p:=h
def aGq (h:p:=by rw[aKq j M];simp):p:=h
def a2J (h:p:=by simp at j):p:=h
def a8R (h:p:=by rw[h2];rfl):p:=h
def yH (h:p:=by simp at O):p:=h
def aDi (h:p:=by rw[L]at q;omega):p:=h
abbrev D8:=Value.int .i64
def Af:=@Option.bind_some
def BO:=@cond_false
def BM:=@congrArg
def DZ:=@Nat.le_of_ble_eq_true
def Bd:=@cond_true
def DK:=@List.length_map
def EJ:=@List.getElem?_eq_getElem
def Em:=@List.length_append
def Oh:=@List.length_singleton
def Dx:=@Bool.and_eq_true
def E9:=@Option.some.inj
def H6:=@List.getElem?_eq_some_iff
def I4:=@List.eq_nil_of_length_eq_zero
def Eu:=@List.getElem_mem
def Ic:=@Array.getElem?_eq_some_iff
def GH:=@List.mem_map
def HY:=@List.length_take
def FK:=@Bool.not_true
def GY:=@Go.Result.andThen_ok
def GK:=@List.all_eq_true
def Eo:=@Nat.le_refl
def I9:=@List.length_filter_le
def H8:=@List.length_cons
def Ho:=@List.take_length
def Jm:=@Array.getD_eq_getD_getElem?
def KZ:=@List.getElem?_append_left
def FQ:=@Nat.le_trans
def F6:=@Nat.zero_le
def I8:=@List.getElem_of_mem
def Jq:=@List.pairwise_iff_getElem
def H9:=@List.not_mem_nil
def G7:=@List.mem_cons
def Dw:=@if_pos
def He:=@List.mem_filter
def Gf:=@Bool.true_and
def GL:=@Go.Sem.run_bind
def JX:=@List.mem_cons_of_mem
def IL:=@Go.Proofs.Tryz.underlying3
def EC:=@if_neg
def Iu:=@List.mem_cons_self
def Hy:=@List.foldl_cons
def Ik:=@decide_eq_true_eq
def Ij:=@List.nil_append
def Jk:=@of_decide_eq_false
abbrev Ar:=IntKind.i64.wrap
def Vo (n:Int):Ar n=(n+9223372036854775808)%18446744073709551616-9223372036854775808:=Go.IntKind.wrap_i64 n
def JI:=@List.append_assoc
def Ko:=@Nat.mul_le_mul_right
def La:=@List.length_nil
def Ns:=@List.drop_eq_getElem_cons
def Hg:=@Go.Sem.run_pure
def Iq:=@decide_eq_false
def Lu:=@List.getElem?_eq_none
def KJ:=@List.getElem?_map
def KE:=@List.any_eq_true
def PL:=@List.getElem?_append_right
def SI:=@List.take_succ_eq_append_getElem
def Jh:=@List.map_append
def JV:=@Bool.not_false
def Jp:=@Option.map_some
def JE:=@List.map_cons
def KG:=@List.mem_append
def LW:=@of_decide_eq_true
def MJ:=@List.flatMap_cons
def LX:=@Go.RowKit.Below.heap_alloc
def UZ:=@Nat.add_assoc
def Qr:=@List.getElem?_take_of_lt
def L8:=@decide_eq_true
def OE:=@List.pairwise_cons
def NV:=@List.length_drop
def MH:=@List.append_nil
def Vy:=@Nat.add_comm
def Ro:=@Option.isSome_iff_exists
def WO:=@Array.getElem?_setIfInBounds_ne
def Qv:=@Go.MapKept.run_getObj_map
def Nw:=@Option.some.injEq
def NW:=@Go.Proofs.Tryz.underlying9
def OI:=@Option.getD_some
def Y5:=@Array.all_eq_true_iff_forall_mem
def KW:=@Nat.zero_add
def QC:=@List.mem_singleton
def PU:=@List.drop_length
def Pn:=@List.getElem_map
def Ql:=@List.filter_append
def Nc:=@Bool.or_false
def Un:=@List.take_of_length_le
def Z7:=@Array.eq_empty_of_size_eq_zero
def RU:=@Bool.not_eq_true'
def Ny:=@Bool.false_or
def Ru:=@Bool.false_eq_true
def YD:=@List.mem_of_find?_eq_some
def SE:=@beq_self_eq_true
def P8:=@Bool.and_true
def Td:=@Option.toList_some
def RX:=@List.nodup_cons
def X0:=@Array.getElem?_modify
def V8:=@List.filter_sublist
def UW:=@List.filter_eq_self
def cu:=@Array.getElem?_append_left
def SG:=@Go.Proofs.Tryz.underlying4
def Xr:=@Go.World.putObj_heap_same
def Ky:=@if_false
def Vf:=@Array.length_toList
def Vm:=@List.filterMap_cons
def YK:=@Array.getElem?_toList
def YC:=@List.take_append_drop
def bC:=@Go.World.putObj_heap_other
def Jy:=@if_true
def er:=@List.getElem?_set_ne
def OC:=@beq_iff_eq
def QI:=@Nat.add_zero
def WR:=@Nat.lt_of_lt_of_le
def Va:=@List.getElem?_drop
def TU:=@Bool.eq_iff_iff
def V5:=@List.filter_cons
def dX:=@Array.getElem?_eq_getElem
def X5:=@List.foldl_append
def WE:=@List.findIdx_cons
def WY:=@List.take_add_one
def Qz:=@Bool.or_true
def aU:=@List.mem_of_getElem?
def W9:=@List.foldlM_cons
def qj:=@List.getD_eq_getElem?_getD
def nN:=@List.nodup_iff_pairwise_ne
def uM:=@List.takeWhile_append_dropWhile
def dM:=@Option.map_eq_some_iff
def aY:=@beq_eq_false_iff_ne
def XQ:=@List.mem_flatMap
def Xq:=@Bool.not_eq_true
def bH:=@Nat.eq_zero_or_pos
def Xe:=@Nat.lt_succ_self
def XW:=@List.cons_append
def VF:=@Prod.mk.injEq
def jW:=@Array.toArray_toList
def WH:=@Go.heap_alloc_new
def RP:=@Go.wpS_region
def nT:=@Option.bind_eq_some_iff
def rP:=@List.getElem?_cons_succ
def qx:=@List.getElem?_cons_zero
def qR:=@decide_eq_false_iff_not
def dG:=@List.ext_getElem?
def bU:=@Int.toNat_natCast
def YH:=@List.length_set
def sU:=@List.filter_eq_nil_iff
def UM:=@Nat.succ_mul
def Yo:=@Nat.le_of_not_lt
def iT:=@List.mem_filterMap
def ou:=@List.filterMap_append
def a1o:=@Go.returnsInHanded_of_change
def WL:=@Nat.mul_comm
def rH:=@List.mem_of_mem_take
def mY:=@Go.World.alloc_heap_new
def jR:=@List.pairwise_map
def je:=@bne_self_eq_false
def a0S:=@Go.OpenClaim.holds_of_wide
def qW:=@List.length_pos_iff
def pW:=@Array.getElem?_push
def jB:=@List.ext_getElem
def a1F:=@List.drop_of_length_le
def xE:=@List.findIdx_lt_length
def Y1:=@List.map_map
def iF:=@Go.Oper.upon_enter
def iP:=@Go.run_equalIn_int
def bZ:=@List.map_take
def oz:=@Go.Value.slice.injEq
def aEM:=@Function.comp_def
def rE:=@Go.Proofs.Tryz.underlying22
def rD:=@Go.Proofs.Tryz.underlying30
def aAG:=@Classical.byContradiction
def uH:=@Nat.div_lt_of_lt_mul
def Sim:=@List.pairwise_append
def tu:=@Bool.or_eq_false_iff
def a1j:=@List.mem_append_left
def a1L:=@List.findIdx_getElem
def Vh:=@Go.RowKit.Below.trod
def aEg:=@List.set_eq_take_append_cons_drop
def iZ:=@List.nodup_nil
def jH:=@Go.Oper.wpIn_mono
def Qd:=@Go.wpS_seq
def ji:=@Go.wp_region_list
def lU:=@Go.IntKind.wrap_u64
def vS:=@List.length_reverse
def zT:=@Go.ChangeSpec.witness6
def jM:=@List.map_drop
def X4:=@Go.wpIn_mono
def qI:=@Go.Proofs.Tryz.zeroValue3
def pY:=@Bool.or_eq_true
def Vg:=@Go.mem_ready
def aJo:=@List.eq_nil_iff_forall_not_mem
def sH:=@beq_false_of_ne
def qZ:=@Go.IntKind.wrap_u8
def a1g:=@Go.Proofs.Tryz.underlying24
def SPr:=@Nat.lt_trichotomy
def yP:=@Go.Proofs.Tryz.underlying32
def iW:=@Nat.le_of_eq
def pU:=@List.drop_zero
def aBq:=@Nat.eq_of_beq_eq_true
def aIP:=@Array.getElem?_setIfInBounds
def kH:=@getElem!_pos
def a5S:=@Go.Lib.wpList_append_run
def a7N:=@List.mem_append_right
def aBS:=@List.singleton_append
def uP:=@Go.Proofs.Tryz.underlying5
def aBm:=@List.mem_of_mem_drop
def zB:=@decide_eq_decide
def aCD:=@Array.toList_setIfInBounds
def lW:=@Go.Oper.semAt_eq
def jm:=@Nat.add_mul
def a5D:=@List.toList_toArray
def a7b:=@List.reverse_append
def aDs:=@Array.mapM_eq_mapM_toList
def yU:=@Nat.min_eq_left
def a00:=@Go.Proofs.Tryz.zeroValue5
def a0g:=@Go.Proofs.Tryz.zeroValue9
def zf:=@Go.Proofs.Tryz.zeroValue4
def tq:=@List.take_left'
def zU:=@List.find?_cons
def yS:=@List.find?_some
def a7E:=@List.getElem?_take
def qU:=@Go.Proofs.Tryz.sizeOf3
def aAU:=@Go.Proofs.Tryz.underlying122
def a5t:=@Go.Proofs.Tryz.underlying183
def aBg:=@Array.extract_size
def qB:=@Go.Addr.add_lit
def aAl:=@List.find?_eq_none
def xP:=@List.mem_range
def yj:=@List.take_zero
def yI:=@Nat.mul_le_mul
def aDf:=@List.filter_cons_of_neg
def aD5:=@List.filter_cons_of_pos
def a9L:=@Go.World.ownsRow_nil
def a7X:=@List.size_toArray
def aBK:=@Go.Proofs.Tryz.zeroValue122
def a3n:=@Go.Proofs.Tryz.zeroValue183
def aAu:=@List.nodup_append
def a4f:=@List.getElem?_set
def a3H:=@List.getElem_take
def aBZ:=@List.any_eq_false
def aMW:=@List.findIdx?_eq_some_iff_getElem
def lX:=@Nat.mul_one
def aFM:=@List.dropWhile_sublist
def lq:=@Go.Proofs.Tryz.isAgg3
def aJB:=@Go.World.cell?_alloc_past
def aIs:=@List.not_of_lt_findIdx
def aF9:=@ByteArray.size_extract
def aI5:=@List.reverse_singleton
def aBB:=@Go.Proofs.Tryz.underlying0
def aAR:=@Option.bind_none
def a8M:=@List.perm_middle
def aM1:=@List.findIdx_lt_length_of_exists
def eM:=@Array.ext
def aBo:=@Nat.div_add_mod
def rC:=@Nat.mod_lt
def wI:=@Go.Proofs.Tryz.sizeOf5
def uw:=@Go.Proofs.Tryz.sizeOf9
def RdC:=@Go.Proofs.Tryz.sizeOf4
def a9v:=@Go.Proofs.Tryz.zeroValue0
def a6H:=@List.cons.injEq
def aWq:=@List.Nodup.length_le_of_subset
def wu:=@Nat.lt_or_ge
def a4a:=@Nat.not_lt_zero
def a0i:=@Bool.not_not
def aCJ:=@List.map_congr_left
def aFb:=@Go.callsIn_of_wp_marks
def aHm:=@List.take_succ_cons
def a3A:=@Go.run_underlying
def a6L:=@Go.Proofs.Tryz.sizeOf122
def aAH:=@Go.Proofs.Tryz.sizeOf183
def a1y:=@Go.setRow_heap
def vN:=@List.map_id
def OnA:=@Go.Sem.run_map
def Agr:=@Go.Proofs.Tryz.isAgg5
def a0P:=@Go.Proofs.Tryz.isAgg9
def Sub:=@Go.Proofs.Tryz.isAgg4
def aRb:=@Nat.min_def
def a0F:=@Go.run_loadCells_list
def aCc:=@Go.grownCap_le_maxLen
def aJE:=@Int.natCast_nonneg
def aVz:=@Array.getElem?_append_right
def aGs:=@Go.MapKept.heap_alloc
def aCT:=@List.filter_filter
def aDg:=@Nat.eq_or_lt_of_le
def aXK:=@List.dropWhile_cons_of_pos
def aQr:=@List.dropWhile_cons_of_neg
def aAF:=@Go.callsD_of_wpS
def aLY:=@List.getElem?_take_eq_none
def aUN:=@Int.tmod_eq_emod_of_nonneg
def aFB:=@Go.run_storeCells_at
def aL4:=@List.find?_append
def aHE:=@List.filter_congr
def aUt:=@Array.ext'
def aPp:=@List.getElem?_zip_eq_some
def aBW:=@Nat.zero_mul
def aFH:=@Nat.min_le_right
def aJd:=@Go.World.size_alloc
def aA9:=@List.map_set
def sW:=@Go.wpS_cond
def aFE:=@List.flatMap_map
def a3a:=@Bool.true_or
def aF0:=@List.getElem_zip
def aEm:=@List.map_reverse
def aId:=@Nat.min_le_left
def aDx:=@List.any_append
def a8N:=@Nat.one_mul
def a9w:=@Int.le_refl
def aG2:=@List.drop_drop
def aI9:=@List.take_take
def addr_add (b o j:Nat):(⟨b,o,none⟩:Addr).add j=⟨b,o+j,none⟩:=by
 unfold Addr.add;split<;>simp_all
variable {P:Ch}{Q:Exit->Act->BU->Prop}{a:Act}{o:Oper}{ops:Bh Oper}{w:BU}
section
variable {rest:AA Oper}
def aiB (w:BU)(ty:Bq)(b off:Nat)(cs:Bh BJ)(hA:(isAgg ty).run P w=.ok true w)(J:(sizeOf ty).run P w=.ok cs.size w)(L:∀j,j<cs.size->w.cell? ⟨b,off+j,none⟩=some (cs.getD j undef)):(loadVar ty ⟨b,off,none⟩).run P w=.ok (.agg cs) w:=by
 have hl:(loadCells ⟨b,off,none⟩ cs.toList.length).run P w=.ok cs.toList.toArray w:=
  a0F (P:=P) w ⟨b,off,none⟩ cs.toList (λj v q=>by
   rw[addr_add]
   have I:j<cs.size:=by
    have :=(H6.1 q).1;simpa using this
   rw[L j I];simp only[YK]at q;simp[Array.getD,I]at q ⊢
   exact q)
 simp only[Vf,jW]at hl;simp only[loadVar,GL,hA,J,GY,Jy,hl,Hg]
end
def aJV (w:BU)(cs:Bh BJ)(t:Bq):∀k,(w.alloc (.cells cs t)).cell? ⟨w.heap.size,k,none⟩=cs[k]? :=λk=>cell_of_row _ _ k cs t (0,0) (WH w _)
inductive D where
 |lit (v:Value)
 |agg (cs:List D)
 |sl (es:List D)
 |ref (cs:List D) (off:Nat)
 |fn (f:Fn) (first cap:List D)
 |TW (t:TypeId) (x:D)
def D.cells:D->AA D
 | .agg cs=>cs
 |x=>[x]
def D.leaf:D->Ac
 | .lit v=>v.oneCell'
 | .agg _=>false
 |_=>true
abbrev EN :D:=.lit undef
abbrev cellAt (w:BU)(b o:Nat):BJ:=(w.cell? ⟨b,o,none⟩).getD undef
inductive ET (ok:Nat->Prop) (w:World):D->Value->Prop
 |lit (v:Value):ET ok w (.lit v) v
 |agg (cs:List D) (vs:Array Value) (hl:vs.size=cs.length) (hf:∀i,i<cs.length->(cs.getD i EN).leaf=true)
  (h:∀i,i<cs.length->ET ok w (cs.getD i EN) (vs.getD i undef)):ET ok w (.agg cs) (.agg vs)
 |sl0 (ad:Option Addr) (cap:Nat):ET ok w (.sl []) (.slice ad 0 cap)
 |sl (es:List D) (b off cap size:Nat) (hcap:es.length<=cap) (hok:0<es.length->0<size->ok b) (hs:∀i,i<es.length->(es.getD i EN).cells.length=size)
  (hf:∀i,i<es.length->∀j,j<size->((es.getD i EN).cells.getD j EN).leaf=true)
  (hx:∀i,i<es.length->∀j,j<size->(w.cell? ⟨b,off+(i*size+j),none⟩).isSome=true)
  (hc:∀i,i<es.length->∀j,j<size->ET ok w ((es.getD i EN).cells.getD j EN) (cellAt w b (off+(i*size+j)))):
  ET ok w (.sl es) (.slice (some ⟨b,off,none⟩) es.length cap)
 |ref (cs:List D) (off b o:Nat) (hok:0<cs.length->ok b) (hf:∀i,i<cs.length->(cs.getD i EN).leaf=true)
  (hx:∀j,j<cs.length->(w.cell? ⟨b,o+j,none⟩).isSome=true)
  (hc:∀j,j<cs.length->ET ok w (cs.getD j EN) (cellAt w b (o+j))):ET ok w (.ref cs off) (.pointer (some ⟨b,o+off,none⟩))
 |fn (f:Fn) (first cap:List D) (vs us:Array Value) (hl:vs.size=first.length) (hm:us.size=cap.length)
  (h:∀i,i<first.length->ET ok w (first.getD i EN) (vs.getD i undef)) (h':∀i,i<cap.length->ET ok w (cap.getD i EN) (us.getD i undef)):
  ET ok w (.fn f first cap) (.func f vs us)
 |TW (t:TypeId) (x:D) (v:Value) (h:ET ok w x v):ET ok w (.TW t x) (.iface t v)
def FH (ok:Nat->Prop)(w:BU)(ok':Nat->Prop)(w':BU):Prop:=∀b,ok b->ok' b/\w'.heap[b]? =w.heap[b]?
def FH.refl (ok:Nat->Prop)(w:BU):FH ok w ok w:=λ_ h=>⟨h,rfl⟩
def FH.trans {ok j q:Nat->Prop}{w J L:BU}(h:FH ok w j J)(k:FH j J q L):FH ok w q L:=
 λb I=>⟨(k b (h b I).1).1,((k b (h b I).1).2).trans (h b I).2⟩
def FH.cell {ok ok':Nat->Prop}{w w':BU}(h:FH ok w ok' w'){b o:Nat}(j:ok b):w'.cell? ⟨b,o,none⟩=w.cell? ⟨b,o,none⟩:=
 World.cell?_of_block (w:=w) (a:=⟨b,o,none⟩) (h b j).2
variable {ok ok':Nat->Prop}{v:BJ}{w':BU}
def ET.mono (L:FH ok w ok' w'){x:D}(h:ET ok w x v):ET ok' w' x v:=by
 induction h with
 |lit v=>exact .lit v
 |agg cs vs hl M _ J=>exact .agg cs vs hl M J
 |sl0 ad cap=>exact .sl0 ad cap
 |sl es b off cap size O q hs M U _ J=>
  have h1:∀i j,i<es.length->j<size->ok b:=λi j hi I=>q AL AL;refine .sl es b off cap size O (λh2 h3=>(L b (q h2 h3)).1) hs M (λi hi j I=>?_) (λi hi j I=>?_)
  ·rw[L.cell (h1 i j hi I)];exact U i hi j I
  unfold cellAt;rw[L.cell (h1 i j hi I)];exact J i hi j I
 |ref cs off b o q M U _ J=>
  refine .ref cs off b o (λh2=>(L b (q h2)).1) M (λj I=>?_) (λj I=>?_)
  ·rw[L.cell (q AL)];exact U j I
  unfold cellAt;rw[L.cell (q AL)];exact J j I
 |fn f first cap vs us hl hm _ _ J Y=>exact .fn f first cap vs us hl hm J Y
 |TW t x v _ J=>exact .TW t x v J
def ET.shrink (hs:∀b o,ok b->(w.cell? ⟨b,o,none⟩).isSome=true->ok' b){x:D}(h:ET ok w x v):ET ok' w x v:=by
 induction h with
 |lit v=>exact .lit v
 |agg cs vs hl I _ j=>exact .agg cs vs hl I j
 |sl0 ad cap=>exact .sl0 ad cap
 |sl es b off cap size J q M I L _ j=>exact .sl es b off cap size J (λh2 h3=>hs b _ (q h2 h3) (L 0 h2 0 h3)) M I L j
 |ref cs off b o q I L _ j=>exact .ref cs off b o (λh2=>hs b _ (q h2) (L 0 h2)) I L j
 |fn f first cap vs us hl hm _ _ j O=>exact .fn f first cap vs us hl hm j O
 |TW t x v _ j=>exact .TW t x v j
def ET.leaf {ok:Nat->Prop}{w:BU}{x:D}{v:BJ}(h:ET ok w x v)(hl:x.leaf=true):v.oneCell'=true:=by
 cases h<;>first|rfl|exact hl|(simp[D.leaf]at hl)
inductive Am where
 |d (x:D)
 |ptr (k off:Nat)
 |aQ (k:Nat)
 |lH (k i off:Nat)
 |fn (f:Fn) (first cap:List Am)
 |mp (k:Nat)
 |clip (xs:List D)
 |yh (k:Nat)
 |eu (vs:List Am)
 |ag (vs:List Am)
 |junk
def Am.leaf:Am->Ac
 | .d x=>x.leaf
 | .eu _| .ag _| .junk=>false
 |_=>true
def Am.cells:Am->AA Am
 | .d x=>x.cells.map .d
 | .ag xs=>xs
 |x=>[x]
inductive Bc where
 |dead
 |box (cs:List Am)
 |arr (e:TypeId) (size:Nat) (es:List D)
 |map (es:List (Value×D))
 |fK (es:List (Value×D))
 |iter (es:List (Value×D)) (vis:List Nat)
 |loop (tm:Array Value) (slots:List Am) (rc:Array Tmp×Code×Code) (st:LoopState) (pe:Option Code)
def Bc.live:Bc->Ac
 | .dead=>false
 |_=>true
structure CB where
 v:Value
 size:Nat:=0
inductive R (ok:Nat->Prop) (w:World) (H:List CB):Am->Value->Prop
 |d (x:D) (v:Value) (h:ET ok w x v):R ok w H (.d x) v
 |ptr (k off b s:Nat) (h:H[k]? =some ⟨.pointer (some ⟨b,0,none⟩),s⟩):R ok w H (.ptr k off) (.pointer (some ⟨b,off,none⟩))
 |aQ (k:Nat) (ad:Option Addr) (n cap s:Nat) (h:H[k]? =some ⟨.slice ad n cap,s⟩):R ok w H (.aQ k) (.slice ad n cap)
 |lH (k i off b n cap s:Nat) (h:H[k]? =some ⟨.slice (some ⟨b,0,none⟩) n cap,s⟩):R ok w H (.lH k i off) (.pointer (some ⟨b,i*s+off,none⟩))
 |fn (f:Fn) (first cap:List Am) (vs us:Array Value) (hl:vs.size=first.length) (hm:us.size=cap.length) (h:∀i,i<first.length->R ok w H (first.getD i .junk) (vs.getD i undef))
  (h':∀i,i<cap.length->R ok w H (cap.getD i .junk) (us.getD i undef)):R ok w H (.fn f first cap) (.func f vs us)
 |mp (k:Nat) (v:Value) (s:Nat) (hl:v.oneCell'=true) (h:H[k]? =some ⟨v,s⟩):R ok w H (.mp k) v
 |clip (xs:List D) (ad:Option Addr) (h:ET ok w (.sl xs) (.slice ad xs.length xs.length)):R ok w H (.clip xs) (.slice ad xs.length xs.length)
 |yh (k:Nat) (ad:Option Addr) (n cap s:Nat) (h:H[k]? =some ⟨.slice ad n cap,s⟩):R ok w H (.yh k) (.slice ad n n)
 |eu (xs:List Am) (vs:Array Value) (hl:vs.size=xs.length) (h:∀i,i<xs.length->R ok w H (xs.getD i .junk) (vs.getD i undef)):R ok w H (.eu xs) (.tuple vs)
 |ag (xs:List Am) (vs:Array Value) (hl:vs.size=xs.length) (hf:∀i,i<xs.length->(xs.getD i .junk).leaf=true) (h:∀i,i<xs.length->R ok w H (xs.getD i .junk) (vs.getD i undef)):R ok w H (.ag xs) (.agg vs)
 |junk (v:Value):R ok w H .junk v
def Names (H H':AA CB):Prop:=∀(k:Nat) (v:CB),H[k]? =some v->H'[k]? =some v
def Names.refl (H:AA CB):Names H H:=λ_ _ h=>h
def dU:=@Names.refl
variable {H H2:AA CB}
def Names.trans {H1:AA CB}(h:Names H H1)(k:Names H1 H2):Names H H2:=λi v j=>k i v (h i v j)
def Names.push (H H':AA CB):Names H (H++H'):=λk v h=>by
 grind
def IE:=@Names.push
def R.mono {ok ok':Nat->Prop}{w w':BU}{H H':AA CB}(J:FH ok w ok' w')(j:Names H H'){x:Am}{v:BJ}(h:R ok w H x v):R ok' w' H' x v:=by
 induction h with
 |d x v h=>exact .d x v (h.mono J)
 |ptr k off b s h=>exact .ptr k off b s (j _ _ h)
 |aQ k ad n cap s h=>exact .aQ k ad n cap s (j _ _ h)
 |lH k i off b n cap s h=>exact .lH k i off b n cap s (j _ _ h)
 |fn f first cap vs us hl hm _ _ q I=>exact .fn f first cap vs us hl hm q I
 |mp k v s hl h=>exact .mp k v s hl (j _ _ h)
 |clip xs ad h=>exact .clip xs ad (h.mono J)
 |yh k ad n cap s h=>exact .yh k ad n cap s (j _ _ h)
 |eu xs vs hl _ q=>exact .eu xs vs hl q
 |ag xs vs hl L _ q=>exact .ag xs vs hl L q
 |junk v=>exact .junk v
def R.shrink {ok ok':Nat->Prop}{w:BU}(hs:∀b o,ok b->(w.cell? ⟨b,o,none⟩).isSome=true->ok' b){H:AA CB}{x:Am}{v:BJ}(h:R ok w H x v):R ok' w H x v:=by
 induction h with
 |d x v h=>exact .d x v (h.shrink hs)
 |ptr k off b s h=>exact .ptr k off b s h
 |aQ k ad n cap s h=>exact .aQ k ad n cap s h
 |lH k i off b n cap s h=>exact .lH k i off b n cap s h
 |fn f first cap vs us hl hm _ _ j q=>exact .fn f first cap vs us hl hm j q
 |mp k v s hl h=>exact .mp k v s hl h
 |clip xs ad h=>exact .clip xs ad (h.shrink hs)
 |yh k ad n cap s h=>exact .yh k ad n cap s h
 |eu xs vs hl _ j=>exact .eu xs vs hl j
 |ag xs vs hl I _ j=>exact .ag xs vs hl I j
 |junk v=>exact .junk v
def R.leaf {ok:Nat->Prop}{w:BU}{H:AA CB}{x:Am}{v:BJ}(h:R ok w H x v)(hl:x.leaf=true):v.oneCell'=true:=by
 cases h with
 |d x v h=>exact h.leaf hl
 |eu=>simp[Am.leaf]at hl
 |ag=>simp[Am.leaf]at hl
 |junk=>simp[Am.leaf]at hl
 |mp k v s hl h=>exact hl
 |_=>rfl
def Fq (ok:Nat->Prop)(w:BU)(H:AA CB)(xs:AA Am)(vs:AA BJ):Prop:=
 vs.length=xs.length/\∀i,i<xs.length->(xs.getD i .junk).leaf=true/\R ok w H (xs.getD i .junk) (vs.getD i undef)
def Fq.mono {ok ok':Nat->Prop}{w w':BU}{H H':AA CB}(j:FH ok w ok' w')(q:Names H H'){xs:AA Am}{vs:AA BJ}(h:Fq ok w H xs vs):Fq ok' w' H' xs vs:=
 ⟨h.1,λi hi=>⟨(h.2 i hi).1,(h.2 i hi).2.mono j q⟩⟩
def Fq.shrink {ok ok':Nat->Prop}{w:BU}(hs:∀b o,ok b->(w.cell? ⟨b,o,none⟩).isSome=true->ok' b){H:AA CB}{xs:AA Am}{vs:AA BJ}(h:Fq ok w H xs vs):Fq ok' w H xs vs:=
 ⟨h.1,λi hi=>⟨(h.2 i hi).1,(h.2 i hi).2.shrink hs⟩⟩
def flat (es:AA D):AA Am:=es.flatMap λx=>x.cells.map .d
def lF (w:BU)(e:Bq)(size:Nat)(v:BJ)(n:Nat)(xs:AA BJ):Prop:=
 xs.length=n*size/\
 ((v=.slice none 0 0/\n=0)\/
  ∃g cap j,v=.slice (some ⟨g,0,none⟩) n cap/\0<=g/\w.heap[g]? =some (.cells j e (0,0))/\n<=cap/\cap<=maxLen/\cap*size<=j.size/\j.toList.take (n*size)=xs)
variable {base n size:Nat}{e:Bq}{xs:AA BJ}
def lF.of (h:w.ownsRow base e size v n xs):lF w e size v n xs:=by
 refine⟨h.1,?_⟩;rcases h.2 with h2|⟨g,cap,j,h2,h3,q,I,J,L,M⟩
 ·exact .inl h2
 grind
def lF.cells (h:lF w e size v n xs){g:Nat}(I:v.ownBlock=some g):∀j u,xs[j]? =some u->w.cell? ((⟨g,0,none⟩:Addr).add j)=some u:=by
 intro j u U;rcases h.2 with⟨rfl,_⟩|⟨J,cap,L,rfl,_,M,_,_,_,O⟩
 ·simp[Value.ownBlock]at I
 simp[Value.ownBlock]at I;subst I;have q:(⟨J,0,none⟩:Addr).add j=⟨J,j,none⟩:=by unfold Addr.add;split<;>simp_all
 rw[q,cell_of_row w J j L e (0,0) M]
 grind
structure KR (ok:Nat->Prop) (w:World) (es:List (Value×D)) (ms:Array MapEntry) (clock:Nat):Prop where
 len:ms.size=es.length
 ent:∀(i:Nat) (e:Value×D) (m:MapEntry),es[i]? =some e->ms[i]? =some m->m.key=e.1/\ET ok w e.2 m.val/\m.born<clock
 inc:∀(i j:Nat) (m n:MapEntry),i<j->ms[i]? =some m->ms[j]? =some n->m.born<n.born
def U3 (ms:Bh MapEntry)(clock:Nat):Prop:=clock=ms.size/\∀(i:Nat) (e:MapEntry),ms[i]? =some e->e.born=i
def Fh (ok:Nat->Prop)(w:BU)(H:AA CB)(h:CB):Bc->Prop
 | .dead=>True
 | .box cs=>∃b vs T,h.v=.pointer (some ⟨b,0,none⟩)/\w.heap[b]? =some (.cells vs T (0,0))/\Fq ok w H cs vs.toList
 | .arr e size es=>h.size=size/\(∀x∈es,x.cells.length=size)/\∃xs,lF w e size h.v es.length xs/\Fq ok w H (flat es) xs
 | .map es=>∃b ms clock,h.v=.map (some b)/\w.heap[b]? =some (.map ms clock)/\KR ok w es ms clock
 | .fK es=>∃b ms clock,h.v=.map (some b)/\w.heap[b]? =some (.map ms clock)/\KR ok w es ms clock/\U3 ms clock
 | .iter es vis=>∃bi q ms clock seen,h.v=.pointer (some ⟨bi,0,none⟩)/\w.heap[bi]? =some (.mapIter (some q) clock seen clock)/\ok q/\w.heap[q]? =some (.map ms clock)/\KR ok w es ms clock/\
  seen.size=vis.length/\∀(j i:Nat),vis[j]? =some i->∃e,ms[i]? =some e/\seen[j]? =some e.born
 | .loop tm slots rc st I=>∃l fn D,h.v=.func (.yield l) #[] #[]/\w.heap[l]? =some (.loop { state:=st,pending:=I,fn,tmps:=tm,params:=rc.1,assign:=rc.2.1,body:=rc.2.2,defers:=D })/\tm.size=slots.length/\∀t,t<slots.length->R ok w H (slots.getD t .junk) (tm.getD t undef)
def ED :BJ->AB Nat
 | .pointer (some a)=>some a.block
 | .slice (some a) _ _=>some a.block
 | .map (some b)=>some b
 | .func (.yield l) _ _=>some l
 |_=>none
structure zk (w0:World) (X:List Nat) (w:World):Prop where
 os:w.os=w0.os
 tape:w.tape=w0.tape
 output:w.output=w0.output
 size:w0.heap.size<=w.heap.size
 block:∀k,k<w0.heap.size->k∉X->w.heap[k]? =w0.heap[k]?
def zk.refl (w:BU)(X:AA Nat):zk w X w:=⟨rfl,rfl,rfl,Eo _,λ_ _ _=>rfl⟩
def zk.below {w0:BU}(h:zk w0 [] w):Below w0.heap.size w0 w:=⟨h.os,h.tape,h.output,h.size,λk j=>h.block k j Bf⟩
structure FI where
 w0:World
 ok0:Nat->Prop
 X:List Nat
 H0:List CB
structure E8 (C:FI) (ok:Nat->Prop) (H:List CB) (es:List Bc) (w:World):Prop where
 fr:zk C.w0 C.X w
 AX:∀b,C.ok0 b->ok b
 AY:∀b,ok b->C.ok0 b\/C.w0.heap.size<=b\/b∈C.X
 kX:∀b,ok b->b<w.heap.size
 names:Names C.H0 H
 hlen:H.length=es.length
 ent:∀(k:Nat) (e:Bc) (h:CB),es[k]? =some e->H[k]? =some h->Fh ok w H h e
 blk:∀(k:Nat) (e:Bc) (h:CB) (b:Nat),es[k]? =some e->e.live=true->H[k]? =some h->ED h.v=some b->¬ok b/\b<w.heap.size/\(C.w0.heap.size<=b\/b∈C.X)
 G8:∀(k k':Nat) (e e':Bc) (h h':CB) (b:Nat),es[k]? =some e->es[k']? =some e'->e.live=true->e'.live=true->H[k]? =some h->H[k']? =some h'->ED h.v=some b->ED h'.v=some b->k=k'
def Fh.mono {ok ok':Nat->Prop}{w w':BU}{H H':AA CB}{h:CB}{e:Bc}(q:FH ok w ok' w')(O:Names H H')(J:e.live=true->∀b,ED h.v=some b->w'.heap[b]? =w.heap[b]?)(L:Fh ok w H h e):Fh ok' w' H' h e:=by
 cases e with
 |dead=>trivial
 |box cs=>
  obtain⟨b,vs,T,h1,h2,h3⟩:=L;exact⟨b,vs,T,h1,aGV,h3.mono q O⟩
 |arr e s es=>
  obtain⟨h1,h2,xs,⟨h3,j⟩,I⟩:=L;refine⟨h1,h2,xs,⟨h3,?_⟩,I.mono q O⟩;rcases j with j|⟨g,cap,U,M,Y,h8,h9⟩
  ·exact .inl j
  exact .inr ⟨g,cap,U,M,Y,by rw[J rfl g (by rw[M];rfl)];exact h8,h9⟩
 |map es=>
  obtain⟨b,ms,clock,h1,h2,h3⟩:=L;exact⟨b,ms,clock,h1,aGV,h3.len,λi e m hi hm=>⟨(h3.ent i e m hi hm).1,(h3.ent i e m hi hm).2.1.mono q,(h3.ent i e m hi hm).2.2⟩,h3.inc⟩
 |fK es=>
  obtain⟨b,ms,clock,h1,h2,h3,j⟩:=L;exact⟨b,ms,clock,h1,aGV,⟨h3.len,λi e m hi hm=>⟨(h3.ent i e m hi hm).1,(h3.ent i e m hi hm).2.1.mono q,(h3.ent i e m hi hm).2.2⟩,h3.inc⟩,j⟩
 |iter es vis=>
  obtain⟨bi,Z,ms,clock,seen,h1,h2,h3,j,I,M,Y⟩:=L;exact⟨bi,Z,ms,clock,seen,h1,by rw[J rfl bi a7i];exact h2,(q Z h3).1,by rw[(q Z h3).2];exact j,⟨I.len,λi e m hi hm=>⟨(I.ent i e m hi hm).1,(I.ent i e m hi hm).2.1.mono q,(I.ent i e m hi hm).2.2⟩,I.inc⟩,M,Y⟩
 |loop tm slots rc st pe=>
  obtain⟨l,fn,D,h1,h2,h3,j⟩:=L;exact⟨l,fn,D,h1,by rw[J rfl l a7i];exact h2,h3,λt ht=>(j t ht).mono q O⟩
def Fh.shrink {ok ok':Nat->Prop}{w:BU}(hs:∀b o,ok b->(w.cell? ⟨b,o,none⟩).isSome=true->ok' b)(J:∀(b:Nat) (ms:Bh MapEntry) (c:Nat),ok b->w.heap[b]? =some (.map ms c)->ok' b){H:AA CB}{h:CB}{e:Bc}(q:Fh ok w H h e):Fh ok' w H h e:=by
 cases e with
 |dead=>trivial
 |box cs=>
  obtain⟨b,vs,T,h1,h2,h3⟩:=q;exact⟨b,vs,T,h1,h2,h3.shrink hs⟩
 |arr e s es=>
  obtain⟨h1,h2,xs,h3,j⟩:=q;exact⟨h1,h2,xs,h3,j.shrink hs⟩
 |map es=>
  obtain⟨b,ms,clock,h1,h2,h3⟩:=q;exact⟨b,ms,clock,h1,h2,h3.len,λi e m hi hm=>⟨(h3.ent i e m hi hm).1,(h3.ent i e m hi hm).2.1.shrink hs,(h3.ent i e m hi hm).2.2⟩,h3.inc⟩
 |fK es=>
  obtain⟨b,ms,clock,h1,h2,h3,I⟩:=q;exact⟨b,ms,clock,h1,h2,⟨h3.len,λi e m hi hm=>⟨(h3.ent i e m hi hm).1,(h3.ent i e m hi hm).2.1.shrink hs,(h3.ent i e m hi hm).2.2⟩,h3.inc⟩,I⟩
 |iter es vis=>
  obtain⟨bi,L,ms,clock,seen,h1,h2,h3,I,j,M,O⟩:=q;exact⟨bi,L,ms,clock,seen,h1,h2,J L ms clock h3 I,I,⟨j.len,λi e m hi hm=>⟨(j.ent i e m hi hm).1,(j.ent i e m hi hm).2.1.shrink hs,(j.ent i e m hi hm).2.2⟩,j.inc⟩,M,O⟩
 |loop tm slots rc st Y=>
  obtain⟨l,fn,D,h1,h2,h3,I⟩:=q;exact⟨l,fn,D,h1,h2,h3,λt U=>(I t U).shrink hs⟩
variable {h:CB}
def Fh.drew {e:Bc}(j:Fh ok w H h e):Fh ok { w with drawn:=n } H h e:=
 Fh.mono (w:=w) (ok:=ok) (λ_ q=>⟨q,rfl⟩) (.refl _) (λ_ _ _=>rfl) j
def CG (P:Ch)(o:Oper)(ns:AA (Bz×Am))(es:AA Bc)(x:Am)(es':AA Bc):Prop:=
 ∀(C:FI) (ok:Nat->Prop) (H:AA CB) (a:Act) (w:BU) (Q:Exit->Act->BU->Prop),
  E8 C ok H es w->(∀n∈ns,R ok w H n.2 (a.eval n.1))->
  o.wp P a w (λa' w'=>∃v ok' H',a'=a.put o.dst v/\FH ok w ok' w'/\Names H H'/\E8 C ok' H' es' w'/\R ok' w' H' x v) Q
variable {es:AA Bc}{ns:AA (Bz×Am)}{x:Am}
def CG.pure (h:∀(ok:Nat->Prop) (H:AA CB) (a:Act) (w:BU),(∀(k:Nat) (e:Bc) (h:CB),es[k]? =some e->H[k]? =some h->Fh ok w H h e)->H.length=es.length->(∀n∈ns,R ok w H n.2 (a.eval n.1))->∃v,(execOp a.eval o).run P w=.ok (.value v) w/\R ok w H x v):CG P o ns es x es:=by
 intro C ok H a w Q hm j;obtain⟨v,q,I⟩:=h ok H a w hm.ent hm.hlen j;unfold Oper.wp;rw[q];exact⟨v,ok,H,rfl,.refl _ _,.refl _,hm,I⟩
structure BP where
 slots:List Am
 ents:List Bc
 base:Nat:=0
def BP.get (σ:BP):Bz->Am
 | .tmp t=>σ.slots.getD t .junk
 | .const v=>.d (.lit v)
 | .global g=>.d (.lit (.pointer (some ⟨g,0,none⟩)))
 | .func f=>.d (.fn (.func f) [] [])
def BP.put (σ:BP)(d:AB Tmp)(x:Am)(es:AA Bc):BP:=
 ⟨match d with |some t=>σ.slots.set t x|none=>σ.slots,es,σ.base⟩
def BP.vY (σ:BP)(d:AB Tmp)(x:Am):BP:=
 ⟨match d with |some t=>σ.slots.set t x|none=>σ.slots,σ.ents,σ.base⟩
def BP.auI (σ:BP)(d:AB Tmp)(x:Am):σ.vY d x=σ.put d x σ.ents:=rfl
def Marks (C:FI)(ok:Nat->Prop)(w:BU)(j:AA Deferred):Prop:=
 ∃Ds:AA Nat,j=Ds.map (λD=>{ target:=.collected D,args:= #[] })/\Ds.Nodup/\∀D∈Ds,ok D/\C.w0.heap.size<=D/\w.heap[D]? =some (.deferred (some []))
def Marks.nil (C:FI)(ok:Nat->Prop)(w:BU):Marks C ok w []:=⟨[],rfl,iZ,λ_ h=>GN⟩
variable {C:FI}
def Marks.mono {q:AA Deferred}(h:Marks C ok w q)(I:FH ok w ok' w'):Marks C ok' w' q:=by
 obtain⟨Ds,h1,h2,h3⟩:=h;exact⟨Ds,h1,h2,λD j=>⟨(I D (h3 D j).1).1,(h3 D j).2.1,((I D (h3 D j).1).2).trans (h3 D j).2.2⟩⟩
structure Holds (C:FI) (ok:Nat->Prop) (H:List CB) (σ:BP) (a:Act) (w:World):Prop where
 mem:E8 C ok H σ.ents w
 size:a.tmps.size=σ.slots.length
 defers:Marks C ok w a.defers
 base:C.H0.length=σ.base
 slot:∀t,t<σ.slots.length->R ok w H (σ.slots.getD t .junk) (a.tmps.getD t undef)
def aLS {l:AA Am}{t:Nat}(h:¬t<l.length):l.getD t .junk=.junk:=by
 simp[List.getD,Lu (Yo h)]
variable {σ:BP}
def Holds.get (h:Holds C ok H σ a w)(x:Bz):R ok w H (σ.get x) (a.eval x):=by
 cases x with
 |tmp t=>
  show R ok w H (σ.slots.getD t .junk) (a.tmps.getD t undef);by_cases j:t<σ.slots.length
  ·exact h.slot t j
  rw[aLS j];exact .junk _
 |const v=>exact .d _ _ (.lit v)
 |global g=>exact .d _ _ (.lit _)
 |func f=>exact .d _ _ (.fn (.func f) [] [] #[] #[] rfl rfl (λi hi=>Sj) (λi hi=>Sj))
def Holds.put {C:FI}{ok ok':Nat->Prop}{H H':AA CB}{σ:BP}{a:Act}{w w':BU}(h:Holds C ok H σ a w)(d:AB Tmp){x:Am}{v:BJ}{es':AA Bc}(q:FH ok w ok' w')(L:Names H H')(hm:E8 C ok' H' es' w')(M:R ok' w' H' x v):Holds C ok' H' (σ.put d x es') (a.put d v) w':=by
 cases d with
 |none=>exact⟨hm,h.size,h.defers.mono q,h.base,λt j=>(h.slot t j).mono q L⟩
 |some d=>
  refine⟨hm,by simp[BP.put,Act.put,h.size],h.defers.mono q,h.base,λt j=>?_⟩;simp only[BP.put,YH]at j;simp only[BP.put,Act.put];by_cases e:d=t
  ·subst e;have I:(σ.slots.set d x).getD d .junk=x:=wZ
   have J:(a.tmps.setIfInBounds d v).getD d undef=v:=by simp[Array.getD,h.size,j]
   rw[I,J];exact M
  have I:(σ.slots.set d x).getD t .junk=σ.slots.getD t .junk:=aKN
  have J:(a.tmps.setIfInBounds d v).getD t undef=a.tmps.getD t undef:=by simp[Jm,WO e]
  rw[I,J];exact(h.slot t j).mono q L
def Am.vU (π:AA (Nat×Ac)):Am->Am
 | .d x=>.d x
 | .ptr k off=>match π.idxOf? (k,true)with |some j=>.ptr j off|none=>.junk
 | .aQ k=>match π.idxOf? (k,true)with |some j=>.aQ j|none=>.junk
 | .lH k i off=>match π.idxOf? (k,true)with |some j=>.lH j i off|none=>.junk
 | .mp k=>match π.idxOf? (k,true)with |some j=>.mp j|none=>.junk
 | .yh k=>match π.idxOf? (k,true)with |some j=>.yh j|none=>.junk
 | .clip xs=>.clip xs
 |_=>.junk
def Am.back (π:AA (Nat×Ac)):Am->Am
 | .fn f first cap=>.fn f (first.map (Am.vU π)) (cap.map (Am.vU π))
 | .eu vs=>.eu (vs.map (Am.vU π))
 |x=>x.vU π
def Bc.back (π:AA (Nat×Ac)):Bc->Bc
 | .dead=>.dead
 | .box cs=>.box (cs.map (Am.vU π))
 | .arr e s es=>.arr e s es
 | .map es=>.map es
 | .fK es=>.fK es
 | .iter es vis=>.iter es vis
 | .loop tm slots rc st j=>.loop tm (slots.map (Am.back π)) rc st j
variable {j k:Nat}{π:AA (Nat×Ac)}
def zs (q:π.idxOf? (k,true)=some j)(I:H[k]? =some h):(π.map λp=>H.getD p.1 ⟨undef,0⟩)[j]? =some h:=by
 rw[List.idxOf?,aMW]at q
 grind
def R.vU {ok:Nat->Prop}{w:BU}{H:AA CB}(π:AA (Nat×Ac)){x:Am}{v:BJ}(h:R ok w H x v):R ok w (π.map λp=>H.getD p.1 ⟨undef,0⟩) (x.vU π) v:=by
 cases h with
 |d x v h=>exact .d x v h
 |ptr k off b s h=>
  simp only[Am.vU];split<;>rename_i j q
  ·exact .ptr _ off b s (zs q h)
  exact .junk _
 |aQ k ad n cap s h=>
  simp only[Am.vU];split<;>rename_i j q
  ·exact .aQ _ ad n cap s (zs q h)
  exact .junk _
 |lH k i off b n cap s h=>
  simp only[Am.vU];split<;>rename_i j q
  ·exact .lH _ i off b n cap s (zs q h)
  exact .junk _
 |mp k v s hl h=>
  simp only[Am.vU];split<;>rename_i j q
  ·exact .mp _ v s hl (zs q h)
  exact .junk _
 |clip xs ad h=>exact .clip xs ad h
 |yh k ad n cap s h=>
  simp only[Am.vU];split<;>rename_i j q
  ·exact .yh _ ad n cap s (zs q h)
  exact .junk _
 |fn f first cap vs us hl hm h h'=>exact .junk _
 |eu xs vs hl h=>exact .junk _
 |ag xs vs hl I h=>exact .junk _
 |junk v=>exact .junk _
def TT (f:Am->Am)(l:AA Am)(i:Nat)(h:i<l.length):(l.map f).getD i .junk=f (l.getD i .junk):=by
 simp[List.getD,h]
def R.back (π:AA (Nat×Ac))(h:R ok w H x v):R ok w (π.map λp=>H.getD p.1 ⟨undef,0⟩) (x.back π) v:=by
 cases h with
 |fn f first cap vs us hl hm h h'=>
  exact .fn f _ _ vs us dn (by simp[hm]) (λi hi=>aNf) (λi hi=>by rw[DK]at hi;rw[TT _ _ _ hi];exact(h' i hi).vU π)
 |eu xs vs hl h=>exact .eu _ vs dn (λi hi=>aNf)
 |ag xs vs hl j h=>exact .junk _
 |d x v h=>exact(R.d x v h).vU π
 |ptr k off b s h=>exact(R.ptr k off b s h).vU π
 |aQ k ad n cap s h=>exact(R.aQ k ad n cap s h).vU π
 |lH k i off b n cap s h=>exact(R.lH k i off b n cap s h).vU π
 |mp k v s hl h=>exact(R.mp k v s hl h).vU π
 |clip xs ad h=>exact(R.clip xs ad h).vU π
 |yh k ad n cap s h=>exact(R.yh k ad n cap s h).vU π
 |junk v=>exact .junk _
def Bc.backOk (π:AA (Nat×Ac)):Bc->Ac
 | .box cs=>cs.all λx=>(x.vU π).leaf
 |_=>true
def VZ (base:Nat)(es:AA Bc)(π:AA (Nat×Ac)):Ac:=
 π.all (λp=>p.1<es.length)&&decide ((π.filterMap λp=>if p.2 then some p.1 else none).Nodup)&&((π.take base).map (·.1)==List.range base)&&π.all λp=>(es.getD p.1 .dead).backOk π
def U0 (es:AA Bc)(π:AA (Nat×Ac)):AA Bc:=π.map λp=>if p.2 then(es.getD p.1 .dead).back π else .dead
def aWZ :∀{π:AA (Nat×Ac)},(π.filterMap λp=>if p.2 then some p.1 else none).Nodup->∀(i j k:Nat),π[i]? =some (k,true)->π[j]? =some (k,true)->i=j
 | [],_,i,j,k,h,_=>Il
 |p::π,J,i,j,k,hi,I=>by
  have q:∀(n:Nat),π[n]? =some (k,true)->k∈π.filterMap λp=>if p.2 then some p.1 else none:=λn h=>by
   grind
  have L:(π.filterMap λp=>if p.2 then some p.1 else none).Nodup:=by
   grind
  match i,j with
  |0,0=>
   rfl
  |0,j+1=>
   simp at hi I;subst hi;simp only[Vm,Jy]at J;exact absurd (q j I) (RX.1 J).1
  |i+1,0=>
   simp at hi I;subst I;simp only[Vm,Jy]at J;exact absurd (q i hi) (RX.1 J).1
  |i+1,j+1=>
    rw[aWZ L i j k IQ Q9]
def Fh.back {ok:Nat->Prop}{w:BU}{H:AA CB}{h:CB}{e:Bc}(π:AA (Nat×Ac))(L:e.backOk π=true)(j:Fh ok w H h e):Fh ok w (π.map λp=>H.getD p.1 ⟨undef,0⟩) h (e.back π):=by
 cases e with
 |dead=>trivial
 |box cs=>
  obtain⟨b,vs,T,h1,h2,h3,q⟩:=j;refine⟨b,vs,T,h1,h2,Wy,λi hi=>?_⟩;rw[DK]at hi;rw[TT _ _ _ hi];refine⟨?_,(q i hi).2.vU π⟩;simp only[Bc.backOk,GK]at L;exact L _ OQ
 |arr e s es=>
  obtain⟨h1,h2,xs,h3,q,M⟩:=j;refine⟨h1,h2,xs,h3,q,λi hi=>⟨(M i hi).1,?_⟩⟩;have I:=(M i hi).2;have hm:(flat es).getD i .junk∈flat es:=OQ
  unfold flat at hm ⊢;simp only[XQ,GH]at hm;obtain⟨x,_,y,_,O⟩:=hm;unfold flat at I;rw[←O]at I ⊢;cases I with |d _ _ h=>exact .d _ _ h
 |map es=>exact j
 |fK es=>exact j
 |iter es vis=>exact j
 |loop tm slots rc st U=>
  obtain⟨l,fn,D,h1,h2,h3,q⟩:=j;refine⟨l,fn,D,h1,h2,Wy,λt J=>?_⟩;rw[DK]at J;rw[TT _ _ _ J];exact(q t J).back π
def aWr {e:Bc}:(e.back π).live=e.live:=by cases e<;>rfl
def E8.norm (hm:E8 C ok H es w)(π:AA (Nat×Ac))(Z:VZ C.H0.length es π=true):
 E8 C ok (π.map λp=>H.getD p.1 ⟨undef,0⟩) (U0 es π) w:=by
 unfold VZ at Z;simp only[Dx,Ik,OC,GK]at Z;obtain⟨⟨⟨hlt,hnd⟩,hpre⟩,hbk⟩:=Z
 have I:∀(j:Nat) (h:CB),(π.map λp=>H.getD p.1 ⟨undef,0⟩)[j]? =some h->∃p,π[j]? =some p/\p.1<es.length/\H[p.1]? =some h:=by
  intro j h q;rw[KJ]at q;cases hp:π[j]? with
  |none=>rw[hp]at q;simp at q
  |some p=>
   rw[hp]at q;have J:p.1<es.length:=hlt p (aU hp);refine⟨p,rfl,J,?_⟩;have hkH:p.1<H.length:=by rw[hm.hlen];exact J
   simp[List.getD,hkH]at q ⊢;exact q
 have L:∀(j:Nat) (p:Nat×Ac) (e:Bc),(U0 es π)[j]? =some e->π[j]? =some p->p.1<es.length->(p.2=false/\e=.dead)\/(p.2=true/\∃U,es[p.1]? =some U/\e=U.back π/\p∈π):=by
  intro j p e q hp J;unfold U0 at q;rw[KJ,hp]at q;cases hb:p.2 with
  |false=>simp[hb]at q;exact .inl ⟨rfl,q.symm⟩
  |true=>
   simp[hb,List.getD,J]at q;exact .inr ⟨rfl,es[p.1],by simp[J],q.symm,aU hp⟩
 refine⟨hm.fr,hm.AX,hm.AY,hm.kX,?_,by simp[U0],?_,?_,?_⟩
 ·intro k v hv;have J:k<C.H0.length:=(H6.1 hv).1;have h1:((π.take C.H0.length).map (·.1))[k]? =some k:=by rw[hpre];simp[J]
  rw[KJ,Qr J]at h1;have h2:=hm.names k v hv;cases hp:π[k]? with
  |none=>rw[hp]at h1;simp at h1
  |some p=>
   rw[hp]at h1;have hpk:p.1=k:=Y4
   rw[KJ,hp];simp[List.getD,hpk,h2]
 ·intro j e h q hh;obtain⟨p,hp,J,hH⟩:=I j h hh;rcases L j p e q hp J with⟨_,rfl⟩|⟨_,U,M,rfl,O⟩
  ·trivial
  refine(hm.ent p.1 U h M hH).back π ?_;have :=hbk p O;simpa[List.getD,M]using this
 ·intro j e h b q hl hh hb;obtain⟨p,hp,J,hH⟩:=I j h hh;rcases L j p e q hp J with⟨_,rfl⟩|⟨_,U,M,rfl,O⟩
  ·cases hl
  rw[aWr]at hl;exact hm.blk p.1 U h b M hl hH hb
 intro j j' e e' h h' b q hj' hl hl' hh hh' hb hb';obtain⟨p,hp,J,hH⟩:=I j h hh;obtain⟨p',hp',hk',hH'⟩:=I j' h' hh';rcases L j p e q hp J with⟨_,rfl⟩|⟨hpt,U,M,rfl,O⟩
 ·cases hl
 rcases L j' p' e' hj' hp' hk' with⟨_,rfl⟩|⟨Y,e0',aO3,rfl,hmem'⟩
 ·cases hl'
 rw[aWr]at hl hl';have hkk:=hm.G8 p.1 p'.1 U e0' h h' b M aO3 hl hl' hH hH' hb hb';obtain⟨k,bb⟩:=p;obtain⟨k',bb'⟩:=p';simp only at hkk hpt Y;subst hkk;subst hpt;subst Y;exact aWZ hnd j j' k hp hp'
def NI (π:AA (Nat×Ac)):AA Ac->AA Am->AA Am
 |_,[]=>[]
 |true::m,x::xs=>x.back π::NI π m xs
 |false::m,_::xs=>.junk::NI π m xs
 | [],_::xs=>.junk::NI π [] xs
def a5F (π:AA (Nat×Ac)):∀(m:AA Ac) (l:AA Am),(NI π m l).length=l.length
 |_,[]=>by unfold NI;rfl
 |true::m,x::xs=>by simp[NI,a5F π m xs]
 |false::m,x::xs=>by simp[NI,a5F π m xs]
 | [],x::xs=>by simp[NI,a5F π [] xs]
def aBV (π:AA (Nat×Ac)):∀(m:AA Ac) (l:AA Am) (t:Nat),(NI π m l).getD t .junk=(l.getD t .junk).back π\/(NI π m l).getD t .junk=.junk
 |_,[],t=>by unfold NI;right;simp
 |true::m,x::xs,0=>by left;simp[NI]
 |false::m,x::xs,0=>by right;simp[NI]
 | [],x::xs,0=>by right;simp[NI]
 |true::m,x::xs,t+1=>by simpa[NI]using aBV π m xs t
 |false::m,x::xs,t+1=>by simpa[NI]using aBV π m xs t
 | [],x::xs,t+1=>by simpa[NI]using aBV π [] xs t
def aAn (σ S:BP):Prop:=∃(m:AA Ac) (π:AA (Nat×Ac)),VZ σ.base σ.ents π=true/\S=⟨NI π m σ.slots,U0 σ.ents π,σ.base⟩
variable {S:BP}
def Holds.aO4 (h:Holds C ok H σ a w)(hs:aAn σ S):∃H',Holds C ok H' S a w:=by
 obtain⟨m,π,j,rfl⟩:=hs;refine⟨π.map λp=>H.getD p.1 ⟨undef,0⟩,h.mem.norm π (h.base▸j),by simp[a5F,h.size],h.defers,h.base,λt q=>?_⟩;rcases aBV π m σ.slots t with e|e
 ·simp only[e];exact(h.get (.tmp t)).back π
 simp only[e];exact .junk _
def Gt (σ S:BP):Prop:=∀(C:FI) (ok:Nat->Prop) (H:AA CB) (a:Act) (w:BU),Holds C ok H σ a w->∃ok' H',Holds C ok' H' S a w
def aAn.sub (h:aAn σ S):Gt σ S:=λ_ ok _ _ _ j=>let⟨H',h'⟩:=j.aO4 h;⟨ok,H',h'⟩
def adE (j:BP)(h:∀C ok H a w,Holds C ok H σ a w->∃ok',Holds C ok' H j a w)(k:Gt j S):Gt σ S:=λC _ H a w q=>let⟨ok',h'⟩:=h C _ H a w q;k C ok' H a w h'
variable {d:AB Tmp}{i:Nat}
def toCome (j:Bh Ac):Nat:=(j.toList.filter (!·)).length
def toCome_set {j:Bh Ac}(hi:i<j.size)(h:j.getD i true=false):toCome (j.setIfInBounds i true)+1=toCome j:=by
 unfold toCome;have hl:j.toList[i]' IQ=false:=by simpa[Array.getD,hi]using h
 have e:j.toList=j.toList.take i++false::j.toList.drop (i+1):=by
  rw[←hl,List.getElem_cons_drop,YC]
 have q:(j.setIfInBounds i true).toList=j.toList.take i++true::j.toList.drop (i+1):=by
  rw[aCD,aEg,Dw IQ]
 rw[q]
 conv=>rhs;rw[e]
 simp[Ql];omega
def written (ops:Bh Oper):AA Tmp:=ops.toList.filterMap (·.dst)
def XH (ops:Bh Oper):Ac:=(List.range ops.size).all λi=>(List.range ops.size).all λj=>i==j||match(ops[i]?).bind (·.dst),(ops[j]?).bind (·.dst)with
 |some d,some q=>d != q
 |_,_=>true
def ZW (ops:Bh Oper)(n:Nat):Ac:=(written ops).all λd=>d<n
def abk (h:XH ops=true):∀(i j:Nat) (o q:Oper) (d:Tmp),ops[i]? =some o->ops[j]? =some q->o.dst=some d->q.dst=some d->i=j:=by
 intro i j o q d h1 h2 h3 I;unfold XH at h;rw[GK]at h;have hi:i<ops.size:=(Ic.1 h1).1;have J:j<ops.size:=(Ic.1 h2).1;have :=h i IQ;rw[GK]at this;have :=this j nO;rw[h1,h2]at this;simp[h3,I]at this;exact this
def aep {d:Tmp}(h:ops[i]? =some o)(hd:o.dst=some d):d∈written ops:=by
 unfold written;rw[iT]
 exact⟨o,by
  have⟨hi,j⟩:=Ic.1 h
  rw[←j];exact Array.getElem_mem_toList hi,hd⟩
def afV {d:Tmp}(h:d<a.tmps.size):(a.put (some d) v).tmps.getD d undef=v:=by
 simp[Act.put,Array.getD,h]
def aeg {d t:Tmp}(h:d≠t):(a.put (some d) v).tmps.getD t undef=a.tmps.getD t undef:=by
 simp[Act.put,Jm,WO h]
def size_put:(a.put d v).tmps.size=a.tmps.size:=by cases d<;>simp[Act.put]
def af7:(a.put d v).defers=a.defers:=by cases d<;>rfl
def Xv (ops:Bh Oper)(σ:BP)(g:AB (Nat×Ac)):Prop:=g=none\/
 ∃j want d b,g=some (j,want)/\(ops[j]?).bind (·.dst)=some d/\σ.slots.getD d .junk=.d (.lit (.bool b))/\b=want
def ZB (ops:Bh Oper)(σ:BP)(g:AB (Nat×Ac)):Prop:=
 ∃j want d v,g=some (j,want)/\(ops[j]?).bind (·.dst)=some d/\σ.slots.getD d .junk=.d (.lit v)/\(v=.bool (!want)\/v=undef)
variable {g:AB (Nat×Ac)}
def ag8 (j:Nat)(want:Ac)(d:Nat)(b:Ac)(q:g=some (j,want))(hd:(ops[j]?).bind (·.dst)=some d)(hs:σ.slots.getD d .junk=.d (.lit (.bool b)))(I:b= !want):ZB ops σ g:=⟨j,want,d,_,q,hd,hs,.inl (by rw[I])⟩
def anK (j:Nat)(want:Ac)(d:Nat)(q:g=some (j,want))(hd:(ops[j]?).bind (·.dst)=some d)(hs:σ.slots.getD d .junk=.d (.lit undef)):ZB ops σ g:=⟨j,want,d,_,q,hd,hs,.inr rfl⟩
variable {u:BJ}
def R.bool (h:R ok w H (.d (.lit u)) v):v=u:=by
 cases h with |d _ _ h=>cases h;rfl
variable {d:Nat}
def aln (h:Holds C ok H σ a w)(I:(ops[j]?).bind (·.dst)=some d)(J:σ.slots.getD d .junk=.d (.lit v)):yielded ops a.tmps j=(match v with | .bool b=>some b|_=>none):=by
 have hd:d<σ.slots.length:=by
  grind
 have q:=(J▸h.slot d hd).bool
 have hs:a.tmps[d]? =some v:=by
  have :d<a.tmps.size:=by rw[h.size];exact hd
  simp[Array.getD,this]at q;simp[this,q]
 unfold yielded;rw[I];simp only[Af,hs];cases v<;>rfl
def aau (h:Holds C ok H σ a w){b:Ac}(I:(ops[j]?).bind (·.dst)=some d)(J:σ.slots.getD d .junk=.d (.lit (.bool b))):yielded ops a.tmps j=some b:=by
 have hd:d<σ.slots.length:=by
  grind
 have q:=(J▸h.slot d hd).bool
 have hs:a.tmps[d]? =some (.bool b):=by
  have :d<a.tmps.size:=by rw[h.size];exact hd
  simp[Array.getD,this]at q;simp[this,q]
 unfold yielded;rw[I];simp only[Af,hs]
def WZ (h:Holds C ok H σ a w)(q:Xv ops σ o.guard):Region.wanted o (yielded ops a.tmps)=true:=by
 unfold Region.wanted;rcases q with q|⟨j,want,d,b,q,I,J,rfl⟩
 ·rw[q]
 rw[q];show(yielded ops a.tmps j==some b)=true;rw[aau h I J];simp
def aKq (h:Holds C ok H σ a w)(q:ZB ops σ o.guard):Region.wanted o (yielded ops a.tmps)=false:=by
 unfold Region.wanted;obtain⟨j,want,d,v,q,I,J,L⟩:=q;rw[q];show(yielded ops a.tmps j==some want)=false;rw[aln h I J];rcases L with rfl|rfl
 ·simp
 rfl
def needs (σ:BP):AA (Bz×Am)->Prop
 | []=>True
 |n::ns=>σ.get n.1=n.2/\needs σ ns
def Yp {σ:BP}:∀{ns:AA (Bz×Am)},needs σ ns->∀n∈ns,σ.get n.1=n.2
 | [],_,n,h=>Il
 |m::ns,j,n,h=>by
  rcases G7.1 h with rfl|h
  ·exact j.1
  exact Yp j.2 n h
def tmpsOf (o:Oper):AA Tmp:=o.op.operands.toList.filterMap λ| .tmp t=>some t|_=>none
def Ox (ns:AA (Bz×Am)):AA Tmp:=ns.filterMap λn=>match n.1 with | .tmp t=>some t|_=>none
def TA (P:Ch)(ops:Bh Oper)(σ:BP)(x:Am)(E:AA Bc)(bar:Ac)(o:Oper):Prop:=
 ((∃ns,CG P o ns σ.ents x E/\needs σ ns/\(Ox ns).all (tmpsOf o).contains=true/\Xv ops σ o.guard)\/(x=.d (.lit undef)/\E=σ.ents/\ZB ops σ o.guard))/\(bar=false->E=σ.ents)
def aLl (h:CG P o ns σ.ents x σ.ents)(j:needs σ ns)(q:Xv ops σ o.guard)(I:(Ox ns).all (tmpsOf o).contains=true):TA P ops σ x σ.ents false o:=
 ⟨.inl ⟨ns,h,j,I,q⟩,λ_=>rfl⟩
def Js (ro:AB Nat):Fence:={ fn:=λ_=>True,depth:=none,alive:=false,round:=ro }
variable {args:Bh BJ}{ro:AB Nat}
def aAx {f:FuncId}{R:Ending->BU->Prop}:CallsIn (Js ro) n P f args w R↔Calls P f args w R:=
 callsIn_wide (n:=n)
def ad6 {j:String}{R:BJ->BU->Prop}(h:Rows P j args w R):RowsIn (Js ro) n P j args w R:=
 λc cs _=>let⟨v,w',r,s⟩:=h c cs;⟨v,w',r,(stepsIn_wide (P:=P)).2 s⟩
variable {es':AA Bc}
def CG.aKx (h:CG P o ns es x es')(hm:E8 C ok H es w)(I:∀n∈ns,R ok w H n.2 (a.eval n.1)):∀c,o.op≠ .defer c:=by
 intro c J;have j:=h C ok H a w (λ_ _ _=>False) hm I;unfold Oper.wp execOp at j;rw[J]at j;simp only[GL]at j;cases q:(resolve a.eval c o.type).run P w with
 |ok d w'=>
  rw[q]at j;simp only[Result.andThen]at j;obtain⟨v,_,_,L,_⟩:=j;have :=BM (λa=>a.defers.length) L;cases M:o.dst<;>simp[Act.put,M]at this
 |halt x w'=>
  rw[q]at j;cases x<;>exact j
def CG.inR (h:CG P o ns es x es')(ro:AB Nat)(C:FI)(ok:Nat->Prop)(H:AA CB)(a:Act)(w:BU)(Q:Exit->Act->BU->Prop)(hm:E8 C ok H es w)(j:∀n∈ns,R ok w H n.2 (a.eval n.1)):
 o.wpIn (Js ro) 0 P a w (λa' w'=>∃v ok' H',a'=a.put o.dst v/\FH ok w ok' w'/\Names H H'/\E8 C ok' H' es' w'/\R ok' w' H' x v) Q:=by
 have h1:=h C ok H a w Q hm j;refine⟨λ_ _=>trivial,?_⟩;rw[lW _ _ _ (h.aKx hm j)];unfold Oper.wp at h1;generalize(execOp a.eval o).run P w=r at h1;cases r with
 |ok n w'=>
  cases n<;>first
   |exact h1
   |exact h1.elim
   |exact⟨λh=>GN,aAx.2 h1⟩
   |exact⟨λh=>GN,ad6 h1⟩
 |halt x w'=>cases x<;>exact h1
inductive Chain (P:Program) (ops:Array Oper):List Oper->BP->BP->Prop
 |nil (σ:BP):Chain P ops [] σ σ
 |op {o:Oper} {rest:List Oper} {σ σ':BP} {ns:List (Operand×Am)} {x:Am} (d:Option Tmp) (h:CG P o ns σ.ents x σ.ents) (hn:needs σ ns) (hg:Xv ops σ o.guard) (hd:o.dst=d)
  (k:Chain P ops rest (σ.vY d x) σ'):Chain P ops (o::rest) σ σ'
 |oe {o:Oper} {rest:List Oper} {σ σ':BP} {ns:List (Operand×Am)} {x:Am} {es':List Bc} (d:Option Tmp) (E:List Bc) (h:CG P o ns σ.ents x es') (he:es'=E) (hn:needs σ ns) (hg:Xv ops σ o.guard) (hd:o.dst=d)
  (k:Chain P ops rest (σ.put d x E) σ'):Chain P ops (o::rest) σ σ'
 |skip {o:Oper} {rest:List Oper} {σ σ':BP} (d:Option Tmp) (hg:ZB ops σ o.guard) (hd:o.dst=d) (k:Chain P ops rest (σ.vY d (.d (.lit undef))) σ'):Chain P ops (o::rest) σ σ'
 |any {o:Oper} {rest:List Oper} {σ σ':BP} {x:Am} (d:Option Tmp) (h:TA P ops σ x σ.ents false o) (hd:o.dst=d) (k:Chain P ops rest (σ.vY d x) σ'):Chain P ops (o::rest) σ σ'
 |auK {o:Oper} {rest:List Oper} {σ σ':BP} {x:Am} {E:List Bc} {bar:Bool} (d:Option Tmp) (h:TA P ops σ x E bar o) (hd:o.dst=d) (k:Chain P ops rest (σ.put d x E) σ'):Chain P ops (o::rest) σ σ'
 |conv {rest:List Oper} {σ σ':BP} (σ2:BP) (h:∀C ok H a w,Holds C ok H σ a w->∃ok',Holds C ok' H σ2 a w) (k:Chain P ops rest σ2 σ'):Chain P ops rest σ σ'
def Qp :Code->Ac
 | .seq a b=>Qp a&&Qp b
 | .cond _ a b=>Qp a&&Qp b
 | .block _ a=>Qp a
 | .loop a=>Qp a
 | .scope a=>Qp a
 | .rangeFunc .. =>false
 |_=>true
def yO (ro:AB Nat)(c:Code):Prop:=ro=none\/Qp c=true
variable {c x y:Code}
def yO.two (h:yO ro c)(e:Qp c=(Qp x&&Qp y)):yO ro x/\yO ro y:=by
 rcases h with h|h
 ·exact⟨.inl h,.inl h⟩
 rw[e,Dx]at h;exact⟨.inr h.1,.inr h.2⟩
def aff (P:Ch)(c:Code)(σ:BP)(Q:Exit->BP->Prop):Prop:=
 ∀(ro:AB Nat),yO ro c->∀(C:FI) (ok:Nat->Prop) (H:AA CB) (a:Act) (w:BU),Holds C ok H σ a w->c.wpIn (Js ro) 0 P (λe a' w'=>∃ok' H' σ',Holds C ok' H' σ' a' w'/\Q e σ') a w
structure Bl (P:Program) (c:Code) (σ:BP) (Q:Exit->BP->Prop):Prop where
 run:aff P c σ Q
section
variable {P:Ch} {σ σ':BP} {Q:Exit->BP->Prop}
def Bl.mono {Q':Exit->BP->Prop}(h:Bl P c σ Q)(j:∀e σ,Q e σ->Q' e σ):Bl P c σ Q':=
 ⟨λro q C ok H a w I=>X4 (h.run ro q C ok H a w I) λ_ _ _ ⟨ok',H',σ',h1,h2⟩=>⟨ok',H',σ',h1,j _ _ h2⟩⟩
def Bl.skip (h:Q .normal σ):Bl P .skip σ Q:=⟨λ_ _ _ ok H a w j=>wpIn_skip ⟨ok,H,σ,j,h⟩⟩
def FM:=@Bl.skip
def Bl.label {l:Nat}(h:Q .normal σ):Bl P (.label l) σ Q:=⟨λ_ _ _ ok H a w j=>wpIn_label ⟨ok,H,σ,j,h⟩⟩
def Bl.exit {i:Nat}(h:Q (.exit i) σ):Bl P (.exit i) σ Q:=⟨λ_ _ _ ok H a w j=>wpIn_exit ⟨ok,H,σ,j,h⟩⟩
def CW:=@Bl.exit
def Bl.ret (h:Q .ret σ):Bl P .ret σ Q:=⟨λ_ _ _ ok H a w j=>wpIn_ret ⟨ok,H,σ,j,h⟩⟩
def ES:=@Bl.ret
def Jd (K:BP->Prop)(Q:Exit->BP->Prop):Exit->BP->Prop
 | .normal,σ=>K σ
 |e,σ=>Q e σ
def Bl.seq (K:BP->Prop)(q:Bl P x σ (Jd K Q))(I:∀σ',K σ'->Bl P y σ' Q):Bl P (.seq x y) σ Q:=⟨λro j C ok H a w J=>
 wpIn_seq (X4 (q.run ro (j.two rfl).1 C ok H a w J) (by
  rintro e a' w' ⟨ok',H',σ',h1,h2⟩;cases e with
  |normal=>exact(I σ' h2).run ro (j.two rfl).2 C ok' H' a' w' h1
  |_=>exact⟨ok',H',σ',h1,h2⟩))⟩
def Bl.seq1 (j:BP)(q:Bl P x σ (Jd (λσ'=>σ'=j) Q))(I:Bl P y j Q):Bl P (.seq x y) σ Q:=Bl.seq _ q (λ_ e=>e▸I)
def Bl.cond {c:Bz}(b:Ac)(I:σ.get c=.d (.lit (.bool b)))(J:b=true->Bl P x σ Q)(L:b=false->Bl P y σ Q):Bl P (.cond c x y) σ Q:=by
 refine⟨λro q C ok H a w j=>?_⟩;have e:=(I▸j.get c).bool;exact wpIn_cond_split e (λh=>(J h).run ro (q.two rfl).1 C ok H a w j) (λh=>(L h).run ro (q.two rfl).2 C ok H a w j)
def aUx (i:Nat)(Q:Exit->BP->Prop):Exit->BP->Prop
 | .exit j,σ=>if j=i then Q .normal σ else Q (.exit j) σ
 |e,σ=>Q e σ
def Bl.block {i:Nat}{c:Code}(h:Bl P c σ (aUx i Q)):Bl P (.block i c) σ Q:=⟨λro I C ok H a w J=>
 wpIn_block (X4 (h.run ro I C ok H a w J) (by
  rintro e a' w' ⟨ok',H',σ',h1,h2⟩;cases e with
  |exit j=>
   show if j=i then _ else _
   simp only[aUx]at h2;split<;>rename_i q
   ·rw[Dw q]at h2;exact⟨ok',H',σ',h1,h2⟩
   rw[EC q]at h2;exact⟨ok',H',σ',h1,h2⟩
  |_=>exact⟨ok',H',σ',h1,h2⟩))⟩
def Ak:=@Bl.block
def aZl {P:Ch}{Q:Exit->Act->BU->Prop}(I:Nat->Act->BU->Prop)(round:∀n a w,I n a w->c.wpIn (Js ro) 0 P (Exit.then (λa' w'=>∃m,m<n/\I m a' w') Q) a w):∀n a w,I n a w->(Code.loop c).wpIn (Js ro) 0 P Q a w:=by
 intro n a w h₀ b k cs M O U
 have key:∀n a w,I n a w->∃e a' w',Q e a' w'/\ArrivesIn (Machine.fenced P (Js ro)) P (lone (b.atR a (.code c::.inLoop c::k)) cs w) b k cs e a' w':=by
  intro n
  induction n using Nat.strongRecOn with
  |_ n ih=>
   intro a w hI;obtain⟨e,J,L,j,harr⟩:=round n a w hI b (.inLoop c::k) cs M O U;cases e with
   |normal=>
    obtain⟨m,Y,Z⟩:=j;obtain⟨e₂,a₂,w₂,hq₂,q⟩:=ih m Y J L Z;exact⟨e₂,a₂,w₂,hq₂,.of_steps (StepsIn.trans harr (.one (fenced_calm O U rfl) stepR_inLoop)) q⟩
   |exit id=>exact⟨_,J,L,j,.pass (x:=.inLoop c) rfl (λ_ _=>.inl Bf) harr⟩
   |goto l=>exact⟨_,J,L,j,.pass (x:=.inLoop c) rfl (λ_ _=>.inl Bf) harr⟩
   |ret=>exact⟨_,J,L,j,.pass (x:=.inLoop c) rfl (λ_ _=>.inl Bf) harr⟩
   |panic ch=>exact⟨_,J,L,j,.pass (x:=.inLoop c) rfl (λ_ _=>.inl Bf) harr⟩
   |outgrown=>exact⟨_,J,L,j,.pass (x:=.inLoop c) rfl (λ_ _=>.inl Bf) harr⟩
 obtain⟨e,a',w',j,harr⟩:=key n a w h₀;exact⟨e,a',w',j,.of_steps (.one (fenced_calm O U rfl) stepR_loop) harr⟩
def Bl.loop (I:Nat->BP->Prop)(n:Nat)(h:I n σ)(round:∀n σ,I n σ->Bl P c σ (Jd (λσ'=>∃m,m<n/\I m σ') Q)):Bl P (.loop c) σ Q:=by
 refine⟨λro J C ok H a w j=>?_⟩;refine aZl (λn a w=>∃ok H σ,Holds C ok H σ a w/\I n σ) ?_ n a w ⟨ok,H,σ,j,h⟩;rintro n a w ⟨ok,H,σ,j,L⟩;refine X4 ((round n σ L).run ro J C ok H a w j) ?_;rintro e a' w' ⟨ok',H',σ',h1,h2⟩;cases e with
 |normal=>obtain⟨m,hm,q⟩:=h2;exact⟨m,hm,ok',H',σ',h1,q⟩
 |_=>exact⟨ok',H',σ',h1,h2⟩
end
def Bl.sub {P:Ch}{σ S:BP}{Q:Exit->BP->Prop}{c:Code}(hs:Gt σ S)(h:Bl P c S Q):Bl P c σ Q:=⟨λro j C ok H a w q=>by
 obtain⟨ok',H',h'⟩:=hs C ok H a w q
 exact h.run ro j C ok' H' a w h'⟩
def Nu:=@Bl.sub
def aYJ {F:Fence}(I:Bh Ac->Act->BU->Prop)(j:∀l a w,I l a w->l.size=ops.size)(J:∀l a w,I l a w->∀i,i∈Region.ready .any ops l->wpOpIn F n P ops Q i (λa' w'=>I (l.setIfInBounds i true) a' w') a w)(q:∀l a w,I l a w->Region.ready .any ops l=[]->Q .normal a w):
 ∀(Aw:Nat) l a w,toCome l<=Aw->I l a w->wpAnyIn F n P .any ops Q Aw l a w:=by
 intro Aw
 induction Aw with
 |zero=>
  intro l a w Y O
  have Z:Region.ready .any ops l=[]:=by
   unfold Region.ready;rw[sU];intro i hi;have L:i<l.size:=by rw[j l a w O];simpa using hi
   have hz:l.toList.filter (!·)=[]:=I4 (by unfold toCome at Y;omega);rw[sU]at hz;have :=hz (l[i]) Bf;have U:l[i]=true:=aBM
   simp[Array.getD,L,U]
  exact⟨Z,q l a w O Z⟩
 |succ Aw ih=>
  intro l a w Y O;refine⟨q l a w O,λi hi=>?_⟩;have M:=hi;unfold Region.ready at M;rw[He]at M;have L:i<l.size:=by rw[j l a w O];simpa using M.1
  have hf:l.getD i true=false:=by
   grind
  have hs:=toCome_set L hf;exact wpOpIn_mono (λa' w' h=>ih _ a' w' AL h) (J l a w O i hi)
def Jj (o:Oper)(j:Nat):Ac:=o.after.toList.any λe=>e.on=j&&Region.binds .any e
def Xa (ops:Bh Oper):Ac:=(List.range ops.size).all λi=>match ops[i]? with
 |some o=>((List.range ops.size).all λj=>match(ops[j]?).bind (·.dst)with
  |some d=> !(tmpsOf o).contains d||Jj o j||(match ops[j]? with |some q=>Jj q i|none=>false)
  |none=>true)&&(match o.guard with |some (j,_)=>Jj o j|none=>true)
 |none=>true
inductive Fr (P:Program) (ops:Array Oper):List Oper->BP->List Am->List (List Bc)->List Bool->BP->Prop
 |nil (σ:BP):Fr P ops [] σ [] [] [] σ
 |op {o:Oper} {rest:List Oper} {σ σ':BP} {ns:List (Operand×Am)} {x:Am} {rs:List Am} {ess:List (List Bc)} {bs:List Bool} (d:Option Tmp) (h:CG P o ns σ.ents x σ.ents) (hn:needs σ ns)
  (hg:Xv ops σ o.guard) (hd:o.dst=d) (ht:(Ox ns).all (tmpsOf o).contains=true) (k:Fr P ops rest (σ.vY d x) rs ess bs σ'):Fr P ops (o::rest) σ (x::rs) (σ.ents::ess) (false::bs) σ'
 |oe {o:Oper} {rest:List Oper} {σ σ':BP} {ns:List (Operand×Am)} {x:Am} {es':List Bc} {rs:List Am} {ess:List (List Bc)} {bs:List Bool} (d:Option Tmp) (E:List Bc) (h:CG P o ns σ.ents x es') (he:es'=E) (hn:needs σ ns)
  (hg:Xv ops σ o.guard) (hd:o.dst=d) (ht:(Ox ns).all (tmpsOf o).contains=true) (k:Fr P ops rest (σ.put d x E) rs ess bs σ'):Fr P ops (o::rest) σ (x::rs) (E::ess) (true::bs) σ'
 |any {o:Oper} {rest:List Oper} {σ σ':BP} {x:Am} {rs:List Am} {ess:List (List Bc)} {bs:List Bool} (d:Option Tmp) (h:TA P ops σ x σ.ents false o) (hd:o.dst=d) (k:Fr P ops rest (σ.vY d x) rs ess bs σ'):Fr P ops (o::rest) σ (x::rs) (σ.ents::ess) (false::bs) σ'
 |auK {o:Oper} {rest:List Oper} {σ σ':BP} {x:Am} {E:List Bc} {bar:Bool} {rs:List Am} {ess:List (List Bc)} {bs:List Bool} (d:Option Tmp) (h:TA P ops σ x E bar o) (hd:o.dst=d) (k:Fr P ops rest (σ.put d x E) rs ess bs σ'):Fr P ops (o::rest) σ (x::rs) (E::ess) (bar::bs) σ'
 |skip {o:Oper} {rest:List Oper} {σ σ':BP} {rs:List Am} {ess:List (List Bc)} {bs:List Bool} (d:Option Tmp) (hg:ZB ops σ o.guard) (hd:o.dst=d) (k:Fr P ops rest (σ.vY d (.d (.lit undef))) rs ess bs σ'):Fr P ops (o::rest) σ (.d (.lit undef)::rs) (σ.ents::ess) (false::bs) σ'
variable {bs:AA Ac}{ess:AA (AA Bc)}{l:AA Oper}{rs:AA Am}{sl:AA Nat}{σ':BP}
section
variable {P:Ch} {ops:Bh Oper} {es:AA Bc}
def Gw (ops:Bh Oper)(σ0:BP)(r:Nat->Am)(ev:Nat->AA Bc):Nat->BP
 |0=>σ0
 |i+1=>match ops[i]? with
  |some o=>(Gw ops σ0 r ev i).put o.dst (r i) (ev i)
  |none=>Gw ops σ0 r ev i
def Fr.aMd (N:Nat)(h:Fr P ops l σ rs ess bs σ')(σ0:BP)(r:Nat->Am)(ev:Nat->AA Bc)(bar:Nat->Ac):∀i,(∀k:Nat,k<l.length->l[k]? =ops[i+k]?)->i+l.length=N->σ=Gw ops σ0 r ev i->
 (∀(k:Nat) y,rs[k]? =some y->r (i+k)=y)->(∀(k:Nat) y,ess[k]? =some y->ev (i+k)=y)->(∀(k:Nat) y,bs[k]? =some y->bar (i+k)=y)->
 (∀j (o:Oper),i<=j->j<N->ops[j]? =some o->TA P ops (Gw ops σ0 r ev j) (r j) (ev j) (bar j) o)/\σ'=Gw ops σ0 r ev N:=by
 induction h with
 |nil σ=>
  intro i hl M L U _ _;have :i=N:=oI
  subst this;exact⟨λj o hij O ho=>AL,L⟩
 | @op o rest σ σ' ns x rs ess bs d ho hn hg hd ht k ih=>
   intro i hl M L U Y hb;subst hd;have Z:ops[i]? =some o:=a0k
   have hx:r i=x:=a6r
   have I:ev i=σ.ents:=aH6
   obtain⟨h1,h2⟩:=ih (i+1) (λk hk=>vM) lK (by
    rw[BP.auI];simp only[Gw,Z,hx,I];rw[←L]) (λk y J=>zX)
    (λk y J=>wM) (λk y J=>a1m)
   refine⟨λj o' hij O q=>?_,h2⟩;by_cases e:i=j
   ·subst e;rw[Z]at q;obtain rfl:=E9 q;exact⟨.inl ⟨ns,by rw[hx,I,←L];exact ho,L▸hn,ht,L▸hg⟩,λ_=>by rw[I,←L]⟩
   exact h1 j o' AL O q
 | @oe o rest σ σ' ns x es' rs ess bs d E ho hE hn hg hd ht k ih=>
   intro i hl M L U Y hb;subst hd;subst hE;have Z:ops[i]? =some o:=a0k
   have hx:r i=x:=a6r
   have I:ev i=es':=by simpa using Y 0 es' Bf
   have hbr:bar i=true:=by simpa using hb 0 true Bf
   obtain⟨h1,h2⟩:=ih (i+1) (λk hk=>vM) lK (by
    simp only[Gw,Z,hx,I];rw[←L]) (λk y J=>zX)
    (λk y J=>wM) (λk y J=>a1m)
   refine⟨λj o' hij O q=>?_,h2⟩;by_cases e:i=j
   ·subst e;rw[Z]at q;obtain rfl:=E9 q;exact⟨.inl ⟨ns,by rw[hx,I,←L];exact ho,L▸hn,ht,L▸hg⟩,λhf=>by rw[hbr]at hf;cases hf⟩
   exact h1 j o' AL O q
 | @any o rest σ σ' x rs ess bs d hs hd k ih=>
   intro i hl M L U Y hb;subst hd;have Z:ops[i]? =some o:=a0k
   have hx:r i=x:=a6r
   have I:ev i=σ.ents:=aH6
   obtain⟨h1,h2⟩:=ih (i+1) (λk hk=>vM) lK (by
    rw[BP.auI];simp only[Gw,Z,hx,I];rw[←L]) (λk y J=>zX)
    (λk y J=>wM) (λk y J=>a1m)
   refine⟨λj o' hij O q=>?_,h2⟩;by_cases e:i=j
   ·subst e;rw[Z]at q;obtain rfl:=E9 q;refine⟨?_,λ_=>by rw[I,←L]⟩;rw[hx,I,←L];exact hs.1
   exact h1 j o' AL O q
 | @auK o rest σ σ' x E br rs ess bs d hs hd k ih=>
   intro i hl M L U Y hb;subst hd;have Z:ops[i]? =some o:=a0k
   have hx:r i=x:=a6r
   have I:ev i=E:=by simpa using Y 0 E Bf
   have hbr:bar i=br:=by simpa using hb 0 br Bf
   obtain⟨h1,h2⟩:=ih (i+1) (λk hk=>vM) lK (by
    simp only[Gw,Z,hx,I];rw[←L]) (λk y J=>zX)
    (λk y J=>wM) (λk y J=>a1m)
   refine⟨λj o' hij O q=>?_,h2⟩;by_cases e:i=j
   ·subst e;rw[Z]at q;obtain rfl:=E9 q;rw[hx,I,hbr,←L];exact hs
   exact h1 j o' AL O q
 | @skip o rest σ σ' rs ess bs d hg hd k ih=>
   intro i hl M L U Y hb;subst hd;have Z:ops[i]? =some o:=a0k
   have hx:r i=.d (.lit undef):=by simpa using U 0 (.d (.lit undef)) Bf
   have I:ev i=σ.ents:=aH6
   obtain⟨h1,h2⟩:=ih (i+1) (λk hk=>vM) lK (by
    rw[BP.auI];simp only[Gw,Z,hx,I];rw[←L]) (λk y J=>zX)
    (λk y J=>wM) (λk y J=>a1m)
   refine⟨λj o' hij O q=>?_,h2⟩;by_cases e:i=j
   ·subst e;rw[Z]at q;obtain rfl:=E9 q;exact⟨.inr ⟨hx,by rw[I,←L],L▸hg⟩,λ_=>by rw[I,←L]⟩
   exact h1 j o' AL O q
def Fr.facts (h:Fr P ops l σ rs ess bs σ')(σ0:BP)(r:Nat->Am)(ev:Nat->AA Bc)(bar:Nat->Ac):∀i,(∀k:Nat,l[k]? =ops[i+k]?)->i+l.length=ops.size->σ=Gw ops σ0 r ev i->
 (∀(k:Nat) y,rs[k]? =some y->r (i+k)=y)->(∀(k:Nat) y,ess[k]? =some y->ev (i+k)=y)->(∀(k:Nat) y,bs[k]? =some y->bar (i+k)=y)->
 (∀j (o:Oper),i<=j->ops[j]? =some o->TA P ops (Gw ops σ0 r ev j) (r j) (ev j) (bar j) o)/\σ'=Gw ops σ0 r ev ops.size:=by
 intro i hl q I J L M;obtain⟨h1,h2⟩:=h.aMd ops.size σ0 r ev bar i (λk _=>hl k) q I J L M
 grind
def a9n {σ0:BP}{r:Nat->Am}{ev:Nat->AA Bc}{t:Nat}:∀i,(∀j (o:Oper),j<i->ops[j]? =some o->o.dst≠some t)->(Gw ops σ0 r ev i).slots.getD t .junk=σ0.slots.getD t .junk
 |0,_=>rfl
 |i+1,h=>by
  have q:=a9n (σ0:=σ0) (r:=r) (ev:=ev) i (λj o M I=>h j o AL I);simp only[Gw];split
  ·rename_i o I;have J:=h i o AL I;cases hd:o.dst with
   |none=>exact q
   |some d=>
    have L:d≠t:=λe=>J (by rw[hd,e]);show((Gw ops σ0 r ev i).slots.set d (r i)).getD t .junk=_;rw[←q];simp[List.getD,er L]
  exact q
def qV {σ0:BP}{r:Nat->Am}{ev:Nat->AA Bc}:∀i,(Gw ops σ0 r ev i).slots.length=σ0.slots.length
 |0=>rfl
 |i+1=>by
  simp only[Gw];split
  ·rename_i o j;cases hd:o.dst with
   |none=>exact qV i
   |some d=>show((Gw ops σ0 r ev i).slots.set d (r i)).length=_;rw[YH];exact qV i
  exact qV i
def a4G {σ0:BP}{r:Nat->Am}{ev:Nat->AA Bc}:∀i,(Gw ops σ0 r ev i).base=σ0.base
 |0=>rfl
 |i+1=>by
  simp only[Gw];split
  ·exact a4G i
  exact a4G i
def a8F {σ0:BP}{r:Nat->Am}{ev:Nat->AA Bc}(q:∀(i j:Nat) (o I:Oper) (d:Tmp),ops[i]? =some o->ops[j]? =some I->o.dst=some d->I.dst=some d->i=j){t j:Nat}{o:Oper}(J:ops[j]? =some o)(hd:o.dst=some t)(Y:t<σ0.slots.length):
 ∀i,j<i->(Gw ops σ0 r ev i).slots.getD t .junk=r j
 |0,h=>AL
 |i+1,h=>by
  by_cases e:j=i
  ·subst e;simp only[Gw,J,hd];have hl:t<(Gw ops σ0 r ev j).slots.length:=by rw[qV];exact Y
   show((Gw ops σ0 r ev j).slots.set t (r j)).getD t .junk=_;simp[List.getD,hl]
  have L:=a8F (r:=r) (ev:=ev) q J hd Y i AL;simp only[Gw];split
  ·rename_i I M;cases O:I.dst with
   |none=>exact L
   |some d=>
    have U:d≠t:=λe'=>e (q j i o I t J M hd (by rw[O,e']));show((Gw ops σ0 r ev i).slots.set d (r i)).getD t .junk=_;rw[←L];simp[List.getD,er U]
  exact L
def aiC (h:Xa ops=true):∀(i:Nat) (o:Oper),ops[i]? =some o->(∀(j:Nat) (q:Oper) (d:Tmp),ops[j]? =some q->q.dst=some d->d∈tmpsOf o->Jj o j=true\/Jj q i=true)/\(∀j b,o.guard=some (j,b)->Jj o j=true):=by
 intro i o I;unfold Xa at h
 grind
def Xn (ops:Bh Oper)(bs:AA Ac):Ac:=(List.range ops.size).all λi=> !(bs.getD i false)||
 (((List.range i).all λj=>(List.range (i+1)).any λm=>j<m&&(match ops[m]? with |some o=>Jj o j|none=>false))&&
  ((List.range ops.size).all λk=> !decide (i<k)||(List.range k).any λm=>i<=m&&(match ops[k]? with |some o=>Jj o m|none=>false)))
def apt (h:Xn ops bs=true)(hi:i<ops.size)(O:bs.getD i false=true){D:Nat->Prop}(hd:∀(j:Nat) (o:Oper),ops[j]? =some o->D j->∀m,Jj o m=true->D m)(U:∀(o:Oper),ops[i]? =some o->∀m,Jj o m=true->D m):∀j,j<i->D j:=by
 unfold Xn at h;rw[GK]at h;have h1:=h i IQ;simp only[O,FK,Ny,Dx,GK]at h1
 have key:∀n j,i-j<=n->j<i->D j:=by
  intro n
  induction n with
  |zero=>intro j h2 h3;omega
  |succ n Y=>
   intro j h2 h3;have L:=h1.1 j Wy;rw[KE]at L;obtain⟨m,hm,M⟩:=L;simp only[xP]at hm;simp only[Dx,Ik]at M;obtain⟨h6,q⟩:=M;have I:m<ops.size:=AL
   have J:ops[m]? =some ops[m]:=by simp[I]
   rw[J]at q;by_cases e:m=i
   ·subst e;exact U _ J j q
   exact hd m _ J (Y m AL AL) j q
 exact λj Z=>key (i-j) j (Eo _) Z
def Ua (ops:Bh Oper):Ac:=(List.range ops.size).all λi=>match ops[i]? with
 |some o=>o.after.toList.all λ(e:Edge)=> !Region.binds .any e||(e.on<i)
 |none=>true
def a1v (h:Ua ops=true):∀(i:Nat) (o:Oper),ops[i]? =some o->∀e∈o.after.toList,Region.binds .any e=true->e.on<i:=by
 intro i o j e q I;unfold Ua at h
 grind
def UK (ops:Bh Oper)(bs:AA Ac)(sl:AA Nat):Ac:=(List.range ops.size).all λi=> !(bs.getD i false)||(!sl.contains i&&
 ((List.range i).all λj=>sl.contains j||(List.range (i+1)).any λm=>(decide (j<m)&& !sl.contains m)&&(match ops[m]? with |some o=>Jj o j|none=>false))&&
  ((List.range ops.size).all λk=> !decide (i<k)||(List.range k).any λm=>i<=m&&(match ops[k]? with |some o=>Jj o m|none=>false)))
def aGl (h:UK ops bs sl=true)(hi:i<ops.size)(Y:bs.getD i false=true){D:Nat->Prop}(hd:∀(j:Nat) (o:Oper),ops[j]? =some o->D j->∀m,Jj o m=true->D m)(Z:∀(o:Oper),ops[i]? =some o->∀m,Jj o m=true->D m):∀j,j<i->sl.contains j=false->D j:=by
 unfold UK at h;rw[GK]at h;have h1:=h i IQ;simp only[Y,FK,Ny,Dx,GK]at h1
 have key:∀n j,i-j<=n->j<i->sl.contains j=false->D j:=by
  intro n
  induction n with
  |zero=>
   grind
  |succ n ih=>
   intro j h2 h3 q;have O:=h1.1.2 j Wy;rw[q,Ny,KE]at O;obtain⟨m,hm,U⟩:=O;simp only[xP]at hm;simp only[Dx,Ik,RU]at U;obtain⟨⟨h6,I⟩,J⟩:=U;have L:m<ops.size:=AL
   have M:ops[m]? =some ops[m]:=by simp[L]
   rw[M]at J;by_cases e:m=i
   ·subst e;exact Z _ M j J
   exact hd m _ M (ih m AL AL I) j J
 exact λj hj hs=>key (i-j) j (Eo _) hj hs
def aiZ (h:UK ops bs sl=true)(hi:i<ops.size)(Z:bs.getD i false=true){D:Nat->Prop}(hd:∀(j:Nat) (o:Oper),ops[j]? =some o->D j->∀m,Jj o m=true->D m):
 ∀k,i<k->∀(o:Oper),ops[k]? =some o->(∀m,Jj o m=true->D m)->D i:=by
 unfold UK at h;rw[GK]at h;have h1:=h i IQ;simp only[Z,FK,Ny,Dx,GK]at h1;intro k
 induction k using Nat.strongRecOn with
 |_ k ih=>
  intro L o O q;have hk:k<ops.size:=(Ic.1 O).1;have U:=h1.2 k aUe;simp only[L,decide_true,FK,Ny,KE]at U;obtain⟨m,hm,Y⟩:=U;simp only[xP]at hm;simp only[Dx,Ik,O]at Y;obtain⟨h6,h7⟩:=Y;have I:=q m h7;by_cases e:m=i
  ·subst e;exact I
  have M:m<ops.size:=AL
  have J:ops[m]? =some ops[m]:=by simp[M]
  exact ih m hm AL _ J (hd m _ J I)
def aSx (h:UK ops bs sl=true)(hi:i<ops.size)(j:bs.getD i false=true):sl.contains i=false:=by
 unfold UK at h
 grind
def Bl.aC7 (Y:(Ua ops&&XH ops&&ZW ops σ.slots.length&&Xa ops)=true)(sl:AA Nat)(Z:UK ops bs sl=true)(h:Fr P ops ops.toList σ rs ess bs σ')(hsl:∀i,i∈sl->bs.getD i false=false/\∀m,i<=m->m<=ops.size->∀o,ops[i]? =some o->TA P ops ⟨(Gw ops σ (λi=>rs.getD i .junk) (λi=>ess.getD i []) i).slots,(Gw ops σ (λi=>rs.getD i .junk) (λi=>ess.getD i []) m).ents,σ.base⟩ (rs.getD i .junk) (Gw ops σ (λi=>rs.getD i .junk) (λi=>ess.getD i []) m).ents false o)(ro:AB Nat)(C:FI)(ok:Nat->Prop)(H:AA CB)(a:Act)(w:BU)(hh:Holds C ok H σ a w)(Q:Exit->Act->BU->Prop)(hQ:∀ok' H' a' w',Holds C ok' H' σ' a' w'->Q .normal a' w'):wpAnyIn (Js ro) 0 P .any ops Q ops.size (Array.replicate ops.size false) a { w with drawn:=w.drawn+1 }:=by
 simp only[Dx]at Y;obtain⟨⟨⟨he,hd⟩,hs⟩,hc⟩:=Y;have aD8:=a1v he;have hinj:=abk hd;have Y:=aiC hc
 have ayj:∀(i:Nat) (o:Oper) (d:Tmp),ops[i]? =some o->o.dst=some d->d<σ.slots.length:=by
  intro i o d h1 h2;unfold ZW at hs;rw[GK]at hs;simpa using hs d (aep h1 h2)
 let r:Nat->Am:=λi=>rs.getD i .junk
 let ev:Nat->AA Bc:=λi=>ess.getD i []
 let bar:Nat->Ac:=λi=>bs.getD i false
 obtain⟨ayP,hend⟩:=h.facts σ r ev bar 0 (λk=>Bf) Bf rfl (λk y hy=>by simp[r,List.getD,hy]) (λk y hy=>by simp[ev,List.getD,hy]) (λk y hy=>by simp[bar,List.getD,hy])
 let U:Nat->BP:=Gw ops σ r ev
 have hU:∀i,i<ops.size->(U (i+1)).ents=ev i:=by
  intro i hi;have O:ops[i]? =some ops[i]:=XA
  show(Gw ops σ r ev (i+1)).ents=_;simp only[Gw,O];rfl
 have hconst:∀n lo,(∀b,lo<=b->b<lo+n->bar b=false)->lo+n<=ops.size->(U (lo+n)).ents=(U lo).ents:=by
  intro n
  induction n with
  |zero=>intro lo _ _;rfl
  |succ n ih=>
   intro lo L hle;have h1:=ih lo (λb h1 h2=>L b h1 AL) AL;have hi:lo+n<ops.size:=AL
   have O:ops[lo+n]? =some ops[lo+n]:=XA
   have h2:=(ayP (lo+n) _ AL O).2 (L (lo+n) AL AL);rw[←UZ,hU _ hi,h2];exact h1
 have auL:∀lo hi,lo<=hi->hi<=ops.size->(∀b,lo<=b->b<hi->bar b=false)->(U hi).ents=(U lo).ents:=by
  intro lo hi h1 h2 h3;obtain⟨n,rfl⟩:=Nat.exists_eq_add_of_le h1;exact hconst n lo h3 h2
 let I:Bh Ac->Act->BU->Prop:=λl a w=>l.size=ops.size/\∃ok H m,m<=ops.size/\(∀b,bar b=true->b<ops.size->(l.getD b false=true↔b<m))/\E8 C ok H (U m).ents w/\a.tmps.size=σ.slots.length/\Marks C ok w a.defers/\
  (∀t,t<σ.slots.length->(∀(j:Nat) (o:Oper),ops[j]? =some o->o.dst=some t->l.getD j false=false)->R ok w H (σ.slots.getD t .junk) (a.tmps.getD t undef))/\
  (∀(i:Nat) (o:Oper) (d:Tmp),ops[i]? =some o->o.dst=some d->l.getD i false=true->R ok w H (r i) (a.tmps.getD d undef))/\
  (∀(j:Nat) (o:Oper),ops[j]? =some o->l.getD j false=true->∀i,Jj o i=true->l.getD i false=true)
 refine aYJ I (λl a w h=>h.1) ?_ ?_ ops.size _ _ _ ?_ ?_
 ·rintro l a w ⟨h1,ok,H,m,ayQ,M,hmem0,hsz,hdf,h5,h6,h7⟩ i hi;unfold Region.ready at hi;rw[He]at hi;obtain⟨hi1,hi2⟩:=hi;have hi':i<ops.size:=by simpa using hi1
  have O:ops[i]? =some ops[i]:=by simp[hi']
  simp only[Dx]at hi2;have aD9:=hi2.2;rw[O]at aD9;simp only[Jp,OI]at aD9;have aMe:=λe he=>(Y5.1 aD9) e he
  have hdone:∀j,Jj ops[i] j=true->l.getD j false=true/\j<i:=by
   intro j J;unfold Jj at J;rw[KE]at J;obtain⟨e,hee,J⟩:=J;simp only[Dx,Ik]at J;have :=aMe e (by simpa using hee);simp only[J.2,FK,Ny]at this;rw[J.1]at this;exact⟨this,J.1▸aD8 i _ O e hee J.2⟩
  have hself:l.getD i false=false:=by
   have h8:=hi2.1;have hil:i<l.size:=AL
   simp[Array.getD,hil]at h8 ⊢;exact h8
  have auM:∀(j:Nat) (o:Oper),ops[j]? =some o->l.getD j false=true->∀m,Jj o m=true->l.getD m false=true:=λj o J hl m hm=>h7 j o J hl m hm
  have hEi:(i<=m->sl.contains i=false)->(U i).ents=(U m).ents:=λhns=>by
   by_cases him:i<=m
   ·refine(auL i m him ayQ (λb h2 h3=>?_)).symm;rw[←Xq];intro L;have hbl:=(M b L AL).2 h3;by_cases e:b=i
    ·subst e;rw[hself]at hbl;cases hbl
    have :=aGl Z (show b<ops.size by omega) L (D:=λj=>l.getD j false=true) auM (λo O m hm=>auM b o O hbl m hm) i AL (hns him);rw[hself]at this;cases this
   refine auL m i AL AL (λb h2 h3=>?_);rw[←Xq];intro L;have :=aiZ Z (show b<ops.size by omega) L (D:=λj=>l.getD j false=true) auM i h3 _ O (λm hm=>(hdone m hm).1);exact absurd ((M b L AL).1 this) AL
  obtain⟨E0,E1,hmem,hfact,hE1,hE2⟩:∃E0 E1,E8 C ok H E0 w/\TA P ops ⟨(U i).slots,E0,σ.base⟩ (r i) E1 (bar i) ops[i]/\(bar i=false->E1=(U m).ents)/\(bar i=true->E1=ev i):=by
   by_cases hs:i<=m/\i∈sl
   ·have h9:=hsl i hs.2;refine⟨(U m).ents,(U m).ents,hmem0,?_,λ_=>rfl,λL=>?_⟩
    ·rw[show bar i=false from h9.1];exact h9.2 m hs.1 ayQ _ O
    rw[show bar i=false from h9.1]at L;cases L
   have hE:=hEi (λhim=>by
    rw[←Xq]
    intro hc;exact hs ⟨him,a2Z⟩)
   refine⟨(U i).ents,ev i,by rw[hE];exact hmem0,?_,λL=>?_,λ_=>rfl⟩
   ·have hf:=ayP i ops[i] AL O;have hbase:(U i).base=σ.base:=a4G i;have :U i=⟨(U i).slots,(U i).ents,σ.base⟩:=by rw[←hbase]
    exact this▸hf
   rw[(ayP i _ AL O).2 L];exact hE
  have hread:∀t,t∈tmpsOf ops[i]->R ok w H ((Gw ops σ r ev i).slots.getD t .junk) (a.tmps.getD t undef):=by
   intro t ht;by_cases hw:∃(j:Nat) (o:Oper),ops[j]? =some o/\o.dst=some t
   ·obtain⟨j,o,J,q⟩:=hw;rcases(Y i _ O).1 j o t J q ht with hce|hce
    ·obtain⟨hdj,hji⟩:=hdone j hce;rw[a8F hinj J q (ayj j o t J q) i hji];exact h6 j o t J q hdj
    have hij:i<j:=by
     unfold Jj at hce;rw[KE]at hce;obtain⟨e,hee,hce⟩:=hce;simp only[Dx,Ik]at hce;exact hce.1▸aD8 j _ J e hee hce.2
    rw[a9n i (λj' o' hj' ho' hd'=>by have :=hinj j j' o o' t J ho' q hd';omega)];refine h5 t (ayj j o t J q) (λj' o' ho' hd'=>?_);have hjj:=hinj j j' o o' t J ho' q hd';subst hjj;rw[←Xq];intro hd;rw[h7 j o J hd i hce]at hself;cases hself
   have hw':∀(j:Nat) (o:Oper),ops[j]? =some o->o.dst≠some t:=λj o h1 h2=>hw ⟨j,o,h1,h2⟩;rw[a9n i (λj o _ J=>hw' j o J)];by_cases htn:t<σ.slots.length
   ·exact h5 t htn (λj o J q=>absurd q (hw' j o J))
   rw[aLS htn];exact .junk _
  have aF1:∀j d v,Jj ops[i] j=true->(ops[j]?).bind (·.dst)=some d->(Gw ops σ r ev i).slots.getD d .junk=.d (.lit v)->yielded ops a.tmps j=(match v with | .bool b=>some b|_=>none):=by
   intro j d v J q L;cases hoj:ops[j]? with
   |none=>rw[hoj]at q;simp at q
   |some oj=>
    rw[hoj]at q;simp only[Af]at q;obtain⟨hdj,hji⟩:=hdone j J;have hdn:=ayj j oj d hoj q;rw[a8F hinj hoj q hdn i hji]at L;have hv:=(L▸h6 j oj d hoj q hdj).bool
    have hs:a.tmps[d]? =some v:=by
     have :d<a.tmps.size:=by rw[hsz];exact hdn
     simp[Array.getD,this]at hv;simp[this,hv]
    unfold yielded;rw[hoj];simp only[Af,q,hs];cases v<;>rfl
  have hput:∀(x:Am) (v:BJ) (ok':Nat->Prop) (H':AA CB) (w':BU),x=r i->FH ok w ok' w'->Names H H'->E8 C ok' H' E1 w'->R ok' w' H' x v->I (l.setIfInBounds i true) (a.put ops[i].dst v) w':=by
   intro x v ok' H' w' hx hgr hnm hmem' hR;subst hx
   have hother:∀(d t:Nat),ops[i].dst=some d->d≠t->(a.put ops[i].dst v).tmps.getD t undef=a.tmps.getD t undef:=by
    intro d t hd hne;rw[hd];exact aeg hne
   obtain⟨m',aNU,aKy,aNV⟩:∃m',m'<=ops.size/\(∀b,bar b=true->b<ops.size->((l.setIfInBounds i true).getD b false=true↔b<m'))/\E8 C ok' H' (U m').ents w':=by
    have hget:∀b,b≠i->(l.setIfInBounds i true).getD b false=l.getD b false:=λb L=>by
     simp only[Jm,WO (Ne.symm L)]
    have aNW:(l.setIfInBounds i true).getD i false=true:=by simp[Array.getD,h1,hi']
    cases hbi:bar i with
    |false=>
     refine⟨m,ayQ,λb L hbs=>?_,?_⟩
     ·have hne:b≠i:=λe=>by subst e;rw[hbi]at L;cases L
      rw[hget b hne];exact M b L hbs
     rw[←hE1 hbi];exact hmem'
    |true=>
     refine⟨i+1,AL,λb L hbs=>?_,by rw[hU i hi',←hE2 hbi];exact hmem'⟩;by_cases e:b=i
     ·subst e;rw[aNW];simp
     rw[hget b e];constructor
     ·intro hbl;apply aAG;intro hn;have :=aGl Z hbs L (D:=λj=>l.getD j false=true) auM (λo O m hm=>auM b o O hbl m hm) i AL (aSx Z hi' hbi);rw[hself]at this;cases this
     intro hlt;exact aGl Z hi' hbi (D:=λj=>l.getD j false=true) auM (λo ho' m hm=>by rw[O]at ho';obtain rfl:=E9 ho';exact(hdone m hm).1) b AL (aSx Z hbs L)
   refine⟨lD,ok',H',m',aNU,aKy,aNV,by rw[size_put];exact hsz,by rw[af7];exact hdf.mono hgr,?_,?_,?_⟩
   ·intro t ht hno
    have hne:ops[i].dst≠some t:=by
     intro e;have :=hno i _ O e;simp[Array.getD,h1,hi']at this
    have hold:(a.put ops[i].dst v).tmps.getD t undef=a.tmps.getD t undef:=by
     cases hdi:ops[i].dst with
     |none=>rfl
     |some d=>exact hdi▸hother d t hdi (λe=>hne (by rw[hdi,e]))
    rw[hold];refine(h5 t ht (λj o J q=>?_)).mono hgr hnm;have hij:i≠j:=λe=>by subst e;rw[O]at J;obtain rfl:=E9 J;exact hne q
    have :=hno j o J q;simpa only[Jm,WO hij]using this
   ·intro k o d hk hkd hl;by_cases hik:i=k
    ·subst hik;rw[O]at hk;obtain rfl:=E9 hk;rw[hkd,afV (by rw[hsz];exact ayj i _ d O hkd)];exact hR
    have hl':l.getD k false=true:=by
     simp only[Jm,WO hik]at hl ⊢;exact hl
    have :=(h6 k o d hk hkd hl').mono hgr hnm;cases hdst:ops[i].dst with
    |none=>exact this
    |some d'=>
     have hne:d'≠d:=λe=>hik (hinj i k _ _ d' O hk hdst (e▸hkd));rw[←hdst,hother d' d hdst hne];exact this
   intro j o J hl k hk;have hil:i<l.size:=AL
   by_cases hik:i=k
   ·subst hik;simp[Array.getD,hil]
   have hkk:l.getD k false=true:=by
    by_cases hij:i=j
    ·subst hij;rw[O]at J;obtain rfl:=E9 J;exact(hdone k hk).1
    have hl':l.getD j false=true:=by
     simp only[Jm,WO hij]at hl ⊢;exact hl
    exact h7 j o J hl' k hk
   simp only[Jm,WO hik]at hkk ⊢;exact hkk
  unfold wpOpIn;rw[O];show if Region.wanted ops[i] (yielded ops a.tmps)=true then _ else _
  rcases hfact.1 with⟨ns,hop,aEa,hnt,hg⟩|⟨hx,hev,hg⟩
  ·have hwant:Region.wanted ops[i] (yielded ops a.tmps)=true:=by
    unfold Region.wanted;rcases hg with hg|⟨j,want,d,b,hg,J,L,rfl⟩
    ·rw[hg]
    rw[hg];show(yielded ops a.tmps j==some b)=true;rw[aF1 j d _ ((Y i _ O).2 j b hg) J L];simp
   rw[Dw hwant];refine jH ?_ (hop.inR ro C ok H a w _ hmem (λn hn=>?_))
   ·rintro a' w' ⟨v,ok',H',rfl,hgr,hnn,hm',hx⟩;exact hput _ v ok' H' w' rfl hgr hnn hm' hx
   have hnv:=Yp aEa n hn;obtain⟨x,y⟩:=n;simp only at hnv ⊢;subst hnv;cases x with
   |tmp t=>
    refine hread t ?_;rw[GK]at hnt
    have :t∈Ox ns:=by
     unfold Ox;rw[iT];exact⟨_,hn,rfl⟩
    simpa using hnt t this
   |const v=>exact .d _ _ (.lit v)
   |global g=>exact .d _ _ (.lit _)
   |func f=>exact .d _ _ (.fn (.func f) [] [] #[] #[] rfl rfl (λi hi=>Sj) (λi hi=>Sj))
  have hwant:Region.wanted ops[i] (yielded ops a.tmps)=false:=by
   unfold Region.wanted;obtain⟨j,want,d,v,hg,J,L,hv⟩:=hg;rw[hg];show(yielded ops a.tmps j==some want)=false;rw[aF1 j d _ ((Y i _ O).2 j want hg) J L];rcases hv with rfl|rfl
   ·simp
   rfl
  rw[EC (by rw[hwant];simp)];exact⟨λ_ _=>trivial,hput _ _ ok H w hx.symm (.refl _ _) (.refl _) (by rw[hev];exact hmem) (.d _ _ (.lit _))⟩
 ·rintro l a w ⟨h1,ok,H,m,ayQ,M,hmem,hsz,hdf,h5,h6,h7⟩ hr
  have hall:∀n i,i<n->i<ops.size->l.getD i false=true:=by
   intro n
   induction n with
   |zero=>intro i hi;omega
   |succ n ih=>
    intro i hi hi2;by_cases hn:i<n
    ·exact ih i hn hi2
    have hin:i=n:=AL
    subst hin;rw[←Bool.not_eq_false];intro hf;have O:ops[i]? =some ops[i]:=by simp[hi2]
    have hmem:i∈Region.ready .any ops l:=by
     unfold Region.ready;rw[He];refine⟨by simpa using hi2,?_⟩;have hil:i<l.size:=AL
     have hf':l.getD i true=false:=aPq
     rw[hf',O];simp only[JV,Gf,Jp,OI];rw[Y5];intro e he;cases hbe:Region.binds .any e with
     |false=>simp
     |true=>
      have hlt:=aD8 i _ O e (by simpa using he) hbe;rw[ih e.on AL AL];simp
    rw[hr]at hmem;simp at hmem
  refine hQ ok H _ _ ?_;subst hend
  have hE:(U ops.size).ents=(U m).ents:=auL m ops.size ayQ (Eo _) (λb h2 h3=>by
   rw[←Xq];intro L
   exact absurd ((M b L h3).1 (hall (b+1) b AL h3)) AL)
  refine⟨by show E8 C ok H (U ops.size).ents w;rw[hE];exact hmem,by rw[qV];exact hsz,hdf,by rw[a4G];exact hh.base,λt ht=>?_⟩;rw[qV]at ht;by_cases hw:∃(j:Nat) (o:Oper),ops[j]? =some o/\o.dst=some t
  ·obtain⟨j,o,J,q⟩:=hw;have hjn:j<ops.size:=(Ic.1 J).1;rw[a8F hinj J q ht ops.size hjn];exact h6 j o t J q (hall (j+1) j AL hjn)
  have hw':∀(j:Nat) (o:Oper),ops[j]? =some o->o.dst≠some t:=λj o h1 h2=>hw ⟨j,o,h1,h2⟩;rw[a9n ops.size (λj o _ J=>hw' j o J)];exact h5 t ht (λj o J q=>absurd q (hw' j o J))
 ·unfold toCome;simp
 refine⟨Bf,ok,H,0,F6 _,λb L _=>by simp[Array.getD],?_,hh.size,hh.defers.mono (λb L=>⟨L,rfl⟩),λt ht _=>?_,λi o d _ _ hl=>?_,λj o _ hl=>?_⟩
 ·exact⟨⟨hh.mem.fr.os,hh.mem.fr.tape,hh.mem.fr.output,hh.mem.fr.size,hh.mem.fr.block⟩,hh.mem.AX,hh.mem.AY,hh.mem.kX,hh.mem.names,hh.mem.hlen,λk e h h1 h2=>(hh.mem.ent k e h h1 h2).drew,hh.mem.blk,hh.mem.G8⟩
 ·exact R.mono (w:=w) (ok:=ok) (w':={ w with drawn:=w.drawn+1 }) (λb L=>⟨L,rfl⟩) (.refl _) (hh.slot t ht)
 ·simp[Array.getD]at hl
 simp[Array.getD]at hl
def Bl.aEb {id:Nat}{Q:Exit->BP->Prop}(hm:P.follows .mixedOrders=true)(j:(Ua ops&&XH ops&&ZW ops σ.slots.length&&Xa ops)=true)(sl:AA Nat)(q:UK ops bs sl=true)(h:Fr P ops ops.toList σ rs ess bs σ')(hsl:∀i,i∈sl->bs.getD i false=false/\∀m,i<=m->m<=ops.size->∀o,ops[i]? =some o->TA P ops ⟨(Gw ops σ (λi=>rs.getD i .junk) (λi=>ess.getD i []) i).slots,(Gw ops σ (λi=>rs.getD i .junk) (λi=>ess.getD i []) m).ents,σ.base⟩ (rs.getD i .junk) (Gw ops σ (λi=>rs.getD i .junk) (λi=>ess.getD i []) m).ents false o)(I:Q .normal σ'):Bl P (.region id ops true) σ Q:=
 ⟨λro _ C ok H a w J=>wpIn_region_any hm (Bl.aC7 j sl q h hsl ro C ok H a w J _ λok' H' _ _ h=>⟨ok',H',σ',h,I⟩)⟩
def aN8 (h:Xn ops bs=true):UK ops bs []=true:=by
 unfold UK;unfold Xn at h;simpa using h
def Bl.draw {id:Nat}{σ σ':BP}{Q:Exit->BP->Prop}{rs:AA Am}{ess:AA (AA Bc)}{bs:AA Ac}(hm:P.follows .mixedOrders=true)(j:(Ua ops&&XH ops&&ZW ops σ.slots.length&&Xa ops)=true)(q:Xn ops bs=true)(h:Fr P ops ops.toList σ rs ess bs σ')(I:Q .normal σ'):Bl P (.region id ops true) σ Q:=
 Bl.aEb hm j [] (aN8 q) h (λ_ hi=>absurd hi H9) I
def DR:=@Bl.draw
end
def EU (P:Ch)(f:FuncId)(args:AA Am)(E:AA Bc)(q:Am)(E':AA Bc):Prop:=
 ∀(ok:Nat->Prop) (X:AA Nat) (H:AA CB) (w:BU) (j:Bh BJ),E8 ⟨w,ok,X,H⟩ ok H E w->j.size=args.length->(∀i,i<args.length->R ok w H (args.getD i .junk) (j.getD i undef))->
  Calls P f j w λe w'=>∃v ok' H',e=.returned v/\E8 ⟨w,ok,X,H⟩ ok' H' E' w'/\R ok' w' H' q v
def Holds.aC8 (h:Holds C ok H σ a w)(t:Nat):R ok w H (σ.slots.getD t .junk) (a.tmps.getD t undef):=h.get (.tmp t)
def BP.enter (args:AA Am)(n:Nat)(E:AA Bc):BP:=⟨args++List.replicate (n-args.length) .junk,E,E.length⟩
def R.lit (h:R ok w H (.d (.lit u)) v):v=u:=by
 cases h with |d _ _ h=>cases h;rfl
structure Ep (P:Program) (t:TypeId) (agg:Bool) (size:Nat):Prop where
 agg:∀w,(isAgg t).run P w=.ok agg w
 size:∀w,(sizeOf t).run P w=.ok size w
def aD6 (P:Ch)(t:Bq)(agg:Ac)(size:Nat):Ac:=
 (match P.underlying t with |some (.struct _)|some (.array _ _)=>agg|some _=> !agg|none=>false)&&(match P.info? t with |some i=>i.size=size|none=>false)
variable {agg:Ac}{t:Bq}
def GZ (h:aD6 P t agg size=true):Ep P t agg size:=by
 unfold aD6 at h;simp only[Dx]at h;refine⟨λw=>?_,λw=>?_⟩
 ·have h1:=h.1;cases j:P.underlying t with
  |none=>
   grind
  |some d=>
   rw[j]at h1;have e:(underlying t).run P w=.ok d w:=aIZ
   simp only[isAgg,GL,e,GY];cases d<;>cases agg<;>simp_all
 have h2:=h.2;cases hi:P.info? t with
 |none=>
  grind
 |some i=>
  rw[hi]at h2;have :i.size=size:=LC
  simp[sizeOf,typeInfo,hi,this]
variable {α:Type}{b f off:Nat}{c x y:Bz}{cs:AA Am}{e' t':Bq}{i:Int}{kd:IntKind}{r v:BJ}{s:BH}{xs:AA D}{p:α->Prop}
def MG {a:α}(h:∀n∈[a],p n):p a:=h a Bf
def F9 {a b:α}(h:∀n∈[a,b],p n):p a/\p b:=⟨h a Bf,h b Bf⟩
def aZh {v:Am}(j:o.op=.move x:=by exact rfl):CG P o [(x,v)] es v es:=
 .pure λ_ _ a _ _ _ q=>⟨a.eval x,by simp[execOp,j],q (x,v) Bf⟩
def acF {v:Am}(j:o.op=.assign x:=by exact rfl):CG P o [(x,v)] es v es:=
 .pure λ_ _ a _ _ _ q=>⟨a.eval x,by simp[execOp,j],q (x,v) Bf⟩
def amo {v:Am}(b:Ac)(q:b=true)(I:o.op=.pick c x y:=by exact rfl):CG P o [(c,.d (.lit (.bool b))),(x,v)] es v es:=
 .pure λ_ _ a _ _ _ j=>⟨a.eval x,by
  have :=(F9 j).1.lit;simp only at this
  simp[execOp,I,this,asBool,q],(F9 j).2⟩
def akX {v:Am}(b:Ac)(q:b=false)(I:o.op=.pick c x y:=by exact rfl):CG P o [(c,.d (.lit (.bool b))),(y,v)] es v es:=
 .pure λ_ _ a _ _ _ j=>⟨a.eval y,by
  have :=(F9 j).1.lit;simp only at this
  simp[execOp,I,this,asBool,q],(F9 j).2⟩
def Ja {op:BinOp}(q:o.op=.binOp op t x y t')(h:∀w,(binOp op t u v).run P w=.ok r w)(I:u.oneCell'=true/\u matches .int _ _| .string _| .bool _):
 CG P o [(x,.d (.lit u)),(y,.d (.lit v))] es (.d (.lit r)) es:=
 .pure λ_ _ a w _ _ j=>⟨r,by
  have h1:=(F9 j).1.lit;have h2:=(F9 j).2.lit;simp only at h1 h2
  have J:(eqGuard op t x y u v).run P w=.ok () w:=by
   unfold eqGuard;cases u<;>simp at I<;>(cases op<;>simp[pure,Sem.run_pure'])
  simp only[execOp,q,h1,h2,GL,J,h w,GY,Hg],.d _ _ (.lit _)⟩
def aCq {op:UnOp}(j:o.op=.unOp op t x)(h:∀w,(Op.unary op u).run P w=.ok r w):CG P o [(x,.d (.lit u))] es (.d (.lit r)) es:=
 .pure λ_ _ a w _ _ q=>⟨r,by
  have h1:=(MG q).lit;simp only at h1
  simp only[execOp,j,h1,GL,h w,GY,Hg],.d _ _ (.lit _)⟩
def aY7 {s:Bq}(j:o.op=.convert s t x)(h:∀w,(convert s t u).run P w=.ok r w):CG P o [(x,.d (.lit u))] es (.d (.lit r)) es:=
 .pure λ_ _ a w _ _ q=>⟨r,by
  have h1:=(MG q).lit;simp only at h1
  simp only[execOp,j,h1,GL,h w,GY,Hg],.d _ _ (.lit _)⟩
def agr {i:Nat}{xs:AA Am}{v:Am}(I:o.op=.extract x i)(J:xs[i]? =some v):CG P o [(x,.eu xs)] es v es:=
 .pure λok H a w _ _ L=>by
  have h1:=MG L;simp only at h1;generalize M:a.eval x=u at h1;cases h1 with
  |eu _ vs hl h=>
   obtain⟨hi,q⟩:=H6.1 J;have h2:=h i hi;have O:xs.getD i .junk=v:=by simp[List.getD,hi,q]
   have j:i<vs.size:=AL
   have U:vs.getD i undef=vs[i]:=by simp[Array.getD,j]
   rw[O,U]at h2;exact⟨vs[i],by simp[execOp,I,M,Instr.extract,j],h2⟩
def alZ (J:P.underlying t=some (.slice e))(j:o.op=.call { callee:=.builtin .len,args:= #[x],argTypes:= #[t] }:=by exact rfl):
 CG P o [(x,.d (.sl xs))] es (.d (.lit (.int .i64 xs.length))) es:=
 .pure λok H a w _ _ L=>by
  have h1:=MG L;simp only at h1;generalize q:a.eval x=u at h1;have I:(underlying t).run P w=.ok (.slice e) w:=by simp[underlying,J]
  refine⟨_,?_,.d _ _ (.lit _)⟩;cases h1 with
  |d _ _ h=>
   cases h with
   |sl0 ad cap=>simp[execOp,j,resolve,invoke,builtin,Builtin.len_,q,I,goInt]
   |sl _ b off cap size=>simp[execOp,j,resolve,invoke,builtin,Builtin.len_,q,I,goInt]
def aYv (j:P.underlying t=some .string)(q:o.op=.call { callee:=.builtin .len,args:= #[x],argTypes:= #[t] }:=by exact rfl):
 CG P o [(x,.d (.lit (.string s)))] es (.d (.lit (.int .i64 s.size))) es:=
 .pure λok H a w _ _ I=>by
  have h1:=(MG I).lit;simp only at h1;have J:(underlying t).run P w=.ok .string w:=aIZ
  exact⟨_,by simp[execOp,q,resolve,invoke,builtin,Builtin.len_,h1,J,goInt],.d _ _ (.lit _)⟩
def Gy {es:AA Bc}(I:∀(k:Nat) (e:Bc) (h:CB),es[k]? =some e->H[k]? =some h->Fh ok w H h e)(hl:H.length=es.length){e:Bc}(q:es[k]? =some e):
 ∃h,H[k]? =some h/\Fh ok w H h e:=by
 have j:k<H.length:=by rw[hl];exact(H6.1 q).1
 exact⟨H[k],by simp[j],I k e _ q (by simp[j])⟩
def apS {s:Nat}(L:es[k]? =some (.arr e' s xs))(M:P.underlying t=some (.slice e))(O:o.op=.call { callee:=.builtin .len,args:= #[x],argTypes:= #[t] }:=by exact rfl):
 CG P o [(x,.aQ k)] es (.d (.lit (.int .i64 xs.length))) es:=
 .pure λok H a w j hl U=>by
  have h1:=MG U;simp only at h1;generalize Y:a.eval x=u at h1;have Z:(underlying t).run P w=.ok (.slice e) w:=by simp[underlying,M]
  obtain⟨h,hh,q⟩:=Gy j hl L;refine⟨_,?_,.d _ _ (.lit _)⟩;cases h1 with
  |aQ _ ad n cap s' J=>
   rw[hh]at J;obtain rfl:=E9 J;obtain⟨_,_,ys,⟨_,ho2⟩,_⟩:=q
   have I:n=xs.length:=by
    grind
   subst I;simp[execOp,O,resolve,invoke,builtin,Builtin.len_,Y,Z,goInt]
structure EF (P:Program) (t:TypeId) (f off:Nat):Prop where
 run:∀(b o:Nat) w,(Instr.fieldAt t (.pointer (some ⟨b,o,none⟩)) f).run P w=.ok (.pointer (some ⟨b,o+off,none⟩)) w
def aS5 (P:Ch)(t:Bq)(f off:Nat):Ac:=
 match P.underlying t with
 |some (.struct fs)=>match fs[f]? with
  |some j=>j.offset=off&&(match P.info? j.type with |some i=>i.size≠0|none=>false)
  |none=>false
 |_=>false
def EK {P:Ch}(h:aS5 P t f off=true):EF P t f off:=by
 unfold aS5 at h;refine⟨λb o w=>?_⟩;split at h
 ·rename_i fs q;split at h
  ·rename_i I J;simp only[Dx,Ik]at h;obtain⟨h1,h2⟩:=h;split at h2
   ·rename_i i hi;have hs:(sizeOf I.type).run P w=.ok i.size w:=by simp[sizeOf,typeInfo,hi]
    have h3:i.size≠0:=LC
    have j:(underlying t).run P w=.ok (.struct fs) w:=a8C
    simp[Instr.fieldAt,j,J,Instr.sureAddr,fieldPlace,hs,h3,addr_add,h1]
   cases h2
  cases h
 cases h
def adV {cs:AA D}(J:EF P t f off)(L:o.op=.fieldAddr t x f:=by exact rfl):CG P o [(x,.d (.ref cs j))] es (.d (.ref cs (j+off))) es:=
 .pure λok H a w _ _ M=>by
  have h1:=MG M;simp only at h1;generalize O:a.eval x=u at h1;cases h1 with
  |d _ _ h=>
   cases h with
   |ref _ _ b p q I U Y=>
    refine⟨.pointer (some ⟨b,p+(j+off),none⟩),?_,.d _ _ (.ref cs (j+off) b p q I U Y)⟩;simp only[execOp,L,O,GL,J.run,GY,Hg,UZ]
def ajO (q:EF P t f off)(I:o.op=.fieldAddr t x f:=by exact rfl):CG P o [(x,.ptr k j)] es (.ptr k (j+off)) es:=
 .pure λok H a w _ _ J=>by
  have h1:=MG J;simp only at h1;generalize L:a.eval x=u at h1;cases h1 with
  |ptr _ _ b s h=>
   refine⟨.pointer (some ⟨b,j+off,none⟩),?_,.ptr _ _ b s h⟩;simp only[execOp,I,L,GL,q.run,GY,Hg]
def adS {i:Nat}(q:EF P t f off)(I:o.op=.fieldAddr t x f:=by exact rfl):CG P o [(x,.lH k i j)] es (.lH k i (j+off)) es:=
 .pure λok H a w _ _ J=>by
  have h1:=MG J;simp only at h1;generalize L:a.eval x=u at h1;cases h1 with
  |lH _ _ _ b n cap s h=>
   refine⟨.pointer (some ⟨b,i*s+(j+off),none⟩),?_,.lH _ _ _ b n cap s h⟩;simp only[execOp,I,L,GL,q.run,GY,Hg,UZ]
def adB {k:IntKind}{L:D}(ht:P.underlying t=some (.slice e))(hT:Ep P e agg size)(h0:0<=i)(hi:xs[i.toNat]? =some L)(hs:L.cells.length=size)(ho:o.op=.indexAddr t x y:=by exact rfl):CG P o [(x,.d (.sl xs)),(y,.d (.lit (.int k i)))] es (.d (.ref L.cells 0)) es:=
 .pure λok H a w _ _ Z=>by
  have h1:=(F9 Z).1;have h2:=(F9 Z).2.lit;simp only at h1 h2;generalize he:a.eval x=u at h1;have hu:(underlying t).run P w=.ok (.slice e) w:=a0c
  obtain⟨I,M⟩:=H6.1 hi;cases h1 with
  |d _ _ h=>
   cases h with
   |sl0 ad cap=>simp at I
   |sl _ b off cap q hcap O U hf hx hc=>
    have hd:xs.getD i.toNat EN=L:=by simp[List.getD,I,M]
    have Y:q=size:=by rw[←U _ I,hd,hs]
    subst Y;refine⟨.pointer (some ⟨b,off+i.toNat*q+0,none⟩),?_,.d _ _ (.ref L.cells 0 b (off+i.toNat*q) (λh=>O AL (by rw[hs]at h;exact h)) ?_ ?_ ?_)⟩
    ·have hlen:0<=i/\i<(xs.length:Int):=⟨h0,AL⟩
     simp only[execOp,ho,he,h2,Instr.indexAt,asIntOf,GL,Hg,hu,GY,Sem.run_ite,hlen,and_self,Jy,hT.size,addr_add,QI]
    ·intro j J;rw[hs]at J;rw[←hd];exact hf _ I j J
    ·intro j J;rw[hs]at J;rw[UZ];exact hx _ I j J
    intro j J;rw[hs]at J;rw[UZ,←hd];exact hc _ I j J
def agK (Y:es[k]? =some (.arr e' size xs))(Z:P.underlying t=some (.slice e))(hT:Ep P e agg size)(h0:0<=i)(hi:i.toNat<xs.length)(ho:o.op=.indexAddr t x y:=by exact rfl):CG P o [(x,.aQ k),(y,.d (.lit (.int kd i)))] es (.lH k i.toNat 0) es:=
 .pure λok H a w q hl L=>by
  have h1:=(F9 L).1;have h2:=(F9 L).2.lit;simp only at h1 h2;generalize he:a.eval x=u at h1;have hu:(underlying t).run P w=.ok (.slice e) w:=by simp[underlying,Z]
  obtain⟨h,M,I⟩:=Gy q hl Y;cases h1 with
  |aQ _ ad n cap s' O=>
   rw[M]at O;obtain rfl:=E9 O;obtain⟨hs,_,ys,⟨_,J⟩,_⟩:=I;simp only at hs;subst hs;rcases J with⟨j,h3⟩|⟨g,U,cur,j,_⟩
   ·omega
   simp only[oz]at j;obtain⟨rfl,rfl,rfl⟩:=j;refine⟨.pointer (some ⟨g,i.toNat*s'+0,none⟩),?_,.lH _ _ _ _ _ _ _ M⟩;have hlen:0<=i/\i<(xs.length:Int):=⟨h0,AL⟩
   simp only[execOp,ho,he,h2,Instr.indexAt,asIntOf,GL,Hg,hu,GY,Sem.run_ite,hlen,and_self,Jy,hT.size,addr_add,KW,QI]
def agp {k:IntKind}{c:UInt8}(q:P.underlying t=some .string)(I:0<=i)(hi:s[i.toNat]? =some c)(J:o.op=.index t x y:=by exact rfl):
 CG P o [(x,.d (.lit (.string s))),(y,.d (.lit (.int k i)))] es (.d (.lit (.int .u8 c.toNat))) es:=
 .pure λok H a w _ _ j=>by
  have h1:=(F9 j).1.lit;have h2:=(F9 j).2.lit;simp only at h1 h2;have L:(underlying t).run P w=.ok .string w:=a8C
  exact⟨_,by simp only[execOp,J,h1,h2,Instr.index,asIntOf,GL,Hg,L,GY,I,Jy,hi],.d _ _ (.lit _)⟩
def Jl (l:AA Am):AA D:=l.map λ| .d x=>x|_=>EN
def Am.Dn:Am->Ac
 | .d _=>true
 |_=>false
def R.toD {x:Am}(h:R ok w H x v)(hd:x.Dn=true):ET ok w ((λ| .d x=>x|_=>EN) x) v:=by
 cases h with
 |d _ _ h=>exact h
 |_=>simp[Am.Dn]at hd
def Qe (agg:Ac)(cs:AA D)(off n:Nat):D:=if agg then .agg ((cs.drop off).take n)else cs.getD off EN
def a8Z {P:Ch}{p:Nat}{cs:AA D}(O:Ep P t agg n)(hn:off+n<=cs.length)(h1:agg=false->n=1)(Y:∀i,i<cs.length->(cs.getD i EN).leaf=true)(Z:∀j,j<cs.length->(w.cell? ⟨b,p+j,none⟩).isSome=true)(U:∀j,j<cs.length->ET ok w (cs.getD j EN) (cellAt w b (p+j))):
 ∃v,(Instr.loadAt t (.pointer (some ⟨b,p+off,none⟩))).run P w=.ok v w/\ET ok w (Qe agg cs off n) v:=by
 have q:∀j,j<cs.length->w.cell? ⟨b,p+j,none⟩=some (cellAt w b (p+j)):=by
  intro j J;have :=Z j J;obtain⟨u,hu⟩:=Ro.1 this;simp[cellAt,hu]
 cases agg with
 |false=>
  have :=h1 rfl;subst this;refine⟨cellAt w b (p+off),?_,U off AL⟩;have M:=q off AL;simp[Instr.loadAt,Instr.sureAddr,loadVar,O.agg,M]
 |true=>
  let vs:Bh BJ:=((List.range n).map λj=>cellAt w b (p+(off+j))).toArray
  have I:vs.size=n:=by simp[vs]
  have L:∀j,j<n->vs.getD j undef=cellAt w b (p+(off+j)):=by
   intro j J;simp[vs,Array.getD,J]
  refine⟨.agg vs,?_,?_⟩
  ·simp only[Instr.loadAt,Instr.sureAddr,GL,Hg,GY]
   have h:=aiB (P:=P) w t b (p+off) vs (O.agg w) (by rw[I];exact O.size w) (λj J=>by
    rw[I]at J;rw[L j J,UZ]
    exact q (off+j) AL)
   exact h
  simp only[Qe,Jy];have hlen:((cs.drop off).take n).length=n:=Eh
  have M:∀i,i<n->((cs.drop off).take n).getD i EN=cs.getD (off+i) EN:=by
   grind
  refine .agg _ vs (by rw[hlen,I]) (λi hi=>?_) (λi hi=>?_)
  ·rw[hlen]at hi;rw[M i hi];exact Y _ AL
  rw[hlen]at hi;rw[M i hi,L i hi];exact U _ AL
def aZD {cs:AA D}(I:Ep P t agg n)(J:off+n<=cs.length)(h1:agg=false->n=1)(L:o.op=.load t x:=by exact rfl):
 CG P o [(x,.d (.ref cs off))] es (.d (Qe agg cs off n)) es:=
 .pure λok H a w _ _ q=>by
  have j:=MG q;simp only at j;generalize M:a.eval x=u at j;cases j with
  |d _ _ h=>
   cases h with
   |ref _ _ b p O U Y Z=>
    obtain⟨v,hr,hd⟩:=a8Z I J h1 U Y Z;exact⟨v,by simp only[execOp,L,M,GL,hr,GY,Hg],.d _ _ hd⟩
def zG (l:AA Am):(Jl l).length=l.length:=by simp[Jl]
def aS4 {l:AA Am}{i:Nat}(h:i<l.length):(Jl l).getD i EN=(λ| .d x=>x|_=>EN) (l.getD i .junk):=by
 simp[Jl,List.getD,h]
def aKk (Y:Fh ok w H h (.box cs))(hd:cs.all Am.Dn=true):
 ∃b,h.v=.pointer (some ⟨b,0,none⟩)/\(∀i,i<(Jl cs).length->((Jl cs).getD i EN).leaf=true)/\(∀j,j<(Jl cs).length->(w.cell? ⟨b,0+j,none⟩).isSome=true)/\(∀j,j<(Jl cs).length->ET ok w ((Jl cs).getD j EN) (cellAt w b (0+j))):=by
 obtain⟨b,vs,T,h1,h2,h3,L⟩:=Y;rw[GK]at hd
 have q:∀j,j<cs.length->w.cell? ⟨b,0+j,none⟩=some (vs.toList.getD j undef):=by
  intro j I;rw[KW];have J:j<vs.size:=by simpa using(by omega:j<vs.toList.length)
  simp[World.cell?,h2,J,List.getD]
 refine⟨b,h1,λi hi=>?_,λj I=>?_,λj I=>?_⟩
 ·rw[zG]at hi;rw[aS4 hi];have M:=(L i hi).1;have O:=hd (cs.getD i .junk) OQ;cases U:cs.getD i .junk with
  |d x=>rw[U]at M;exact M
  |_=>rw[U]at O;simp[Am.Dn]at O
 ·rw[zG]at I;rw[q j I];rfl
 rw[zG]at I;rw[aS4 I];unfold cellAt;rw[q j I];exact(L j I).2.toD (hd (cs.getD j .junk) aG9)
def amH (U:es[k]? =some (.box cs))(hd:cs.all Am.Dn=true)(Y:Ep P t agg n)(Z:off+n<=cs.length)(h1:agg=false->n=1)(ho:o.op=.load t x:=by exact rfl):
 CG P o [(x,.ptr k off)] es (.d (Qe agg (Jl cs) off n)) es:=
 .pure λok H a w q hl I=>by
  have j:=MG I;simp only at j;generalize he:a.eval x=u at j;obtain⟨h,hh,J⟩:=Gy q hl U;obtain⟨b,L,hf,hx,hc⟩:=aKk J hd;cases j with
  |ptr _ _ b' s M=>
   rw[hh]at M;obtain rfl:=E9 M;simp at L;subst L;obtain⟨v,O,hD⟩:=a8Z Y (by rw[zG];exact Z) h1 hf hx hc;rw[KW]at O;exact⟨v,by simp only[execOp,ho,he,GL,O,GY,Hg],.d _ _ hD⟩
def aUq {v:Am}(Z:es[k]? =some (.box cs))(hv:cs[off]? =some v)(hT:Ep P t false 1)(ho:o.op=.load t x:=by exact rfl):CG P o [(x,.ptr k off)] es v es:=
 .pure λok H a w I hl L=>by
  have q:=MG L;simp only at q;generalize he:a.eval x=u at q;obtain⟨h,hh,b,vs,T,O,h2,h3,h4⟩:=Gy I hl Z;cases q with
  |ptr _ _ b' s U=>
   rw[hh]at U;obtain rfl:=E9 U;simp at O;subst O;obtain⟨J,M⟩:=H6.1 hv;have Y:=(h4 off J).2;have e1:cs.getD off .junk=v:=by simp[List.getD,J,M]
   have j:off<vs.size:=by simpa using(by omega:off<vs.toList.length)
   have e2:vs.toList.getD off undef=vs[off]:=wZ
   rw[e1,e2]at Y;refine⟨vs[off],?_,Y⟩;have hc:w.cell? ⟨b',off,none⟩=some vs[off]:=by simp[World.cell?,h2,j]
   simp[execOp,ho,he,Instr.loadAt,Instr.sureAddr,loadVar,hT.agg,hc]
variable {H':AA CB}
def E8.change (hm:E8 C ok H es w)(B:Nat->Prop)(hos:w'.os=w.os)(U:w'.tape=w.tape)(hout:w'.output=w.output)(q:w.heap.size<=w'.heap.size)(M:∀b,b<w.heap.size->¬B b->w'.heap[b]? =w.heap[b]?)(hB:∀b,B b->b<w.heap.size->¬ok b/\(C.w0.heap.size<=b\/b∈C.X))(hok:∀b,ok b->ok' b)(O:∀b,ok' b->ok b\/(w.heap.size<=b/\b<w'.heap.size))(J:Names H H')(hlen:H'.length=es'.length)(L:∀(k:Nat) (e:Bc) (h:CB),es'[k]? =some e->H'[k]? =some h->
  (es[k]? =some e/\H[k]? =some h/\(e.live=true->∀b,ED h.v=some b->¬B b))\/
  (Fh ok' w' H' h e/\(e.live=true->∀b,ED h.v=some b->¬ok' b/\b<w'.heap.size/\(C.w0.heap.size<=b\/b∈C.X)/\
   ∀(k':Nat) (e':Bc) (h':CB),k'≠k->es'[k']? =some e'->e'.live=true->H'[k']? =some h'->ED h'.v≠some b))):
 E8 C ok' H' es' w'/\FH ok w ok' w':=by
 have hg:FH ok w ok' w':=λb j=>⟨hok b j,M b (hm.kX b j) (λI=>(hB b I (hm.kX b j)).1 j)⟩
 refine⟨⟨⟨hos.trans hm.fr.os,U.trans hm.fr.tape,hout.trans hm.fr.output,FQ hm.fr.size q,λk hk hx=>?_⟩,λb j=>hok b (hm.AX b j),?_,?_,hm.names.trans J,hlen,?_,?_,?_⟩,hg⟩
 ·have hkw:k<w.heap.size:=WR hk hm.fr.size;rw[M k hkw (λj=>(hB k j hkw).2.elim (λh=>AL) hx)];exact hm.fr.block k hk hx
 ·intro b j;rcases O b j with h|⟨h,_⟩
  ·exact hm.AY b h
  exact .inr (.inl (FQ hm.fr.size h))
 ·intro b j;rcases O b j with h|⟨_,h⟩
  ·exact WR (hm.kX b h) q
  exact h
 ·intro k e h he hh;rcases L k e h he hh with⟨h1,h2,h3⟩|⟨h1,_⟩
  ·exact(hm.ent k e h h1 h2).mono hg J (λhl b j=>M b (hm.blk k e h b h1 hl h2 j).2.1 (h3 hl b j))
  exact h1
 ·intro k e h b he hl hh j;rcases L k e h he hh with⟨h1,h2,h3⟩|⟨_,h1⟩
  ·have :=hm.blk k e h b h1 hl h2 j;refine⟨λI=>?_,WR this.2.1 q,this.2.2⟩;rcases O b I with h4|⟨h4,_⟩
   ·exact this.1 h4
   omega
  exact⟨(h1 hl b j).1,(h1 hl b j).2.1,(h1 hl b j).2.2.1⟩
 intro k k' e e' h h' b he he' hl Y hh hh' j I;apply aAG;intro Z;rcases L k e h he hh with⟨h1,h2,h3⟩|⟨_,h1⟩
 ·rcases L k' e' h' he' hh' with⟨h1',h2',h3'⟩|⟨_,h1'⟩
  ·exact Z (hm.G8 k k' e e' h h' b h1 h1' hl Y h2 h2' j I)
  exact(h1' Y b I).2.2.2 k e h Z he hl hh j
 exact(h1 hl b j).2.2.2 k' e' h' (λe=>Z e.symm) he' Y hh' I
variable {l:AA α}
def a6K {i:Nat}{z:α}(h:i<l.length):l.getD i z=l[i]:=by simp[List.getD,h]
def Xc {a x:α}(h:(l++[a])[k]? =some x):l[k]? =some x\/(k=l.length/\x=a):=by
 grind
def E8.push (hm:E8 C ok H es w)(o:Obj)(h:CB)(e:Bc)(J:∀b,ED h.v=some b->b=w.heap.size)(he:Fh ok (w.alloc o) (H++[h]) h e):E8 C ok (H++[h]) (es++[e]) (w.alloc o)/\FH ok w ok (w.alloc o):=by
 refine hm.change (λ_=>False) rfl rfl rfl Bf (λb J _=>LX _ _ _ J) (λ_ h=>h.elim) (λ_ h=>h) (λ_ h=>.inl h) (IE _ _) fC ?_;intro k e' h' L q;rcases Xc L with h1|⟨h1,h2⟩
 ·left;refine⟨h1,?_,λ_ _ _ h=>h⟩;have hk:k<H.length:=aGG
  grind
 subst h2;have hk:k=H.length:=aFL
 subst hk;simp at q;subst q;refine .inr ⟨he,λ_ b M=>?_⟩;obtain rfl:=J b M;refine⟨λh3=>absurd (hm.kX _ h3) AL,Bf,.inl hm.fr.size,λk' O U hne Y hl j I=>?_⟩;rcases Xc Y with h3|⟨h3,_⟩
 ·have Z:k'<H.length:=by rw[hm.hlen];exact(H6.1 h3).1
  rw[KZ Z]at j;exact absurd (hm.blk k' O U _ h3 hl j I).2.1 AL
 grind
def E8.fresh (hm:E8 C ok H es w)(o:Obj):
 E8 C (λb=>ok b\/b=w.heap.size) H es (w.alloc o)/\FH ok w (λb=>ok b\/b=w.heap.size) (w.alloc o):=by
 refine hm.change (λ_=>False) rfl rfl rfl Bf (λb j _=>LX _ _ _ j) (λ_ h=>h.elim) (λ_ h=>.inl h) (λb h=>?_) (.refl _) hm.hlen ?_
 ·rcases h with h|rfl
  ·exact .inl h
  exact .inr ⟨Eo _,Bf⟩
 grind
def E8.drew (hm:E8 C ok H es w):E8 C ok H es w.drew/\FH ok w ok w.drew:=
 hm.change (λ_=>False) rfl rfl rfl (Eo _) (λ_ _ _=>rfl) (λ_ h=>h.elim) (λ_ h=>h) (λ_ h=>.inl h) (.refl _) hm.hlen λ_ _ _ j q=>.inl ⟨j,q,λ_ _ _ h=>h⟩
def Fh.dead:Fh ok w H h .dead:=trivial
def R.aoZ {x:Am}(h:R ok w H x v)(hl:x.cells.all Am.leaf=true):Fq ok w H x.cells v.cells.toList:=by
 rw[GK]at hl;cases h with
 |d x v h=>
  cases h with
  |agg cs vs hs J M=>
   refine⟨by simp[Am.cells,D.cells,Value.cells,hs],λi hi=>?_⟩;simp only[Am.cells,D.cells,DK]at hi;have O:(Am.cells (.d (.agg cs))).getD i .junk=.d (cs.getD i EN):=by simp[Am.cells,D.cells,List.getD,hi]
   have q:i<vs.size:=AL
   have L:(Value.cells (.agg vs)).toList.getD i undef=vs.getD i undef:=aLe
   rw[O,L];exact⟨J i hi,.d _ _ (M i hi)⟩
  |lit v=>
   have h1:=hl (.d (.lit v)) (by simp[Am.cells,D.cells]);have e:v.cells= #[v]:=by cases v<;>first|rfl|(simp[Am.leaf,D.leaf,Value.oneCell']at h1)
   refine⟨by simp[Am.cells,D.cells,e],λi hi=>?_⟩;simp[Am.cells,D.cells]at hi;subst hi;rw[e];exact⟨h1,.d _ _ (.lit v)⟩
  |sl0 ad cap=>
   refine⟨rfl,λi hi=>?_⟩;simp[Am.cells,D.cells]at hi;subst hi;exact⟨rfl,.d _ _ (.sl0 ad cap)⟩
  |sl es b off cap size h1 h2 h3 I U Y=>
   refine⟨rfl,λi hi=>?_⟩;simp[Am.cells,D.cells]at hi;subst hi;exact⟨rfl,.d _ _ (.sl es b off cap size h1 h2 h3 I U Y)⟩
  |ref cs off b o h1 h2 h3 I=>
   refine⟨rfl,λi hi=>?_⟩;simp[Am.cells,D.cells]at hi;subst hi;exact⟨rfl,.d _ _ (.ref cs off b o h1 h2 h3 I)⟩
  |fn f first cap vs us h1 h2 h3 I=>
   refine⟨rfl,λi hi=>?_⟩;simp[Am.cells,D.cells]at hi;subst hi;exact⟨rfl,.d _ _ (.fn f first cap vs us h1 h2 h3 I)⟩
  |TW t x v h1=>
   refine⟨rfl,λi hi=>?_⟩;simp[Am.cells,D.cells]at hi;subst hi;exact⟨rfl,.d _ _ (.TW t x v h1)⟩
 |ptr k off b s h=>
  exact⟨rfl,λi hi=>by simp[Am.cells]at hi;subst hi;exact⟨rfl,.ptr k off b s h⟩⟩
 |aQ k ad n cap s h=>
  exact⟨rfl,λi hi=>by simp[Am.cells]at hi;subst hi;exact⟨rfl,.aQ k ad n cap s h⟩⟩
 |lH k i off b n cap s h=>
  exact⟨rfl,λj hi=>by simp[Am.cells]at hi;subst hi;exact⟨rfl,.lH k i off b n cap s h⟩⟩
 |fn f first cap vs us h1 h2 h3 I=>
  exact⟨rfl,λi hi=>by simp[Am.cells]at hi;subst hi;exact⟨rfl,.fn f first cap vs us h1 h2 h3 I⟩⟩
 |mp k v s hl h=>
  have e:v.cells= #[v]:=by cases v<;>first|rfl|(simp[Value.oneCell']at hl)
  exact⟨by simp[Am.cells,e],λj hi=>by simp[Am.cells]at hi;subst hi;rw[e];exact⟨rfl,.mp k v s hl h⟩⟩
 |clip xs ad h=>exact⟨rfl,λi hi=>by simp[Am.cells]at hi;subst hi;exact⟨rfl,.clip xs ad h⟩⟩
 |yh k ad n cap s h=>exact⟨rfl,λi hi=>by simp[Am.cells]at hi;subst hi;exact⟨rfl,.yh k ad n cap s h⟩⟩
 |eu xs vs h1 h2=>have :=hl (.eu xs) (by simp[Am.cells]);simp[Am.leaf]at this
 |ag xs vs h1 J h2=>
  refine⟨by simp[Am.cells,Value.cells,h1],λi hi=>?_⟩;have q:i<vs.size:=by rw[h1];exact hi
  have L:(Value.cells (.agg vs)).toList.getD i undef=vs.getD i undef:=aLe
  rw[L];exact⟨J i hi,h2 i hi⟩
 |junk v=>have :=hl .junk (by simp[Am.cells]);simp[Am.leaf]at this
variable {ys:AA α}{z:BJ}
def a4H (w:BU):∀b,ED (CB.v ⟨.pointer (some ⟨w.heap.size,0,none⟩),0⟩)=some b->b=w.heap.size:=λb j=>by simpa[ED]using j.symm
def CG.eff {x:Am}(h:∀(C:FI) (ok:Nat->Prop) (H:AA CB) (a:Act) (w:BU),E8 C ok H es w->(∀n∈ns,R ok w H n.2 (a.eval n.1))->
  ∃v w' ok' H',((execOp a.eval o).run P w=.ok (.value v) w'\/(v=undef/\(execOp a.eval o).run P w=.ok .skip w'))/\FH ok w ok' w'/\Names H H'/\E8 C ok' H' es' w'/\R ok' w' H' x v):CG P o ns es x es':=by
 intro C ok H a w Q hm I;obtain⟨v,w',ok',H',j,h1,h2,h3,q⟩:=h C ok H a w hm I;unfold Oper.wp;rcases j with j|⟨rfl,j⟩
 ·rw[j];exact⟨v,ok',H',rfl,h1,h2,h3,q⟩
 rw[j];exact⟨undef,ok',H',rfl,h1,h2,h3,q⟩
def aaX {v:Am}(hl:v.cells.all Am.leaf=true)(q:o.op=.box t x:=by exact rfl):CG P o [(x,v)] es (.ptr es.length 0) (es++[.box v.cells]):=
 .eff λC ok H a w hm I=>by
  have h1:=MG I;simp only at h1
  have j:Fh ok (w.alloc (.cells (a.eval x).cells t)) (H++[⟨.pointer (some ⟨w.heap.size,0,none⟩),0⟩]) ⟨.pointer (some ⟨w.heap.size,0,none⟩),0⟩ (.box v.cells):=
   ⟨w.heap.size,(a.eval x).cells,t,rfl,WH w _,(h1.aoZ hl).mono (λb j=>⟨j,LX _ _ _ (hm.kX b j)⟩) (IE _ _)⟩
  obtain⟨h2,h3⟩:=hm.push (.cells (a.eval x).cells t) ⟨.pointer (some ⟨w.heap.size,0,none⟩),0⟩ _ (a4H w) j;refine⟨_,_,ok,_,.inl ?_,h3,IE _ _,h2,.ptr _ _ w.heap.size 0 Q8⟩;simp[execOp,q,Instr.box,newVar,newRow]
def Q7 :BJ->D
 | .slice none 0 0=>.sl []
 |v=>.lit v
def lM (v:BJ):ET ok w (Q7 v) v:=by
 unfold Q7;split
 ·exact .sl0 none 0
 exact .lit v
def yM (h:v.oneCell'=true):(Q7 v).leaf=true:=by
 unfold Q7;split
 ·rfl
 exact h
def Gg (z:BJ):AA Am:=z.cells.toList.map λv=>.d (Q7 v)
def afM (q:(P.info? t).bind (·.zero)=some z)(hl:z.cells.all (·.oneCell')=true)(I:o.op=.alloc t:=by exact rfl):CG P o [] es (.ptr es.length 0) (es++[.box (Gg z)]):=
 .eff λC ok H a w hm O=>by
  have J:Fh ok (w.alloc (.cells z.cells t)) (H++[⟨.pointer (some ⟨w.heap.size,0,none⟩),0⟩]) ⟨.pointer (some ⟨w.heap.size,0,none⟩),0⟩ (.box (Gg z)):=by
   refine⟨w.heap.size,z.cells,t,rfl,WH w _,by simp[Gg],λi hi=>?_⟩;simp only[Gg,DK,Vf]at hi;have L:(Gg z).getD i .junk=.d (Q7 z.cells[i]):=by simp[Gg,List.getD,hi]
   have M:z.cells.toList.getD i undef=z.cells[i]:=OQ
   rw[L,M];exact⟨yM ((Y5.1 hl) _ Bf),.d _ _ (lM _)⟩
  obtain⟨h2,h3⟩:=hm.push (.cells z.cells t) ⟨.pointer (some ⟨w.heap.size,0,none⟩),0⟩ _ (a4H w) J;refine⟨_,_,ok,_,.inl ?_,h3,IE _ _,h2,.ptr _ _ w.heap.size 0 Q8⟩;obtain⟨i,hi,j⟩:=nT.1 q;simp[execOp,I,Instr.alloc,zeroValue,typeInfo,hi,j,newVar,newRow]
def NU {l:AA Bc}{a x:Bc}(q:k<l.length)(h:(l.set k a)[j]? =some x):(j=k/\x=a)\/(j≠k/\l[j]? =some x):=by
 grind
def E8.upd (hm:E8 C ok H es w){U e:Bc}(hk:es[k]? =some U)(L:U.live=true)(hh:H[k]? =some h)(hb:ED h.v=some b)(hos:w'.os=w.os)(M:w'.tape=w.tape)(Y:w'.output=w.output)(hsize:w'.heap.size=w.heap.size)(J:∀c,c≠b->w'.heap[c]? =w.heap[c]?)(he:FH ok w ok w'->Fh ok w' H h e):E8 C ok H (es.set k e) w'/\FH ok w ok w':=by
 have Z:=hm.blk k U h b hk L hh hb;have hg:FH ok w ok w':=λc q=>⟨q,J c (λe=>Z.1 (e▸q))⟩
 refine hm.change (λc=>c=b) hos M Y AL (λc _ q=>J c q) (λc q _=>by subst q;exact⟨Z.1,Z.2.2⟩) (λ_ h=>h) (λ_ h=>.inl h) (.refl _) fC ?_;intro j e' h' hj I;have hkl:k<es.length:=(H6.1 hk).1;rcases NU hkl hj with⟨rfl,rfl⟩|⟨O,hj'⟩
 ·rw[hh]at I;obtain rfl:=E9 I;refine .inr ⟨he hg,λ_ c q=>?_⟩;rw[hb]at q;obtain rfl:=E9 q;refine⟨Z.1,AL,Z.2.2,λk' e'' h'' O hk' hl' aO5 aO6=>O ?_⟩;rcases NU hkl hk' with⟨rfl,_⟩|⟨_,hk''⟩
  ·rfl
  exact hm.G8 k' j e'' U h'' h b hk'' hk hl' L aO5 hh aO6 hb
 refine .inl ⟨hj',I,λhl c q hcb=>O ?_⟩;subst hcb;exact hm.G8 j k e' U h' h c hj' hk hl L I hh q hb
def aIU (w:BU)(g:Nat)(cs:Bh BJ)(k:Nat)(h:k≠g):(w.setRow g cs).heap[k]? =w.heap[k]? :=setRow_other w g k cs h
def setAt (cs:AA α)(off:Nat)(ys:AA α):AA α:=cs.take off++ys++cs.drop (off+ys.length)
def Tm {cs:AA α}(h:off+ys.length<=cs.length):(setAt cs off ys).length=cs.length:=by simp[setAt];omega
def aJ {cs:AA α}(h:off+ys.length<=cs.length)(i:Nat)(z:α):(setAt cs off ys).getD i z=if off<=i/\i<off+ys.length then ys.getD (i-off) z else cs.getD i z:=by
 unfold setAt;have h1:(cs.take off).length=off:=Eh
 by_cases hi:i<off
 ·grind
 by_cases j:i<off+ys.length
 ·rw[Dw AL];simp only[List.getD]
  grind
 rw[EC AL]
 grind
def aSS {v:Am}(hk:es[k]? =some (.box cs))(hl:v.cells.all Am.leaf=true)(hs:∀w,(sizeOf t).run P w=.ok n w)(hn:v.cells.length=n)(hle:off+n<=cs.length)(ho:o.op=.store t x y:=by exact rfl):
 CG P o [(x,.ptr k off),(y,v)] es .junk (es.set k (.box (setAt cs off v.cells))):=
 .eff λC ok H a w hm J=>by
  have h1:=(F9 J).1;have h2:=(F9 J).2;simp only at h1 h2;generalize he:a.eval x=u at h1;obtain⟨h,hh,Y⟩:=Gy hm.ent hm.hlen hk;obtain⟨b,vs,T,hb,q,L,M⟩:=Y;have j:=h2.aoZ hl;cases h1 with
  |ptr _ _ O s hH=>
   rw[hh]at hH;obtain rfl:=E9 hH;simp at hb;subst hb;have I:(a.eval y).cells.toList.length=n:=by rw[j.1,hn]
   have aVX:vs.size=cs.length:=kS
   have Z:(a.eval y).cells.size=n:=Q9
   have hst:=aFB (P:=P) O off T (a.eval y).cells.toList 0 vs w q (by rw[I];omega) (λu hu=>by
    obtain⟨i,hi,rfl⟩:=I8 hu;have U:=j.2 i (by rw[←j.1];exact hi);have :=U.2.leaf U.1
    rwa [a6K hi]at this)
   simp only[QI]at hst;have hlt:O<w.heap.size:=(Ic.1 q).1
   obtain⟨h3,h4⟩:=hm.upd (e:=.box (setAt cs off v.cells)) (w':=w.setRow O (vs.toList.take off++(a.eval y).cells.toList++vs.toList.drop (off+(a.eval y).cells.toList.length)).toArray) hk rfl hh rfl rfl rfl rfl aGd (λc hc=>aIU _ _ _ _ hc) (λhg=>by
    refine⟨O,_,T,rfl,a1y w O vs _ T (0,0) q,?_,λi hi=>?_⟩
    ·have e1:(vs.toList.take off++(a.eval y).cells.toList++vs.toList.drop (off+(a.eval y).cells.toList.length))=setAt vs.toList off (a.eval y).cells.toList:=rfl;rw[e1,a5D,Tm (by have :=vs.length_toList;omega),Tm AL];simpa using L
    have e1:(vs.toList.take off++(a.eval y).cells.toList++vs.toList.drop (off+(a.eval y).cells.toList.length))=setAt vs.toList off (a.eval y).cells.toList:=rfl;rw[Tm AL]at hi;rw[e1,a5D,aJ (by have :=vs.length_toList;omega),aJ AL,I,hn];split
    ·have U:=j.2 (i-off) AL;exact⟨U.1,U.2.mono hg (.refl _)⟩
    exact⟨(M i hi).1,(M i hi).2.mono hg (.refl _)⟩)
   refine⟨undef,_,ok,H,.inr ⟨rfl,?_⟩,h4,.refl _,h3,.junk _⟩;simp only[execOp,ho,he,Instr.storeAt,Instr.sureAddr,storeVar,GL,Hg,GY,hs,Z,ne_eq,not_true_eq_false,Ky,hst]
def UN (x:D)(es:AA D):flat (x::es)=x.cells.map .d++flat es:=Ud
def qM (xs ys:AA D):flat (xs++ys)=flat xs++flat ys:=Ud
def Tj {size:Nat}:∀{es:AA D},(∀x∈es,x.cells.length=size)->(flat es).length=es.length*size
 | [],_=>Ud
 |x::es,h=>by
  rw[UN,Em,DK,h x Bf,Tj (λy j=>h y (JX _ j)),H8,UM,Vy]
def flat_get {size:Nat}:∀{es:AA D},(∀x∈es,x.cells.length=size)->∀i j,i<es.length->j<size->(flat es).getD (i*size+j) .junk=.d ((es.getD i EN).cells.getD j EN)
 | [],_,i,j,hi,_=>Sj
 |x::es,h,0,j,_,q=>by
  have I:=h x Bf;rw[UN,aBW,KW]
  grind
 |x::es,h,i+1,j,hi,q=>by
  have I:=h x Bf;have J:=flat_get (λy L=>h y (JX _ L)) i j IQ q;rw[UN];simp only[List.getD]at J ⊢;rw[PL (by simp[I,UM];omega)]
  grind
variable {g m q:Nat}{ty:Bq}{xs ys:AA D}
structure Wj (w:World) (v:Value) (m size:Nat) (news:List Value):Prop where
 len:news.length=m*size
 one:∀u∈news,u.oneCell'=true
 at_:(∃ad c,v=.slice (some ad) m c/\∀(j:Nat) (u:Value),news[j]? =some u->w.cell? (ad.add j)=some u)\/(∃c,v=.slice none 0 c/\m=0)
def jK (H:AA CB)(h:ET ok w (.sl ys) v)(hs:∀x∈ys,x.cells.length=size):
 ∃I,Wj w v ys.length size I/\Fq ok w H (flat ys) I:=by
 cases h with
 |sl0 ad cap=>
  refine⟨[],⟨Bf,Bf,?_⟩,Ud,λi hi=>a7M⟩;cases ad with
  |none=>exact .inr ⟨cap,rfl,rfl⟩
  |some ad=>exact .inl ⟨ad,cap,rfl,λj u h=>Il⟩
 |sl _ b off cap q hcap hok hs' hf hx hc=>
  by_cases hy:ys=[]
  ·subst hy;refine⟨[],⟨Bf,Bf,.inl ⟨⟨b,off,none⟩,cap,rfl,λj u h=>Il⟩⟩,Ud,λi hi=>a7M⟩
  have L:0<ys.length:=qW.2 hy;have hsz:q=size:=by rw[←hs' 0 L];exact hs _ (by simp[List.getD,L])
  subst hsz;have hl:=Tj hs
  have key:∀k,k<ys.length*q->∃i j,k=i*q+j/\i<ys.length/\j<q:=by
   intro k J
   have hp:0<q:=by
    rcases bH q with h0|h0
    ·rw[h0,Nat.mul_zero]at J;omega
    exact h0
   exact⟨k/q,k % q,by rw[WL];exact(aBo k q).symm,uH (by rwa [WL]at J),rC _ hp⟩
  let I:AA BJ:=(List.range (ys.length*q)).map λk=>cellAt w b (off+k)
  have M:I.length=ys.length*q:=by simp[I]
  have U:∀k,k<ys.length*q->I.getD k undef=cellAt w b (off+k):=by
   intro k J;simp[I,List.getD,J]
  have O:Fq ok w H (flat ys) I:=by
   refine⟨by rw[M,hl],λk J=>?_⟩;rw[hl]at J;obtain⟨i,j,rfl,hi,Y⟩:=key k J;rw[flat_get hs i j hi Y,U _ J];exact⟨hf i hi j Y,.d _ _ (hc i hi j Y)⟩
  refine⟨I,⟨M,λu hu=>?_,.inl ⟨⟨b,off,none⟩,cap,rfl,λk u J=>?_⟩⟩,O⟩
  ·obtain⟨k,J,rfl⟩:=I8 hu;have h5:=O.2 k (by rw[←O.1];exact J);have :=h5.2.leaf h5.1
   rwa [a6K J]at this
  obtain⟨Z,rfl⟩:=H6.1 J;rw[addr_add];have hk2:k<ys.length*q:=by rw[←M];exact Z
  obtain⟨i,j,e,hi,Y⟩:=key k hk2;have hxx:=hx i hi j Y;rw[←e]at hxx;obtain⟨u',hu'⟩:=Ro.1 hxx;have :=U k hk2;rw[a6K Z]at this;rw[this];simp[cellAt,hu']
def an3 (he:Fh ok w H h (.arr e size ys)):∃q,Wj w h.v ys.length size q/\Fq ok w H (flat ys) q:=by
 obtain⟨h1,h2,xs,⟨h3,h4⟩,L⟩:=he;refine⟨xs,⟨h3,λu hu=>?_,?_⟩,L⟩
 ·obtain⟨k,hk,rfl⟩:=I8 hu;have I:=L.2 k (by rw[←L.1];exact hk);have :=I.2.leaf I.1
  grind
 rcases h4 with⟨I,Z⟩|⟨g,cap,M,I,Z,h8,h9,O,U,Y⟩
 ·grind
 refine .inl ⟨⟨g,0,none⟩,cap,I,λj u hj=>?_⟩;have J:lF w e size h.v ys.length xs:=⟨h3,.inr ⟨g,cap,M,I,Z,h8,h9,O,U,Y⟩⟩
 exact J.cells (g:=g) (by rw[I];rfl) j u hj
structure GX (P:Program) (t e:TypeId) (size bytes:Nat):Prop where
 und:P.underlying t=some (.slice e)
 info:∃i z,P.info? e=some i/\i.zero=some z/\i.size=size/\i.bytes=bytes/\z.cells.size=size
 pos:0<size
def aSH (P:Ch)(t e size j:Nat):Ac:=
 (match P.underlying t with |some (.slice e')=>e'=e|_=>false)&&(match P.info? e with |some i=>i.size=size&&(i.bytes=j)&&(match i.zero with |some z=>z.cells.size=size|none=>false)|none=>false)&&(0<size)
def KT {P:Ch}{t e:Nat}(h:aSH P t e size j=true):GX P t e size j:=by
 unfold aSH at h;simp only[Dx,Ik]at h;obtain⟨⟨h1,h2⟩,h3⟩:=h;refine⟨?_,?_,h3⟩
 ·split at h1
  ·rename_i e' I;rw[I];simp at h1;rw[h1]
  cases h1
 split at h2
 ·rename_i i hi;simp only[Dx,Ik]at h2;obtain⟨⟨J,L⟩,q⟩:=h2;split at q
  ·rename_i z M;exact⟨i,z,hi,M,J,L,WU⟩
  cases q
 cases h2
def akQ {O:Nat}(hE:GX P t e size O){xs:AA BJ}(L:w.ownsRow 0 e size v n xs){x:BJ}{I:AA BJ}(q:Wj w x m size I)(hb:(n+m)*O<=140737488355328)(hn:n+m<=maxLen):
 ∃v' w',(Builtin.append_ #[t,t] ty #[v,x]).run P w=.ok v' w'/\w'.ownsRow 0 e size v' (n+m) (xs++I)/\w.grownBy w' v.ownBlock/\(∀g,ED v'=some g->ED v=some g\/w.heap.size<=g):=by
 obtain⟨i,z,hi,hz,hs,Z,hzs⟩:=hE.info;rcases q.at_ with⟨ad,c,rfl,J⟩|⟨c,rfl,rfl⟩
 ·obtain⟨v',w',hr,ho',hg,hnil⟩:=run_append_own (P:=P) w 0 t ty e i z size O hE.und hi hz hs Z hzs hE.pos v n xs L ad m c I q.len J q.one hn hb (F6 _);refine⟨v',w',hr,ho',hg,λg U=>?_⟩;rcases L.2 with⟨rfl,rfl⟩|⟨g0,cap,cur,rfl,hbg,hg0,hnc,hcm,hcs,htake⟩
  ·have hx:xs=[]:=I4 (by simpa using L.1);subst hx;obtain⟨v2,w2,M,ho2,_,_⟩:=run_append_own (P:=P) w w.heap.size t ty e i z size O hE.und hi hz hs Z hzs hE.pos _ 0 [] (a9L w w.heap.size e size) ad m c I q.len J q.one hn hb (Eo _);rw[hr]at M;simp only[Result.ok.injEq]at M;obtain⟨rfl,rfl⟩:=M;rcases ho2.2 with⟨rfl,_⟩|⟨g',_,_,rfl,hle,_⟩
   ·simp[ED]at U
   simp[ED]at U;subst U;exact .inr hle
  by_cases Y:n+m<=cap
  ·have hfit:n*i.size+I.length<=cur.size:=by rw[q.len,hcs,hs,←jm];exact Ko _ Y
   have M:=run_append_room (P:=P) w t ty e i hE.und hi g0 n cap cur hg0 ad m c I (by rw[hs];exact q.len) J q.one Y hfit;rw[hr]at M;simp only[Result.ok.injEq]at M;obtain⟨rfl,rfl⟩:=M;exact .inl U
  have holds:∀(j:Nat) (u:BJ),xs[j]? =some u->w.cell? ((⟨g0,0,none⟩:Addr).add j)=some u:=L.cells (g:=g0) rfl;have M:=run_append_grow (P:=P) w t ty e i z hE.und hi hz ⟨g0,0,none⟩ n cap xs (by rw[hs];exact L.1) holds ad m c I (by rw[hs];exact q.len) J AL (by unfold maxLen at hn;omega) (growslice_fits AL (by rw[Z];exact hb));rw[hr]at M;simp only[Result.ok.injEq]at M;obtain⟨rfl,rfl⟩:=M;simp[ED]at U
  grind
 have hnews:I=[]:=I4 (by simpa using q.len);subst hnews;refine⟨v,w,?_,kS,⟨rfl,rfl,rfl,Eo _,λ_ _ _=>rfl⟩,λg hg=>.inl hg⟩;rcases L.2 with⟨rfl,rfl⟩|⟨g,cap,cur,rfl,_,_,hnc,_⟩
 ·simp[Builtin.append_,a3A hE.und,sizeOf,typeInfo,hi,Builtin.lenOf,Builtin.firstCells]
 simp[Builtin.append_,a3A hE.und,sizeOf,typeInfo,hi,Builtin.lenOf,Builtin.firstCells,hnc,storeCells]
def aDQ {J:Nat}(hE:GX P t e size J){xs:AA BJ}(I:lF w e size v n xs){x:BJ}{q:AA BJ}(j:Wj w x m size q)(hb:(n+m)*J<=140737488355328)(hn:n+m<=maxLen):
 ∃v' w',(Builtin.append_ #[t,t] ty #[v,x]).run P w=.ok v' w'/\lF w' e size v' (n+m) (xs++q)/\w.grownBy w' v.ownBlock/\(∀g,ED v'=some g->ED v=some g\/w.heap.size<=g):=by
 rcases I.2 with h|⟨g,cap,Y,rfl,h0,hg0,hnc,hcm,hcs,htake⟩
 ·obtain⟨v',w',h1,h2,h3,h4⟩:=akQ (ty:=ty) hE ⟨I.1,.inl h⟩ j hb hn;exact⟨v',w',h1,.of h2,h3,h4⟩
 obtain⟨i,z,hi,hz,hs,hby,hzs⟩:=hE.info;have hlen:(xs++q).length=(n+m)*size:=by rw[Em,I.1,j.len,jm]
 rcases j.at_ with⟨ad,c,rfl,M⟩|⟨c,rfl,rfl⟩
 ·by_cases L:n+m<=cap
  ·have U:n*i.size+q.length<=Y.size:=by
    rw[j.len,hs,←jm];exact FQ (Ko _ L) hcs
   have hr:=run_append_room (P:=P) w t ty e i hE.und hi g n cap Y hg0 ad m c q (by rw[hs];exact j.len) M j.one L U;rw[hs]at hr U;refine⟨_,_,hr,⟨hlen,.inr ⟨g,cap,_,rfl,F6 _,a1y w g Y _ e _ hg0,L,hcm,?_,?_⟩⟩,⟨rfl,rfl,rfl,Bf,λk _ hk=>setRow_other w g k _ (λe=>hk (by simp[Value.ownBlock,e]))⟩,λg' O=>.inl O⟩
   ·simp only[a7X,Em,HY,NV,Vf];omega
   grind
  obtain⟨v',w',h1,h2,h3⟩:=run_append_arg_grows (P:=P) w t ty e i z size J hE.und hi hz hs hby hzs hE.pos ⟨g,0,none⟩ n cap xs I.1 (I.cells (g:=g) rfl) ad m c q j.len M AL hn hb;refine⟨v',w',h1,.of h2,⟨h3.os,h3.tape,h3.output,h3.size,λk hk _=>h3.block k hk Bf⟩,λg' O=>.inr ?_⟩;rcases h2.2 with⟨rfl,_⟩|⟨g2,_,_,rfl,hle2,_⟩
  ·simp[ED]at O
  simp[ED]at O;subst O;exact hle2
 have Z:q=[]:=I4 (by simpa using j.len);subst Z;refine⟨.slice (some ⟨g,0,none⟩) n cap,w,?_,Q9,⟨rfl,rfl,rfl,Eo _,λ_ _ _=>rfl⟩,λg hg=>.inl hg⟩;simp[Builtin.append_,a3A hE.und,sizeOf,typeInfo,hi,Builtin.lenOf,Builtin.firstCells,hnc,storeCells]
def E8.turn (hm:E8 C ok H es w){e0 e:Bc}{h':CB}(hk:es[k]? =some e0)(U:e0.live=true)(hh:H[k]? =some h)(hos:w'.os=w.os)(Y:w'.tape=w.tape)(hout:w'.output=w.output)(Z:w.heap.size<=w'.heap.size)(M:∀c,c<w.heap.size->ED h.v≠some c->w'.heap[c]? =w.heap[c]?)(hb':∀g,ED h'.v=some g->g<w'.heap.size/\(ED h.v=some g\/w.heap.size<=g))(he:FH ok w ok w'->Fh ok w' (H++[h']) h' e):E8 C ok (H++[h']) (es.set k .dead++[e]) w'/\FH ok w ok w':=by
 have h0:=λb hb=>hm.blk k e0 h b hk U hh hb;have hkl:k<es.length:=(H6.1 hk).1;have hg:FH ok w ok w':=λc L=>⟨L,M c (hm.kX c L) (λe=>(h0 c e).1 L)⟩
 refine hm.change (λc=>ED h.v=some c) hos Y hout Z M (λc L _=>⟨(h0 c L).1,(h0 c L).2.2⟩) (λ_ h=>h) (λ_ h=>.inl h) (IE _ _) fC ?_;intro j e' hj' hj I;rcases Xc hj with h1|⟨h1,h2⟩
 ·have hjl:j<H.length:=by rw[hm.hlen];simpa using(H6.1 h1).1
  rw[KZ hjl]at I;rcases NU hkl h1 with⟨rfl,rfl⟩|⟨hne,h3⟩
  ·exact .inr ⟨trivial,λh=>GN⟩
  refine .inl ⟨h3,I,λhl c L hcb=>hne ?_⟩;exact hm.G8 j k e' e0 hj' h c h3 hk hl U I hh L hcb
 subst h2;have hk2:j=H.length:=by rw[hm.hlen];simpa using h1
 subst hk2;simp at I;subst I;refine .inr ⟨he hg,λ_ c L=>?_⟩;obtain⟨h3,q⟩:=hb' c L;refine⟨λhok=>?_,h3,?_,λk' e'' h'' hne hk' hl' J O=>?_⟩
 ·rcases q with q|q
  ·grind
  have :=hm.kX c hok;omega
 ·rcases q with q|q
  ·exact(h0 c q).2.2
  exact .inl (FQ hm.fr.size q)
 rcases Xc hk' with h5|⟨h5,_⟩
 ·have hkl':k'<H.length:=by rw[hm.hlen];simpa using(H6.1 h5).1
  rw[KZ hkl']at J;rcases NU hkl h5 with⟨rfl,rfl⟩|⟨hne',h6⟩
  ·cases hl'
  rcases q with q|q
  ·exact hne' (hm.G8 k' k e'' e0 h'' h c h6 hk hl' U J hh O q)
  have :=(hm.blk k' e'' h'' c h6 hl' J O).2.1;omega
 grind
def a08 {e:Nat}{xs:AA BJ}(h:lF w e size v n xs)(j:ED v=some g):g<w.heap.size:=by
 rcases h.2 with⟨rfl,_⟩|⟨I,_,_,rfl,_,q,_⟩
 ·simp[ED]at j
 simp[ED]at j;subst j;exact(Ic.1 q).1
def aRa {e:Nat}{xs:AA BJ}(h:lF w e size v n xs):v.ownBlock=ED v:=by
 rcases h.2 with⟨rfl,_⟩|⟨j,_,_,rfl,_⟩<;>rfl
def P5 (j:R ok w H (.aQ k) v)(q:H[k]? =some h):v=h.v:=by
 cases j with
 |aQ _ ad n cap s I=>
  grind
def aLr (hm:E8 C ok H es w)(hE:GX P t e size q)(hk:es[k]? =some (.arr e size xs)){x:BJ}(hv:R ok w H (.aQ k) v){j:AA BJ}(O:Wj w x ys.length size j)(L:Fq ok w H (flat ys) j)(hys:∀y∈ys,y.cells.length=size)(hb:(xs.length+ys.length)*q<=140737488355328)(hn:xs.length+ys.length<=maxLen):
 ∃v' w' H',(Builtin.append_ #[t,t] ty #[v,x]).run P w=.ok v' w'/\FH ok w ok w'/\Names H H'/\E8 C ok H' (es.set k .dead++[.arr e size (xs++ys)]) w'/\R ok w' H' (.aQ es.length) v':=by
 obtain⟨h,hh,hok⟩:=Gy hm.ent hm.hlen hk;obtain rfl:=P5 hv hh;obtain⟨h1,h2,Dl,J,hrs⟩:=hok;obtain⟨v',w',hr,M,U,Y⟩:=aDQ (P:=P) (ty:=ty) hE J O hb hn
 obtain⟨h3,h4⟩:=hm.turn (h':=⟨v',size⟩) (e:=.arr e size (xs++ys)) hk rfl hh U.os U.tape U.output U.size (λc hc hne=>U.block c hc aNb) (λg Z=>⟨a08 M Z,Y g Z⟩) (λhgr=>by
  refine⟨rfl,λy hy=>?_,Dl++j,oI,?_⟩
  ·rcases KG.1 hy with h|h
   ·exact h2 y h
   exact hys y h
  have a1:=hrs.mono hgr (IE H [⟨v',size⟩]);have a2:=L.mono hgr (IE H [⟨v',size⟩]);rw[qM];refine⟨by rw[Em,Em,a1.1,a2.1],λi hi=>?_⟩;by_cases I:i<(flat xs).length
  ·have e1:(flat xs++flat ys).getD i .junk=(flat xs).getD i .junk:=aIC
   have e2:(Dl++j).getD i undef=Dl.getD i undef:=by simp[List.getD,KZ (by rw[a1.1];exact I:i<Dl.length)]
   rw[e1,e2];exact a1.2 i I
  have hi3:i-(flat xs).length<(flat ys).length:=aII
  have e1:(flat xs++flat ys).getD i .junk=(flat ys).getD (i-(flat xs).length) .junk:=by simp[List.getD,PL (Yo I)]
  have e2:(Dl++j).getD i undef=j.getD (i-(flat xs).length) undef:=by simp[List.getD,PL (by rw[a1.1];omega:Dl.length<=i),a1.1]
  rw[e1,e2];exact a2.2 _ hi3)
 refine⟨v',w',_,hr,h4,IE _ _,h3,?_⟩;have hH:(H++[(⟨v',size⟩:CB)])[es.length]? =some ⟨v',size⟩:=Q8
 rcases M.2 with⟨rfl,_⟩|⟨g',c',_,rfl,_⟩
 ·exact .aQ _ _ _ _ size hH
 exact .aQ _ _ _ _ size hH
def afP {s:Bz}(hE:GX P t e size j)(U:es[k]? =some (.arr e size xs))(q:∀y∈ys,y.cells.length=size)(Y:(xs.length+ys.length)*j<=140737488355328)(Z:xs.length+ys.length<=maxLen)(ho:o.op=.call { callee:=.builtin .append,args:= #[s,x],argTypes:= #[t,t] }:=by exact rfl):
 CG P o [(s,.aQ k),(x,.d (.sl ys))] es (.aQ es.length) (es.set k .dead++[.arr e size (xs++ys)]):=
 .eff λC ok H a w hm I=>by
  have h1:=(F9 I).1;have h2:=(F9 I).2;simp only at h1 h2;have L:ET ok w (.sl ys) (a.eval x):=by cases h2 with |d _ _ h=>exact h
  obtain⟨O,J,M⟩:=jK H L q;obtain⟨v',w',H',hr,r1,r2,r3,r4⟩:=aLr (ty:=o.type) hm hE U h1 J M q Y Z;refine⟨v',w',ok,H',.inl ?_,r1,r2,r3,r4⟩;simp[execOp,ho,resolve,invoke,builtin,hr]
def aop {s:Bz}(hE:GX P t e size q)(U:es[k]? =some (.arr e size xs))(Y:es[j]? =some (.arr e size ys))(Z:(xs.length+ys.length)*q<=140737488355328)(hn:xs.length+ys.length<=maxLen)(ho:o.op=.call { callee:=.builtin .append,args:= #[s,x],argTypes:= #[t,t] }:=by exact rfl):
 CG P o [(s,.aQ k),(x,.aQ j)] es (.aQ es.length) (es.set k .dead++[.arr e size (xs++ys)]):=
 .eff λC ok H a w hm J=>by
  have h1:=(F9 J).1;have h2:=(F9 J).2;simp only at h1 h2;obtain⟨h,hh,L⟩:=Gy hm.ent hm.hlen Y;have he:=P5 h2 hh;obtain⟨O,I,M⟩:=an3 L;rw[←he]at I;obtain⟨v',w',H',hr,r1,r2,r3,r4⟩:=aLr (ty:=o.type) hm hE U h1 I M L.2.1 Z hn;refine⟨v',w',ok,H',.inl ?_,r1,r2,r3,r4⟩;simp[execOp,ho,resolve,invoke,builtin,hr]
def a2n (hm:E8 C ok H es w)(e:Bq)(size:Nat):
 E8 C ok (H++[⟨.slice none 0 0,size⟩]) (es++[.arr e size []]) w/\R ok w (H++[⟨.slice none 0 0,size⟩]) (.aQ es.length) (.slice none 0 0):=by
 obtain⟨h,_⟩:=hm.change (ok':=ok) (w':=w) (H':=H++[⟨.slice none 0 0,size⟩]) (es':=es++[.arr e size []]) (λ_=>False) rfl rfl rfl (Eo _) (λ_ _ _=>rfl) (λ_ h=>h.elim) (λ_ h=>h) (λ_ h=>.inl h) (IE _ _) fC (by
  intro k e' h' q j;rcases Xc q with h1|⟨h1,h2⟩
  ·have I:k<H.length:=aGG
   rw[KZ I]at j;exact .inl ⟨h1,j,λ_ _ _ h=>h⟩
  subst h2;have I:k=H.length:=aFL
  subst I;simp at j;subst j
  exact .inr ⟨⟨rfl,Bf,[],⟨Bf,.inl ⟨rfl,rfl⟩⟩,Ud,λi hi=>a7M⟩,λ_ b J=>by simp[ED]at J⟩)
 exact⟨h,.aQ _ _ _ _ size Q8⟩
def C9 (e:Bq)(size:Nat)(j:o.op=.assign (.const (.slice none 0 0)):=by exact rfl):CG P o [] es (.aQ es.length) (es++[.arr e size []]):=
 .eff λC ok H a w hm _=>by
  obtain⟨h1,h2⟩:=a2n hm e size;exact⟨.slice none 0 0,w,ok,_,.inl aGB,.refl _ _,IE _ _,h1,h2⟩
def ahS (j:o.op=.assign (.const (.slice none 0 0)):=by exact rfl):CG P o [] es (.d (.sl [])) es:=
 .pure λ_ _ a w _ _ _=>⟨.slice none 0 0,aGB,.d _ _ (.sl0 none 0)⟩
def agS (j:o.op=.move (.const (.slice none 0 0)):=by exact rfl):CG P o [] es (.d (.sl [])) es:=
 .pure λ_ _ a w _ _ _=>⟨.slice none 0 0,aGB,.d _ _ (.sl0 none 0)⟩
def aMK (off:Nat):∀(vs:AA BJ) (i:Nat) (cells:Bh BJ),off+i+vs.length<=cells.size->
 ((vs.zipIdx i).foldl (λcs (p:BJ×Nat)=>cs.setIfInBounds (off+p.2) p.1) cells).toList=setAt cells.toList (off+i) vs
 | [],i,cells,h=>by simp[setAt]
 |v::vs,i,cells,h=>by
  simp only[H8]at h;rw[List.zipIdx_cons,Hy];rw[aMK off vs (i+1) _ Eh];simp only[aCD];have j:off+i<cells.toList.length:=Eh
  unfold setAt;rw[aEg,Dw j];have h1:(cells.toList.take (off+i)).length=off+i:=Eh
  have q:(List.take (off+i) cells.toList++v::List.drop (off+i+1) cells.toList).take (off+(i+1))=cells.toList.take (off+i)++[v]:=by
   grind
  have I:(List.take (off+i) cells.toList++v::List.drop (off+i+1) cells.toList).drop (off+(i+1)+vs.length)=cells.toList.drop (off+i+(vs.length+1)):=by
   rw[List.drop_append,h1,a1F AL];have :off+(i+1)+vs.length-(off+i)=vs.length+1:=AL
   rw[this];simp[aG2];congr 1;omega
  rw[q,I];simp
def Ot :AA (Nat×Bz)->AA Am->AA (Bz×Am)
 |(_,x)::j,v::vs=>(x,v)::Ot j vs
 |_,_=>[]
def OV (place:Nat->AB (Nat×Nat))(n:Nat):AA (Nat×Bz)->AA Am->Ac
 |(i,_)::j,v::vs=>(match place i with |some (off,s)=>v.cells.length=s&&(off+s<=n)&&v.cells.all Am.leaf|none=>false)&&OV place n j vs
 | [],[]=>true
 |_,_=>false
def LY (place:Nat->AB (Nat×Nat)):AA Am->AA (Nat×Bz)->AA Am->AA Am
 |cs,(i,_)::j,v::vs=>LY place (setAt cs ((place i).getD (0,0)).1 v.cells) j vs
 |cs,_,_=>cs
variable {us vs:AA BJ}
def Fq.setAt {ys:AA Am}(h:Fq ok w H cs vs)(k:Fq ok w H ys us)(j:off+ys.length<=cs.length):Fq ok w H (setAt cs off ys) (setAt vs off us):=by
 refine⟨by rw[Tm (by rw[h.1,k.1];exact j),Tm j,h.1],λi hi=>?_⟩;rw[Tm j]at hi;rw[aJ j,aJ (by rw[h.1,k.1];exact j),k.1];split
 ·exact k.2 _ AL
 exact h.2 i hi
def uZ {ok:Nat->Prop}{w:BU}{H:AA CB}{place:Nat->AB (Nat×Nat)}{a:Act}:∀(q:AA (Nat×Bz)) (vs:AA Am) (cs:AA Am) (cells:Bh BJ),Fq ok w H cs cells.toList->OV place cs.length q vs=true->
 (∀n∈Ot q vs,R ok w H n.2 (a.eval n.1))->∃j,Instr.fill place cells (q.map λp=>(p.1,a.eval p.2))=some j/\Fq ok w H (LY place cs q vs) j.toList
 | [],[],cs,cells,L,_,_=>⟨cells,rfl,L⟩
 | [],_::_,_,_,_,h,_=>by simp[OV]at h
 |_::_,[],_,_,_,h,_=>by simp[OV]at h
 |(i,x)::q,v::vs,cs,cells,L,h,O=>by
  simp only[OV,Dx]at h;obtain⟨h1,h2⟩:=h;cases hp:place i with
  |none=>
   grind
  |some os=>
   obtain⟨off,s⟩:=os;rw[hp]at h1;simp only[Dx,Ik]at h1;obtain⟨⟨h3,h4⟩,Z⟩:=h1;have U:Fq ok w H v.cells (a.eval x).cells.toList:=(O (x,v) (by simp[Ot])).aoZ Z;have hsz:(a.eval x).cells.size=s:=by have :=U.1;simp at this;omega
   have Y:cells.size=cs.length:=by simpa using L.1
   have I:((a.eval x).cells.zipIdx.foldl (λcs (p:BJ×Nat)=>cs.setIfInBounds (off+p.2) p.1) cells).toList=setAt cells.toList off (a.eval x).cells.toList:=by
    rw[←Array.foldl_toList,Array.toList_zipIdx];exact aMK off (a.eval x).cells.toList 0 cells Eh
   have J:=L.setAt U (off:=off) AL;rw[←I]at J;obtain⟨j,hc,hR⟩:=uZ q vs (setAt cs off v.cells) _ J (by rw[Tm AL];exact h2) (λn M=>O n (by simp[Ot,M]));refine⟨j,?_,?_⟩
   ·simp only[JE,Instr.fill,hp];rw[EC Eh];exact hc
   simp only[LY,hp,OI];exact hR
def TB (z:BJ)(n:Nat):AA Am:=(List.range n).map λk=>(Gg z).getD (k % z.cells.size) .junk
def acK (hl:z.cells.all (·.oneCell')=true)(q:0<z.cells.size):Fq ok w H (TB z n) (((Array.range n).map (z.cells[· % z.cells.size]!)).toList):=by
 refine⟨by simp[TB],λi hi=>?_⟩;have j:i<n:=by simpa[TB]using hi
 have hm:i % z.cells.size<z.cells.size:=rC _ q;have I:(TB z n).getD i .junk=.d (Q7 z.cells[i % z.cells.size]):=by simp[TB,Gg,List.getD,j,hm]
 have J:(((Array.range n).map (z.cells[· % z.cells.size]!)).toList).getD i undef=z.cells[i % z.cells.size]:=by simp[List.getD,j,hm]
 rw[I,J];exact⟨yM ((Y5.1 hl) _ Bf),.d _ _ (lM _)⟩
def aIW (hl:z.cells.all (·.oneCell')=true):Fq ok w H (Gg z) z.cells.toList:=by
 refine⟨by simp[Gg],λi hi=>?_⟩;simp only[Gg,DK,Vf]at hi;have j:(Gg z).getD i .junk=.d (Q7 z.cells[i]):=by simp[Gg,List.getD,hi]
 have q:z.cells.toList.getD i undef=z.cells[i]:=OQ
 rw[j,q];exact⟨yM ((Y5.1 hl) _ Bf),.d _ _ (lM _)⟩
def aHA {P:Ch}{w:BU}:∀(l:AA Field),(∀f∈l,(P.info? f.type).isSome=true)->
 (l.mapM λf=>(do pure (f.offset,←sizeOf f.type):Sem (Nat×Nat))).run P w=.ok (l.map λf=>(f.offset,P.cellsOf f.type)) w
 | [],_=>rfl
 |f::l,h=>by
  obtain⟨i,hi⟩:=Ro.1 (h f Bf);have j:=aHA (P:=P) (w:=w) l (λg q=>h g ku);have hs:(sizeOf f.type).run P w=.ok i.size w:=by simp[sizeOf,typeInfo,hi]
  have I:P.cellsOf f.type=i.size:=by simp[Program.cellsOf,hi]
  simp only[List.mapM_cons,GL,hs,GY,Hg,j,JE,I]
structure JZ (P:Program) (t:TypeId) (places:List (Nat×Nat)) (z:Value):Prop where
 fields:∃fs,P.underlying t=some (.struct fs)/\(∀f∈fs.toList,(P.info? f.type).isSome=true)/\(fs.toList.map λf=>(f.offset,P.cellsOf f.type))=places
 zero:(P.info? t).bind (·.zero)=some z
 one:z.cells.all (·.oneCell')=true
def aS3 (P:Ch)(t:Bq)(j:AA (Nat×Nat)):Ac:=
 match P.underlying t with
 |some (.struct fs)=>fs.toList.all (λf=>(P.info? f.type).isSome)&&decide ((fs.toList.map λf=>(f.offset,P.cellsOf f.type))=j)
 |_=>false
variable {j:AA (Nat×Nat)}
def MI (h:aS3 P t j=true)(q:(P.info? t).bind (·.zero)=some z)(h1:z.cells.all (·.oneCell')=true):JZ P t j z:=by
 unfold aS3 at h;split at h
 ·rename_i fs I;simp only[Dx,GK,Ik]at h;exact⟨⟨fs,I,h.1,h.2⟩,q,h1⟩
 cases h
variable {j q:Bh (Nat×Bz)}{len:Nat}
def a3t (q:(P.info? t).bind (·.zero)=some z)(w:BU):(zeroValue t).run P w=.ok z w:=by
 obtain⟨i,hi,j⟩:=nT.1 q;simp[zeroValue,typeInfo,hi,j]
def aLd {l:AA Am}(h:l.all Am.Dn=true):l=(Jl l).map .d:=by
 rw[GK]at h;unfold Jl;rw[Y1]
 conv=>lhs;rw[←vN l]
 refine aCJ λx j=>?_;have :=h x j;cases x<;>first|rfl|(simp[Am.Dn]at this)
def aYq {j:AA (Nat×Nat)}(Z:JZ P t j z)(vs:AA Am)(hp:OV (λ(i:Nat)=>j[i]?) (Gg z).length q.toList vs=true)(ho:o.op=.build t q:=by exact rfl):
 CG P o (Ot q.toList vs) es (.ag (LY (λ(i:Nat)=>j[i]?) (Gg z) q.toList vs)) es:=
 .pure λok H a w _ _ hn=>by
  obtain⟨⟨fs,hu,hf,L⟩,hz,h1⟩:=Z;have M:=a3t (P:=P) hz w;have O:(underlying t).run P w=.ok (.struct fs) w:=a5m
  have hm:(fs.mapM λf=>(do pure (f.offset,←sizeOf f.type):Sem (Nat×Nat))).run P w=.ok j.toArray w:=by
   rw[aDs];rw[OnA,aHA _ hf,L];rfl
  obtain⟨I,hc,J⟩:=uZ (place:=λ(i:Nat)=>j[i]?) q.toList vs (Gg z) z.cells (aIW (ok:=ok) (w:=w) (H:=H) h1) hp hn;refine⟨.agg I,?_,.ag _ _ (by simpa using J.1) (λi hi=>(J.2 i hi).1) (λi hi=>?_)⟩
  rotate_left
  ·have h3:=(J.2 i hi).2;have U:i<I.size:=by have :=J.1;simp at this;omega
   have Y:I.toList.getD i undef=I.getD i undef:=by simp[List.getD,Array.getD,U]
   grind
  have e:(q.map λ(i,x)=>(i,a.eval x)).toList=q.toList.map λp=>(p.1,a.eval p.2):=Bf
  have Y:(λ(i:Nat)=>j.toArray[i]?)=(λ(i:Nat)=>j[i]?):=by funext i;simp
  simp only[execOp,ho,Instr.build,GL,M,O,hm,GY];rw[e,Y,hc];rfl
def ako {j:AA (Nat×Nat)}(hS:JZ P t j z)(vs:AA Am)(hp:OV (λ(i:Nat)=>j[i]?) (Gg z).length q.toList vs=true)(hd:(LY (λ(i:Nat)=>j[i]?) (Gg z) q.toList vs).all Am.Dn=true)(ho:o.op=.build t q:=by exact rfl):
 CG P o (Ot q.toList vs) es (.d (.agg (Jl (LY (λ(i:Nat)=>j[i]?) (Gg z) q.toList vs)))) es:=
 .pure λok H a w _ _ hn=>by
  obtain⟨⟨fs,hu,hf,J⟩,hz,h1⟩:=hS;have L:=a3t (P:=P) hz w;have M:(underlying t).run P w=.ok (.struct fs) w:=a5m
  have hm:(fs.mapM λf=>(do pure (f.offset,←sizeOf f.type):Sem (Nat×Nat))).run P w=.ok j.toArray w:=by
   rw[aDs];rw[OnA,aHA _ hf,J];rfl
  obtain⟨I,hc,O⟩:=uZ (place:=λ(i:Nat)=>j[i]?) q.toList vs (Gg z) z.cells (aIW (ok:=ok) (w:=w) (H:=H) h1) hp hn;refine⟨.agg I,?_,.d _ _ ?_⟩
  ·have e:(q.map λ(i,x)=>(i,a.eval x)).toList=q.toList.map λp=>(p.1,a.eval p.2):=Bf
   have e2:(λ(i:Nat)=>j.toArray[i]?)=(λ(i:Nat)=>j[i]?):=by funext i;simp
   simp only[execOp,ho,Instr.build,GL,L,M,hm,GY];rw[e,e2,hc];rfl
  rw[aLd hd]at O;generalize Jl (LY (λ(i:Nat)=>j[i]?) (Gg z) q.toList vs)=xs at O ⊢;obtain⟨h2,h3⟩:=O;simp only[DK]at h2 h3
  have hg:∀i,i<xs.length->(xs.map Am.d).getD i .junk=.d (xs.getD i EN):=by
   grind
  have U:I.size=xs.length:=LC
  refine .agg xs I U ?_ ?_<;>intro i hi
  ·have :=(h3 i hi).1;rw[hg i hi]at this;exact this
  have Y:=(h3 i hi).2;rw[hg i hi]at Y;have Z:i<I.size:=AL
  have e:I.toList.getD i undef=I.getD i undef:=by simp[List.getD,Array.getD,Z]
  rw[e]at Y;cases Y with |d _ _ h=>exact h
def abb {cells:Bh BJ}{fr:Nat×Nat}(I:∀y∈ys,y.cells.length=size)(U:w.heap[b]? =some (.cells cells e fr))(J:ok b)(L:Fq ok w H (flat ys) cells.toList):
 ET ok w (.sl ys) (.slice (some ⟨b,0,none⟩) ys.length ys.length):=by
 have hl:=Tj I;have M:cells.size=ys.length*size:=by have :=L.1;simp at this;omega
 have Y:∀i,i<ys.length->ys.getD i EN∈ys:=λi hi=>OQ
 have O:∀i j,i<ys.length->j<size->i*size+j<ys.length*size:=by
  intro i j hi q
  calc i*size+j<i*size+size:=AL
   _=(i+1)*size:=by rw[UM]
   _<=ys.length*size:=Ko _ hi
 have Z:∀i j,i<ys.length->j<size->w.cell? ⟨b,0+(i*size+j),none⟩=some (cells.toList.getD (i*size+j) undef):=by
  intro i j hi q;have :=O i j hi q;rw[KW];simp[World.cell?,U,M,this,List.getD]
 refine .sl ys b 0 ys.length size (Eo _) (λ_ _=>J) (λi hi=>I _ (Y i hi)) (λi hi j q=>?_) (λi hi j q=>?_) (λi hi j q=>?_)
 ·have :=(L.2 (i*size+j) (by rw[hl];exact O i j hi q)).1;rw[flat_get I i j hi q]at this;exact this
 ·grind
 have :=(L.2 (i*size+j) (by rw[hl];exact O i j hi q)).2;rw[flat_get I i j hi q]at this;unfold cellAt;rw[Z i j hi q];cases this with |d _ _ h=>exact h
def aOK {I:Nat}(hE:GX P t e size I)(hz:(P.info? e).bind (·.zero)=some z)(h1:z.cells.all (·.oneCell')=true)(Z:z.cells.size=size)(hlen:len*size<=16777216){vs:AA Am}(hp:OV (λi=>some (i*size,size)) (len*size) j.toList vs=true)(hn:∀n∈Ot j.toList vs,R ok w H n.2 (a.eval n.1)):
 ∃cells,(Instr.buildSlice t len (j.map λ(i,x)=>(i,a.eval x))).run P w=.ok (.slice (some ⟨w.heap.size,0,none⟩) len len) (w.alloc (.cells cells e))/\Fq ok w H (LY (λi=>some (i*size,size)) (TB z (len*size)) j.toList vs) cells.toList:=by
 obtain⟨i,z',hi,_,hs,_,_⟩:=hE.info;have hzr:=a3t (P:=P) hz w;have J:(sizeOf e).run P w=.ok size w:=aHu
 have L:(underlying t).run P w=.ok (.slice e) w:=aEQ
 have e0:(j.map λ(i,x)=>(i,a.eval x)).toList=j.toList.map λp=>(p.1,a.eval p.2):=Bf
 have hzl:(TB z (len*size)).length=len*size:=by simp[TB]
 have M:0<z.cells.size:=by rw[Z];exact hE.pos
 obtain⟨q,hc,hR⟩:=uZ (place:=λi=>some (i*size,size)) j.toList vs (TB z (len*size)) _ (acK (ok:=ok) (w:=w) (H:=H) (n:=len*size) h1 M) (by rw[hzl];exact hp) hn;refine⟨q,?_,hR⟩;have O:¬(len*size>2^24):=AL
 by_cases U:len*size=0
 ·have hr0:(Array.range (len*size)).map (λk=>(z.cells[k % z.cells.size]! :BJ))= #[]:=by rw[U];simp
  rw[hr0]at hc;have Y:(Array.range (len*size)).map (λk=>((#[]:Bh BJ)[k % (#[]:Bh BJ).size]! :BJ))= #[]:=by rw[U];simp
  simp only[Instr.buildSlice,GL,L,GY,J,O,Ky,Sem.run_ite,U,Jy,Hg];simp only[U]at Y;rw[Y,e0,hc];rfl
 simp only[Instr.buildSlice,GL,L,GY,J,O,Ky,Sem.run_ite,U,hzr,Hg];rw[e0,hc];rfl
def aBa {q:Nat}(hE:GX P t e size q)(O:(P.info? e).bind (·.zero)=some z)(h1:z.cells.all (·.oneCell')=true)(L:z.cells.size=size)(hlen:len*size<=16777216)(vs:AA Am)(ys:AA D)(hp:OV (λi=>some (i*size,size)) (len*size) j.toList vs=true)(M:LY (λi=>some (i*size,size)) (TB z (len*size)) j.toList vs=flat ys)(hl:ys.length=len)(I:ys.all (λy=>y.cells.length=size)=true)(U:o.op=.buildSlice t len j:=by exact rfl):
 CG P o (Ot j.toList vs) es (.d (.sl ys)) es:=
 .eff λC ok H a w hm Y=>by
  obtain⟨cells,Z,J⟩:=aOK hE O h1 L hlen hp Y;rw[M]at J;obtain⟨h2,h3⟩:=hm.fresh (.cells cells e);refine⟨.slice (some ⟨w.heap.size,0,none⟩) len len,_,_,H,.inl ?_,h3,.refl _,h2,.d _ _ ?_⟩
  ·simp only[execOp,U,GL,Z,GY,Hg]
  rw[←hl];exact abb (H:=H) (λy M=>by rw[GK]at I;simpa using I y M) (WH w _) (.inr rfl) (J.mono h3 (.refl _))
def a6x {q:Nat}(hE:GX P t e size q)(hz:(P.info? e).bind (·.zero)=some z)(h1:z.cells.all (·.oneCell')=true)(Y:z.cells.size=size)(hlen:len*size<=16777216)(vs:AA Am)(ys:AA D)(hp:OV (λi=>some (i*size,size)) (len*size) j.toList vs=true)(Z:LY (λi=>some (i*size,size)) (TB z (len*size)) j.toList vs=flat ys)(hl:ys.length=len)(J:ys.all (λy=>y.cells.length=size)=true)(ho:o.op=.buildSlice t len j:=by exact rfl):
 CG P o (Ot j.toList vs) es (.aQ es.length) (es++[.arr e size ys]):=
 .eff λC ok H a w hm hn=>by
  obtain⟨cells,hr,I⟩:=aOK hE hz h1 Y hlen hp hn;rw[Z]at I;have L:∀y∈ys,y.cells.length=size:=λy Z=>by rw[GK]at J;simpa using J y Z
  have hfl:=Tj L;have M:cells.size=ys.length*size:=by have :=I.1;simp at this;omega
  have O:=hE.pos
  have hmax:ys.length<=16777216:=by
   have :ys.length*1<=ys.length*size:=Nat.mul_le_mul_left _ O
   grind
  obtain⟨h2,h3⟩:=hm.push (.cells cells e) ⟨.slice (some ⟨w.heap.size,0,none⟩) len len,size⟩ (.arr e size ys) (λb U=>by simpa[ED]using U.symm) (by
   refine⟨rfl,L,cells.toList,⟨oI,.inr ⟨w.heap.size,len,cells,by rw[hl],F6 _,WH w _,AL,wJ,iW (by rw[M,hl]),?_⟩⟩,?_⟩
   ·rw[Un Eh]
   exact I.mono (λb U=>⟨U,LX _ _ _ (hm.kX b U)⟩) (IE _ _))
  refine⟨.slice (some ⟨w.heap.size,0,none⟩) len len,_,ok,_,.inl ?_,h3,IE _ _,h2,.aQ _ _ _ _ size Q8⟩;simp only[execOp,ho,GL,hr,GY,Hg]
variable {W:BU}{ats:Bh Bq}{f:FuncId}{fn:Func}
section
variable {φ:Nat->BJ->BU->Prop}{a0:Act}{i:Nat}
variable {d:AB Tmp} {t:Bq} {p:String} {af:Bh Edge} {g:AB (Nat×Ac)}
def Enters (P:Ch)(f:FuncId):Prop:=∀args w,(callFunc f args).run P w=.ok (.enter f args) w
def enters_of {c:Code}(q:P.funcs[f]? =some fn)(j:(fn.name== "runtime.NumGoroutine")=false)(I:fn.body=some c):Enters P f:=by
 intro args w;have h1:fn.name≠ "runtime.NumGoroutine" :=WW
 simp[callFunc,q,h1,I]
def IC (P:Ch)(f:FuncId):Ac:=match P.funcs[f]? with
 |some fn=> !(fn.name== "runtime.NumGoroutine")&&fn.body.isSome
 |none=>false
def Uu (h:IC P f=true):Enters P f:=by
 unfold IC at h;cases j:P.funcs[f]? with
 |none=>rw[j]at h;cases h
 |some fn=>
  rw[j]at h;simp only[Dx,RU]at h;obtain⟨c,q⟩:=Ro.1 h.2;exact enters_of j h.1 q
def Res {aWf:Bh Bz}(j:o.op=.call { callee:=.value (.func f),args:=aWf,argTypes:=ats }):execOp a.eval o=callFunc f (aWf.map a.eval):=by
 have q:a.eval (.func f)=.func (.func f) #[] #[]:=rfl;unfold execOp;simp[j,resolve,Deferred.ofValue,invoke,q]
end
inductive Ec where
 |ent (k:Nat)
 |nil (size:Nat)
def Ec.hd (H:AA CB):Ec->CB
 | .ent k=>H.getD k ⟨undef,0⟩
 | .nil s=>⟨.slice none 0 0,s⟩
def Am.Za (srcs:AA Ec)(n:Nat):Am->Am
 | .d x=>.d x
 | .ptr k off=>match srcs[k]? with |some (.ent j)=>.ptr j off|some (.nil _)=>.junk|none=>.ptr (n+(k-srcs.length)) off
 | .aQ k=>match srcs[k]? with |some (.ent j)=>.aQ j|some (.nil _)=>.junk|none=>.aQ (n+(k-srcs.length))
 | .lH k i off=>match srcs[k]? with |some (.ent j)=>.lH j i off|some (.nil _)=>.junk|none=>.lH (n+(k-srcs.length)) i off
 | .mp k=>match srcs[k]? with |some (.ent j)=>.mp j|some (.nil _)=>.junk|none=>.mp (n+(k-srcs.length))
 | .yh k=>match srcs[k]? with |some (.ent j)=>.yh j|some (.nil _)=>.junk|none=>.yh (n+(k-srcs.length))
 | .clip xs=>.clip xs
 |_=>.junk
def Am.up (srcs:AA Ec)(n:Nat):Am->Am
 | .eu xs=>.eu (xs.map (Am.Za srcs n))
 | .fn f fi ca=>.fn f (fi.map (Am.Za srcs n)) (ca.map (Am.Za srcs n))
 |x=>x.Za srcs n
def aEi (srcs:AA Ec):Am->Am->Prop
 | .d x,y=>y=.d x
 | .ptr k off,y=>∃i,y=.ptr i off/\srcs[i]? =some (.ent k)
 | .mp k,y=>∃i,y=.mp i/\srcs[i]? =some (.ent k)
 |_,_=>False
def zl (srcs:AA Ec):AA Am->AA Am->Prop
 |x::xs,y::ys=>aEi srcs x y/\zl srcs xs ys
 | [],[]=>True
 |_,_=>False
def zx {srcs:AA Ec}:∀{xs ys:AA Am},zl srcs xs ys->xs.length=ys.length
 | [],[],_=>rfl
 |_::xs,_::ys,h=>by simp[zx h.2]
 | [],_::_,h=>h.elim
 |_::_,[],h=>h.elim
def aES {srcs:AA Ec}:∀{xs ys:AA Am},zl srcs xs ys->∀i,i<ys.length->aEi srcs (xs.getD i .junk) (ys.getD i .junk)
 | [],[],_,i,hi=>Sj
 |_::xs,_::ys,h,0,_=>by simpa using h.1
 |_::xs,_::ys,h,i+1,hi=>by simpa using aES h.2 i IQ
 | [],_::_,h,_,_=>h.elim
 |_::_,[],h,_,_=>h.elim
def aOG (srcs:AA Ec):Am->Am->Prop
 | .fn f fi ca,y=>∃j q,y=.fn f j q/\zl srcs fi j/\zl srcs ca q
 | .d x,y=>y=.d x\/(∃i s,x=.lit (.slice none 0 0)/\y=.aQ i/\srcs[i]? =some (.nil s))\/(x=.lit (.slice none 0 0)/\y=.d (.sl []))
 | .aQ k,y=>∃i,y=.aQ i/\srcs[i]? =some (.ent k)
 | .ptr k off,y=>∃i,y=.ptr i off/\srcs[i]? =some (.ent k)
 | .mp k,y=>∃i,y=.mp i/\srcs[i]? =some (.ent k)
 |_,_=>False
def Bc.closed:Bc->Ac
 | .box cs=>cs.all Am.Dn
 | .loop .. =>false
 |_=>true
variable {e:Bc}
def Fh.any (q:Fh ok w H h e)(L:e.closed=true):Fh ok w H2 h e:=by
 cases e with
 |dead=>trivial
 |box cs=>
  obtain⟨b,vs,T,h1,h2,h3,J⟩:=q;refine⟨b,vs,T,h1,h2,h3,λi hi=>⟨(J i hi).1,?_⟩⟩;have I:=(J i hi).2;simp only[Bc.closed,GK]at L;have j:=L (cs.getD i .junk) OQ;cases M:cs.getD i .junk with
  |d x=>rw[M]at I;cases I with |d _ _ h=>exact .d _ _ h
  |_=>rw[M]at j;simp[Am.Dn]at j
 |arr e s es=>
  obtain⟨h1,h2,xs,h3,J,I⟩:=q;refine⟨h1,h2,xs,h3,J,λi hi=>⟨(I i hi).1,?_⟩⟩;have j:=(I i hi).2;have hm:(flat es).getD i .junk∈flat es:=OQ
  unfold flat at hm ⊢;simp only[XQ,GH]at hm;obtain⟨x,_,y,_,O⟩:=hm;unfold flat at j;rw[←O]at j ⊢;cases j with |d _ _ h=>exact .d _ _ h
 |map es=>exact q
 |fK es=>exact q
 |iter es vis=>exact q
 |loop=>cases L
def Bc.up (srcs:AA Ec)(n:Nat):Bc->Bc
 | .box cs=>.box (cs.map (Am.Za srcs n))
 |e=>e
def Am.ayk (srcs:AA Ec):Am->Ac
 | .d _=>true
 | .mp k=>match srcs[k]? with |some (.ent _)=>true|_=>false
 | .ptr k _=>match srcs[k]? with |some (.ent _)=>true|_=>false
 |_=>false
def Bc.asI (srcs:AA Ec):Bc->Ac
 | .box cs=>cs.all (Am.ayk srcs)
 | .loop .. =>false
 |_=>true
def Bc.auN (srcs:AA Ec)(n:Nat):Bc->Ac
 | .box cs=>cs.all λx=>x.Dn||(x.Za srcs n).leaf
 | .loop .. =>false
 |_=>true
def Bc.ah6 (srcs:AA Ec)(n:Nat)(e:Bc):(e.up srcs n).live=e.live:=by cases e<;>rfl
variable {srcs:AA Ec}{x:Am}
def aMy (h:x.Dn=true):x.Za srcs n=x:=by cases x<;>first|rfl|cases h
def Bc.aF7 (h:e.closed=true):e.up srcs n=e:=by
 cases e with
 |box cs=>
  simp only[Bc.closed,GK]at h;show Bc.box (cs.map (Am.Za srcs n))=Bc.box cs
  rw[show cs.map (Am.Za srcs n)=cs from by
   conv=>rhs;rw[←vN cs]
   exact aCJ λx j=>aMy (h x j)]
 |_=>rfl
def aPm {srcs:AA Ec}{n:Nat}:∀{E:AA Bc},E.all Bc.closed=true->E.map (Bc.up srcs n)=E
 | [],_=>rfl
 |e::E,h=>by
  simp only[List.all_cons,Dx]at h;rw[JE,Bc.aF7 h.1,aPm h.2]
def ac1 (h:e.closed=true):e.auN srcs n=true:=by
 cases e with
 |box cs=>
  simp only[Bc.closed,Bc.auN,GK]at h ⊢;intro x j;rw[h x j];rfl
 |loop=>cases h
 |_=>rfl
variable {Hc:AA CB}
def Fh.down (O:∀(j:Nat) (s:Ec),srcs[j]? =some s->Hc[j]? =some (Ec.hd H s))(hd:e.asI srcs=true)(I:Fh ok w H h (e.up srcs n)):Fh ok w Hc h e:=by
 cases e with
 |dead=>
  trivial
 |arr=>
  exact I.any rfl
 |map=>
  exact I
 |fK=>
  exact I
 |iter=>
  exact I
 |loop=>
  cases hd
 |box cs=>
  obtain⟨b,vs,T,h1,h2,h3,U⟩:=I;refine⟨b,vs,T,h1,h2,by rw[h3,DK],λi hi=>?_⟩;obtain⟨L,q⟩:=U i aHd;rw[TT _ _ _ hi]at q L;simp only[Bc.asI,GK]at hd;have J:=hd (cs.getD i .junk) OQ;generalize cs.getD i .junk=x at q J L ⊢;generalize vs.toList.getD i undef=v at q ⊢;cases x with
  |d x=>
     exact⟨L,by cases q with |d _ _ h=>exact .d _ _ h⟩
  |mp k=>
   refine⟨rfl,?_⟩;simp only[Am.ayk]at J;simp only[Am.Za]at q;cases hs:srcs[k]? with
   |none=>
    grind
   |some s=>
    cases s with
    |nil _=>
     grind
    |ent j=>
     rw[hs]at q;cases q with
     |mp _ _ s hl M=>
      refine .mp k _ s hl ?_;rw[O k _ hs];simp[Ec.hd,List.getD,M]
  |ptr k off=>
   refine⟨rfl,?_⟩;simp only[Am.ayk]at J;simp only[Am.Za]at q;cases hs:srcs[k]? with
   |none=>
    grind
   |some s=>
    cases s with
    |nil _=>
     grind
    |ent j=>
     rw[hs]at q;cases q with
     |ptr _ _ b s M=>
      refine .ptr k off b s ?_;rw[O k _ hs];simp[Ec.hd,List.getD,M]
  |_=>
    simp[Am.ayk]at J
def Nh (srcs:AA Ec)(es E':AA Bc):AA Bc:=
 (es.zipIdx.map λ(e,j)=>match srcs.findIdx? (λs=>match s with | .ent k=>k==j| .nil _=>false)with |some i=>(E'.getD i .dead).up srcs es.length|none=>e)++(E'.drop srcs.length).map (Bc.up srcs es.length)
def U7 (srcs:AA Ec)(es E E':AA Bc):Ac:=
 decide (srcs.length=E.length)&&(srcs.length<=E'.length)&&E.all (Bc.asI srcs)&&E'.all (Bc.auN srcs es.length)&&
 decide ((srcs.filterMap λs=>match s with | .ent k=>some k| .nil _=>none).Nodup)&&
 ((srcs.zip E').all λp=>match p.1 with | .ent _=>true| .nil _=> !p.2.live)&&(srcs.all λs=>match s with | .ent k=>k<es.length&&(es.getD k .dead).live| .nil _=>true)
def a0t (srcs:AA Ec)(es:AA Bc):AA Bc->Prop
 |E=>∀(i:Nat) (s:Ec),srcs[i]? =some s->match s with | .ent k=>(E[i]?).map (Bc.up srcs es.length)=es[k]? | .nil sz=>∃e,E[i]? =some (.arr e sz [])
def VO (L:Hc=srcs.map (Ec.hd H))(q:∀(i k:Nat),srcs[i]? =some (.ent k)->k<H.length)(M:Names Hc H')(h:R ok w H' x v):R ok w (H++H'.drop srcs.length) (x.Za srcs H.length) v:=by
 have key:∀(k:Nat) (hd:CB),H'[k]? =some hd->(∀(j:Nat),srcs[k]? =some (.ent j)->(H++H'.drop srcs.length)[j]? =some hd)/\(srcs[k]? =none->(H++H'.drop srcs.length)[H.length+(k-srcs.length)]? =some hd):=by
  intro k hd Y;refine⟨λj J=>?_,λI=>?_⟩
  ·have O:=q k j J;have h1:Hc[k]? =some (H.getD j ⟨undef,0⟩):=by rw[L,KJ,J];rfl
   have h2:=M _ _ h1
   grind
  have U:srcs.length<=k:=Q9
  grind
 cases h with
 |d x v h=>
    exact .d x v h
 |ptr k off b s h=>
  obtain⟨h1,h2⟩:=key k _ h;simp only[Am.Za];split<;>rename_i hs
  ·exact .ptr _ off b s (h1 _ hs)
  ·exact .junk _
  exact .ptr _ off b s (h2 hs)
 |aQ k ad n cap s h=>
  obtain⟨h1,h2⟩:=key k _ h;simp only[Am.Za];split<;>rename_i hs
  ·exact .aQ _ ad n cap s (h1 _ hs)
  ·exact .junk _
  exact .aQ _ ad n cap s (h2 hs)
 |lH k i off b n cap s h=>
  obtain⟨h1,h2⟩:=key k _ h;simp only[Am.Za];split<;>rename_i hs
  ·exact .lH _ i off b n cap s (h1 _ hs)
  ·exact .junk _
  exact .lH _ i off b n cap s (h2 hs)
 |mp k v s hl h=>
  obtain⟨h1,h2⟩:=key k _ h;simp only[Am.Za];split<;>rename_i hs
  ·exact .mp _ v s hl (h1 _ hs)
  ·exact .junk _
  exact .mp _ v s hl (h2 hs)
 |clip xs ad h=>
  exact .clip xs ad h
 |yh k ad n cap s h=>
  obtain⟨h1,h2⟩:=key k _ h;simp only[Am.Za];split<;>rename_i hs
  ·exact .yh _ ad n cap s (h1 _ hs)
  ·exact .junk _
  exact .yh _ ad n cap s (h2 hs)
 |fn f first cap vs us hl hm h h'=>
  exact .junk _
 |eu xs vs hl h=>
  exact .junk _
 |ag xs vs hl Z h=>
  exact .junk _
 |junk v=>
  exact .junk _
def aVW (q:Hc=srcs.map (Ec.hd H))(j:∀(i k:Nat),srcs[i]? =some (.ent k)->k<H.length)(I:Names Hc H')(h:R ok w H' x v):R ok w (H++H'.drop srcs.length) (x.up srcs H.length) v:=by
 cases h with
 |eu xs vs hl h=>exact .eu _ vs dn (λi hi=>aXj)
 |ag xs vs hl J h=>exact .junk _
 |d x v h=>exact VO q j I (.d x v h)
 |ptr k off b s h=>exact VO q j I (.ptr k off b s h)
 |aQ k ad n cap s h=>exact VO q j I (.aQ k ad n cap s h)
 |lH k i off b n cap s h=>exact VO q j I (.lH k i off b n cap s h)
 |mp k v s hl h=>exact VO q j I (.mp k v s hl h)
 |clip xs ad h=>exact VO q j I (.clip xs ad h)
 |yh k ad n cap s h=>exact VO q j I (.yh k ad n cap s h)
 |fn f first cap vs us hl hm h h'=>exact .fn f _ _ vs us dn (by simp[hm]) (λi hi=>aXj) (λi hi=>by rw[DK]at hi;rw[TT _ _ _ hi];exact VO q j I (h' i hi))
 |junk v=>exact .junk _
def Fh.upw (L:Hc=srcs.map (Ec.hd H))(I:∀(i k:Nat),srcs[i]? =some (.ent k)->k<H.length)(M:Names Hc H')(hl:H.length=n)(J:e.auN srcs n=true)(j:Fh ok w H' h e):
 Fh ok w (H++H'.drop srcs.length) h (e.up srcs n):=by
 cases e with
 |dead=>trivial
 |arr=>exact j.any rfl
 |map=>exact j
 |fK=>exact j
 |iter=>exact j
 |loop=>cases J
 |box cs=>
  obtain⟨b,vs,T,h1,h2,h3,O⟩:=j;refine⟨b,vs,T,h1,h2,by rw[h3,DK],λi hi=>?_⟩;rw[DK]at hi;obtain⟨U,Y⟩:=O i hi;simp only[Bc.auN,GK]at J;have q:=J (cs.getD i .junk) OQ;rw[TT _ _ _ hi];refine⟨?_,by have :=VO L I M Y;rwa [hl]at this⟩;rcases Bool.or_eq_true_iff.1 q with q|q
  ·rw[aMy q];exact U
  exact q
def GR :AA Bz->AA Am->AA (Bz×Am)
 |x::xs,v::vs=>(x,v)::GR xs vs
 |_,_=>[]
def OG (srcs:AA Ec):AA Am->AA Am->Prop
 |x::xs,y::ys=>aOG srcs x y/\OG srcs xs ys
 | [],[]=>True
 |_,_=>False
def aSV {srcs:AA Ec}:∀{xs ys:AA Am},OG srcs xs ys->xs.length=ys.length
 | [],[],_=>rfl
 |_::xs,_::ys,h=>by simp[aSV h.2]
 | [],_::_,h=>h.elim
 |_::_,[],h=>h.elim
variable {ops:AA Bz}
def anD:∀{xs ys:AA Am},ops.length=xs.length->OG srcs xs ys->∀i,i<ys.length->∃o x,ops[i]? =some o/\(o,x)∈GR ops xs/\aOG srcs x (ys.getD i .junk):=by
 induction ops with
 |nil=>
  intro xs ys hl h i hi;cases xs with
  |nil=>cases ys with |nil=>simp at hi|cons _ _=>exact h.elim
  |cons _ _=>simp at hl
 |cons o ops j=>
  intro xs ys hl h i hi;cases xs with
  |nil=>simp at hl
  |cons x xs=>
   cases ys with
   |nil=>exact h.elim
   |cons y ys=>
    cases i with
    |zero=>exact⟨o,x,rfl,by simp[GR],h.1⟩
    |succ i=>
     obtain⟨q,I,h1,h2,h3⟩:=j N7 h.2 i IQ;exact⟨q,I,Y4,by simp[GR,h2],Wy⟩
def aav:b∈(srcs.filterMap λs=>match s with | .ent k=>ED (H.getD k ⟨undef,0⟩).v| .nil _=>none)↔∃k,.ent k∈srcs/\ED (H.getD k ⟨undef,0⟩).v=some b:=by
 grind
variable {E E':AA Bc}{eY fF:AA Am}{ops:Bh Bz}
def aQW :∀{srcs:AA Ec},(srcs.filterMap λs=>match s with | .ent k=>some k| .nil _=>none).Nodup->∀(i j k:Nat),srcs[i]? =some (.ent k)->srcs[j]? =some (.ent k)->i=j
 | [],_,i,j,k,h,_=>Il
 |s::srcs,J,i,j,k,hi,I=>by
  have q:∀(n:Nat),srcs[n]? =some (.ent k)->k∈srcs.filterMap λs=>match s with | .ent k=>some k| .nil _=>none:=λn h=>by
   rw[iT];exact⟨_,aU h,rfl⟩
  have L:(srcs.filterMap λs=>match s with | .ent k=>some k| .nil _=>none).Nodup:=by
   grind
  match i,j with
  |0,0=>
   rfl
  |0,j+1=>
   simp at hi I;subst hi;simp only[Vm]at J;exact absurd (q j I) (RX.1 J).1
  |i+1,0=>
   simp at hi I;subst I;simp only[Vm]at J;exact absurd (q i hi) (RX.1 J).1
  |i+1,j+1=>
    rw[aQW L i j k IQ Q9]
def aPH (hm:E8 C ok H es w)(srcs:AA Ec){res:Am}(hr:EU P f fF E res E')(hb:U7 srcs es E E'=true)(hE:a0t srcs es E)(ha:OG srcs eY fF){ops:AA Bz}(hl:ops.length=eY.length)(hn:∀n∈GR ops eY,R ok w H n.2 (a.eval n.1)):
 Calls P f (ops.map a.eval).toArray w λe w'=>∃v ok' H',e=.returned v/\FH ok w ok' w'/\Names H H'/\E8 C ok' H' (Nh srcs es E') w'/\R ok' w' H' (res.up srcs es.length) v:=by
 unfold U7 at hb;simp only[Dx,Ik,GK]at hb;obtain⟨⟨⟨⟨⟨⟨hb1,hb2⟩,hb3⟩,hb4⟩,hb5⟩,hb6⟩,hb7⟩:=hb;have hidx:=aQW hb5
 let Hc:=srcs.map (Ec.hd H)
 let X:=srcs.filterMap λs=>match s with | .ent k=>ED (H.getD k ⟨undef,0⟩).v| .nil _=>none
 have hX:∀b,b∈X↔∃k,.ent k∈srcs/\ED (H.getD k ⟨undef,0⟩).v=some b:=λb=>aav
 have U:∀(i k:Nat),srcs[i]? =some (.ent k)->k<es.length/\(es.getD k .dead).live=true:=by
  intro i k hi;have :=hb7 _ (aU hi);simpa using this
 have hlt:∀(i k:Nat),srcs[i]? =some (.ent k)->k<H.length:=λi k hi=>by rw[hm.hlen];exact(U i k hi).1
 have hHk:∀(k:Nat),k<H.length->H[k]? =some (H.getD k ⟨undef,0⟩):=λk hk=>by simp[List.getD,hk]
 have auO:∀(k:Nat),k<es.length->es[k]? =some (es.getD k .dead):=λk hk=>by simp[List.getD,hk]
 have M:∀b,b∈X->∃(i k:Nat),srcs[i]? =some (.ent k)/\ED (H.getD k ⟨undef,0⟩).v=some b/\¬ok b/\b<w.heap.size/\(C.w0.heap.size<=b\/b∈C.X):=by
  intro b hb;obtain⟨k,hk,hbk⟩:=(hX b).1 hb;obtain⟨i,hi,O⟩:=I8 hk;have hi':srcs[i]? =some (.ent k):=by simp[hi,O]
  have :=hm.blk k _ _ b (auO k (U i k hi').1) (U i k hi').2 (hHk k (hlt i k hi')) hbk;exact⟨i,k,hi',hbk,this⟩
 have hmc:E8 ⟨w,ok,X,Hc⟩ ok Hc E w:=by
  refine⟨.refl _ _,λ_ h=>h,λ_ h=>.inl h,hm.kX,.refl _,by simp[Hc,hb1],?_,?_,?_⟩
  ·intro i e h O J;have hi:i<srcs.length:=aGJ
   have hcl:e.asI srcs=true:=hb3 e (aU O);have aO7:∀(j:Nat) (s:Ec),srcs[j]? =some s->Hc[j]? =some (Ec.hd H s):=λj s hs=>by simp[Hc,hs]
   have hs:srcs[i]? =some srcs[i]:=XA
   have hd:=hE i _ hs;simp only[Hc,KJ,hs,Jp,Nw]at J;cases hsi:srcs[i]with
   |ent k=>
    rw[hsi]at hd J hs;simp only[Ec.hd]at J;subst J;simp only at hd;rw[O,Jp]at hd;exact Fh.down aO7 hcl (hm.ent k _ _ hd.symm (hHk k (hlt i k hs)))
   |nil sz=>
    rw[hsi]at hd J;simp only[Ec.hd]at J;subst J;obtain⟨e',he'⟩:=hd;rw[O]at he';obtain rfl:=E9 he';exact⟨rfl,Bf,[],⟨Bf,.inl ⟨rfl,rfl⟩⟩,Ud,λi hi=>a7M⟩
  ·intro i e h b O L J I;have hi:i<srcs.length:=aGJ
   have hs:srcs[i]? =some srcs[i]:=XA
   simp only[Hc,KJ,hs,Jp,Nw]at J;cases hsi:srcs[i]with
   |ent k=>
    rw[hsi]at J hs;simp only[Ec.hd]at J;subst J;have hbX:b∈X:=(hX b).2 ⟨k,aU hs,I⟩;obtain⟨_,_,_,_,h1,h2,_⟩:=M b hbX;exact⟨h1,h2,.inr hbX⟩
   |nil sz=>
    rw[hsi]at J;simp only[Ec.hd]at J;subst J;simp[ED]at I
  intro i j e e' h h' b O he' L Y J hh' I Z;have hi:i<srcs.length:=aGJ
  have hj:j<srcs.length:=by rw[hb1];exact(H6.1 he').1
  have hs:srcs[i]? =some srcs[i]:=XA
  have hs':srcs[j]? =some srcs[j]:=by simp[hj]
  simp only[Hc,KJ,hs,Jp,Nw]at J;simp only[Hc,KJ,hs',Jp,Nw]at hh';cases hsi:srcs[i]with
  |nil sz=>rw[hsi]at J;simp only[Ec.hd]at J;subst J;simp[ED]at I
  |ent k=>
   cases hsj:srcs[j]with
   |nil sz=>rw[hsj]at hh';simp only[Ec.hd]at hh';subst hh';simp[ED]at Z
   |ent k'=>
    rw[hsi]at J hs;rw[hsj]at hh' hs';simp only[Ec.hd]at J hh';subst J;subst hh';have hkk:=hm.G8 k k' _ _ _ _ b (auO k (U i k hs).1) (auO k' (U j k' hs').1) (U i k hs).2 (U j k' hs').2 (hHk k (hlt i k hs)) (hHk k' (hlt j k' hs')) I Z;subst hkk;exact hidx i j k hs hs'
 have hargs:∀i,i<fF.length->R ok w Hc (fF.getD i .junk) ((ops.map a.eval).toArray.getD i undef):=by
  intro i hi;obtain⟨op,x,ho,hmem,harg⟩:=anD hl ha i hi;have hR:=hn _ hmem
  have e:(ops.map a.eval).toArray.getD i undef=a.eval op:=by
   obtain⟨h1,h2⟩:=H6.1 ho;simp[Array.getD,h1,h2]
  rw[e];simp only at hR;generalize fF.getD i .junk=y at harg ⊢;generalize a.eval op=u at hR ⊢;have hHc:∀(j:Nat) (s:Ec),srcs[j]? =some s->Hc[j]? =some (Ec.hd H s):=λj s hs=>by simp[Hc,hs]
  cases x with
  |d x=>
   rcases harg with rfl|⟨j,s,rfl,rfl,hs⟩|⟨rfl,rfl⟩
   ·cases hR with |d _ _ h=>exact .d _ _ h
   ·have :=hR.lit;rw[this];exact .aQ j none 0 0 s (hHc j _ hs)
   have :=hR.lit;rw[this];exact .d _ _ (.sl0 none 0)
  |aQ k=>
   obtain⟨j,rfl,hs⟩:=harg;cases hR with
   |aQ _ ad n cap s hH=>
    refine .aQ j ad n cap s ?_;rw[hHc j _ hs];simp[Ec.hd,List.getD,hH]
  |ptr k off=>
   obtain⟨j,rfl,hs⟩:=harg;cases hR with
   |ptr _ _ b s hH=>
    refine .ptr j off b s ?_;rw[hHc j _ hs];simp[Ec.hd,List.getD,hH]
  |mp k=>
   obtain⟨j,rfl,hs⟩:=harg;cases hR with
   |mp _ _ s hl hH=>
    refine .mp j _ s hl ?_;rw[hHc j _ hs];simp[Ec.hd,List.getD,hH]
  |fn f fi ca=>
   obtain⟨fi',ca',rfl,h1,h2⟩:=harg
   have one:∀(x y:Am) (v:BJ),aEi srcs x y->R ok w H x v->R ok w Hc y v:=by
    intro x y v hxy hx;cases x with
    |d x=>obtain rfl:=hxy;cases hx with |d _ _ h=>exact .d _ _ h
    |mp k=>
     obtain⟨j,rfl,hs⟩:=hxy;cases hx with
     |mp _ _ s hl hH=>
      refine .mp j _ s hl ?_;rw[hHc j _ hs];simp[Ec.hd,List.getD,hH]
    |ptr k off=>
     obtain⟨j,rfl,hs⟩:=hxy;cases hx with
     |ptr _ _ b s hH=>
      refine .ptr j off b s ?_;rw[hHc j _ hs];simp[Ec.hd,List.getD,hH]
    |_=>exact hxy.elim
   cases hR with
   |fn _ _ _ vs us hl1 hl2 h3 h4=>
    refine .fn f fi' ca' vs us (by rw[hl1,zx h1]) (by rw[hl2,zx h2]) (λi hi=>?_) (λi hi=>?_)
    ·exact one _ _ _ (aES h1 i hi) (h3 i (by rw[zx h1];exact hi))
    exact one _ _ _ (aES h2 i hi) (h4 i (by rw[zx h2];exact hi))
  |_=>exact harg.elim
 refine(hr ok X Hc w _ hmc (by simp[hl,aSV ha]) hargs).mono ?_;rintro e w' ⟨v,ok',H',rfl,q,hR⟩;have hgr:FH ok w ok' w':=λb hb=>⟨q.AX b hb,q.fr.block b (hm.kX b hb) (λhbX=>by obtain⟨_,_,_,_,h1,_⟩:=M b hbX;exact h1 hb)⟩
 have aUG:srcs.length<=H'.length:=by rw[q.hlen];exact hb2
 refine⟨v,ok',H++H'.drop srcs.length,rfl,hgr,IE _ _,?_,by have :=aVW rfl hlt q.names hR;rwa [hm.hlen]at this⟩
 let idx:Nat->AB Nat:=λj=>srcs.findIdx? (λs=>match s with | .ent k=>k==j| .nil _=>false)
 have aNX:∀(j i:Nat),idx j=some i->srcs[i]? =some (.ent j):=by
  intro j i h;simp only[idx,aMW]at h;obtain⟨h1,h2,_⟩:=h;have :srcs[i]? =some srcs[i]:=lD
  cases hs:srcs[i]with
  |ent k=>rw[hs]at h2 this;simp at h2;rw[this,h2]
  |nil _=>rw[hs]at h2;simp at h2
 have aNY:∀(j:Nat),idx j=none->∀(i:Nat),srcs[i]? ≠some (.ent j):=by
  intro j h i hi;simp only[idx,List.findIdx?_eq_none_iff]at h;have :=h _ (aU hi);simp at this
 have hlow:∀(j:Nat),j<es.length->(Nh srcs es E')[j]? =some (match idx j with |some i=>(E'.getD i .dead).up srcs es.length|none=>es.getD j .dead):=by
  intro j hj;unfold Nh;rw[KZ aBN];simp only[KJ,List.getElem?_zipIdx,auO j hj,Jp,KW];rfl
 have aMi:(Nh srcs es E').length=es.length+(E'.length-srcs.length):=by simp[Nh]
 have hhigh:∀(j:Nat),es.length<=j->(Nh srcs es E')[j]? =(E'[srcs.length+(j-es.length)]?).map (Bc.up srcs es.length):=by
  intro j hj;unfold Nh;rw[PL aBN,KJ,Va];simp
 have aNZ:∀(j:Nat),j<es.length->(H++H'.drop srcs.length)[j]? =H[j]? :=λj hj=>KZ (by rw[hm.hlen];exact hj)
 have aMj:∀(j:Nat),es.length<=j->(H++H'.drop srcs.length)[j]? =H'[srcs.length+(j-es.length)]? :=by
  intro j hj;rw[PL (by rw[hm.hlen];exact hj),Va,hm.hlen]
 have hcls:∀(j:Nat) (e:Bc) (h:CB),(Nh srcs es E')[j]? =some e->e.live=true\/True->(H++H'.drop srcs.length)[j]? =some h->
  (∃(i:Nat) (e0:Bc),e=e0.up srcs es.length/\E'[i]? =some e0/\H'[i]? =some h/\((j<es.length/\srcs[i]? =some (.ent j))\/(es.length<=j/\i=srcs.length+(j-es.length))))\/(j<es.length/\es[j]? =some e/\H[j]? =some h/\∀(i:Nat),srcs[i]? ≠some (.ent j)):=by
  intro j e h O _ J;by_cases hj:j<es.length
  ·rw[hlow j hj]at O;rw[aNZ j hj]at J;cases hi:idx j with
   |none=>
    rw[hi]at O;simp only[Nw]at O;exact .inr ⟨hj,by rw[auO j hj,O],J,aNY j hi⟩
   |some i=>
    rw[hi]at O;simp only[Nw]at O;have hs:=aNX j i hi;have hil:i<srcs.length:=(H6.1 hs).1;have hiE:i<E'.length:=AL
    refine .inl ⟨i,_,O.symm,by simp[List.getD,hiE],?_,.inl ⟨hj,hs⟩⟩;refine q.names i h ?_;simp only[Hc,KJ,hs,Jp,Ec.hd];simp[List.getD,J]
  rw[hhigh j AL]at O;rw[aMj j AL]at J;rw[dM]at O;obtain⟨e0,O,rfl⟩:=O;exact .inl ⟨_,_,rfl,O,J,.inr ⟨AL,rfl⟩⟩
 have hold:∀(j:Nat) (e:Bc) (h:CB) (b:Nat),es[j]? =some e->H[j]? =some h->(∀(i:Nat),srcs[i]? ≠some (.ent j))->e.live=true->ED h.v=some b->b<w.heap.size/\b∉X/\¬ok b/\(C.w0.heap.size<=b\/b∈C.X):=by
  intro j e h b O J hno L I;have h1:=hm.blk j e h b O L J I;refine⟨h1.2.1,λhbX=>?_,h1.1,h1.2.2⟩;obtain⟨i,k,hs,hbk,_⟩:=M b hbX;have :=hm.G8 j k e _ h _ b O (auO k (U i k hs).1) L (U i k hs).2 J (hHk k (hlt i k hs)) I hbk;subst this;exact hno i hs
 have auP:∀(i:Nat) (e:Bc) (h:CB) (b:Nat),E'[i]? =some e->H'[i]? =some h->e.live=true->ED h.v=some b->¬ok' b/\b<w'.heap.size/\(w.heap.size<=b\/b∈X):=λi e h b O J L I=>q.blk i e h b O L J I;refine⟨⟨q.fr.os.trans hm.fr.os,q.fr.tape.trans hm.fr.tape,q.fr.output.trans hm.fr.output,FQ hm.fr.size q.fr.size,λk hk hx=>?_⟩,λb hb=>q.AX b (hm.AX b hb),?_,q.kX,hm.names.trans (IE _ _),?_,?_,?_,?_⟩
 ·have hkw:k<w.heap.size:=WR hk hm.fr.size
  rw[q.fr.block k hkw (λhkX=>by
   obtain⟨_,_,_,_,_,_,h⟩:=M k hkX;rcases h with h|h
   ·omega
   exact hx h)]
  exact hm.fr.block k hk hx
 ·intro b hb;rcases q.AY b hb with h|h|h
  ·exact hm.AY b h
  ·exact .inr (.inl (FQ hm.fr.size h))
  obtain⟨_,_,_,_,_,_,h⟩:=M b h;exact .inr h
 ·rw[aMi,Em,NV,hm.hlen,q.hlen]
 ·intro j e h O J;rcases hcls j e h O (.inr trivial) J with⟨i,e0,rfl,h1,h2,_⟩|⟨_,h1,h2,h3⟩
  ·exact Fh.upw rfl hlt q.names hm.hlen (hb4 e0 (aU h1)) (q.ent i e0 h h1 h2)
  refine(hm.ent j e h h1 h2).mono hgr (IE _ _) (λL b I=>?_);have h4:=hold j e h b h1 h2 h3 L I;exact q.fr.block b h4.1 h4.2.1
 ·intro j e h b O L J I;rcases hcls j e h O (.inr trivial) J with⟨i,e0,rfl,h1,h2,_⟩|⟨_,h1,h2,h3⟩
  ·have h4:=auP i e0 h b h1 h2 aHj I;refine⟨h4.1,h4.2.1,?_⟩;rcases h4.2.2 with h5|h5
   ·exact .inl (FQ hm.fr.size h5)
   obtain⟨_,_,_,_,_,_,h⟩:=M b h5;exact h
  have h4:=hold j e h b h1 h2 h3 L I;refine⟨λhok'=>?_,WR h4.1 q.fr.size,h4.2.2.2⟩;rcases q.AY b hok' with h5|h5|h5
  ·exact h4.2.2.1 h5
  ·have :w.heap.size<=b:=h5;omega
  exact h4.2.1 h5
 intro j j' e e' h h' b O he' L Y J hh' I Z;rcases hcls j e h O (.inr trivial) J with⟨i,e0,rfl,h1,h2,h3⟩|⟨_,h1,h2,h3⟩
 ·rcases hcls j' e' h' he' (.inr trivial) hh' with⟨i',e0',rfl,h1',h2',h3'⟩|⟨_,h1',h2',h3'⟩
  ·have hii:=q.G8 i i' e0 e0' h h' b h1 h1' aHj (by rw[Bc.ah6]at Y;exact Y) h2 h2' I Z;subst hii;rcases h3 with⟨_,h4⟩|⟨h4,h5⟩
   ·rcases h3' with⟨_,h4'⟩|⟨h4',h5'⟩
    ·rw[h4]at h4';simpa using h4'
    have :=(H6.1 h4).1;omega
   rcases h3' with⟨_,h4'⟩|⟨h4',h5'⟩
   ·have :=(H6.1 h4').1;omega
   omega
  have h4:=hold j' e' h' b h1' h2' h3' Y Z;rcases(auP i e0 h b h1 h2 aHj I).2.2 with h5|h5
  ·omega
  exact absurd h5 h4.2.1
 rcases hcls j' e' h' he' (.inr trivial) hh' with⟨i',e0',rfl,h1',h2',h3'⟩|⟨_,h1',h2',h3'⟩
 ·have h4:=hold j e h b h1 h2 h3 L I;rcases(auP i' e0' h' b h1' h2' (by rw[Bc.ah6]at Y;exact Y) Z).2.2 with h5|h5
  ·omega
  exact absurd h5 h4.2.1
 exact hm.G8 j j' e e' h h' b h1 h1' L Y h2 h2' I Z
def aWx (srcs:AA Ec){j:Am}(q:EU P f fF E j E')(I:IC P f=true)(J:U7 srcs es E E'=true)(hE:a0t srcs es E)(ha:OG srcs eY fF)(hl:ops.toList.length=eY.length)(L:o.op=.call { callee:=.value (.func f),args:=ops,argTypes:=ats }:=by exact rfl):CG P o (GR ops.toList eY) es (j.up srcs es.length) (Nh srcs es E'):=by
 intro C ok H a w Q hm M;unfold Oper.wp;rw[Res L,Uu I,iF];have e:ops.map a.eval=(ops.toList.map a.eval).toArray:=a2p
 rw[e];refine(aPH hm srcs q J hE ha hl M).mono ?_;rintro e w' ⟨v,ok',H',rfl,h1,h2,h3,O⟩;exact⟨v,ok',H',rfl,h1,h2,h3,O⟩
def Ah (n:Int):D:=.lit (.int .i64 n)
def Dt (n:Int):D:=.lit (.int .u8 n)
def EH (b:Ac):D:=.lit (.bool b)
def DV (s:BH):D:=.lit (.string s)
def BR (e:α->D)(l:AA α):D:=.sl (l.map e)
def BD (x:D):AA Am:=x.cells.map .d
def Aq (l:AA α)(i:Int):AB α:=if 0<=i then l[i.toNat]? else none
def CZ (j:Nat)(l m:AA α):AB (AA α):=if(l.length+m.length)*j<=140737488355328 then some (l++m)else none
def IZ (s:BH)(i:Int):AB Int:=if 0<=i then(s[i.toNat]?).map λc=>(c.toNat:Int)else none
def Gx (l:AA α)(lo hi:Int):AB (AA α):=if 0<=lo/\lo<=hi/\hi<=l.length then some ((l.drop lo.toNat).take (hi.toNat-lo.toNat))else none
def Oy (s:BH)(lo hi:Int):AB BH:=if 0<=lo/\lo<=hi/\hi<=s.size then some (s.extract lo.toNat hi.toNat)else none
def J4 (j:Nat)(z:α)(n c:Int):AB (AA α):=if 0<=n/\n<=c/\(j:Int)*c<=140737488355328 then some (List.replicate n.toNat z)else none
variable {x:α}
def GV (h:Aq l i=some x):0<=i/\l[i.toNat]? =some x:=by
 unfold Aq at h;split at h
 ·exact⟨‹_›,h⟩
 cases h
variable {β:Type}
def ajc {i:Nat}(f:α->β)(h:l[i]? =some x):(l.map f)[i]? =some (f x):=by simp[h]
def Qu {b:Ac}{y z:α}(j:b=true)(h:(cond b x y)=z):x=z:=by subst j;exact h
def RD {b:Ac}{y z:α}(j:b=false)(h:(cond b x y)=z):y=z:=by subst j;exact h
def Du {x:AB α}{f:α->AB β}{z:β}(h:x.bind f=some z):∃a,x=some a/\f a=some z:=nT.1 h
def Aw :Nat:=9223372036854775808
variable {e:Bq}{hi lo:AB Bz}{j s:Nat}{l:Int}{r:BH}{x:Bz}
def amv (enc:α->D)(l:AA α)(j:P.underlying t=some (.slice e))(q:o.op=.call { callee:=.builtin .len,args:= #[x],argTypes:= #[t] }:=by exact rfl):
 CG P o [(x,.d (BR enc l))] es (.d (Ah l.length)) es:=by
 have :=alZ (es:=es) (xs:=l.map enc) j q;rw[DK]at this;exact this
def Iy (enc:α->D)(l:AA α)(j:es[k]? =some (.arr e' s (l.map enc)))(q:P.underlying t=some (.slice e))(I:o.op=.call { callee:=.builtin .len,args:= #[x],argTypes:= #[t] }:=by exact rfl):
 CG P o [(x,.aQ k)] es (.d (Ah l.length)) es:=by
 have :=apS j q I;rw[DK]at this;exact this
def agb (s:BH)(j:P.underlying t=some .string)(q:o.op=.call { callee:=.builtin .len,args:= #[x],argTypes:= #[t] }:=by exact rfl):
 CG P o [(x,.d (DV s))] es (.d (Ah s.size)) es:=aYv j q
def Uw {k:IntKind}(enc:α->D){l:AA α}{a:α}(h:Aq l i=some a)(j:P.underlying t=some (.slice e))(q:Ep P e agg size)(hs:(enc a).cells.length=size)(I:o.op=.indexAddr t x y:=by exact rfl):
 CG P o [(x,.d (BR enc l)),(y,.d (.lit (.int k i)))] es (.d (.ref (enc a).cells 0)) es:=
 adB j q (GV h).1 (ajc enc (GV h).2) hs I
def Ht (enc:α->D){l:AA α}{a:α}(h:Aq l i=some a)(j:es[k]? =some (.arr e' size (l.map enc)))(q:P.underlying t=some (.slice e))(I:Ep P e agg size)(J:o.op=.indexAddr t x y:=by exact rfl):
 CG P o [(x,.aQ k),(y,.d (.lit (.int kd i)))] es (.lH k i.toNat 0) es:=
 agK j q I (GV h).1 (by have :=(H6.1 (GV h).2).1;simpa using this) J
def amW {s:BH}{n:Int}(h:IZ s i=some n):∃c,0<=i/\s[i.toNat]? =some c/\n=c.toNat:=by
 unfold IZ at h;split at h
 ·grind
 cases h
def Lh {k:IntKind}{n:Int}{s:BH}(h:IZ s i=some n)(j:P.underlying t=some .string)(q:o.op=.index t x y:=by exact rfl):
 CG P o [(x,.d (DV s)),(y,.d (.lit (.int k i)))] es (.d (Dt n)) es:=by
 obtain⟨c,I,h1,rfl⟩:=amW h;exact agp j I h1 q
def l7 {l m r:AA α}(h:CZ b l m=some r):r=l++m/\(l.length+m.length)*b<=140737488355328:=by
 unfold CZ at h;split at h
 ·grind
 cases h
def a0f (j:0<b)(h:n*b<=140737488355328):n<=maxLen:=by
 have :n*1<=n*b:=Nat.mul_le_mul_left _ j;unfold maxLen;omega
def DX {s:Bz}(enc:α->D){l m r:AA α}(h:CZ j l m=some r)(hE:GX P t e size j)(q:es[k]? =some (.arr e size (l.map enc)))(I:∀a,(enc a).cells.length=size)(J:0<j)(L:o.op=.call { callee:=.builtin .append,args:= #[s,x],argTypes:= #[t,t] }:=by exact rfl):
 CG P o [(s,.aQ k),(x,.d (BR enc m))] es (.aQ es.length) (es.set k .dead++[.arr e size (r.map enc)]):=by
 obtain⟨rfl,h2⟩:=l7 h;have :=afP (ys:=m.map enc) hE q (λy M=>by obtain⟨a,_,rfl⟩:=GH.1 M;exact I a) LC (by simpa using a0f J h2) L;rw[←Jh]at this;exact this
def akR {s:Bz}{q:Nat}(enc:α->D){l m r:AA α}(h:CZ q l m=some r)(hE:GX P t e size q)(I:es[k]? =some (.arr e size (l.map enc)))(J:es[j]? =some (.arr e size (m.map enc)))(L:0<q)(M:o.op=.call { callee:=.builtin .append,args:= #[s,x],argTypes:= #[t,t] }:=by exact rfl):
 CG P o [(s,.aQ k),(x,.aQ j)] es (.aQ es.length) (es.set k .dead++[.arr e size (r.map enc)]):=by
 obtain⟨rfl,h2⟩:=l7 h;have :=aop hE I J LC (by simpa using a0f L h2) M
 grind
def agw {s:BH}{lo hi:Int}(h:Oy s lo hi=some r):(0<=lo/\lo<=hi/\hi<=s.size)/\r=s.extract lo.toNat hi.toNat:=by
 unfold Oy at h;split at h
 ·grind
 cases h
def a1B (x:AB Bz)(n:Int):AA (Bz×Am):=match x with |some y=>[(y,.d (Ah n))]|none=>[]
def lR {h:Int}{s:BH}(hr:Oy s l h=some r)(hl:lo=none->l=0)(hh:hi=none->h=s.size)(ht:P.underlying t=some .string)(L:o.op=.slice t x lo hi none:=by exact rfl):
 CG P o ((x,.d (DV s))::(a1B lo l++a1B hi h)) es (.d (DV r)) es:=
 .pure λok H a w _ _ O=>by
  obtain⟨⟨U,h1,h2⟩,rfl⟩:=agw hr;have q:=(O (x,.d (DV s)) Bf).lit;simp only at q;have M:(underlying t).run P w=.ok .string w:=a0c
  refine⟨.string (s.extract l.toNat h.toNat),?_,.d _ _ (.lit _)⟩;have I:∀y,lo=some y->a.eval y=.int .i64 l:=λy e=>(O (y,.d (Ah l)) a8J).lit;have J:∀y,hi=some y->a.eval y=.int .i64 h:=λy e=>(O (y,.d (Ah h)) a8J).lit;have e1:((0:Int)<=h/\h<=(s.size:Int)):=⟨AL,h2⟩
  have e2:((0:Int)<=l/\l<=(h.toNat:Int)):=⟨U,AL⟩
  cases lo with
  |none=>
   have Y:=hl rfl;subst Y;cases hi with
   |none=>
    have j:=hh rfl;subst j;simp[execOp,L,q,Instr.sliceAt,Instr.slice,M,Instr.sliceBounds]
   |some y=>
    simp[execOp,L,q,Instr.sliceAt,Instr.slice,M,Instr.sliceBounds,Instr.sliceBound,J y rfl,asIntOf,e1]
  |some z=>
   cases hi with
   |none=>
    have j:=hh rfl;subst j;have Z:((0:Int)<=l/\l<=(s.size:Int)):=⟨U,AL⟩
    simp[execOp,L,q,Instr.sliceAt,Instr.slice,M,Instr.sliceBounds,Instr.sliceBound,I z rfl,asIntOf,Z]
   |some y=>
    simp[execOp,L,q,Instr.sliceAt,Instr.slice,M,Instr.sliceBounds,Instr.sliceBound,I z rfl,J y rfl,asIntOf,e1];intro hc;have :=hc U;omega
def aUO {l r:AA α}{lo hi:Int}(h:Gx l lo hi=some r):(0<=lo/\lo<=hi/\hi<=l.length)/\r=(l.drop lo.toNat).take (hi.toNat-lo.toNat):=by
 unfold Gx at h;split at h
 ·grind
 cases h
def aRg {ad:AB Addr}{cap l h:Nat}(hr:ET ok w (.sl xs) (.slice ad xs.length cap))(hs:∀x∈xs,x.cells.length=size)(h1:l<=h)(h2:h<=xs.length):
 ET ok w (.sl ((xs.drop l).take (h-l))) (.slice (if cap=l then ad else ad.map (·.add (l*size))) (h-l) (cap-l)):=by
 have hlen:((xs.drop l).take (h-l)).length=h-l:=Eh
 by_cases hz:h-l=0
 ·have :(xs.drop l).take (h-l)=[]:=by rw[hz];rfl
  rw[this,hz];exact .sl0 _ _
 have L:0<xs.length:=AL
 generalize hn:xs.length=n at hr;cases hr with
 |sl0=>
  simp at L
 |sl _ b off _ q hcap M O hf hx hc=>
  have U:q=size:=by
   grind
  subst U;have Y:cap≠l:=AL
  rw[EC Y];simp only[Jp,addr_add]
  have Z:∀i,i<h-l->((xs.drop l).take (h-l)).getD i EN=xs.getD (l+i) EN:=by
   intro i hi;simp[List.getD,Qr hi,Va]
  have I:∀i j,off+l*q+(i*q+j)=off+((l+i)*q+j):=by
   grind
  have :=ET.sl ((xs.drop l).take (h-l)) b (off+l*q) (cap-l) q (ok:=ok) (w:=w) (by rw[hlen];omega) (λh1 h2=>M (by rw[hlen]at h1;omega) h2) (λi hi=>by rw[hlen]at hi;rw[Z i hi];exact O _ AL)
   (λi hi j J=>by rw[hlen]at hi;rw[Z i hi];exact hf _ AL j J) (λi hi j J=>by rw[hlen]at hi;rw[I];exact hx _ AL j J)
   (λi hi j J=>by rw[hlen]at hi;rw[Z i hi,I];exact hc _ AL j J)
  rw[hlen]at this;exact this
def Ou {h:Int}(enc:α->D){xs r:AA α}(hr:Gx xs l h=some r)(hl:lo=none->l=0)(hh:hi=none->h=xs.length)(ht:P.underlying t=some (.slice e))(U:Ep P e agg size)(hc:∀a,(enc a).cells.length=size)(Y:o.op=.slice t x lo hi none:=by exact rfl):CG P o ((x,.d (BR enc xs))::(a1B lo l++a1B hi h)) es (.d (BR enc r)) es:=
 .pure λok H a w _ _ hn=>by
  obtain⟨⟨h0,h1,h2⟩,rfl⟩:=aUO hr;have hx:=hn (x,.d (BR enc xs)) Bf;simp only at hx;generalize Z:a.eval x=v at hx;have hu:(underlying t).run P w=.ok (.slice e) w:=a0c
  have M:∀y,lo=some y->a.eval y=.int .i64 l:=λy e=>(hn (y,.d (Ah l)) a8J).lit;have O:∀y,hi=some y->a.eval y=.int .i64 h:=λy e=>(hn (y,.d (Ah h)) a8J).lit;have I:ET ok w (.sl (xs.map enc)) v:=by cases hx with |d _ _ h=>exact h
  have J:∃ad cap,v=.slice ad (xs.map enc).length cap/\(xs.map enc).length<=cap:=by
   generalize hys:xs.map enc=ys at I;cases I with
   |sl0 ad cap=>
    grind
   |sl _ b off cap size j=>
    grind
  obtain⟨ad,cap,rfl,j⟩:=J;have q:=aRg (l:=l.toNat) (h:=h.toNat) I (size:=size) (λy hy=>aEL) AL Eh;rw[←jM,←bZ]at q;rw[DK]at j;refine⟨_,?_,.d _ _ q⟩;have e1:((0:Int)<=h/\h<=(cap:Int)):=⟨AL,AL⟩
  cases lo with
  |none=>
   have hl0:=hl rfl;subst hl0;cases hi with
   |none=>
    have L:=hh rfl;subst L;simp[execOp,Y,Z,Instr.sliceAt,Instr.slice,hu,Instr.sliceBounds,U.size]
   |some y=>
    simp[execOp,Y,Z,Instr.sliceAt,Instr.slice,hu,Instr.sliceBounds,Instr.sliceBound,O y rfl,asIntOf,e1,U.size]
  |some z=>
   cases hi with
   |none=>
    have L:=hh rfl;subst L;have e2':((0:Int)<=l/\l<=(xs.length:Int)):=⟨h0,AL⟩
    simp[execOp,Y,Z,Instr.sliceAt,Instr.slice,hu,Instr.sliceBounds,Instr.sliceBound,M z rfl,asIntOf,e2',U.size]
   |some y=>
    simp[execOp,Y,Z,Instr.sliceAt,Instr.slice,hu,Instr.sliceBounds,Instr.sliceBound,M z rfl,O y rfl,asIntOf,e1,U.size];intro hc';have :=hc' h0;omega
def iV (P:Ch)(t:Bq)(f off:Nat)(agg:Ac)(n:Nat):Ac:=
 match P.underlying t with
 |some (.struct fs)=>match fs[f]? with
  |some j=>j.offset=off&&aD6 P j.type agg n
  |none=>false
 |_=>false
def akq {f:Nat}{cs:AA D}(hp:iV P t f off agg n=true)(hn:off+n<=cs.length)(h1:agg=false->n=1)(U:o.op=.field t x f:=by exact rfl):CG P o [(x,.d (.agg cs))] es (.d (Qe agg cs off n)) es:=
 .pure λok H a w _ _ L=>by
  have M:=MG L;simp only at M;generalize Y:a.eval x=v at M;unfold iV at hp;split at hp
  ·rename_i fs hu;split at hp
   ·rename_i j Z;simp only[Dx,Ik]at hp;obtain⟨rfl,q⟩:=hp;have q:=GZ q;have I:(underlying t).run P w=.ok (.struct fs) w:=a5m
    cases M with
    |d _ _ h=>
     cases h with
     |agg _ vs hl O hc=>
      cases agg with
      |false=>
       have :=h1 rfl;subst this;have J:j.offset<vs.size:=AL
       refine⟨vs[j.offset],?_,?_⟩
       ·simp[execOp,U,Y,Instr.field,I,Z,asAgg,part,q.agg,J]
       have :=hc j.offset AL;simp[Array.getD,J]at this;exact .d _ _ this
      |true=>
       refine⟨.agg (vs.extract j.offset (j.offset+n)),?_,?_⟩
       ·simp[execOp,U,Y,Instr.field,I,Z,asAgg,part,q.agg,q.size]
       simp only[Qe,Jy];have hlen:((cs.drop j.offset).take n).length=n:=Eh
       have hg:∀i,i<n->((cs.drop j.offset).take n).getD i EN=cs.getD (j.offset+i) EN:=by
        grind
       refine .d _ _ (.agg _ _ (by rw[hlen];simp;omega) ?_ ?_)<;>intro i hi<;>rw[hlen]at hi<;>rw[hg i hi]
       ·exact O _ AL
       have :=hc (j.offset+i) AL
       have e:(vs.extract j.offset (j.offset+n)).getD i undef=vs.getD (j.offset+i) undef:=by
        have h3:j.offset+i<vs.size:=AL
        have h4:i<(vs.extract j.offset (j.offset+n)).size:=Eh
        have h5:i<min (j.offset+n) vs.size-j.offset:=AL
        simp[Array.getD,h3,h5]
       rw[e];exact this
   cases hp
  cases hp
def Am.flat:Am->Ac
 | .d (.lit _)=>true
 | .eu xs=>xs.all λx=>match x with | .d (.lit _)=>true|_=>false
 |_=>false
def aT7 (es:AA Bc):Am->Am->Prop
 | .d x,y=>y=.d x
 | .aQ k,y=>∃e s xs,es[k]? =some (.arr e s xs)/\y=.d (.sl xs)
 |_,_=>False
def jy (es:AA Bc):AA Am->AA Am->Prop
 |x::xs,y::ys=>aT7 es x y/\jy es xs ys
 | [],[]=>True
 |_,_=>False
def aIV :∀{xs ys:AA Am},jy es xs ys->xs.length=ys.length
 | [],[],_=>rfl
 |_::xs,_::ys,h=>by simp[aIV h.2]
 | [],_::_,h=>h.elim
 |_::_,[],h=>h.elim
def aME {ops:AA Bz}:∀{xs ys:AA Am},ops.length=xs.length->jy es xs ys->∀i,i<ys.length->∃o x,ops[i]? =some o/\(o,x)∈GR ops xs/\aT7 es x (ys.getD i .junk):=by
 induction ops with
 |nil=>
  intro xs ys hl h i hi;cases xs with
  |nil=>cases ys with |nil=>simp at hi|cons _ _=>exact h.elim
  |cons _ _=>simp at hl
 |cons o ops j=>
  intro xs ys hl h i hi;cases xs with
  |nil=>simp at hl
  |cons x xs=>
   cases ys with
   |nil=>exact h.elim
   |cons y ys=>
    cases i with
    |zero=>exact⟨o,x,rfl,by simp[GR],h.1⟩
    |succ i=>
     obtain⟨q,I,h1,h2,h3⟩:=j N7 h.2 i IQ;exact⟨q,I,Y4,by simp[GR,h2],Wy⟩
def kV {e:Nat}(he:Fh ok w H h (.arr e s xs))(J:∀b,ok b->ok' b)(U:∀b,ED h.v=some b->ok' b):ET ok' w (.sl xs) h.v:=by
 obtain⟨h1,h2,ys,⟨h3,h4⟩,h5⟩:=he;rcases h4 with⟨O,h7⟩|⟨g,cap,I,O,h7,h8,h9,h10,Y,Z⟩
 ·rw[I4 h7,O];exact .sl0 none 0
 rw[O];have L:=U g (by rw[O];rfl);have M:=Tj h2
 have hk:∀i j,i<xs.length->j<s->i*s+j<xs.length*s:=by
  intro i j hi q
  calc i*s+j<i*s+s:=AL
   _=(i+1)*s:=by rw[UM]
   _<=xs.length*s:=Ko _ hi
 have hcur:xs.length*s<=I.size:=by
  exact FQ (Ko _ h9) Y
 have hc:∀i j,i<xs.length->j<s->w.cell? ⟨g,0+(i*s+j),none⟩=some (ys.getD (i*s+j) undef):=by
  intro i j hi q;have h13:=hk i j hi q;rw[KW]
  have e1:ys.getD (i*s+j) undef=I[i*s+j]' AL:=by
   rw[←Z];simp[List.getD,Qr h13,show i*s+j<I.size by omega]
  rw[e1];simp[World.cell?,h8,show i*s+j<I.size by omega]
 have hg:∀i,i<xs.length->xs.getD i EN∈xs:=λi hi=>OQ
 refine .sl xs g 0 cap s h9 (λ_ _=>L) (λi hi=>h2 _ (hg i hi)) (λi hi j q=>?_) (λi hi j q=>?_) (λi hi j q=>?_)
 ·have :=(h5.2 (i*s+j) (by rw[M];exact hk i j hi q)).1;rw[flat_get h2 i j hi q]at this;exact this
 ·rw[hc i j hi q];rfl
 have :=(h5.2 (i*s+j) (by rw[M];exact hk i j hi q)).2;rw[flat_get h2 i j hi q]at this;unfold cellAt;rw[hc i j hi q];cases this with |d _ _ h=>exact h.mono (λb U=>⟨J b U,rfl⟩)
def dw {J:Am}(hr:EU P f fF [] J [])(hf:IC P f=true)(I:J.flat=true)(ha:jy es eY fF)(hl:ops.toList.length=eY.length)(ho:o.op=.call { callee:=.value (.func f),args:=ops,argTypes:=ats }:=by exact rfl):CG P o (GR ops.toList eY) es J es:=by
 intro C ok H a w Q hm hn;unfold Oper.wp;rw[Res ho,Uu hf,iF];have e:ops.map a.eval=(ops.toList.map a.eval).toArray:=a2p
 rw[e]
 let L:Nat->Prop:=λb=>b<w.heap.size
 have hmc:E8 ⟨w,L,[],[]⟩ L [] [] w:=
  ⟨.refl _ _,λ_ h=>h,λ_ h=>.inl h,λ_ h=>h,.refl _,rfl,λk e h M _=>by simp at M,λk e h b M=>by simp at M,λk k' e e' h h' b M=>by simp at M⟩
 refine(hr L [] [] w _ hmc (by simp[hl,aIV ha]) (λi hi=>?_)).mono ?_
 ·obtain⟨op,x,ho',Y,j⟩:=aME hl ha i hi;have U:=hn _ Y
  have e:(ops.toList.map a.eval).toArray.getD i undef=a.eval op:=by
   obtain⟨h1,h2⟩:=H6.1 ho';have h3:i<ops.size:=Y4
   have Z:ops[i]=op:=LC
   simp[Array.getD,h3,Z]
  rw[e];simp only at U;generalize fF.getD i .junk=y at j;generalize a.eval op=u at U;cases x with
  |d x=>
   obtain rfl:=j;cases U with |d _ _ h=>exact .d _ _ (h.mono (λb O=>⟨hm.kX b O,rfl⟩))
  |aQ k=>
   obtain⟨e',s,xs,hk,rfl⟩:=j;obtain⟨h,hh,hok⟩:=Gy hm.ent hm.hlen hk;obtain rfl:=P5 U hh;exact .d _ _ (kV hok (λb O=>hm.kX b O) (λb O=>(hm.blk k _ h b hk rfl hh O).2.1))
  |_=>exact j.elim
 rintro e w' ⟨v,ok',H',rfl,q,U⟩;have hblk:∀b,b<w.heap.size->¬False->w'.heap[b]? =w.heap[b]? :=λb O _=>q.fr.block b O Bf;obtain⟨h1,h2⟩:=hm.change (ok':=ok) (H':=H) (es':=es) (w':=w') (λ_=>False) q.fr.os q.fr.tape q.fr.output q.fr.size hblk (λ_ h=>h.elim) (λ_ h=>h) (λ_ h=>.inl h) (.refl _) hm.hlen (λk e h M hh=>.inl ⟨M,hh,λ_ _ _ h=>h⟩);refine⟨v,ok,H,rfl,h2,.refl _,h1,?_⟩;cases U with
 |d x v h=>
  cases x with
  |lit u=>cases h;exact .d _ _ (.lit _)
  |_=>simp[Am.flat]at I
 |eu xs vs hl' h=>
  refine .eu xs vs hl' (λi hi=>?_);simp only[Am.flat,GK]at I;have h3:=I (xs.getD i .junk) OQ;have Z:=h i hi;generalize xs.getD i .junk=x at h3 Z;generalize vs.getD i undef=u at Z;cases Z with
  |d y _ h5=>
   cases y with
   |lit u=>cases h5;exact .d _ _ (.lit _)
   |_=>simp at h3
  |_=>simp at h3
 |_=>simp[Am.flat]at I
def Am.thaw (k:Nat)(xs:AA D):Am->Am
 | .aQ j=>if j=k then .d (.sl xs)else .aQ j
 | .lH j i off=>if j=k then .junk else .lH j i off
 |x=>x
def BP.thaw (σ:BP)(k:Nat)(xs:AA D):BP:=⟨σ.slots.map (Am.thaw k xs),σ.ents.set k .dead,σ.base⟩
def IW (k:Nat){e:Nat}(hk:σ.ents[k]? =some (.arr e s xs)):∀C ok H a w,Holds C ok H σ a w->∃ok',Holds C ok' H (σ.thaw k xs) a w:=by
 intro C ok H a w I;obtain⟨hd,U,hok⟩:=Gy I.mem.ent I.mem.hlen hk;have L:k<σ.ents.length:=(H6.1 hk).1
 let ok':Nat->Prop:=λb=>ok b\/ED hd.v=some b
 have hblk:=λb q=>I.mem.blk k _ hd b hk rfl U q;have hg:FH ok w ok' w:=λb q=>⟨.inl q,rfl⟩
 refine⟨ok',⟨I.mem.fr,λb q=>.inl (I.mem.AX b q),?_,?_,I.mem.names,by simp[BP.thaw,I.mem.hlen],?_,?_,?_⟩,by simp[BP.thaw,I.size],I.defers.mono hg,I.base,?_⟩
 ·rintro b (q|q)
  ·exact I.mem.AY b q
  grind
 ·rintro b (q|q)
  ·exact I.mem.kX b q
  grind
 ·intro j e' h' he M;rcases NU L he with⟨rfl,rfl⟩|⟨_,O⟩
  ·trivial
  exact(I.mem.ent j e' h' O M).mono hg (.refl _) (λ_ _ _=>rfl)
 ·intro j e' h' b he hl M q;rcases NU L he with⟨rfl,rfl⟩|⟨hne,O⟩
  ·cases hl
  have h3:=I.mem.blk j e' h' b O hl M q;refine⟨λJ=>?_,h3.2⟩;rcases J with J|J
  ·exact h3.1 J
  exact hne (I.mem.G8 j k e' _ h' hd b O hk hl rfl M U q J)
 ·intro i j e1 e2 h1 h2 b he1 he2 Z hl2 hh1 hh2 hb1 hb2;rcases NU L he1 with⟨rfl,rfl⟩|⟨_,aq9⟩
  ·cases Z
  rcases NU L he2 with⟨rfl,rfl⟩|⟨_,ara⟩
  ·cases hl2
  exact I.mem.G8 i j e1 e2 h1 h2 b aq9 ara Z hl2 hh1 hh2 hb1 hb2
 intro t ht;simp only[BP.thaw,DK]at ht
 have e1:(σ.thaw k xs).slots.getD t .junk=(σ.slots.getD t .junk).thaw k xs:=by
  simp only[BP.thaw];exact TT _ _ _ ht
 rw[e1];have Y:=(I.slot t ht).mono hg (dU H);generalize σ.slots.getD t .junk=x at Y ⊢;generalize a.tmps.getD t undef=v at Y ⊢;cases x with
 |aQ j=>
  simp only[Am.thaw];split
  ·rename_i hj;subst hj;obtain rfl:=P5 Y U;exact .d _ _ (kV hok (λb q=>.inl q) (λb q=>.inr q))
  exact Y
 |lH j i off=>
  simp only[Am.thaw];split
  ·exact .junk _
  exact Y
 |_=>
   exact Y
def EU.view {args:AA Am}{e:Nat}(h:EU P f args [] (.aQ 0) [.arr e s xs]):EU P f args [] (.d (.sl xs)) []:=by
 intro ok X H w q hm hs ha;refine(h ok X H w q hm hs ha).mono ?_;rintro e' w' ⟨v,ok',H',rfl,j,O⟩;have U:H=[]:=I4 hm.hlen;have hl:H'.length=1:=j.hlen
 match H',hl with
 | [hd],_=>
   obtain rfl:=P5 O (h:=hd) rfl;have L:=j.ent 0 _ hd rfl rfl;have J:=λb J=>j.blk 0 _ hd b rfl rfl rfl J
   let M:Nat->Prop:=λb=>ok' b\/ED hd.v=some b
   refine⟨hd.v,M,[],rfl,⟨j.fr,λb h=>.inl (j.AX b h),?_,?_,by intro k v Y;subst U;simp at Y,rfl,λk e h I=>jT,λk e h b I=>jT,λk k' e e' h h' b I=>jT⟩,.d _ _ (kV L (λb h=>.inl h) (λb h=>.inr h))⟩
   ·rintro b (h|h)
    ·exact j.AY b h
    exact .inr (J b h).2.2
   rintro b (h|h)
   ·exact j.kX b h
   exact(J b h).2.1
def agk (es E':AA Bc)(j:E'.all Bc.closed=true):Nh [] es E'=es++E':=by
 unfold Nh;simp only[List.findIdx?_nil,La,pU];rw[aPm j];congr 1;apply dG
 grind
variable {res':Am}
def aFp {j:Am}(J:EU P f fF [] j E')(L:IC P f=true)(q:E'.all Bc.closed=true)(ha:OG [] eY fF)(hl:ops.toList.length=eY.length)(M:j.up [] es.length=res')(O:o.op=.call { callee:=.value (.func f),args:=ops,argTypes:=ats }:=by exact rfl):CG P o (GR ops.toList eY) es res' (es++E'):=by
 have :=aWx (es:=es) [] J L (by
  have I:E'.all (Bc.auN [] es.length)=true:=by
   rw[GK]at q ⊢;exact λe U=>ac1 (q e U)
  simp[U7,I]) (λi s h=>Il) ha hl O
 rw[agk _ _ q,M]at this;exact this
def aXb {j:Am}(q:EU P f fF [] j [])(I:IC P f=true)(ha:OG [] eY fF)(hl:ops.toList.length=eY.length)(J:j.up [] es.length=res')(L:o.op=.call { callee:=.value (.func f),args:=ops,argTypes:=ats }:=by exact rfl):CG P o (GR ops.toList eY) es res' es:=by
 have :=aFp (es:=es) q I rfl ha hl J L
 grind
variable {x y:Code}
section
variable {P:Ch} {σ:BP} {Q:Exit->BP->Prop}
def aEX (P:Ch)(σ:BP):ResultVar->Am->Prop
 | .tmp t,x=>x=σ.slots.getD t .junk
 | .cell t T,x=>∃k cs agg n,σ.slots.getD t .junk=.ptr k 0/\σ.ents[k]? =some (.box cs)/\cs.all Am.Dn=true/\Ep P T agg n/\n<=cs.length/\(agg=false->n=1)/\x=.d (Qe agg (Jl cs) 0 n)
def FY {P:Ch}{σ:BP}{t:Tmp}{x:Am}(h:x=σ.slots.getD t .junk):aEX P σ (.tmp t) x:=h
def dI (P:Ch)(σ:BP):AA ResultVar->AA Am->Prop
 |r::rs,x::xs=>aEX P σ r x/\dI P σ rs xs
 | [],[]=>True
 |_,_=>False
def qA :AA Am->Am
 | [x]=>x
 |xs=>.eu xs
def gY (P:Ch)(fn:Func)(j:Am)(E':AA Bc):Exit->BP->Prop
 | .ret,σ=>∃xs π,dI P σ fn.results.toList xs/\VZ σ.base σ.ents π=true/\j=(qA xs).back π/\E'=U0 σ.ents π
 | .normal,σ=>∃xs π,dI P σ fn.results.toList xs/\VZ σ.base σ.ents π=true/\j=(qA xs).back π/\E'=U0 σ.ents π
 |_,_=>False
def aFF (tmps:Bh BJ):ResultVar->Sem BJ
 | .tmp t=>pure (tmps.getD t undef)
 | .cell t T=>do loadVar T (←asAddr (tmps.getD t undef))
def abv (h:Holds C ok H σ a w){r:ResultVar}{x:Am}(j:aEX P σ r x):
 ∃v,(aFF a.tmps r).run P w=.ok v w/\R ok w H x v:=by
 cases r with
 |tmp t=>
  obtain rfl:=j;exact⟨_,rfl,h.aC8 t⟩
 |cell t T=>
  obtain⟨k,cs,agg,n,hs,L,hd,M,hn,h1,rfl⟩:=j;have hp:=hs▸h.aC8 t;obtain⟨O,U,q⟩:=Gy h.mem.ent h.mem.hlen L;obtain⟨b,I,Y,Z,hc⟩:=aKk q hd;generalize hu:a.tmps.getD t undef=u at hp;cases hp with
  |ptr _ _ b' s J=>
   rw[U]at J;obtain rfl:=E9 J;simp at I;subst I;show ∃v,((do loadVar T (←asAddr (a.tmps.getD t undef)):Sem BJ)).run P w=.ok v w/\_;rw[hu];obtain⟨v,j,hD⟩:=a8Z M (off:=0) (by rw[zG];omega) h1 Y Z hc;refine⟨v,?_,.d _ _ hD⟩;simp only[Instr.loadAt,Instr.sureAddr,GL,Hg,GY,KW]at j;simp only[asAddr,GL,Hg,GY];exact j
def aQV {C:FI}{ok:Nat->Prop}{H:AA CB}{a:Act}{w:BU}(h:Holds C ok H σ a w):∀(rs:AA ResultVar) (xs:AA Am),dI P σ rs xs->
 ∃vs:AA BJ,(rs.mapM (aFF a.tmps)).run P w=.ok vs w/\vs.length=xs.length/\∀i,i<xs.length->R ok w H (xs.getD i .junk) (vs.getD i undef)
 | [],[],_=>⟨[],rfl,rfl,λi hi=>Sj⟩
 | [],_::_,h'=>h'.elim
 |_::_,[],h'=>h'.elim
 |r::rs,x::xs,h'=>by
  obtain⟨v,q,J⟩:=abv (P:=P) h h'.1;obtain⟨vs,j,hl,I⟩:=aQV h rs xs h'.2;refine⟨v::vs,?_,dn,λi hi=>?_⟩
  ·simp only[List.mapM_cons,GL,q,j,GY,Hg]
  grind
def anW (h:Holds C ok H σ a w){xs:AA Am}(J:dI P σ fn.results.toList xs):
 ∃v,(results fn a.tmps).run P w=.ok v w/\R ok w H (qA xs) v:=by
 obtain⟨vs,q,hl,j⟩:=aQV (P:=P) h _ _ J
 have hm:(results fn a.tmps).run P w=.ok (if h:vs.toArray.size=1 then vs.toArray[0]else .tuple vs.toArray) w:=by
  have e:results fn a.tmps=(do let vs ←fn.results.mapM (aFF a.tmps);pure (if h:vs.size=1 then vs[0]else .tuple vs)):=rfl;rw[e,aDs];simp only[GL,OnA,q,GY,Hg]
 refine⟨_,hm,?_⟩
 match xs,hl,j with
 | [x],hl,j=>
   have h1:vs.toArray.size=1:=N7
   rw[dif_pos h1];have :=j 0 Bf
   have e:vs.getD 0 undef=vs.toArray[0]:=by
    have :0<vs.length:=dn
    simp[List.getD,this]
   rw[e]at this;exact this
 | [],hl,j=>
   have h1:¬vs.toArray.size=1:=by simp at hl;simp[hl]
   rw[dif_neg h1];exact .eu [] _ N7 (λi hi=>Sj)
 |x::y::xs,hl,j=>
  have h1:¬vs.toArray.size=1:=by simp at hl;simp[hl]
  rw[dif_neg h1];refine .eu _ _ N7 (λi hi=>?_);have :=j i hi;have I:i<vs.length:=AL
  have e:vs.toArray.getD i undef=vs.getD i undef:=by simp[Array.getD,List.getD,I]
  rw[e];exact this
def aYa {D:Nat}{x:AB (AA Deferred)}(h:w.heap[D]? =some (.deferred x))(o:Nat):w.cell? ⟨D,o,none⟩=none:=by
 unfold World.cell?;rw[h]
def Holds.take {σ:BP}(hC:∀b,C.ok0 b->b<C.w0.heap.size)(h:Holds C ok H σ a w){D:Nat}{Ds:AA Nat}(hd:∀d∈Ds,ok d/\C.w0.heap.size<=d/\w.heap[d]? =some (.deferred (some [])))(hD:ok D/\C.w0.heap.size<=D/\w.heap[D]? =some (.deferred (some [])))(U:(D::Ds).Nodup):
 ∃ok',Holds C ok' H σ { a with defers:=Ds.map λD=>{ target:=.collected D,args:= #[] } } (w.putObj D (.deferred none))/\∀d∈Ds,ok' d/\C.w0.heap.size<=d/\(w.putObj D (.deferred none)).heap[d]? =some (.deferred (some [])):=by
 obtain⟨h1,h2,h3⟩:=hD;have q:∀b,b≠D->(w.putObj D (.deferred none)).heap[b]? =w.heap[b]? :=λb j=>bC j;have L:∀b o,ok b->(w.cell? ⟨b,o,none⟩).isSome=true->ok b/\b≠D:=λb o j M=>⟨j,λe=>by subst e;rw[aYa h3]at M;cases M⟩
 have hg:FH (λb=>ok b/\b≠D) w (λb=>ok b/\b≠D) (w.putObj D (.deferred none)):=λb j=>⟨j,q b j.2⟩
 have Y:∀(k:Nat) (e:Bc) (hd:CB) (b:Nat),σ.ents[k]? =some e->e.live=true->H[k]? =some hd->ED hd.v=some b->b≠D:=λk e hd b I hl J j Z=>(h.mem.blk k e hd b I hl J j).1 (Z▸h1)
 have O:∀d∈Ds,(ok d/\d≠D)/\C.w0.heap.size<=d/\(w.putObj D (.deferred none)).heap[d]? =some (.deferred (some [])):=λd hdm=>by
  grind
 refine⟨λb=>ok b/\b≠D,⟨⟨⟨h.mem.fr.os,h.mem.fr.tape,h.mem.fr.output,by simpa[World.putObj]using h.mem.fr.size,λk hk hX=>by rw[q k AL];exact h.mem.fr.block k hk hX⟩,λb j=>⟨h.mem.AX b j,λe=>by have :=hC b j;omega⟩,λb j=>h.mem.AY b j.1,λb j=>by simpa[World.putObj]using h.mem.kX b j.1,h.mem.names,h.mem.hlen,?_,?_,?_⟩,h.size,⟨Ds,rfl,(RX.1 U).2,O⟩,h.base,λt ht=>((h.slot t ht).shrink L).mono hg (.refl _)⟩,O⟩
 ·intro k e hd I J;exact((h.mem.ent k e hd I J).shrink L (λb ms c j M=>⟨j,λe=>by subst e;rw[h3]at M;cases M⟩)).mono hg (.refl _) λhl b j=>q b (Y k e hd b I hl J j)
 ·intro k e hd b I hl J j;obtain⟨h4,h5,h6⟩:=h.mem.blk k e hd b I hl J j;exact⟨λhx=>h4 hx.1,by simpa[World.putObj]using h5,h6⟩
 exact h.mem.G8
def aEx {fn:Func}{Rr:Ending->BU->Prop}{C:FI}(I:∀b,C.ok0 b->b<C.w0.heap.size){H:AA CB}{σ:BP}(J:∀ok a w,Holds C ok H σ a w->∃v,(results fn a.tmps).run P w=.ok v w/\Rr (.returned v) w):∀(Ds:AA Nat) {ok:Nat->Prop} {a:Act} {w:BU},Holds C ok H σ a w->(∀d∈Ds,ok d/\C.w0.heap.size<=d/\w.heap[d]? =some (.deferred (some [])))->Ds.Nodup->
  LeavesInM (Js none) 0 P fn a.tmps Rr (Ds.map λD=>{ target:=.collected D,args:= #[] }) .returning w
 | [],ok,a,w,h,_,_=>J ok a w h
 |D::Ds,ok,a,w,h,hd,L=>by
  obtain⟨ok',h',j⟩:=h.take I (λd q=>hd d (JX _ q)) (hd D (Iu ..)) L;have h2:=aEx I J Ds h' j (RX.1 L).2;exact⟨Bf,.inl ⟨D,_,rfl,run_takeDeferred (hd D (Iu ..)).2.2,h2⟩⟩
def EU.dK {f:FuncId}{fn:Func}{c:Code}{args:AA Am}{E E':AA Bc}{I:Am}(hf:P.funcs[f]? =some fn)(hb:fn.body=some c)(h:Bl P c (.enter args fn.ntmps E) (gY P fn I E')):EU P f args E I E':=by
 intro ok X H w j hm hs ha;refine(aAx (ro:=none) (n:=0)).1 (aFb hf hb trivial (X4 (h.run none (.inl rfl) ⟨w,ok,X,H⟩ ok H _ w ?_) ?_) rfl)
 ·refine⟨hm,?_,.nil _ _ _,hm.hlen,λt ht=>?_⟩
  ·simp[BP.enter,hs]
  simp only[BP.enter];by_cases e:t<args.length
  ·have Z:(args++List.replicate (fn.ntmps-args.length) Am.junk).getD t .junk=args.getD t .junk:=aFX
   have e2:(j++Array.replicate (fn.ntmps-j.size) undef).getD t undef=j.getD t undef:=by
    simp[Jm,cu (show t<j.size by omega)]
   grind
  have Z:(args++List.replicate (fn.ntmps-args.length) Am.junk).getD t .junk=.junk:=by
   grind
  rw[Z];exact .junk _
 rintro e a' w' ⟨ok',H',σ',h1,h2⟩;obtain⟨Ds,L,M,O⟩:=h1.defers
 have key:∀(x:AA Am) (π:AA (Nat×Ac)),dI P σ' fn.results.toList x->VZ σ'.base σ'.ents π=true->I=(qA x).back π->E'=U0 σ'.ents π->
  LeavesInM (Js none) 0 P fn a'.tmps (λe w'=>∃v ok' H',e=.returned v/\E8 ⟨w,ok,X,H⟩ ok' H' E' w'/\R ok' w' H' I v) a'.defers .returning w':=by
  rintro x π J q rfl rfl;rw[L];refine aEx (P:=P) (C:=⟨w,ok,X,H⟩) hm.kX (λU a2 w2 h3=>?_) Ds h1 O M;obtain⟨v,hv,hR⟩:=anW (P:=P) h3 J;exact⟨v,hv,v,U,_,rfl,h3.mem.norm π (h3.base▸q),hR.back π⟩
 cases e with
 |ret=>
  obtain⟨x,π,J,q,h3,Y⟩:=h2;exact key x π J q h3 Y
 |normal=>
  obtain⟨x,π,J,q,h3,Y⟩:=h2;exact key x π J q h3 Y
 |_=>
   exact h2.elim
def Dy:=@EU.dK
def Aa (j:Bl P x σ (Jd (λs=>Bl P y s Q) Q)):Bl P (.seq x y) σ Q:=Bl.seq _ j (λ_ h=>h)
def Bl.join {x y:Code}(K:BP->Prop)(j:∀s,K s->Bl P y s Q)(q:(∀s,K s->Bl P y s Q)->Bl P x σ (Jd (λs=>Bl P y s Q) Q)):Bl P (.seq x y) σ Q:=Bl.seq _ (q j) (λ_ h=>h)
def YO:=@Bl.join
def VW {R:Type}(st:BP)(g:AB R)(r:R)(j:g=some r->Bl P y st Q)(q:(∀{s},Gt s st->g=some r->Bl P y s Q)->Bl P x σ (Jd (λs=>Bl P y s Q) Q)):Bl P (.seq x y) σ Q:=YO (λs=>Gt s st/\g=some r) (λ_ h=>.sub h.1 (j h.2)) λK=>q λhs h=>K _ ⟨hs,h⟩
def D9 {R:Type}(st:α->BP)(g:α->AB R)(r:R)(j:∀z,g z=some r->Bl P y (st z) Q)(q:(∀{s} z,Gt s (st z)->g z=some r->Bl P y s Q)->Bl P x σ (Jd (λs=>Bl P y s Q) Q)):Bl P (.seq x y) σ Q:=YO (λs=>∃z,Gt s (st z)/\g z=some r) (λ_ ⟨z,hs,h⟩=>.sub hs (j z h)) λK=>q λz hs h=>K _ ⟨z,hs,h⟩
def Si {R:Type}(st:α->β->BP)(g:α->β->AB R)(r:R)(j:∀z w,g z w=some r->Bl P y (st z w) Q)(q:(∀{s} z w,Gt s (st z w)->g z w=some r->Bl P y s Q)->Bl P x σ (Jd (λs=>Bl P y s Q) Q)):Bl P (.seq x y) σ Q:=YO (λs=>∃z w,Gt s (st z w)/\g z w=some r) (λ_ ⟨z,w,hs,h⟩=>.sub hs (j z w h)) λK=>q λz w hs h=>K _ ⟨z,w,hs,h⟩
def QG (j:σ.get c=.d (.lit (.bool true)))(h:Bl P x σ Q):Bl P (.cond c x y) σ Q:=Bl.cond true j (λ_=>h) (λh=>GN)
def NJ (j:σ.get c=.d (.lit (.bool false)))(h:Bl P y σ Q):Bl P (.cond c x y) σ Q:=Bl.cond false j (λh=>GN) (λ_=>h)
def Ee {id:Nat}{ops:Bh Oper}(hm:P.follows .mixedOrders=true)(j:(Ua ops&&XH ops&&ZW ops σ.slots.length&&Xa ops)=true)(q:Xn ops bs=true)(h:Fr P ops ops.toList σ rs ess bs σ')(I:Bl P y σ' Q):Bl P (.seq (.region id ops true) y) σ Q:=
 Bl.seq (λs=>s=σ') (.draw hm j q h rfl) (λ_ e=>e▸I)
end
variable {a b:Ac}{s:Bq}{x y:Bz}
def akS {cs:AA D}{y:D}(j:y=Qe agg cs off n)(q:Ep P t agg n)(I:off+n<=cs.length)(h1:agg=false->n=1)(J:o.op=.load t x:=by exact rfl):CG P o [(x,.d (.ref cs off))] es (.d y) es:=j▸aZD q I h1 J
def ajf {y:D}(j:y=Qe agg (Jl cs) off n)(q:es[k]? =some (.box cs))(hd:cs.all Am.Dn=true)(I:Ep P t agg n)(J:off+n<=cs.length)(h1:agg=false->n=1)(L:o.op=.load t x:=by exact rfl):
 CG P o [(x,.ptr k off)] es (.d y) es:=j▸amH q hd I J h1 L
def aYz {f:Nat}{cs:AA D}{y:D}(j:y=Qe agg cs off n)(hp:iV P t f off agg n=true)(q:off+n<=cs.length)(h1:agg=false->n=1)(I:o.op=.field t x f:=by exact rfl):CG P o [(x,.d (.agg cs))] es (.d y) es:=j▸akq hp q h1 I
def ajY {j:AA (Nat×Nat)}{y:D}(I:JZ P t j z)(vs:AA Am)(J:o.op=.build t q)(L:y=.agg (Jl (LY (λ(i:Nat)=>j[i]?) (Gg z) q.toList vs)))(hp:OV (λ(i:Nat)=>j[i]?) (Gg z).length q.toList vs=true)(hd:(LY (λ(i:Nat)=>j[i]?) (Gg z) q.toList vs).all Am.Dn=true):CG P o (Ot q.toList vs) es (.d y) es:=L▸ako I vs hp hd J
def afJ {j k:IntKind}{n:Int}(hs:P.underlying s=some (.int j))(q:P.underlying t=some (.int k))(I:o.op=.convert s t x:=by exact rfl):CG P o [(x,.d (.lit (.int j n)))] es (.d (.lit (.int k (k.wrap n)))) es:=
 aY7 I λw=>by simp[convert,underlying,hs,q,Conv.intToInt]
def adO {u:BH}(hs:P.underlying s=some .string)(j:P.underlying t=some .string)(q:o.op=.convert s t x:=by exact rfl):CG P o [(x,.d (DV u))] es (.d (DV u)) es:=
 aY7 q λw=>by simp[convert,underlying,hs,j]
def alR (j:P.underlying t=some .bool)(q:o.op=.binOp .eql t x y t':=by exact rfl):CG P o [(x,.d (EH a)),(y,.d (EH b))] es (.d (EH (a==b))) es:=
 Ja (u:=.bool a) (v:=.bool b) (r:=.bool (a==b)) q (λw=>by
  show((do pure (.bool (←Op.equal t (.bool a) (.bool b))):Sem BJ)).run P w=_
  simp only[GL,run_equal_bool w t a b j,GY,Hg]) ⟨rfl,rfl⟩
def afp (j:P.underlying t=some .bool)(q:o.op=.binOp .neq t x y t':=by exact rfl):CG P o [(x,.d (EH a)),(y,.d (EH b))] es (.d (EH (!(a==b)))) es:=
 Ja (u:=.bool a) (v:=.bool b) (r:=.bool (!(a==b))) q (λw=>by
  show((do pure (.bool (!(←Op.equal t (.bool a) (.bool b)))):Sem BJ)).run P w=_
  simp only[GL,run_equal_bool w t a b j,GY,Hg]) ⟨rfl,rfl⟩
def bg {A Rr:Type}(body:(A->AB Rr)->A->AB Rr):Nat->A->AB Rr
 |0,_=>none
 |n+1,a=>body (bg body n) a
variable {A Rr:Type}{Q:Exit->BP->Prop}
def Dq {q:Code}(S:A->BP)(body:(A->AB Rr)->A->AB Rr)(r:Rr)(a0:A)(hs:Gt σ (S a0))(h:Go.Proofs.YteiakhlfaaifnaaGreat.bg body Aw a0=some r)(round:∀(J:BP->Prop) (k:A->AB Rr),(∀σ' a,Gt σ' (S a)->k a=some r->J σ')->∀a,body k a=some r->Bl P q (S a) (Jd J Q)):Bl P (.loop q) σ Q:=by
 refine Bl.loop (λn s=>∃a,Gt s (S a)/\Go.Proofs.YteiakhlfaaifnaaGreat.bg body n a=some r) Aw ⟨a0,hs,h⟩ ?_;rintro n s ⟨a,j,I⟩;refine Nu j ?_;cases n with
 |zero=>cases I
 |succ n=>exact round _ (Go.Proofs.YteiakhlfaaifnaaGreat.bg body n) (λσ' a h1 h2=>⟨n,Xe n,a,h1,h2⟩) a I
def aS {A B Rr:Type}(body:(A->B->AB Rr)->A->B->AB Rr):Nat->A->B->AB Rr
 |0,_,_=>none
 |n+1,a,b=>body (aS body n) a b
variable {B:Type}
def DJ {I:Code}(S:A->B->BP)(body:(A->B->AB Rr)->A->B->AB Rr)(r:Rr)(a0:A)(q:B)(hs:Gt σ (S a0 q))(h:Go.Proofs.YteiakhlfaaifnaaGreat.aS body Aw a0 q=some r)(round:∀(J:BP->Prop) (k:A->B->AB Rr),(∀σ' a b,Gt σ' (S a b)->k a b=some r->J σ')->∀a b,body k a b=some r->Bl P I (S a b) (Jd J Q)):Bl P (.loop I) σ Q:=by
 refine Bl.loop (λn s=>∃a b,Gt s (S a b)/\Go.Proofs.YteiakhlfaaifnaaGreat.aS body n a b=some r) Aw ⟨a0,q,hs,h⟩ ?_;rintro n s ⟨a,b,j,L⟩;refine Nu j ?_;cases n with
 |zero=>cases L
 |succ n=>exact round _ (Go.Proofs.YteiakhlfaaifnaaGreat.aS body n) (λσ' a b h1 h2=>⟨n,Xe n,a,b,h1,h2⟩) a b L
def iM {A B C Rr:Type}(body:(A->B->C->AB Rr)->A->B->C->AB Rr):Nat->A->B->C->AB Rr
 |0,_,_,_=>none
 |n+1,a,b,c=>body (iM body n) a b c
def PO {L:Code}{C:Type}(S:A->B->C->BP)(body:(A->B->C->AB Rr)->A->B->C->AB Rr)(r:Rr)(a0:A)(q:B)(I:C)(hs:Gt σ (S a0 q I))(h:Go.Proofs.YteiakhlfaaifnaaGreat.iM body Aw a0 q I=some r)(round:∀(J:BP->Prop) (k:A->B->C->AB Rr),(∀σ' a b c,Gt σ' (S a b c)->k a b c=some r->J σ')->∀a b c,body k a b c=some r->Bl P L (S a b c) (Jd J Q)):Bl P (.loop L) σ Q:=by
 refine Bl.loop (λn s=>∃a b c,Gt s (S a b c)/\Go.Proofs.YteiakhlfaaifnaaGreat.iM body n a b c=some r) Aw ⟨a0,q,I,hs,h⟩ ?_;rintro n s ⟨a,b,c,j,M⟩;refine Nu j ?_;cases n with
 |zero=>cases M
 |succ n=>exact round _ (Go.Proofs.YteiakhlfaaifnaaGreat.iM body n) (λσ' a b c h1 h2=>⟨n,Xe n,a,b,c,h1,h2⟩) a b c M
def X8 {A B C D Rr:Type}(body:(A->B->C->D->AB Rr)->A->B->C->D->AB Rr):Nat->A->B->C->D->AB Rr
 |0,_,_,_,_=>none
 |n+1,a,b,c,d=>body (X8 body n) a b c d
def Bl.X8 {P:Ch}{σ:BP}{Q:Exit->BP->Prop}{M:Code}{A B C D Rr:Type}(S:A->B->C->D->BP)(body:(A->B->C->D->AB Rr)->A->B->C->D->AB Rr)(r:Rr)(a0:A)(q:B)(I:C)(L:D)(hs:Gt σ (S a0 q I L))(h:Go.Proofs.YteiakhlfaaifnaaGreat.X8 body Aw a0 q I L=some r)(round:∀(J:BP->Prop) (k:A->B->C->D->AB Rr),(∀σ' a b c d,Gt σ' (S a b c d)->k a b c d=some r->J σ')->∀a b c d,body k a b c d=some r->Bl P M (S a b c d) (Jd J Q)):Bl P (.loop M) σ Q:=by
 refine Bl.loop (λn s=>∃a b c d,Gt s (S a b c d)/\Go.Proofs.YteiakhlfaaifnaaGreat.X8 body n a b c d=some r) Aw ⟨a0,q,I,L,hs,h⟩ ?_;rintro n s ⟨a,b,c,d,j,O⟩;refine Nu j ?_;cases n with
 |zero=>cases O
 |succ n=>exact round _ (Go.Proofs.YteiakhlfaaifnaaGreat.X8 body n) (λσ' a b c d h1 h2=>⟨n,Xe n,a,b,c,d,h1,h2⟩) a b c d O
def DW {A B C D E Rr:Type}(body:(A->B->C->D->E->AB Rr)->A->B->C->D->E->AB Rr):Nat->A->B->C->D->E->AB Rr
 |0,_,_,_,_,_=>none
 |n+1,a,b,c,d,e=>body (DW body n) a b c d e
def a4x {O:Code}{C D E:Type}(S:A->B->C->D->E->BP)(body:(A->B->C->D->E->AB Rr)->A->B->C->D->E->AB Rr)(r:Rr)(a0:A)(q:B)(I:C)(L:D)(M:E)(hs:Gt σ (S a0 q I L M))(h:Go.Proofs.YteiakhlfaaifnaaGreat.DW body Aw a0 q I L M=some r)(round:∀(J:BP->Prop) (k:A->B->C->D->E->AB Rr),(∀σ' a b c d e,Gt σ' (S a b c d e)->k a b c d e=some r->J σ')->∀a b c d e,body k a b c d e=some r->Bl P O (S a b c d e) (Jd J Q)):Bl P (.loop O) σ Q:=by
 refine Bl.loop (λn s=>∃a b c d e,Gt s (S a b c d e)/\Go.Proofs.YteiakhlfaaifnaaGreat.DW body n a b c d e=some r) Aw ⟨a0,q,I,L,M,hs,h⟩ ?_;rintro n s ⟨a,b,c,d,e,j,U⟩;refine Nu j ?_;cases n with
 |zero=>cases U
 |succ n=>exact round _ (Go.Proofs.YteiakhlfaaifnaaGreat.DW body n) (λσ' a b c d e h1 h2=>⟨n,Xe n,a,b,c,d,e,h1,h2⟩) a b c d e U
def zN {A B C D E F Rr:Type}(body:(A->B->C->D->E->F->AB Rr)->A->B->C->D->E->F->AB Rr):Nat->A->B->C->D->E->F->AB Rr
 |0,_,_,_,_,_,_=>none
 |n+1,a,b,c,d,e,f=>body (zN body n) a b c d e f
def aAf {U:Code}{C D E F:Type}(S:A->B->C->D->E->F->BP)(body:(A->B->C->D->E->F->AB Rr)->A->B->C->D->E->F->AB Rr)(r:Rr)(a0:A)(q:B)(I:C)(L:D)(M:E)(O:F)(hs:Gt σ (S a0 q I L M O))(h:Go.Proofs.YteiakhlfaaifnaaGreat.zN body Aw a0 q I L M O=some r)(round:∀(J:BP->Prop) (k:A->B->C->D->E->F->AB Rr),(∀σ' a b c d e f,Gt σ' (S a b c d e f)->k a b c d e f=some r->J σ')->∀a b c d e f,body k a b c d e f=some r->Bl P U (S a b c d e f) (Jd J Q)):Bl P (.loop U) σ Q:=by
 refine Bl.loop (λn s=>∃a b c d e f,Gt s (S a b c d e f)/\Go.Proofs.YteiakhlfaaifnaaGreat.zN body n a b c d e f=some r) Aw ⟨a0,q,I,L,M,O,hs,h⟩ ?_;rintro n s ⟨a,b,c,d,e,f,j,Y⟩;refine Nu j ?_;cases n with
 |zero=>cases Y
 |succ n=>exact round _ (Go.Proofs.YteiakhlfaaifnaaGreat.zN body n) (λσ' a b c d e f h1 h2=>⟨n,Xe n,a,b,c,d,e,f,h1,h2⟩) a b c d e f Y
def Kq {A B C D E F G Rr:Type}(body:(A->B->C->D->E->F->G->AB Rr)->A->B->C->D->E->F->G->AB Rr):Nat->A->B->C->D->E->F->G->AB Rr
 |0,_,_,_,_,_,_,_=>none
 |n+1,a,b,c,d,e,f,g=>body (Kq body n) a b c d e f g
def Bl.Kq {P:Ch}{σ:BP}{Q:Exit->BP->Prop}{Y:Code}{A B C D E F G Rr:Type}(S:A->B->C->D->E->F->G->BP)(body:(A->B->C->D->E->F->G->AB Rr)->A->B->C->D->E->F->G->AB Rr)(r:Rr)(a0:A)(q:B)(I:C)(L:D)(M:E)(O:F)(U:G)(hs:Gt σ (S a0 q I L M O U))(h:Go.Proofs.YteiakhlfaaifnaaGreat.Kq body Aw a0 q I L M O U=some r)(round:∀(J:BP->Prop) (k:A->B->C->D->E->F->G->AB Rr),(∀σ' a b c d e f g,Gt σ' (S a b c d e f g)->k a b c d e f g=some r->J σ')->∀a b c d e f g,body k a b c d e f g=some r->Bl P Y (S a b c d e f g) (Jd J Q)):Bl P (.loop Y) σ Q:=by
 refine Bl.loop (λn s=>∃a b c d e f g,Gt s (S a b c d e f g)/\Go.Proofs.YteiakhlfaaifnaaGreat.Kq body n a b c d e f g=some r) Aw ⟨a0,q,I,L,M,O,U,hs,h⟩ ?_;rintro n s ⟨a,b,c,d,e,f,g,j,Z⟩;refine Nu j ?_;cases n with
 |zero=>cases Z
 |succ n=>exact round _ (Go.Proofs.YteiakhlfaaifnaaGreat.Kq body n) (λσ' a b c d e f g h1 h2=>⟨n,Xe n,a,b,c,d,e,f,g,h1,h2⟩) a b c d e f g Z
variable {c:Int}
def alO {b:Nat}{z:α}{n:Int}{r:AA α}(h:J4 b z n c=some r):(0<=n/\n<=c/\(b:Int)*c<=140737488355328)/\r=List.replicate n.toNat z:=by
 unfold J4 at h;split at h
 ·grind
 cases h
def Ub {q:BJ}{n:Int}{r:AA α}(enc:α->D)(z:α)(h:J4 j z n c=some r)(hE:GX P t e size j)(hz:(P.info? e).bind (·.zero)=some q)(h1:q.cells.all (·.oneCell')=true)(Y:q.cells.size=size)(M:Gg q=(enc z).cells.map .d)(hb:0<j)(ho:o.op=.makeSlice t x y:=by exact rfl):CG P o [(x,.d (Ah n)),(y,.d (Ah c))] es (.aQ es.length) (es++[.arr e size (List.map enc r)]):=
 .eff λC ok H a w hm hn=>by
  obtain⟨⟨h0,Z,hbc⟩,rfl⟩:=alO h;have hx:=(F9 hn).1.lit;have hy:=(F9 hn).2.lit;simp only at hx hy;obtain⟨i,z',hi,hz',hs,hby,_⟩:=hE.info;have hzv:i.zero=some q:=by rw[hi]at hz;simpa using hz
  have O:c<=9223372036854775807:=by
   have h2:(1:Int)*c<=(j:Int)*c:=Int.mul_le_mul_of_nonneg_right AL AL;omega
  have hr:=run_make (P:=P) w t e i q hE.und hi hzv .i64 .i64 n c h0 Z (by rw[hby];omega) O;rw[hs]at hr
  let cells:=madeCells q.cells (c.toNat*size)
  have U:=hE.pos;have I:cells.size=c.toNat*size:=size_madeCells _ _;have hlc:(Gg q).length=size:=by simp[Gg,Y]
  have J:∀y∈List.map enc (List.replicate n.toNat z),y.cells.length=size:=by
   grind
  have L:=Tj J;have hlen:(List.map enc (List.replicate n.toNat z)).length=n.toNat:=Bf
  rw[hlen]at L;have aVY:n.toNat*size<=c.toNat*size:=Ko _ AL
  have hrs:∀{ok:Nat->Prop} {w:BU} {H:AA CB},Fq ok w H (flat (List.map enc (List.replicate n.toNat z))) (cells.toList.take (n.toNat*size)):=by
   intro ok w H;refine⟨by rw[L,HY,Vf,I];omega,λk hk=>?_⟩;rw[L]at hk;have hd:=aBo k size;have hq:k/size<n.toNat:=uH (by rwa [WL]at hk);have hm':k % size<size:=rC _ U;have e0:k=k/size*size+k % size:=by rw[WL];exact hd.symm
   have e1:(flat (List.map enc (List.replicate n.toNat z))).getD k .junk=.d ((enc z).cells.getD (k % size) EN):=by
    have hg:=flat_get J (k/size) (k % size) (by rw[hlen];exact hq) hm';rw[←e0]at hg;rw[hg]
    grind
   have hcl:(enc z).cells.length=size:=by rw[←hlc,M];simp
   have e2:(Am.d ((enc z).cells.getD (k % size) EN))=(Gg q).getD (k % size) .junk:=by
    rw[M];have :k % size<(enc z).cells.length:=AL
    grind
   have hmz:k % size<q.cells.size:=AL
   have e3:(cells.toList.take (n.toNat*size)).getD k undef=q.cells[k % size]:=by
    have hk2:k<c.toNat*size:=AL
    have e:cells.toList=(List.range (c.toNat*size)).map λi=>q.cells[i % q.cells.size]! :=by
     show(madeCells q.cells (c.toNat*size)).toList=_;simp[madeCells]
    rw[e];simp only[List.getD,Qr hk]
    grind
   rw[e1,e2,e3];have e4:(Gg q).getD (k % size) .junk=.d (Q7 q.cells[k % size]):=by simp[Gg,List.getD,hmz]
   rw[e4];exact⟨yM ((Y5.1 h1) _ Bf),.d _ _ (lM _)⟩
  obtain⟨h2,h3⟩:=hm.push (.cells cells e) ⟨.slice (some ⟨w.heap.size,0,none⟩) n.toNat c.toNat,size⟩ (.arr e size (List.map enc (List.replicate n.toNat z))) (λb hb=>by simpa[ED]using hb.symm) (by
   refine⟨rfl,J,cells.toList.take (n.toNat*size),⟨?_,.inr ⟨w.heap.size,c.toNat,cells,by rw[hlen],F6 _,WH w _,by rw[hlen];omega,wJ,iW I.symm,by rw[hlen]⟩⟩,hrs⟩
   rw[hlen,HY,Vf,I];omega)
  refine⟨.slice (some ⟨w.heap.size,0,none⟩) n.toNat c.toNat,_,ok,_,.inl ?_,h3,IE _ _,h2,.aQ _ _ _ _ size Q8⟩;simp only[execOp,ho,hx,hy,GL,hr,GY,Hg];rfl
def gCopy (l m:AA α):AA α:=m.take l.length++l.drop m.length
def aVT {bytes:Nat}(enc:α->D)(l m:AA α)(hE:GX P t e size bytes)(hk:es[k]? =some (.arr e size (List.map enc l)))(hc:∀a,(enc a).cells.length=size)(ho:o.op=.call { callee:=.builtin .copy,args:= #[x,y],argTypes:= #[t,t] }:=by exact rfl):
 CG P o [(x,.aQ k),(y,.d (BR enc m))] es .junk (es.set k (.arr e size (List.map enc (gCopy l m)))):=
 .eff λC ok H a w hm hn=>by
  have hx:=(F9 hn).1;have hy:=(F9 hn).2;simp only at hx hy;obtain⟨h,hh,hok⟩:=Gy hm.ent hm.hlen hk;have hxv:=P5 hx hh;obtain⟨i,z',hi,hz',hs,hby,_⟩:=hE.info;have hu:(underlying t).run P w=.ok (.slice e) w:=aEQ
  have hsz:(sizeOf e).run P w=.ok size w:=aHu
  have Z:∀(q:AA α),∀y∈q.map enc,y.cells.length=size:=λq y hy=>aEL
  have hyR:ET ok w (.sl (m.map enc)) (a.eval y):=by cases hy with |d _ _ h=>exact h
  obtain⟨I,Y,aO8⟩:=jK H hyR (Z m);obtain⟨h1,h2,ys,hown,hrs⟩:=hok;have hlm:(m.map enc).length=m.length:=Bf
  have hll:(l.map enc).length=l.length:=Bf
  have hnl:I.length=m.length*size:=by rw[Y.len,hlm]
  let n:=Nat.min m.length l.length
  have hlenx:(Builtin.lenOf (a.eval y)).run P w=.ok m.length w:=by
   rcases Y.at_ with⟨ad,c,e1,_⟩|⟨c,e1,e2⟩
   ·rw[e1];simp[Builtin.lenOf]
   rw[e1];rw[hlm]at e2;simp[Builtin.lenOf,e2]
  have L:(Builtin.firstCells size n (a.eval y)).run P w=.ok (I.take (n*size)).toArray w:=by
   rcases Y.at_ with⟨ad,c,e1,hcells⟩|⟨c,e1,e2⟩
   ·rw[e1];refine run_firstCells_some (P:=P) w size n ad _ c (I.take (n*size)) ?_ ?_
    ·rw[HY,hnl];have :n*size<=m.length*size:=Ko _ (aId _ _);omega
    intro j v hj;rw[a7E]at hj;split at hj
    ·exact hcells j v hj
    cases hj
   rw[e1];rw[hlm]at e2;have :I=[]:=I4 (by rw[hnl,e2];simp);simp[Builtin.firstCells,this]
  have hone:∀u∈I.take (n*size),u.oneCell'=true:=λu hu=>Y.one u (rH hu);have hn1:n<=m.length:=aId _ _;have hn2:n<=l.length:=aFH _ _
  have J:(I.take (n*size)).length=n*size:=by
   rw[HY,hnl];have :n*size<=m.length*size:=Ko _ hn1;omega
  have hgc:gCopy l m=m.take n++l.drop n:=by
   unfold gCopy;by_cases hle:m.length<=l.length
   ·have e1:n=m.length:=yU hle;rw[e1,Un hle,Ho]
   have e1:n=l.length:=Nat.min_eq_right AL;rw[e1,a1F AL,PU]
  have M:(gCopy l m).length=l.length:=by rw[hgc];simp;omega
  rcases hown.2 with⟨hv,hl0⟩|⟨g,cap,O,hv,_,hg,hncap,hcm,hcs,htake⟩
  ·
   rw[hll]at hl0;have hn0:n=0:=AL
   have hl:l=[]:=I4 hl0;have hge:gCopy l m=l:=by rw[hgc,hn0];simp
   rw[hge]
   have hset:es.set k (.arr e size (List.map enc l))=es:=by
    apply dG;intro j;by_cases hj:k=j
    ·subst hj;have hkl:=(H6.1 hk).1;rw[List.getElem?_set_self hkl,hk]
    rw[er hj]
   rw[hset];refine⟨goInt n,w,ok,H,.inl ?_,.refl _ _,.refl _,hm,.junk _⟩;have e0:Nat.min m.length 0=n:=by rw[hn0];simp
   have hf0:(Builtin.firstCells size 0 (a.eval y)).run P w=.ok #[] w:=by rw[hn0]at L;simpa using L
   simp[execOp,ho,resolve,invoke,builtin,Builtin.copy_,hxv,hv,hu,hlenx,hsz,hf0,hn0]
  ·rw[hll]at hv hncap htake;have hlt:g<w.heap.size:=(Ic.1 hg).1
   have hfit:n*size<=O.size:=by
    exact FQ (Ko _ AL) hcs
   have hst:=aFB (P:=P) g 0 e (I.take (n*size)) 0 O w hg (by rw[J];omega) hone;have aIe:∀y∈(gCopy l m).map enc,y.cells.length=size:=Z _
   obtain⟨h3,h4⟩:=hm.upd (e:=.arr e size (List.map enc (gCopy l m))) (w':=w.setRow g (O.toList.take (0+0)++I.take (n*size)++O.toList.drop (0+0+(I.take (n*size)).length)).toArray) hk rfl hh (by rw[hv];rfl) rfl rfl rfl aGd (λc hc=>aIU _ _ _ _ hc) (λhg'=>by
    refine⟨h1,aIe,I.take (n*size)++ys.drop (n*size),?_,?_⟩
    ·refine⟨?_,.inr ⟨g,cap,_,by rw[DK,M];exact hv,F6 _,a1y w g O _ e (0,0) hg,by rw[DK,M];exact hncap,hcm,?_,?_⟩⟩
     ·simp only[Em,J,NV,hown.1,DK,M];have :n*size<=l.length*size:=Ko _ hn2;omega
     ·simp only[QI,yj,Ij,KW,J];simp only[a7X,Em,J,NV,Vf];rw[show n*size+(O.size-n*size)=O.size by omega];exact hcs
     simp only[QI,yj,Ij,KW,J,a5D];rw[DK,M,←htake];rw[List.take_append,J,Un (by rw[J];exact Ko _ hn2)];congr 1;rw[List.drop_take]
    have ha:=aO8.mono hg' (dU H);have hb:=hrs.mono hg' (dU H);have aO9:=Tj (Z l);have aEl:=Tj (Z m);have aMm:=Tj aIe;have aVZ:n*size<=l.length*size:=Ko _ hn2;have aV1:n*size<=m.length*size:=Ko _ hn1;refine⟨by simp only[aMm,Em,J,NV,hown.1,DK,M];omega,λj hj=>?_⟩;rw[aMm,DK,M]at hj;have hpos:=hE.pos;have e0:j=j/size*size+j % size:=by rw[WL];exact(aBo j size).symm
    have hq:j/size<l.length:=uH (by rwa [WL]at hj);have hr:j % size<size:=rC _ hpos;have hg3:=flat_get aIe (j/size) (j % size) (by rw[DK,M];exact hq) hr;rw[←e0]at hg3;by_cases hjn:j<n*size
    ·have hqn:j/size<n:=uH (by rwa [WL]at hjn);have hg2:=flat_get (Z m) (j/size) (j % size) (by rw[hlm];omega) hr;rw[←e0]at hg2
     have U:((gCopy l m).map enc).getD (j/size) EN=(m.map enc).getD (j/size) EN:=by
      rw[hgc];simp only[List.getD,Jh];rw[KZ Eh,bZ,Qr hqn]
     rw[hg3,U,←hg2]
     have e5:(I.take (n*size)++ys.drop (n*size)).getD j undef=I.getD j undef:=by
      simp only[List.getD];rw[KZ (by rw[J];exact hjn),Qr hjn]
     rw[e5];exact ha.2 j (by rw[aEl,hlm];omega)
    have hqn:n<=j/size:=(Nat.le_div_iff_mul_le hpos).2 AL;have hg1:=flat_get (Z l) (j/size) (j % size) (by rw[hll];exact hq) hr;rw[←e0]at hg1
    have U:((gCopy l m).map enc).getD (j/size) EN=(l.map enc).getD (j/size) EN:=by
     rw[hgc];have hlt':(m.take n).length=n:=Eh
     simp only[List.getD,Jh];rw[PL (by rw[DK,hlt'];exact hqn),DK,hlt',jM,Va];congr 2;omega
    rw[hg3,U,←hg1]
    have e5:(I.take (n*size)++ys.drop (n*size)).getD j undef=ys.getD j undef:=by
     simp only[List.getD];rw[PL (by rw[J];omega),J,Va];congr 2;omega
    rw[e5]
    exact hb.2 j (by rw[aO9,hll];omega))
   refine⟨goInt n,_,ok,H,.inl ?_,h4,.refl _,h3,.junk _⟩;have e0:Nat.min m.length l.length=n:=rfl;simp[execOp,ho,resolve,invoke,builtin,Builtin.copy_,hxv,hv,hu,hlenx,hsz,e0,L];rw[hst];simp
def DI (s:BH):AA Int:=s.data.toList.map λc=>(c.toNat:Int)
def J5 (s:BH):(DI s).length=s.size:=by unfold DI;rw[DK,Vf];rfl
variable {k k':IntKind}{l:AA Int}{r u v:Int}
def a88 :∀(l:AA Int),flat (l.map Dt)=l.map λn=>.d (Dt n)
 | []=>rfl
 |n::l=>by rw[JE,UN,a88 l];rfl
def apD {u:Bq}{i:TypeInfo}(ht:P.underlying t=some (.slice e))(hu:P.underlying u=some .string)(hi:P.info? e=some i)(hz:i.zero=some (.int .u8 0))(j:i.size=1)(hby:i.bytes=1){v:BJ}{xs:AA BJ}(I:lF w e 1 v n xs)(s:BH)(O:n+s.size<=maxLen)(L:n+s.size<=140737488355328):
 ∃v' w',(Builtin.append_ #[t,u] ty #[v,.string s]).run P w=.ok v' w'/\lF w' e 1 v' (n+s.size) (xs++Lib.strCells s)/\w.grownBy w' v.ownBlock/\(∀Z,ED v'=some Z->ED v=some Z\/w.heap.size<=Z):=by
 have M:xs.length=n:=by simpa using I.1
 have hlen:(xs++Lib.strCells s).length=(n+s.size)*1:=by rw[Em,M,Lib.strCells_length,lX]
 rcases I.2 with⟨rfl,rfl⟩|⟨g,cap,cur,rfl,_,hg,hnc,U,hcs,Y⟩
 ·have hx:xs=[]:=I4 M;subst hx;obtain⟨v',w',q1,q2,q3,q4⟩:=Lib.run_append_own_string (P:=P) w w.heap.size t u ty e i ht hu hi hz j hby _ 0 [] (a9L w w.heap.size e 1) s O L (Eo _);refine⟨v',w',q1,.of q2,q3,λZ q=>.inr ?_⟩;rcases q2.2 with⟨rfl,_⟩|⟨g2,_,_,rfl,hle,_⟩
  ·simp[ED]at q
  simp[ED]at q;subst q;exact hle
 rw[lX]at hcs Y;by_cases J:n+s.size<=cap
 ·have hr:=Lib.run_append_room_string (P:=P) w t u ty e i ht hu hi j g n cap cur hg s J AL;refine⟨_,_,hr,⟨hlen,.inr ⟨g,cap,_,rfl,F6 _,a1y w g cur _ e _ hg,J,U,?_,?_⟩⟩,⟨rfl,rfl,rfl,Bf,λk _ hk=>setRow_other w g k _ (λe=>hk (by simp[Value.ownBlock,e]))⟩,λZ q=>.inl q⟩
  ·grind
  grind
 have hr:=Lib.run_append_grow_string (P:=P) w t u ty e i (.int .u8 0) ht hu hi hz ⟨g,0,none⟩ n cap xs (by rw[j];simpa using M) (I.cells (g:=g) rfl) s AL (by unfold maxLen at O;omega) (by rw[hby];exact growslice_fits AL AL);have hge:=grownCap_ge w (n+s.size) cap e;have U:grownCap w (n+s.size) cap e<=maxLen:=aCc w (n+s.size) cap e O;refine⟨_,_,hr,⟨hlen,.inr ⟨w.heap.size,_,_,rfl,F6 _,WH w.drew _,hge,U,iW ?_,?_⟩⟩,⟨rfl,rfl,rfl,Bf,λk hk _=>LX w.drew _ k hk⟩,λZ q=>.inr (by simp[ED]at q;omega)⟩
 ·have hz1:(Value.int IntKind.u8 0).cells.size=1:=rfl;simp only[Array.size_append,a7X,size_zeroCells,hz1,M,Lib.strCells_length];omega
 grind
def anF {s:Bz}{u:Bq}{k:Nat}{r:AA Int}{j:BH}(h:CZ 1 l (DI j)=some r)(hE:GX P t e 1 1)(hz:(P.info? e).bind (·.zero)=some (.int .u8 0))(hu:P.underlying u=some .string)(hk:es[k]? =some (.arr e 1 (List.map Dt l)))(ho:o.op=.call { callee:=.builtin .append,args:= #[s,x],argTypes:= #[t,u] }:=by exact rfl):CG P o [(s,.aQ k),(x,.d (DV j))] es (.aQ es.length) (es.set k .dead++[.arr e 1 (List.map Dt r)]):=
 .eff λC ok H a w hm hn=>by
  obtain⟨rfl,hlen⟩:=l7 h;rw[J5,lX]at hlen;have hs:=(F9 hn).1;have hx:=(F9 hn).2.lit;simp only at hs hx;obtain⟨hd,hh,hok⟩:=Gy hm.ent hm.hlen hk;have hsv:=P5 hs hh;obtain⟨h1,h2,ys,J,hrs⟩:=hok;obtain⟨i,z',hi,hz',hs1,hby,_⟩:=hE.info;have hz2:i.zero=some (.int .u8 0):=by rw[hi]at hz;simpa using hz
  have M:(l.map Dt).length=l.length:=Bf
  have O:(l.map Dt).length+j.size<=maxLen:=by rw[M];unfold maxLen;omega
  obtain⟨v',w',hr,L,U,Y⟩:=apD (P:=P) (ty:=o.type) hE.und hu hi hz2 hs1 hby J j O (by rw[M];exact hlen)
  obtain⟨h3,h4⟩:=hm.turn (h':=⟨v',1⟩) (e:=.arr e 1 (List.map Dt (l++DI j))) hk rfl hh U.os U.tape U.output U.size (λc hc hne=>U.block c hc aNb) (λg Z=>⟨a08 L Z,Y g Z⟩) (λhgr=>by
   refine⟨rfl,λy hy=>by obtain⟨q,_,rfl⟩:=GH.1 hy;rfl,ys++Lib.strCells j,?_,?_⟩
   ·have e:(List.map Dt (l++DI j)).length=(l.map Dt).length+j.size:=by simp[J5]
    rw[e];exact L
   have a1:=hrs.mono hgr (IE H [⟨v',1⟩]);have hfl:(flat (l.map Dt)).length=l.length:=by rw[a88];simp
   have hcl:(Lib.strCells j)=(DI j).map (.int .u8):=by unfold Lib.strCells DI;rw[Y1];rfl
   rw[Jh,qM,a88 (DI j),hcl];refine⟨by rw[Em,Em,a1.1,DK,DK],λi hi=>?_⟩;by_cases I:i<(flat (l.map Dt)).length
   ·have e1:(flat (l.map Dt)++(DI j).map λn=>Am.d (Dt n)).getD i .junk=(flat (l.map Dt)).getD i .junk:=aIC
    have e2:(ys++(DI j).map (Value.int .u8)).getD i undef=ys.getD i undef:=by simp[List.getD,KZ (by rw[a1.1];exact I:i<ys.length)]
    rw[e1,e2];exact a1.2 i I
   have hi3:i-(flat (l.map Dt)).length<(DI j).length:=by rw[Em,DK]at hi;omega
   have e1:(flat (l.map Dt)++(DI j).map λn=>Am.d (Dt n)).getD i .junk=.d (Dt (DI j)[i-(flat (l.map Dt)).length]):=by simp[List.getD,PL (Yo I),hi3]
   have e2:(ys++(DI j).map (Value.int .u8)).getD i undef=.int .u8 (DI j)[i-(flat (l.map Dt)).length]:=by simp[List.getD,PL (by rw[a1.1];omega:ys.length<=i),a1.1,hi3]
   rw[e1,e2]
   exact⟨rfl,.d _ _ (.lit _)⟩)
  have hH:(H++[(⟨v',1⟩:CB)])[es.length]? =some ⟨v',1⟩:=Q8
  refine⟨v',w',ok,_,.inl ?_,h4,IE _ _,h3,?_⟩
  ·simp[execOp,ho,resolve,invoke,builtin,hx,hsv,hr]
  rcases L.2 with⟨rfl,_⟩|⟨g',c',_,rfl,_⟩
  ·exact .aQ _ _ _ _ 1 hH
  exact .aQ _ _ _ _ 1 hH
def amC {L M:Bq}{s:BH}(hs:P.underlying L=some .string)(hd:P.underlying M=some (.slice e))(Y:P.underlying e=some (.int .u8))(Z:o.op=.convert L M x:=by exact rfl):CG P o [(x,.d (DV s))] es (.d (BR Dt (DI s))) es:=
 .eff λC ok H a w hm hn=>by
  have U:=(MG hn).lit;simp only at U;have hr:=run_bytes_of_string (P:=P) w L M e s hs hd Y;obtain⟨h1,h2⟩:=hm.drew;obtain⟨h3,h4⟩:=h1.fresh (.cells (bytesRow s (grownCap w s.size 0 e)) e ((bytesRow s (grownCap w s.size 0 e)).size,(bytesRow s (grownCap w s.size 0 e)).size+1));refine⟨.slice (some ⟨w.heap.size,0,none⟩) s.size (grownCap w s.size 0 e),_,_,H,.inl ?_,h2.trans h4,.refl _,h3,.d _ _ ?_⟩
  ·simp only[execOp,Z,U,GL,hr,GY,Hg]
  have q:((DI s).map Dt).length=s.size:=by simp[J5]
  have I:∀i,i<s.size->(w.drew.alloc (.cells (bytesRow s (grownCap w s.size 0 e)) e ((bytesRow s (grownCap w s.size 0 e)).size,(bytesRow s (grownCap w s.size 0 e)).size+1))).cell? ⟨w.heap.size,0+(i*1+0),none⟩=some (.int .u8 ((s.data.toList.getD i 0).toNat)):=by
   intro i hi;have hb:(w.drew.alloc (.cells (bytesRow s (grownCap w s.size 0 e)) e ((bytesRow s (grownCap w s.size 0 e)).size,(bytesRow s (grownCap w s.size 0 e)).size+1))).heap[w.heap.size]? =some (.cells (bytesRow s (grownCap w s.size 0 e)) e ((bytesRow s (grownCap w s.size 0 e)).size,(bytesRow s (grownCap w s.size 0 e)).size+1)):=WH w.drew _;rw[KW,lX,QI];have J:i<s.data.size:=hi
   have hg:(bytesRow s (grownCap w s.size 0 e))[i]? =some (.int .u8 ((s.data.toList.getD i 0).toNat)):=by
    unfold bytesRow;rw[cu nO];simp[dX J,List.getD]
   unfold World.cell?;simp only[hb];simpa using hg
  have hl:∀i,i<s.size->((DI s).map Dt).getD i EN=Dt ((s.data.toList.getD i 0).toNat):=by
   intro i hi;have J:i<s.data.size:=hi;simp[DI,List.getD,dX J]
  have z0:∀j,j<1->j=0:=λj O=>AL
  have :=ET.sl (ok:=λb=>ok b\/b=w.drew.heap.size) (w:=w.drew.alloc (.cells (bytesRow s (grownCap w s.size 0 e)) e ((bytesRow s (grownCap w s.size 0 e)).size,(bytesRow s (grownCap w s.size 0 e)).size+1))) ((DI s).map Dt) w.heap.size 0 (grownCap w s.size 0 e) 1 (by rw[q];exact grownCap_ge w s.size 0 e) (λ_ _=>.inr rfl)
   (λi hi=>by rw[q]at hi;rw[hl i hi];rfl)
   (λi hi j O=>by rw[q]at hi;rw[z0 j O,hl i hi];rfl)
   (λi hi j O=>by rw[q]at hi;rw[z0 j O,I i hi];rfl)
   (λi hi j O=>by rw[q]at hi;rw[z0 j O];unfold cellAt;rw[I i hi,hl i hi];exact .lit _)
  rw[q]at this;exact this
def FB (op:BinOp)(k:IntKind)(x y:Int):Int:=
 match op with
 | .and=>k.wrap ((BitVec.ofInt k.bits x&&& BitVec.ofInt k.bits y).toNat)
 | .or=>k.wrap ((BitVec.ofInt k.bits x|||BitVec.ofInt k.bits y).toNat)
 | .xor=>k.wrap ((BitVec.ofInt k.bits x^^^BitVec.ofInt k.bits y).toNat)
 |_=>k.wrap ((BitVec.ofInt k.bits x&&& ~~~(BitVec.ofInt k.bits y)).toNat)
def Rk (j:o.op=.binOp .and t x y t':=by exact rfl):CG P o [(x,.d (.lit (.int k u))),(y,.d (.lit (.int k v)))] es (.d (.lit (.int k (FB .and k u v)))) es:=
 Ja j (λw=>a4M) ⟨rfl,rfl⟩
def YB (j:o.op=.binOp .or t x y t':=by exact rfl):CG P o [(x,.d (.lit (.int k u))),(y,.d (.lit (.int k v)))] es (.d (.lit (.int k (FB .or k u v)))) es:=
 Ja j (λw=>a4M) ⟨rfl,rfl⟩
def aQL (j:o.op=.binOp .xor t x y t':=by exact rfl):CG P o [(x,.d (.lit (.int k u))),(y,.d (.lit (.int k v)))] es (.d (.lit (.int k (FB .xor k u v)))) es:=
 Ja j (λw=>a4M) ⟨rfl,rfl⟩
def afd (j:o.op=.binOp .andNot t x y t':=by exact rfl):CG P o [(x,.d (.lit (.int k u))),(y,.d (.lit (.int k v)))] es (.d (.lit (.int k (FB .andNot k u v)))) es:=
 Ja j (λw=>a4M) ⟨rfl,rfl⟩
def iL (k:IntKind)(x:Int):Int:=FB .xor k (if k.signed then -1 else k.max) x
def aRX (j:o.op=.unOp .xor t x:=by exact rfl):CG P o [(x,.d (.lit (.int k u)))] es (.d (.lit (.int k (iL k u)))) es:=
 aCq j (λw=>by simp[Op.unary,Op.intBits,iL,FB])
def QN (op:BinOp)(k:IntKind)(x y:Int):AB Int:=
 if y<0 then none else some (match op with | .shl=>k.wrap (x*2^(min y.toNat k.bits))|_=>x.fdiv (2^(min y.toNat k.bits)))
def aB9 (h:QN .shl k u v=some r)(j:o.op=.binOp .shl t x y t':=by exact rfl):CG P o [(x,.d (.lit (.int k u))),(y,.d (.lit (.int k' v)))] es (.d (.lit (.int k r))) es:=by
 unfold QN at h;split at h
 ·cases h
 rename_i q;obtain rfl:=E9 h;exact Ja j (λw=>by simp[binOp,Op.shift,q]) ⟨rfl,rfl⟩
def aMB (h:QN .shr k u v=some r)(j:o.op=.binOp .shr t x y t':=by exact rfl):CG P o [(x,.d (.lit (.int k u))),(y,.d (.lit (.int k' v)))] es (.d (.lit (.int k r))) es:=by
 unfold QN at h;split at h
 ·cases h
 rename_i q;obtain rfl:=E9 h;exact Ja j (λw=>by simp[binOp,Op.shift,q]) ⟨rfl,rfl⟩
def a0a (k:IntKind)(a b:Int):AB Int:=if b=0 then none else some (k.wrap (a.tdiv b))
def YR (a b:Int):AB Int:=if b=0 then none else some (a.tmod b)
def ads (h:a0a k u v=some r)(j:o.op=.binOp .quo t x y t':=by exact rfl):CG P o [(x,.d (.lit (.int k u))),(y,.d (.lit (.int k v)))] es (.d (.lit (.int k r))) es:=by
 unfold a0a at h;split at h
 ·cases h
 rename_i q;obtain rfl:=E9 h;exact Ja j (λw=>by simp[binOp,Op.intDiv,q]) ⟨rfl,rfl⟩
def aEs (h:YR u v=some r)(j:o.op=.binOp .rem t x y t':=by exact rfl):CG P o [(x,.d (.lit (.int k u))),(y,.d (.lit (.int k v)))] es (.d (.lit (.int k r))) es:=by
 unfold YR at h;split at h
 ·cases h
 rename_i q;obtain rfl:=E9 h;exact Ja j (λw=>by simp[binOp,Op.intDiv,q]) ⟨rfl,rfl⟩
variable {i k:Nat}{v:BJ}
def aVM {e:Nat}(Y:H[k]? =some h)(J:Fh ok w H h (.arr e size xs))(hi:i<xs.length)(Z:R ok w H (.lH k i off) v):
 ∃g cap j ys,h.v=.slice (some ⟨g,0,none⟩) xs.length cap/\w.heap[g]? =some (.cells j e (0,0))/\xs.length<=cap/\cap<=maxLen/\xs.length*size<=j.size/\cap*size<=j.size/\j.toList.take (xs.length*size)=ys/\ys.length=xs.length*size/\Fq ok w H (flat xs) ys/\(∀x∈xs,x.cells.length=size)/\v=.pointer (some ⟨g,i*size+off,none⟩):=by
 obtain⟨h1,h2,ys,⟨h3,h4⟩,h5⟩:=J;rcases h4 with⟨I,h7⟩|⟨g,cap,j,I,h7,h8,O,L,q,M⟩
 ·omega
 refine⟨g,cap,j,ys,I,h8,O,L,FQ (Ko _ O) q,q,M,h3,h5,h2,?_⟩;cases Z with
 |lH _ _ _ b n c s U=>
  rw[Y]at U;obtain rfl:=E9 U;simp only[oz,Nw,Addr.mk.injEq]at I;simp only at h1;rw[I.1.1,h1]
def aXy (hi:i<n)(q:j<size):i*size+j<n*size:=
 calc i*size+j<i*size+size:=AL
  _=(i+1)*size:=by rw[UM]
  _<=n*size:=Ko _ hi
def Jg {e:Nat}{y:D}(enc:α->D){l:AA α}{a:α}(hy:y=Qe agg (enc a).cells off n)(hk:es[k]? =some (.arr e size (List.map enc l)))(ha:l[i]? =some a)(hT:Ep P t agg n)(hn:off+n<=(enc a).cells.length)(h1:agg=false->n=1)(ho:o.op=.load t x:=by exact rfl):CG P o [(x,.lH k i off)] es (.d y) es:=
 .pure λok H ac w U hl hn'=>by
  have hx:=MG hn';simp only at hx;subst hy;obtain⟨h,hh,hok⟩:=Gy U hl hk;obtain⟨Y,hia⟩:=H6.1 ha;have q:i<(List.map enc l).length:=aG
  obtain⟨g,cap,J,ys,e1,e2,e3,e4,e5,e5',e6,e7,e8,e9,e10⟩:=aVM hh hok q hx;have M:(List.map enc l).getD i EN=enc a:=by simp[List.getD,Y,hia]
  have hsz:(enc a).cells.length=size:=by
   grind
  have hfl:=Tj e9
  have I:∀j,j<size->w.cell? ⟨g,i*size+j,none⟩=some (ys.getD (i*size+j) undef):=by
   intro j O;have L:=aXy q O;have hcur:(List.map enc l).length*size<=J.size:=e5;have h15:i*size+j<J.size:=AL
   have e11:ys.getD (i*size+j) undef=J[i*size+j]'(h15):=by
    rw[←e6]
    grind
   rw[e11];simp[World.cell?,e2,show i*size+j<J.size by omega]
  have Z:∀j,j<size->((enc a).cells.getD j EN).leaf=true/\ET ok w ((enc a).cells.getD j EN) (ys.getD (i*size+j) undef):=by
   intro j O;have L:=e8.2 (i*size+j) (by rw[hfl];exact aXy q O);rw[flat_get e9 i j q O,M]at L;refine⟨L.1,?_⟩;cases L.2 with |d _ _ h=>exact h
  obtain⟨v,hr,hD⟩:=a8Z (ok:=ok) (w:=w) (b:=g) (p:=i*size) (cs:=(enc a).cells) hT hn h1 (λj O=>(Z j AL).1) (λj O=>by rw[I j AL];rfl) (λj O=>by unfold cellAt;rw[I j AL];exact(Z j AL).2);exact⟨v,by simp only[execOp,ho,e10,GL,hr,GY,Hg],.d _ _ hD⟩
def Vb {e:Nat}(enc:α->D){l:AA α}{a a':α}{v:Am}(hk:es[k]? =some (.arr e size (List.map enc l)))(ha:l[i]? =some a)(hl:v.cells.all Am.leaf=true)(hs:∀w,(sizeOf t).run P w=.ok n w)(hn:v.cells.length=n)(hle:off+n<=(enc a).cells.length)(hset:(enc a').cells.map Am.d=setAt ((enc a).cells.map Am.d) off v.cells)(hc:∀b,(enc b).cells.length=size)(ho:o.op=.store t x y:=by exact rfl):
 CG P o [(x,.lH k i off),(y,v)] es .junk (es.set k (.arr e size (List.map enc (l.set i a')))):=
 .eff λC ok H L w hm hn'=>by
  have h1:=(F9 hn').1;have h2:=(F9 hn').2;simp only at h1 h2;obtain⟨h,hh,hok⟩:=Gy hm.ent hm.hlen hk;obtain⟨Z,hia⟩:=H6.1 ha;have aPa:i<(List.map enc l).length:=by simpa using Z
  have hok1:=hok.1;obtain⟨g,cap,I,ys,e1,e2,e3,e4,e5,e5',e6,e7,e8,e9,e10⟩:=aVM hh hok aPa h1;have J:=h2.aoZ hl;have hll:(List.map enc l).length=l.length:=Bf
  rw[hll]at e1 e3 e6 e7;have hea:(enc a).cells.length=size:=hc a;have hvl:(L.eval y).cells.toList.length=n:=by rw[J.1,hn]
  have hsz:(L.eval y).cells.size=n:=by simpa using hvl
  have hcur:l.length*size<=I.size:=by simpa using e5
  have hend:i*size+off+n<=l.length*size:=by
   have :(i+1)*size<=l.length*size:=Ko _ Z
   grind
  have hst:=aFB (P:=P) g (i*size+off) e (L.eval y).cells.toList 0 I w e2 (by rw[hvl];omega) (λu hu=>by
   obtain⟨j,M,rfl⟩:=I8 hu;have h5:=J.2 j (by rw[←J.1];exact M);have :=h5.2.leaf h5.1
   rwa [a6K M]at this)
  simp only[QI]at hst;have U:∀(q:AA α),∀y∈q.map enc,y.cells.length=size:=λq y hy=>aEL
  obtain⟨h3,h4⟩:=hm.upd (e:=.arr e size (List.map enc (l.set i a'))) (w':=w.setRow g (I.toList.take (i*size+off)++(L.eval y).cells.toList++I.toList.drop (i*size+off+(L.eval y).cells.toList.length)).toArray) hk rfl hh (by rw[e1];rfl) rfl rfl rfl aGd (λc hc=>aIU _ _ _ _ hc) (λhg'=>by
   have esz:(setAt I.toList (i*size+off) (L.eval y).cells.toList).length=I.toList.length:=Tm (by have :=I.length_toList;omega);refine⟨hok1,U _,setAt ys (i*size+off) (L.eval y).cells.toList,⟨?_,.inr ⟨g,cap,_,by simp;exact e1,F6 _,a1y w g I _ e (0,0) e2,by simpa using e3,e4,?_,?_⟩⟩,?_⟩
   ·rw[Tm AL];simpa using e7
   ·have h9:(setAt I.toList (i*size+off) (L.eval y).cells.toList).toArray.size=I.size:=by rw[a7X,esz];simp
    show _<=(setAt I.toList (i*size+off) (L.eval y).cells.toList).toArray.size;rw[h9];exact e5'
   ·rw[a5D];show(setAt I.toList (i*size+off) (L.eval y).cells.toList).take _=_;rw[←e6];have hlen':(List.map enc (l.set i a')).length=l.length:=Bf
    rw[hlen'];apply dG;intro j;have hcl:=I.length_toList;by_cases M:j<l.length*size
    ·have a1:((setAt I.toList (i*size+off) (L.eval y).cells.toList).take (l.length*size))[j]? =some ((setAt I.toList (i*size+off) (L.eval y).cells.toList).getD j undef):=by
      rw[Qr M];simp[List.getD,show j<(setAt I.toList (i*size+off) (L.eval y).cells.toList).length by rw[esz];omega]
     have tl:(I.toList.take (l.length*size)).length=l.length*size:=Eh
     have sl:(setAt (I.toList.take (l.length*size)) (i*size+off) (L.eval y).cells.toList).length=l.length*size:=by rw[Tm AL,tl]
     have a2:(setAt (I.toList.take (l.length*size)) (i*size+off) (L.eval y).cells.toList)[j]? =some ((setAt (I.toList.take (l.length*size)) (i*size+off) (L.eval y).cells.toList).getD j undef):=by
      simp[List.getD,show j<(setAt (I.toList.take (l.length*size)) (i*size+off) (L.eval y).cells.toList).length by omega]
     rw[a1,a2,aJ AL,aJ AL];congr 1;split
     ·rfl
     simp[List.getD,Qr M]
    have tl:(I.toList.take (l.length*size)).length=l.length*size:=Eh
    have sl:(setAt (I.toList.take (l.length*size)) (i*size+off) (L.eval y).cells.toList).length=l.length*size:=by rw[Tm AL,tl]
    rw[Lu Eh,Lu AL]
   have hb:=e8.mono hg' (dU H);have hcr:=J.mono hg' (dU H);have hfl:=Tj (U l);have aEl:=Tj (U (l.set i a'));refine⟨by rw[Tm AL,e7,aEl];simp,λj M=>?_⟩;rw[aEl]at M;simp only[DK,YH]at M
   have hpos:0<size:=by
    rcases bH size with h0|h0
    ·rw[h0,Nat.mul_zero]at M;omega
    exact h0
   have e0:j=j/size*size+j % size:=by rw[WL];exact(aBo j size).symm
   have hq:j/size<l.length:=uH (by rwa [WL]at M);have hr:j % size<size:=rC _ hpos
   have hdiv:j/size=i↔i*size<=j/\j<i*size+size:=by
    rw[Nat.div_eq_iff hpos,WL];omega
   rw[hvl]at hb hcr;generalize j/size=qd at e0 hq hdiv;generalize j % size=O at e0 hr;have hg3:=flat_get (U (l.set i a')) qd O (by simpa using hq) hr;rw[←e0]at hg3;have hg1:=flat_get (U l) qd O (by simpa using hq) hr;rw[←e0]at hg1;rw[hg3,aJ AL,hvl];by_cases Y:qd=i
   ·have hnew:(List.map enc (l.set i a')).getD (qd) EN=enc a':=by rw[Y];simp[List.getD,Z]
    have hold:(List.map enc l).getD (qd) EN=enc a:=by rw[Y];simp[List.getD,Z,hia]
    rw[hnew];have aV2:(enc a').cells.length=size:=hc a'
    have e11:Am.d ((enc a').cells.getD (O) EN)=(setAt ((enc a).cells.map Am.d) off v.cells).getD (O) .junk:=by
     rw[←hset];simp[List.getD,show O<(enc a').cells.length by omega]
    rw[e11,aJ (by rw[DK,hn];exact hle),hn];have hji:j=i*size+O:=by rw[←Y];exact e0
    by_cases hin:off<=O/\O<off+n
    ·rw[Dw hin,Dw AL];have :j-(i*size+off)=O-off:=AL
     rw[this];exact hcr.2 _ AL
    rw[EC hin,EC AL];have e12:((enc a).cells.map Am.d).getD (O) .junk=.d ((enc a).cells.getD (O) EN):=by simp[List.getD,show O<(enc a).cells.length by omega]
    rw[e12,←hold,←hg1];exact hb.2 j (by rw[hfl];simpa using M)
   have hsame:(List.map enc (l.set i a')).getD (qd) EN=(List.map enc l).getD (qd) EN:=by
    simp[List.getD,er (Ne.symm Y)]
   have hnot:¬(i*size+off<=j/\j<i*size+off+n):=by
    rintro⟨ha1,ha2⟩;exact Y (hdiv.2 ⟨AL,AL⟩)
   rw[EC hnot,hsame,←hg1]
   exact hb.2 j (by rw[hfl];simpa using M))
  refine⟨undef,_,ok,H,.inr ⟨rfl,?_⟩,h4,.refl _,h3,.junk _⟩;simp only[execOp,ho,e10,Instr.storeAt,Instr.sureAddr,storeVar,GL,Hg,GY,hs,hsz,ne_eq,not_true_eq_false,Ky,hst]
def Am.X9 (k:Nat)(cs:AA D):Am->Am
 | .ptr j off=>if j=k then .d (.ref cs off)else .ptr j off
 |x=>x
def BP.X9 (σ:BP)(k:Nat)(cs:AA D):BP:=⟨σ.slots.map (Am.X9 k cs),σ.ents.set k .dead,σ.base⟩
def Tz (k:Nat)(hk:σ.ents[k]? =some (.box cs))(hd:cs.all Am.Dn=true):∀C ok H a w,Holds C ok H σ a w->∃ok',Holds C ok' H (σ.X9 k (Jl cs)) a w:=by
 intro C ok H a w q;obtain⟨h,U,hok⟩:=Gy q.mem.ent q.mem.hlen hk;have L:k<σ.ents.length:=(H6.1 hk).1;obtain⟨b0,Y,hf,hx,hc⟩:=aKk hok hd
 let ok':Nat->Prop:=λb=>ok b\/ED h.v=some b
 have hblk:=λb I=>q.mem.blk k _ h b hk rfl U I;have hg:FH ok w ok' w:=λb I=>⟨.inl I,rfl⟩
 refine⟨ok',⟨q.mem.fr,λb I=>.inl (q.mem.AX b I),?_,?_,q.mem.names,by simp[BP.X9,q.mem.hlen],?_,?_,?_⟩,by simp[BP.X9,q.size],q.defers.mono hg,q.base,?_⟩
 ·rintro b (I|I)
  ·exact q.mem.AY b I
  grind
 ·rintro b (I|I)
  ·exact q.mem.kX b I
  grind
 ·intro j e' h' he M;rcases NU L he with⟨rfl,rfl⟩|⟨_,O⟩
  ·trivial
  exact(q.mem.ent j e' h' O M).mono hg (.refl _) (λ_ _ _=>rfl)
 ·intro j e' h' b he hl M I;rcases NU L he with⟨rfl,rfl⟩|⟨hne,O⟩
  ·cases hl
  have h3:=q.mem.blk j e' h' b O hl M I;refine⟨λJ=>?_,h3.2⟩;rcases J with J|J
  ·exact h3.1 J
  exact hne (q.mem.G8 j k e' _ h' h b O hk hl rfl M U I J)
 ·intro i j e1 e2 h1 h2 b he1 he2 Z hl2 hh1 hh2 hb1 hb2;rcases NU L he1 with⟨rfl,rfl⟩|⟨_,aq9⟩
  ·cases Z
  rcases NU L he2 with⟨rfl,rfl⟩|⟨_,ara⟩
  ·cases hl2
  exact q.mem.G8 i j e1 e2 h1 h2 b aq9 ara Z hl2 hh1 hh2 hb1 hb2
 intro t ht;simp only[BP.X9,DK]at ht
 have e1:(σ.X9 k (Jl cs)).slots.getD t .junk=(σ.slots.getD t .junk).X9 k (Jl cs):=by
  simp only[BP.X9];exact TT _ _ _ ht
 rw[e1];have hR:=(q.slot t ht).mono hg (dU H);generalize σ.slots.getD t .junk=x at hR ⊢;generalize a.tmps.getD t undef=v at hR ⊢;cases x with
 |ptr j off=>
  simp only[Am.X9];split
  ·rename_i hj;subst hj;cases hR with
   |ptr _ _ b s hH=>
    rw[U]at hH;obtain rfl:=E9 hH;simp at Y;subst Y;have :=ET.ref (ok:=ok') (w:=w) (Jl cs) off b 0 (λ_=>.inr rfl) hf hx (λj hj=>(hc j hj).mono hg);rw[KW]at this;exact .d _ _ this
  exact hR
 |_=>
   exact hR
variable {I:Am}{fn:Fn}
section
variable {γ:Type}
def a2L {ok:Nat->Prop}{w:BU}{H:AA CB}{a:Act}:∀{xs:AA Bz} {vs:AA Am},xs.length=vs.length->(∀n∈GR xs vs,R ok w H n.2 (a.eval n.1))->∀i,i<vs.length->R ok w H (vs.getD i .junk) ((xs.map a.eval).getD i undef)
 | [],[],_,_,i,hi=>Sj
 | [],_::_,h,_,_,_=>Il
 |_::_,[],h,_,_,_=>Il
 |x::xs,v::vs,h,j,0,_=>by simpa using j (x,v) (by simp[GR])
 |x::xs,v::vs,h,j,i+1,hi=>by
  have :=a2L LZ (λn q=>j n (by simp[GR,q])) i IQ;simpa using this
def Ut {j:Bh Bz}(q:AA D)(hl:j.toList.length=q.length)(J:o.op=.makeFunc fn #[] j:=by exact rfl):CG P o (GR j.toList (q.map .d)) es (.d (.fn fn [] q)) es:=
 .pure λok H a w _ _ L=>by
  refine⟨.func fn #[] (j.map a.eval),by simp[execOp,J,Instr.makeFunc],.d _ _ (.fn fn [] q #[] _ rfl N7 (λi hi=>Sj) (λi hi=>?_))⟩;have h1:=a2L (xs:=j.toList) (vs:=q.map .d) N7 L i IQ;have M:(q.map Am.d).getD i .junk=.d (q.getD i EN):=OQ
  have I:i<j.size:=by
    have :j.size=q.length:=N7
    omega
  have O:(j.toList.map a.eval).getD i undef=(j.map a.eval).getD i undef:=by simp[List.getD,Array.getD,I]
  rw[M,O]at h1;cases h1 with |d _ _ h=>exact h
def aOu (hm:E8 C ok H es w){J:AA D}(hr:EU P f (J.map .d) [] I [])(q:Bh BJ)(hs:q.size=J.length)(Y:∀i,i<J.length->ET ok w (J.getD i EN) (q.getD i undef))(M:I.up [] es.length=I):
 Calls P f q w λe w'=>∃v ok' H',e=.returned v/\FH ok w ok' w'/\Names H H'/\E8 C ok' H' es w'/\R ok' w' H' I v:=by
 have Z:E8 ⟨w,ok,[],[]⟩ ok [] [] w:=
  ⟨.refl _ _,λ_ h=>h,λ_ h=>.inl h,hm.kX,.refl _,rfl,λk e h L _=>by simp at L,λk e h b L=>by simp at L,λk k' e e' h h' b L=>by simp at L⟩
 refine(hr ok [] [] w q Z xB (λi hi=>?_)).mono ?_
 ·have O:i<J.length:=IQ
  have e1:(J.map Am.d).getD i .junk=.d (J.getD i EN):=by simp[List.getD,O]
  rw[e1];exact .d _ _ (Y i O)
 rintro e w' ⟨v,ok',H',rfl,j,hR⟩;have hH':H'=[]:=I4 j.hlen
 obtain⟨h1,h2⟩:=hm.change (ok':=ok') (H':=H) (es':=es) (w':=w') (λ_=>False) j.fr.os j.fr.tape j.fr.output j.fr.size (λb U _=>j.fr.block b U Bf) (λ_ h=>h.elim) j.AX (λb U=>by
  rcases j.AY b U with h|h|h
  ·exact .inl h
  ·exact .inr ⟨h,j.kX b U⟩
  simp at h) (.refl _) hm.hlen (λk e h L hh=>.inl ⟨L,hh,λ_ _ _ h=>h⟩)
 refine⟨v,ok',H,rfl,h2,.refl _,h1,?_⟩;have :=aVW (srcs:=[]) (H:=H) (Hc:=[]) (H':=H') rfl (λi k h=>Il) (λk v Y=>by simp at Y) hR;rw[hm.hlen,M,hH']at this;simpa using this
def aTI (j cs:AA D){q:Am}(hr:EU P f ((j++cs).map .d) [] q [])(hf:IC P f=true)(hl:ops.toList.length=j.length)(M:q.up [] es.length=q)(ho:o.op=.call { callee:=.value x,args:=ops,argTypes:=ats }:=by exact rfl):CG P o ((x,.d (.fn (.func f) [] cs))::GR ops.toList (j.map .d)) es q es:=by
 intro C ok H a w Q hm hn;have O:=hn (x,.d (.fn (.func f) [] cs)) Bf;simp only at O;have J:=a2L (xs:=ops.toList) (vs:=j.map .d) N7 (λn U=>hn n (JX _ U));generalize hv:a.eval x=v at O;cases O with
 |d _ _ h=>
  cases h with
  |fn _ _ _ vs us Y Z h1 h2=>
   have hvs:vs= #[]:=Z7 aG;subst hvs;unfold Oper.wp
   have he:(execOp a.eval o).run P w=.ok (.enter f ((ops.map a.eval)++us)) w:=by
    have :=Uu hf (ops.map a.eval++us) w;simp[execOp,ho,resolve,hv,Deferred.ofValue,invoke,this]
   rw[he,iF];have hsz:(ops.map a.eval).size=j.length:=N7
   refine(aOu hm hr _ (by simp[hsz,Z]) (λi hi=>?_) M).mono ?_
   ·by_cases I:i<j.length
    ·have h3:=J i Q9;have e1:(j.map Am.d).getD i .junk=.d (j.getD i EN):=aG9
     have L:i<ops.size:=aOE
     have e2:(ops.toList.map a.eval).getD i undef=(ops.map a.eval++us).getD i undef:=by
      simp[List.getD,Jm,cu,L]
     have e3:(j++cs).getD i EN=j.getD i EN:=aIC
     rw[e1,e2]at h3;rw[e3];cases h3 with |d _ _ h=>exact h
    have L:i-j.length<cs.length:=aII
    have e3:(j++cs).getD i EN=cs.getD (i-j.length) EN:=by simp[List.getD,PL (Yo I)]
    have e4:(ops.map a.eval++us).getD i undef=us.getD (i-j.length) undef:=by
     simp only[Jm]
     grind
    rw[e3,e4];exact h2 _ L
   rintro e w' ⟨v,ok',H',rfl,h3,h4,h5,h6⟩;exact⟨v,ok',H',rfl,h3,h4,h5,h6⟩
def Rt (P:Ch)(j:α->D)(q:β->D)(d:D)(g:α->AB β):Prop:=∃f cs,d=.fn (.func f) [] cs/\IC P f=true/\∀a b,g a=some b->EU P f (([j a]++cs).map .d) [] (.d (q b)) []
def YJ (P:Ch)(j:α->D)(q:β->D)(I:γ->D)(d:D)(g:α->β->AB γ):Prop:=∃f cs,d=.fn (.func f) [] cs/\IC P f=true/\∀a b c,g a b=some c->EU P f (([j a,q b]++cs).map .d) [] (.d (I c)) []
def tK {j:α->D}{q:β->D}{d:D}{g:α->AB β}{a:α}{b:β}(hd:Rt P j q d g)(h:g a=some b)(I:o.op=.call { callee:=.value x,args:= #[y],argTypes:=ats }:=by exact rfl):
 CG P o [(x,.d d),(y,.d (j a))] es (.d (q b)) es:=by
 obtain⟨f,cs,rfl,J,L⟩:=hd;exact aTI [j a] cs (L a b h) J rfl rfl I
def ZY {z:Bz}{j:α->D}{q:β->D}{I:γ->D}{d:D}{g:α->β->AB γ}{a:α}{b:β}{c:γ}(hd:YJ P j q I d g)(h:g a b=some c)(J:o.op=.call { callee:=.value x,args:= #[y,z],argTypes:=ats }:=by exact rfl):
 CG P o [(x,.d d),(y,.d (j a)),(z,.d (q b))] es (.d (I c)) es:=by
 obtain⟨f,cs,rfl,L,M⟩:=hd;exact aTI [j a,q b] cs (M a b c h) L rfl rfl J
end
variable {S:AA Ec}{ca fi:AA D}{j:Am}{sz t:Nat}{ys:Bh BJ}
def a9g {v:Am}(e:Bq)(size:Nat)(h:CG P o ((.const (.slice none 0 0),.aQ es.length)::ns) (es++[.arr e size []]) v es'):CG P o ns es v es':=by
 intro C ok H a w Q hm J;obtain⟨h1,h2⟩:=a2n hm e size;refine Oper.wp_mono ?_ (h C ok _ a w Q h1 (λn j=>?_))
 ·rintro a' w' ⟨v',ok',H',L,M,q,I,O⟩;exact⟨v',ok',H',L,M,(IE _ _).trans q,I,O⟩
 rcases G7.1 j with rfl|j
 ·exact h2
 exact(J n j).mono (.refl _ _) (IE _ _)
def R.amn (h:R ok w H (.d (.agg (us.map .lit))) v):v=.agg us.toArray:=by
 cases h with
 |d _ _ h=>
  cases h with
  |agg _ vs hl _ h=>
   congr 1;apply eM
   ·simpa using hl
   intro i h1 h2;have hi:i<(us.map D.lit).length:=AL
   have h3:=h i hi;have j:i<us.length:=IQ
   have q:(us.map D.lit).getD i EN=.lit (us[i]):=wZ
   have I:vs.getD i undef=vs[i]:=by simp[Array.getD,h1]
   rw[q,I]at h3;generalize vs[i]=u at h3;cases h3;simp
structure oZ (P:Program) (n:Nat) (t:TypeId) (us vs:List Value) (b:Bool):Prop where
 run:∀(d:Nat) (w:World),(Op.equalIn (d+n) t (.agg us.toArray) (.agg vs.toArray)).run P w=.ok b w
def Nz {t:Bq}{cs:Bh BJ}(j:Ep P t false size)(h:cs[off]? =some v)(w:BU):(part t cs off).run P w=.ok v w:=by
 simp[part,j.agg,h]
def XI (d:Nat)(xs ys:Bh BJ):AA (Bq×Nat)->Sem Ac
 | []=>pure true
 |f::fs=>do
  let a ←part f.1 xs f.2
  let b ←part f.1 ys f.2
  let r ←Op.equalIn d f.1 a b
  if(!r)=true then pure false else XI d xs ys fs
def aX2 (d:Nat)(xs ys:Bh BJ):∀(fs:AA Field),fs.all (λf=>f.name != "_")=true->Op.eqFields d xs ys fs=XI d xs ys (fs.map λf=>(f.type,f.offset))
 | [],_=>rfl
 |f::fs,h=>by
  simp only[List.all_cons,Dx,bne_iff_ne,ne_eq]at h;simp only[Op.eqFields,JE,XI,ne_eq,h.1,not_false_eq_true,Jy,aX2 d xs ys fs h.2]
def a5p {t:Bq}{xs:Bh BJ}{l:AA (Bq×Nat)}(j:P.underlying t=some (.struct (P.fieldsOf t)))(hp:P.stoodInHeld t=false)(q:(P.fieldsOf t).toList.all (λf=>f.name != "_")=true)(hl:(P.fieldsOf t).toList.map (λf=>(f.type,f.offset))=l)(h:(XI d xs ys l).run P w=.ok b w):(Op.equalIn (d+1) t (.agg xs) (.agg ys)).run P w=.ok b w:=by
 rw[run_equalIn_struct w d t xs ys j hp,aX2 _ _ _ _ q,hl,h]
def a9E (d:Nat)(xs ys:Bh BJ)(w:BU):(XI d xs ys []).run P w=.ok true w:=by simp[XI]
def Y8 {xs:Bh BJ}{t:Bq}{fs:AA (Bq×Nat)}{a b:BJ}{r rs:Ac}(ha:(part t xs off).run P w=.ok a w)(j:(part t ys off).run P w=.ok b w)(q:(Op.equalIn d t a b).run P w=.ok r w)(hs:(XI d xs ys fs).run P w=.ok rs w):(XI d xs ys ((t,off)::fs)).run P w=.ok (r&&rs) w:=by
 unfold XI;simp only[GL,ha,j,q,GY];cases r<;>simp[hs]
def an9 {t:Bq}(us vs:AA BJ)(h:oZ P n t us vs b)(hd:n<=10000)(I:P.eqGuardType P.depth t=false)(J:o.op=.binOp .eql t x y t':=by exact rfl):
 CG P o [(x,.d (.agg (us.map .lit))),(y,.d (.agg (vs.map .lit)))] es (.d (EH b)) es:=
 .pure λ_ _ a w _ _ q=>⟨.bool b,by
  have h1:=(F9 q).1.amn;have h2:=(F9 q).2.amn;simp only at h1 h2;have j:(eqGuard .eql t x y (.agg us.toArray) (.agg vs.toArray)).run P w=.ok () w:=by simp[eqGuard,I]
  simp only[execOp,J,h1,h2,GL,j,GY,Hg,run_eql_struct,(by have :=h.run (10000-n) w;rwa [Nat.sub_add_cancel hd]at this:(Op.equalIn 10000 t (.agg us.toArray) (.agg vs.toArray)).run P w=.ok b w)],.d _ _ (.lit _)⟩
def aCf {t:Bq}(us vs:AA BJ)(h:oZ P n t us vs b)(hd:n<=10000)(I:P.eqGuardType P.depth t=false)(J:o.op=.binOp .neq t x y t':=by exact rfl):
 CG P o [(x,.d (.agg (us.map .lit))),(y,.d (.agg (vs.map .lit)))] es (.d (EH (!b))) es:=
 .pure λ_ _ a w _ _ q=>⟨.bool (!b),by
  have h1:=(F9 q).1.amn;have h2:=(F9 q).2.amn;simp only at h1 h2;have j:(eqGuard .neq t x y (.agg us.toArray) (.agg vs.toArray)).run P w=.ok () w:=by simp[eqGuard,I]
  simp only[execOp,J,h1,h2,GL,j,GY,Hg,run_neq_struct,(by have :=h.run (10000-n) w;rwa [Nat.sub_add_cancel hd]at this:(Op.equalIn 10000 t (.agg us.toArray) (.agg vs.toArray)).run P w=.ok b w)],.d _ _ (.lit _)⟩
def Tc (l:AA Int):BH:=l.foldl (λr n=>r.push (UInt8.ofNat n.toNat)) ByteArray.empty
def aYb {j:AA BJ}(h:Fq ok w H (flat (l.map Dt)) j):j=l.map (.int .u8):=by
 rw[a88]at h;apply jB
 ·simpa using h.1
 intro i h1 h2;have hi:i<(l.map λn=>Am.d (Dt n)).length:=LC
 have h3:=(h.2 i hi).2;have q:i<l.length:=IQ
 have I:(l.map λn=>Am.d (Dt n)).getD i .junk=.d (Dt l[i]):=by simp[List.getD,q]
 have J:j.getD i undef=j[i]:=by simp[List.getD,h1]
 rw[I,J]at h3;have :=h3.lit;simpa using this
def aoE (h:Wj w v m 1 (l.map (.int .u8))):(Conv.bytesToString v).run P w=.ok (.string (Tc l)) w:=by
 rcases h.at_ with⟨ad,c,rfl,j⟩|⟨c,rfl,hm⟩
 ·refine run_bytesToString w ad m c l ?_;have hl:=h.len;have :=a0F (P:=P) w ad (l.map (Value.int .u8)) j
  grind
 have hl:=h.len;rw[hm,aBW,DK]at hl;rw[I4 hl];simp[Conv.bytesToString,Tc]
def Value.isSlice:BJ->Ac
 | .slice _ _ _=>true
 |_=>false
def akf {j:AA BJ}(h:Wj w v m size j):Value.isSlice v=true:=by
 rcases h.at_ with⟨_,_,rfl,_⟩|⟨_,rfl,_⟩<;>rfl
def ag4 {t:Bq}{r:BH}(hs:P.underlying s=some (.slice e))(j:P.underlying e=some (.int .u8))(q:P.underlying t=some .string)(I:Value.isSlice v=true)(h:(Conv.bytesToString v).run P w=.ok (.string r) w):(convert s t v).run P w=.ok (.string r) w:=by
 cases v<;>simp[Value.isSlice]at I
 simp[convert,underlying,hs,j,q,h]
def aLu {t:Bq}(hs:P.underlying s=some (.slice e))(J:P.underlying e=some (.int .u8))(L:P.underlying t=some .string)(M:o.op=.convert s t x:=by exact rfl):
 CG P o [(x,.d (BR Dt l))] es (.d (DV (Tc l))) es:=
 .pure λok H a w _ _ O=>by
  have h1:=MG O;simp only at h1;generalize U:a.eval x=v at h1;refine⟨.string (Tc l),?_,.d _ _ (.lit _)⟩;cases h1 with
  |d _ _ h=>
   obtain⟨I,j,q⟩:=jK H h (size:=1) (λy Y=>by obtain⟨n,_,rfl⟩:=GH.1 Y;rfl);obtain rfl:=aYb q;have hsl:=akf j;simp[execOp,M,U,ag4 hs J L hsl (aoE j)]
def RG {firsts j:Bh Bz}{fi ca:AA Am}(hl:firsts.toList.length=fi.length)(hm:j.toList.length=ca.length)(J:o.op=.makeFunc fn firsts j:=by exact rfl):
 CG P o (GR firsts.toList fi++GR j.toList ca) es (.fn fn fi ca) es:=
 .pure λok H a w _ _ q=>by
  have key:∀(xs:Bh Bz) (vs:AA Am),xs.toList.length=vs.length->(∀n∈GR xs.toList vs,R ok w H n.2 (a.eval n.1))->∀i,i<vs.length->R ok w H (vs.getD i .junk) ((xs.map a.eval).getD i undef):=by
   intro xs vs hl q i hi;have h1:=a2L hl q i hi
   have I:i<xs.size:=by
     have :xs.size=vs.length:=N7
     omega
   have L:(xs.toList.map a.eval).getD i undef=(xs.map a.eval).getD i undef:=by simp[List.getD,Array.getD,I]
   grind
  refine⟨.func fn (firsts.map a.eval) (j.map a.eval),by simp[execOp,J,Instr.makeFunc],.fn fn fi ca _ _ N7 rV (key _ _ hl λn h=>q n (by simp[h])) (key _ _ hm λn h=>q n (by simp[h]))⟩
def aCa :∀{xs:AA Bz} {vs:AA Am} {ys:AA Bz} {us:AA Am},xs.length=vs.length->GR (xs++ys) (vs++us)=GR xs vs++GR ys us
 | [],[],_,_,_=>rfl
 | [],_::_,_,_,h=>Il
 |_::_,[],_,_,h=>Il
 |x::xs,v::vs,ys,us,h=>by simp[GR,aCa (xs:=xs) (vs:=vs) LZ]
def aG8 {ok:Nat->Prop}{w:BU}{H:AA CB}{a:Act}:∀{us:AA BJ} {vs:AA Am},us.length=vs.length->(∀i,i<vs.length->R ok w H (vs.getD i .junk) (us.getD i undef))->∀n∈GR (us.map Operand.const) vs,R ok w H n.2 (a.eval n.1)
 | [],[],_,_,n,j=>by simp[GR]at j
 | [],_::_,h,_,_,_=>Il
 |_::_,[],h,_,_,_=>Il
 |u::us,v::vs,hl,h,n,j=>by
  simp only[JE,GR,G7]at j;rcases j with rfl|j
  ·have :=h 0 Bf;simp at this;exact this
  exact aG8 (us:=us) (vs:=vs) N7 (λi hi=>by simpa using h (i+1) IQ) n j
def aQ6 (srcs:AA Ec){fi ca:AA Am}(O:EU P f fF E I E')(U:IC P f=true)(Y:U7 srcs es E E'=true)(hE:a0t srcs es E)(ha:OG srcs (fi++eY++ca) fF)(hl:ops.toList.length=eY.length)(Z:o.op=.call { callee:=.value x,args:=ops,argTypes:=ats }:=by exact rfl):
 CG P o ((x,.fn (.func f) fi ca)::GR ops.toList eY) es (I.up srcs es.length) (Nh srcs es E'):=by
 intro C ok H a w Q hm M;have L:=M (x,.fn (.func f) fi ca) Bf;simp only at L;generalize hv:a.eval x=v at L;cases L with
 |fn _ _ _ vs us q J h1 h2=>
  unfold Oper.wp
  have he:(execOp a.eval o).run P w=.ok (.enter f ((vs++ops.map a.eval)++us)) w:=by
   have :=Uu U (vs++ops.map a.eval++us) w;rw[Array.append_assoc]at this;simp[execOp,Z,resolve,hv,Deferred.ofValue,invoke,this]
  rw[he,iF]
  have e:vs++ops.map a.eval++us=((vs.toList.map Operand.const++ops.toList++us.toList.map Operand.const).map a.eval).toArray:=by
   apply aUt;simp[aEM,Act.eval]
  rw[e];have l1:(vs.toList.map Operand.const).length=fi.length:=WU
  refine(aPH hm srcs O Y hE ha (by simp at hl;simp[q,J,hl]) (a:=a) ?_).mono ?_
  ·rw[aCa (by simp at hl;simp[q,hl]),aCa l1];intro n j;simp only[KG]at j;rcases j with(j|j)|j
   ·exact aG8 WU (λi hi=>by have :=h1 i hi;simpa[List.getD,Jm]using this) n j
   ·exact M n (JX _ j)
   exact aG8 nO (λi hi=>by have :=h2 i hi;simpa[List.getD,Jm]using this) n j
  rintro e w' ⟨v,ok',H',rfl,h3,h4,h5,h6⟩;exact⟨v,ok',H',rfl,h3,h4,h5,h6⟩
def R.dfn {f:Fn}(h:R ok w H (.d (.fn f fi ca)) v):R ok w H (.fn f (fi.map .d) (ca.map .d)) v:=by
 cases h with
 |d _ _ h=>
  cases h with
  |fn _ _ _ vs us h1 h2 h3 I=>
   refine .fn f _ _ vs us Y4 LC (λi hi=>?_) (λi hi=>?_)
   ·have j:i<fi.length:=IQ
    have q:(fi.map Am.d).getD i .junk=.d (fi.getD i EN):=wZ
    rw[q];exact .d _ _ (h3 i j)
   have j:i<ca.length:=IQ
   have q:(ca.map Am.d).getD i .junk=.d (ca.getD i EN):=wZ
   rw[q];exact .d _ _ (I i j)
def aZ6 (srcs:AA Ec)(I:EU P f fF E j E')(J:IC P f=true)(L:U7 srcs es E E'=true)(hE:a0t srcs es E)(ha:OG srcs (fi.map .d++eY++ca.map .d) fF)(hl:ops.toList.length=eY.length)(M:o.op=.call { callee:=.value x,args:=ops,argTypes:=ats }:=by exact rfl):
 CG P o ((x,.d (.fn (.func f) fi ca))::GR ops.toList eY) es (j.up srcs es.length) (Nh srcs es E'):=by
 intro C ok H a w Q hm O;refine aQ6 (fi:=fi.map .d) (ca:=ca.map .d) srcs I J L hE ha hl M C ok H a w Q hm (λn q=>?_);rcases G7.1 q with rfl|q
 ·exact R.dfn (O (x,.d (.fn (.func f) fi ca)) Bf)
 grind
def Sv (S:AA Ec)(es:AA Bc):AA Ec->AA Bc->Prop
 |s::srcs,e::E=>(match s with | .ent k=>es[k]? =some (e.up S es.length)| .nil sz=>∃t,e=.arr t sz [])/\Sv S es srcs E
 | [],_=>True
 |_::_,[]=>False
def Nj {es:AA Bc}{e:Bc}(h:es[k]? =some (e.up S es.length))(hs:Sv S es srcs E):Sv S es (.ent k::srcs) (e::E):=⟨h,hs⟩
def abx {es:AA Bc}(hs:Sv S es srcs E):Sv S es (.nil sz::srcs) (.arr t sz []::E):=⟨⟨t,rfl⟩,hs⟩
def aSt {S:AA Ec}{es:AA Bc}:∀{srcs:AA Ec} {E:AA Bc},Sv S es srcs E->∀(i:Nat) (s:Ec),srcs[i]? =some s->match s with | .ent k=>(E[i]?).map (Bc.up S es.length)=es[k]? | .nil sz=>∃e,E[i]? =some (.arr e sz [])
 | [],_,_,i,s,hs=>by simp at hs
 |_::_,[],h,_,_,_=>h.elim
 |s::srcs,e::E,h,0,j,hs=>by
  simp at hs;subst hs;have h1:=h.1;cases s with
  |ent k=>
   grind
  |nil sz=>
   grind
 |s::srcs,e::E,h,i+1,j,hs=>by
  have :=aSt h.2 i j xB;cases j with
  |ent k=>
   simpa using this
  |nil sz=>
   simpa using this
def aJQ {es:AA Bc}(h:Sv srcs es srcs E):a0t srcs es E:=aSt h
def aNv (srcs:AA Ec)(q:EU P f fF E j E')(I:IC P f=true)(J:U7 srcs es E E'=true)(hE:Sv srcs es srcs E)(ha:OG srcs eY fF)(hl:ops.toList.length=eY.length)(L:res'=j.up srcs es.length)(M:o.op=.call { callee:=.value (.func f),args:=ops,argTypes:=ats }:=by exact rfl):CG P o (GR ops.toList eY) es res' (Nh srcs es E'):=L▸aWx srcs q I J (aJQ hE) ha hl M
def aat (srcs:AA Ec)(fi ca:AA Am)(q:EU P f fF E j E')(I:IC P f=true)(J:U7 srcs es E E'=true)(hE:Sv srcs es srcs E)(ha:OG srcs (fi++eY++ca) fF)(hl:ops.toList.length=eY.length)(L:res'=j.up srcs es.length)(M:o.op=.call { callee:=.value x,args:=ops,argTypes:=ats }:=by exact rfl):
 CG P o ((x,.fn (.func f) fi ca)::GR ops.toList eY) es res' (Nh srcs es E'):=L▸aQ6 srcs q I J (aJQ hE) ha hl M
def akU (srcs:AA Ec)(fi ca:AA D)(q:EU P f fF E j E')(I:IC P f=true)(J:U7 srcs es E E'=true)(hE:Sv srcs es srcs E)(ha:OG srcs (fi.map .d++eY++ca.map .d) fF)(hl:ops.toList.length=eY.length)(L:res'=j.up srcs es.length)(M:o.op=.call { callee:=.value x,args:=ops,argTypes:=ats }:=by exact rfl):
 CG P o ((x,.d (.fn (.func f) fi ca))::GR ops.toList eY) es res' (Nh srcs es E'):=L▸aZ6 srcs q I J (aJQ hE) ha hl M
structure Turns (v:Value) (w w':World):Prop where
 os:w'.os=w.os
 tape:w'.tape=w.tape
 output:w'.output=w.output
 size:w.heap.size<=w'.heap.size
 block:∀c,c<w.heap.size->ED v≠some c->w'.heap[c]? =w.heap[c]?
def Turns.refl (v:BJ)(w:BU):Turns v w w:=⟨rfl,rfl,rfl,Eo _,λ_ _ _=>rfl⟩
def Turns.aIg {o c:Nat}{s:AB Nat}(h:w.grownBy w' (some g)):Turns (.slice (some ⟨g,o,s⟩) n c) w w':=
 ⟨h.os,h.tape,h.output,h.size,λk q j=>h.block k q (λe=>j (by cases e;rfl))⟩
def ET.Ze {u:BJ}(h:ET ok w (.lit u) v):v=u:=by cases h;rfl
def aC4 :∀(l:AA Int),flat (l.map Ah)=l.map λn=>.d (Ah n)
 | []=>rfl
 |n::l=>by rw[JE,UN,aC4 l];rfl
def a7G:Fh ok w H h (.arr e 1 (List.map Ah l))↔h.size=1/\lF w e 1 h.v l.length (l.map (.int .i64)):=by
 constructor
 ·rintro⟨h1,_,xs,h3,q,I⟩;refine⟨h1,?_⟩;rw[DK]at h3
  have :xs=l.map (.int .i64):=by
   rw[aC4]at q I;rw[DK]at q;refine jB ku λi hi M=>?_;have j:i<l.length:=AL
   have J:=(I i WW).2;simp only[List.getD,KJ,EJ j,Jp,OI,EJ hi]at J;cases J with |d _ _ h=>rw[ET.Ze h];simp
  grind
 rintro⟨h1,h3⟩;refine⟨h1,λx L=>?_,l.map (.int .i64),by rw[DK];exact h3,?_⟩
 ·obtain⟨n,_,rfl⟩:=GH.1 L;rfl
 rw[aC4];refine⟨Bf,λi hi=>?_⟩;have j:i<l.length:=IQ
 simp only[List.getD,KJ,EJ j,Jp,OI];exact⟨rfl,.d _ _ (.lit _)⟩
variable {j:Bh BJ}
def aSh (hs:j.size=1):j= #[j.getD 0 undef]:=by
 refine eM (by simp[hs]) λi h1 h2=>?_;simp at h2;subst h2;simp[Array.getD,hs]
variable {r:AA Int}
def EU.aKK (h:∀(v:BJ) (w:BU),lF w e 1 v l.length (l.map (.int .i64))->Calls P f #[v] w λx w'=>x=.returned (.tuple #[])/\lF w' e 1 v r.length (r.map (.int .i64))/\Turns v w w'):
 EU P f [.aQ 0] [.arr e 1 (List.map Ah l)] (.eu []) [.arr e 1 (List.map Ah r)]:=by
 intro ok X H w vals hm hs ha;have h0:=ha 0 Ba;rw[aSh hs];obtain⟨hd,U,Y⟩:=Gy hm.ent hm.hlen (k:=0) rfl;obtain hv:=P5 h0 U;rw[hv];obtain⟨hz,Z⟩:=a7G.1 Y;refine(h hd.v w Z).mono ?_;rintro x w' ⟨rfl,L,J⟩;have q:=λb M=>hm.blk 0 _ hd b rfl rfl U M
 have hg:=hm.change (ok':=ok) (H':=H) (w':=w') (es':=[.arr e 1 (List.map Ah r)]) (λc=>ED hd.v=some c) J.os J.tape J.output J.size J.block (λc hc _=>⟨(q c hc).1,(q c hc).2.2⟩) (λ_ h=>h) (λ_ h=>.inl h) (.refl _) hm.hlen (by
  intro k e' h' j O
  match k,j with
  |0,j=>
   simp at j;subst j;rw[U]at O;obtain rfl:=E9 O;refine .inr ⟨a7G.2 ⟨hz,L⟩,λ_ b M=>⟨(q b M).1,WR (q b M).2.1 J.size,(q b M).2.2,λk' e'' h'' hne I=>?_⟩⟩
   match k',I with
   |0,_=>exact absurd rfl hne
   |k'+1,I=>simp at I
  |k+1,j=>simp at j)
 exact⟨_,ok,H,rfl,hg.1,.eu [] #[] rfl (λi hi=>Sj)⟩
def EU.turned (h:∀(v:BJ) (w:BU),lF w e 1 v l.length (l.map (.int .i64))->Calls P f #[v] w λx w'=>∃v',x=.returned v'/\lF w' e 1 v' r.length (r.map (.int .i64))/\Turns v w w'/\∀g,ED v'=some g->ED v=some g\/w.heap.size<=g):
 EU P f [.aQ 0] [.arr e 1 (List.map Ah l)] (.aQ 1) [.dead,.arr e 1 (List.map Ah r)]:=by
 intro ok X H w O hm hs ha;have Z:=ha 0 Ba;rw[aSh hs];obtain⟨hd,U,L⟩:=Gy hm.ent hm.hlen (k:=0) rfl;obtain hv:=P5 Z U;rw[hv];obtain⟨hz,M⟩:=a7G.1 L;refine(h hd.v w M).mono ?_;rintro x w' ⟨v',rfl,j,q,I⟩;have J:=hm.turn (e:=.arr e 1 (List.map Ah r)) (h':=⟨v',1⟩) (w':=w') (k:=0) rfl rfl U q.os q.tape q.output q.size q.block (λg J=>⟨a08 j J,I g J⟩) (λ_=>a7G.2 ⟨rfl,j⟩);refine⟨v',ok,H++[⟨v',1⟩],rfl,J.1,?_⟩;have hl:H.length=1:=hm.hlen;have Y:(H++[(⟨v',1⟩:CB)])[1]? =some ⟨v',1⟩:=by rw[←hl];simp
 rcases j.2 with⟨rfl,_⟩|⟨g,cap,cur,rfl,_⟩
 ·exact .aQ 1 _ _ _ 1 Y
 exact .aQ 1 _ _ _ 1 Y
def EU.plain {j:Am}(U:∀ok w H,R ok w H j v)(h:∀w,Calls P f vs.toArray w λx w'=>x=.returned v/\Below w.heap.size w w'):EU P f (vs.map λu=>.d (.lit u)) [] j []:=by
 intro ok X H w q hm hs ha
 have e:q=vs.toArray:=by
  refine eM xB λi h1 h2=>?_;have I:i<vs.length:=LC
  have h3:=ha i Q9;simp only[List.getD,KJ,EJ I,Jp,OI]at h3;cases h3 with |d _ _ h=>have :=ET.Ze h;simpa[Array.getD,h1]using this
 rw[e];refine(h w).mono ?_;rintro x w' ⟨rfl,J⟩
 have Y:=hm.change (ok':=ok) (H':=H) (w':=w') (es':=[]) (λ_=>False) J.os J.tape J.output J.size (λc M _=>J.block c M) (λ_ h=>h.elim) (λ_ h=>h) (λ_ h=>.inl h) (.refl _) hm.hlen (by
  intro k e' h' L O
  simp at L)
 grind
variable {ops:Bh Oper}
def Chain.aGp {l Y:AA Oper}(h:Chain P ops l σ σ'){H0:AA CB}{Q:Exit->Act->BU->Prop}:
 ∀{ok:Nat->Prop} {H:AA CB} {a:Act} {w:BU},Holds C ok H σ a w->Names H0 H->(∀ok' H' a' w',Holds C ok' H' σ' a' w'->Names H0 H'->wpListIn (Js ro) 0 P ops Q Y a' w')->wpListIn (Js ro) 0 P ops Q (l++Y) a w:=by
 induction h with
 |nil σ=>
  grind
 | @op o rest σ σ' ns x d Z hn M hd k O=>
   intro ok H a w j q U;subst hd;rw[XW];unfold wpListIn;rw[Dw (WZ j M)];refine jH ?_ (Z.inR ro C ok H a w Q j.mem (λn J=>Yp hn n J▸j.get n.1));rintro a' w' ⟨v,ok',H',rfl,L,I,hm,hx⟩;exact O (j.put o.dst L I hm hx) (q.trans I) U
 | @oe o rest σ σ' ns x es' d E Z he hn M hd k O=>
   intro ok H a w j q U;subst hd;subst he;rw[XW];unfold wpListIn;rw[Dw (WZ j M)];refine jH ?_ (Z.inR ro C ok H a w Q j.mem (λn J=>Yp hn n J▸j.get n.1));rintro a' w' ⟨v,ok',H',rfl,L,I,hm,hx⟩;exact O (j.put o.dst L I hm hx) (q.trans I) U
 | @skip o rest σ σ' d M hd k O=>
   intro ok H a w j q U;subst hd;rw[XW];unfold wpListIn;rw[EC aGq];exact⟨λ_ _=>trivial,O (j.put o.dst (.refl _ _) (.refl _) j.mem (.d _ _ (.lit _))) q U⟩
 | @any o rest σ σ' x d hs hd k O=>
   intro ok H a w j q U;subst hd;rw[XW];unfold wpListIn;rcases hs.1 with⟨ns,Z,hn,_,M⟩|⟨rfl,_,M⟩
   ·rw[Dw (WZ j M)];refine jH ?_ (Z.inR ro C ok H a w Q j.mem (λn J=>Yp hn n J▸j.get n.1));rintro a' w' ⟨v,ok',H',rfl,L,I,hm,hx⟩;exact O (j.put o.dst L I hm hx) (q.trans I) U
   rw[EC aGq];exact⟨λ_ _=>trivial,O (j.put o.dst (.refl _ _) (.refl _) j.mem (.d _ _ (.lit _))) q U⟩
 | @auK o rest σ σ' x E bar d hs hd k O=>
   intro ok H a w j q U;subst hd;rw[XW];unfold wpListIn;rcases hs.1 with⟨ns,Z,hn,_,M⟩|⟨rfl,rfl,M⟩
   ·rw[Dw (WZ j M)];refine jH ?_ (Z.inR ro C ok H a w Q j.mem (λn J=>Yp hn n J▸j.get n.1));rintro a' w' ⟨v,ok',H',rfl,L,I,hm,hx⟩;exact O (j.put o.dst L I hm hx) (q.trans I) U
   rw[EC aGq];exact⟨λ_ _=>trivial,O (j.put o.dst (.refl _ _) (.refl _) j.mem (.d _ _ (.lit _))) q U⟩
 |conv σ2 hc k O=>
  intro ok H a w j q U;obtain⟨ok',hh'⟩:=hc C ok H a w j;exact O hh' q U
variable {es:AA D}{q:Oper}{t':Nat}
def Bl.aEn {L:BP}{id:Nat}{e:Nat}(k:Nat)(j:ops.toList.drop k=[q])(h:Chain P ops (ops.toList.take k) σ L)(U:q.op=.binOp .eql t x (.const (.slice none 0 0)) t')(hd:q.dst=some d)(Y:q.guard=none)(Z:P.underlying t=some (.slice e))(hx:L.get x=.d (.sl es))(hQ:∀b,(es≠[]->b=false)->Q .normal (L.vY (some d) (.d (.lit (.bool b))))):Bl P (.region id ops false) σ Q:=by
 refine⟨λro _ C ok H a w hh=>wpIn_region_list ?_⟩;rw[←YC k ops.toList,j];refine h.aGp hh (.refl H) λok' H' a' w' h1 _=>?_;have J:=hx▸h1.get x
 obtain⟨b,hb,hr⟩:∃b,(es≠[]->b=false)/\(execOp a'.eval q).run P w'=.ok (.value (.bool b)) w':=by
  cases J with
  |d _ _ J=>
   generalize I:a'.eval x=v at J
   have key:∀(ad:AB Addr) (n c:Nat),v=.slice ad n c->(execOp a'.eval q).run P w'=.ok (.value (.bool ad.isNone)) w':=λad n c M=>by
    have O:(eqGuard .eql t x (.const (.slice none 0 0)) (.slice ad n c) (.slice none 0 0)).run P w'=.ok () w':=by simp[eqGuard]
    have e0:a'.eval (.const (.slice none 0 0))=.slice none 0 0:=rfl;rw[M]at I;simp only[execOp,U,I,e0,GL,O,GY,Lib.run_eql_slice_nil w' t e ad n c 0 0 Z,Hg]
   cases J with
   |sl0 ad cap=>
    grind
   |sl es b off cap size=>
    grind
 unfold wpListIn;rw[Dw (by unfold Region.wanted;rw[Y])];unfold Oper.wpIn;rw[lW _ _ _ (by rw[U];intro c h;cases h),hr,Oper.uponIn_value];refine⟨λ_ _=>trivial,?_⟩;unfold wpListIn;exact⟨ok',H',_,by rw[hd];exact h1.put (some d) (.refl _ _) (.refl _) h1.mem (.d _ _ (.lit _)),hQ b hb⟩
def pJ {I:BP}{id:Nat}{y:Code}{e:Nat}(k:Nat)(j:ops.toList.drop k=[q])(h:Chain P ops (ops.toList.take k) σ I)(L:q.op=.binOp .eql t x (.const (.slice none 0 0)) t')(hd:q.dst=some d)(M:q.guard=none)(O:P.underlying t=some (.slice e))(U:I.get x=.d (.sl es))(Y:∀b,(es≠[]->b=false)->Bl P y (I.vY (some d) (.d (.lit (.bool b)))) Q):Bl P (.seq (.region id ops false) y) σ Q:=
 Bl.seq (λs=>∃b,(es≠[]->b=false)/\s=I.vY (some d) (.d (.lit (.bool b)))) (Bl.aEn k j h L hd M O U λb J=>⟨b,J,rfl⟩) (by rintro _ ⟨b,J,rfl⟩;exact Y b J)
def oH {l:AA α}{e:α->D}(h:List.map e l≠[]->true=false):l=[]:=by
 cases l with
 |nil=>
  rfl
 |cons a l=>
  grind
def aPY {α:Type}{p:Nat->α->Prop}:∀n,(∀i,i<n->∃x,p i x)->∃l:AA α,l.length=n/\∀i (h:i<l.length),p i l[i]
 |0,_=>⟨[],rfl,λi h=>Il⟩
 |n+1,h=>by
  obtain⟨l,h1,h2⟩:=aPY n (λi hi=>h i AL);obtain⟨x,j⟩:=h n AL;refine⟨l++[x],lD,λi hi=>?_⟩
  grind
def RI (w:BU)(q:AA D)(cs:AA BJ):Prop:=cs.length=q.length/\∀j,j<q.length->(q.getD j EN).leaf=true/\ET (λb=>b<w.heap.size) w (q.getD j EN) (cs.getD j undef)
def RI.nil (w:BU):RI w [] []:=⟨rfl,λj h=>Il⟩
variable {cs:AA BJ}
def RI.append {q:AA D}(h:RI w q cs)(k:RI w es us):RI w (q++es) (cs++us):=by
 refine⟨by simp[h.1,k.1],λj M=>?_⟩;by_cases e:j<q.length
 ·have I:(q++es).getD j EN=q.getD j EN:=aFX
  have J:(cs++us).getD j undef=cs.getD j undef:=by simp[List.getD,KZ (show j<cs.length by rw[h.1];exact e)]
  rw[I,J];exact h.2 j e
 have L:j-q.length<es.length:=lK
 have I:(q++es).getD j EN=es.getD (j-q.length) EN:=by simp[List.getD,PL (Yo e)]
 have J:(cs++us).getD j undef=us.getD (j-q.length) undef:=by
  have h1:=h.1
  grind
 rw[I,J];exact k.2 _ L
variable {V:α->Prop}{en:α->D}{fs:Bh Field}{x:D}
section
variable {H:Type}{enc:Bq×BJ->H}{spare:Nat->Ac}{held:Ac}{t:Bq}
def fU (enc:Bq×BJ->H)(P:Ch)(w:BU)(base:Nat)(spare:Nat->Ac)(held:Ac)(t:Bq)(e:α->D)(V:α->Prop):Prop:=
 ∀Aw cs x,DataW.trod enc P w base spare held Aw t cs=some x->∃a:α,V a/\RI w (e a).cells cs
def RI.one {w:BU}(q:x.cells=[x])(hl:x.leaf=true)(h:ET (λb=>b<w.heap.size) w x v):RI w x.cells [v]:=by
 rw[q];refine⟨rfl,λj I=>?_⟩
 grind
def aof (ht:P.underlying t=some (.slice e))(hc:P.cellsOf e=sz)(U:0<sz)(hsz:∀a,(en a).cells.length=sz)(hR:fU enc P w base spare held e en V):
 fU enc P w base spare held t (BR en) (λl=>l.length<=maxLen/\∀x∈l,V x):=by
 intro Aw cs x h;rcases Go.Deep.open_slice ht h with⟨rfl, -⟩|⟨a,len,cap,m,n,D,Pl,rfl, -,hl,hm,hmm, -,hx⟩
 ·exact⟨[],⟨F6 _,λx h=>Il⟩,.one rfl rfl (.sl0 none 0)⟩
 have hlm:len<=m:=by rw[hmm];split<;>omega
 rw[hc]at hx
 have hex:∀i,i<len->∃y:α,V y/\∃J:AA BJ,w.cells? base (a.add (i*sz)) sz=some J/\RI w (en y).cells J:=by
  intro i hi;obtain⟨J,h1,h2⟩:=hx i AL;obtain⟨y,h3,h4⟩:=hR _ _ _ h2
  grind
 obtain⟨l,hlen,Y⟩:=aPY len hex;subst hlen;refine⟨l,⟨AL,λx hx=>?_⟩,?_⟩
 ·obtain⟨i,hi,rfl⟩:=I8 hx;exact(Y i hi).1
 rcases bH l.length with h0|hlp
 ·have :l=[]:=I4 h0;subst this;exact .one rfl rfl (.sl0 _ _)
 have q:∀i,(hi:i<l.length)->∀j,j<sz->∃u,w.cell? ((a.add (i*sz)).add j)=some u/\((en l[i]).cells.getD j EN).leaf=true/\ET (λb=>b<w.heap.size) w ((en l[i]).cells.getD j EN) u:=by
  intro i hi j Z;obtain⟨-,J,h1,h2⟩:=Y i hi;obtain⟨-,h6,h5⟩:=World.cells?_some h1;have hcl:J.length=sz:=by rw[h2.1,hsz]
  have h7:=h5 j Z;rw[EJ AL]at h7;refine⟨_,h7,?_⟩;have h8:=h2.2 j (by rw[hsz];exact Z)
  grind
 have L:a.spot=none:=by
  obtain⟨u,h4, -⟩:=q 0 hlp 0 U;have e0:(a.add (0*sz)).add 0=a:=by simp[Addr.add]
  rw[e0]at h4;unfold World.cell? at h4;cases hsp:a.spot with
  |none=>
   rfl
  |some s=>
   rw[hsp]at h4;cases hh:w.heap[a.block]? with
   |none=>
    grind
   |some o=>
    grind
 have hblk:a.block<w.heap.size:=by
  obtain⟨u,h4, -⟩:=q 0 hlp 0 U;have e0:(a.add (0*sz)).add 0=a:=by simp[Addr.add]
  rw[e0]at h4;unfold World.cell? at h4
  grind
 obtain⟨b,o,s⟩:=a;simp only at L hblk;subst L;have I:(List.map en l).length=l.length:=DK _;have M:∀i,(hi:i<l.length)->(List.map en l).getD i EN=en l[i]:=λi hi=>OQ
 have O:∀i j,((⟨b,o,none⟩:Addr).add (i*sz)).add j=⟨b,o+(i*sz+j),none⟩:=λi j=>by simp only[Addr.add];split<;>split<;>simp_all<;>omega
 refine .one rfl rfl ?_
 have :=ET.sl (ok:=λb=>b<w.heap.size) (w:=w) (List.map en l) b o cap sz (by rw[I];exact hl) (λ_ _=>hblk) (λi hi=>by rw[I]at hi;rw[M i hi];exact hsz _)
  (λi hi j Z=>by rw[I]at hi;obtain⟨u,_,h2,_⟩:=q i hi j Z;rw[M i hi];exact h2)
  (λi hi j Z=>by rw[I]at hi;obtain⟨u,h1,_,_⟩:=q i hi j Z;rw[O]at h1;rw[h1];rfl)
  (λi hi j Z=>by rw[I]at hi;obtain⟨u,h1,_,h3⟩:=q i hi j Z;rw[O]at h1;rw[M i hi];unfold cellAt;rw[h1];exact h3)
 rw[I]at this;exact this
def aiI {k:IntKind}(j:P.underlying t=some (.int k)):fU enc P w base spare held t (λn=>D.lit (.int k n)) (λn:Int=>k.min<=n/\n<=k.max):=by
 intro Aw cs x h;obtain⟨n,rfl, -,q⟩:=DataW.trod_int j h;exact⟨n,by simpa[Lit.wf]using q,.one rfl rfl (.lit _)⟩
def adn (j:P.underlying t=some .string):fU enc P w base spare held t DV (λs=>s.size<=maxLen):=by
 intro Aw cs x h;obtain⟨n,rfl, -,q⟩:=DataW.trod_string j h;exact⟨n,q,.one rfl rfl (.lit _)⟩
def aal (j:P.underlying t=some .bool):fU enc P w base spare held t EH (λ_=>True):=by
 intro Aw cs x h;obtain⟨n,rfl, -⟩:=DataW.trod_bool j h;exact⟨n,trivial,.one rfl rfl (.lit _)⟩
def an0 {Aw:Nat}{x:DataW H×AA MemPlace}(J:P.underlying t=some (.struct fs))(h:DataW.trod enc P w base spare held Aw t cs=some x)(i:Nat)(u o n:Nat)(I:(fs[i]?).map (λf=>(f.type,f.offset,P.cellsOf f.type))=some (u,o,n))(L:fU enc P w base spare held u en V):∃a:α,V a/\RI w (en a).cells ((cs.drop o).take n):=by
 obtain⟨xs,k, -, -, -,hlen,q⟩:=DataW.trod_struct J h;cases j:fs[i]? with
 |none=>
  grind
 |some f=>
  rw[j]at I;simp only[Jp,Nw,VF]at I;obtain⟨rfl,rfl,rfl⟩:=I;have h1:=q i f j;have hi:i<fs.size:=(Ic.1 j).1;rw[EJ AL]at h1;exact L _ _ _ h1
def abZ {Aw:Nat}{x:DataW H×AA MemPlace}(j:P.underlying t=some (.struct fs))(h:DataW.trod enc P w base spare held Aw t cs=some x)(n:Nat)(q:P.cellsOf t=n):cs.length=n:=by
 obtain⟨xs,k, -, -,hlen, -⟩:=DataW.trod_struct j h;rw[hlen,q]
end
def Wu {j:AA D}{cs:Bh BJ}(q:x=.agg j)(h:RI w x.cells (Value.agg cs).cells.toList):ET (λb=>b<w.heap.size) w x (.agg cs):=by
 subst q;have h':RI w j cs.toList:=h
 exact .agg j cs (by simpa using h'.1) (λi hi=>(h'.2 i hi).1) λi hi=>by
  have :=(h'.2 i hi).2;simpa[Jm,List.getD]using this
def EU.start (h:EU P f (xs.map .d) [] (.d x) [])(hs:j.size=xs.length)(ha:∀i,i<xs.length->ET (λb=>b<W.heap.size) W (xs.getD i EN) (j.getD i undef)):
 Calls P f j W λe W'=>∃v ok,e=.returned v/\ET ok W' x v/\Below W.heap.size W W':=by
 refine(h (λb=>b<W.heap.size) [] [] W j ⟨.refl _ _,λ_ h=>h,λ_ h=>.inl h,λ_ h=>h,.refl _,rfl,λk e h q=>by simp at q,λk e h b q=>by simp at q,λk k' e e' h h' b q=>by simp at q⟩ xB (λi hi=>?_)).mono ?_
 ·have I:i<xs.length:=IQ
  have :(xs.map Am.d).getD i .junk=.d (xs.getD i EN):=aG9
  rw[this];exact .d _ _ (ha i I)
 rintro e W' ⟨v,ok',H',rfl,hm,J⟩;cases J with
 |d _ _ J=>exact⟨v,ok',rfl,J,hm.fr.below⟩
def EU.law (h:EU P f (xs.map .d) [] (.d (EH true)) [])(hs:j.size=xs.length)(ha:∀i,i<xs.length->ET (λb=>b<W.heap.size) W (xs.getD i EN) (j.getD i undef)):
 Calls P f j W λe W'=>e=.returned (.bool true)/\Below W.heap.size W W':=by
 refine(h.start hs ha).mono ?_;rintro e W' ⟨v,ok,rfl,q,I⟩;exact⟨by rw[ET.Ze q],I⟩
def Dv (l:AA Int)(x:Int):Ac:=l.contains x
variable {x:Int}
def Me:Dv l x=true↔x∈l:=by unfold Dv;simp
def QV:Dv l x=false↔x∉l:=by unfold Dv;simp
def put (l:AA Int)(x:Int):AA Int:=if Dv l x then l else l.takeWhile (decide<| · <x)++x::l.dropWhile (decide<| · <x)
def FN (l:AA Int):AA Int:=l.foldl put []
def J3 (a b:AA Int):AA Int:=b.foldl put (FN a)
def QH (a b:AA Int):AA Int:=(FN a).filter (λx=> !Dv b x)
abbrev Inc (l:AA Int):Prop:=l.Pairwise (· < ·)
def aak:∀y∈l.takeWhile (decide<| · <x),y<x:=by
 intro y j;have :=List.all_takeWhile (l:=l) (p:=(decide<| · <x));rw[GK]at this;simpa using this y j
def aSq :∀{l:AA Int} {x:Int},Inc l->∀y∈l.dropWhile (decide<| · <x),x<=y
 | [],x,_,y,j=>a2J
 |a::l,x,h,y,j=>by
  have h':=OE.1 h;by_cases ha:a<x
  ·rw[aXK (by simpa using ha)]at j;exact aSq h'.2 y j
  rw[aQr (by simpa using ha)]at j;rcases G7.1 j with rfl|j
  ·omega
  have :=h'.1 y j;omega
variable {y:Int}
def YP:y∈put l x↔y∈l\/y=x:=by
 unfold put;split
 ·rename_i h;have j:x∈l:=Me.1 h;constructor
  ·exact .inl
  rintro(h|rfl)
  ·exact h
  exact j
 have e:l.takeWhile (decide<| · <x)++l.dropWhile (decide<| · <x)=l:=uM
 have :y∈l↔y∈l.takeWhile (decide<| · <x)\/y∈l.dropWhile (decide<| · <x):=by
  conv=>lhs;rw[←e]
  exact KG
 rw[this,KG,G7];constructor
 ·rintro(h|h|h)
  ·exact .inl (.inl h)
  ·exact .inr h
  exact .inl (.inr h)
 rintro((h|h)|h)
 ·exact .inl h
 ·exact .inr (.inr h)
 exact .inr (.inl h)
def Tf (h:Inc l):Inc (put l x):=by
 unfold put;split
 ·exact h
 rename_i J;have j:x∉l:=λh=>J (Me.2 h)
 have hd:∀y∈l.dropWhile (decide<| · <x),x<y:=by
  intro y I;have h1:=aSq h y I;have h2:y∈l:=(aFM _).mem I;have :y≠x:=λe=>j (e▸h2);omega
 refine Sim.2 ⟨h.sublist (List.takeWhile_sublist _),OE.2 ⟨hd,h.sublist (aFM _)⟩,?_⟩;intro a ha b q;have h1:=aak a ha;rcases G7.1 q with rfl|q
 ·exact h1
 have :=hd b q;omega
def aDZ:∀{acc:AA Int} {y:Int},y∈l.foldl put acc↔y∈acc\/y∈l:=by
 induction l with
 |nil=>intro acc y;simp
 |cons a l j=>intro acc y;rw[Hy,j,YP,G7,or_assoc]
def a6q:∀{acc:AA Int},Inc acc->Inc (l.foldl put acc):=by
 induction l with
 |nil=>intro acc h;exact h
 |cons a l j=>intro acc h;exact j (Tf h)
def OJ:y∈FN l↔y∈l:=by unfold FN;rw[aDZ];simp
def NR (l:AA Int):Inc (FN l):=a6q List.Pairwise.nil
def FD :∀{a b:AA Int},Inc a->Inc b->(∀x,x∈a↔x∈b)->a=b
 | [],[],_,_,_=>rfl
 | [],b::bs,_,_,h=>by have :=(h b).2 Bf;simp at this
 |a::aWf,[],_,_,h=>by have :=(h a).1 Bf;simp at this
 |a::aWf,b::bs,ha,J,h=>by
  have j:=OE.1 ha;have q:=OE.1 J
  have e:a=b:=by
   rcases G7.1 ((h a).1 Bf)with h1|h1
   ·exact h1
   rcases G7.1 ((h b).2 Bf)with h2|h2
   ·exact h2.symm
   have :=j.1 b h2;have :=q.1 a h1;omega
  subst e;congr 1;refine FD j.2 q.2 λx=>?_;have I:=h x;rw[G7,G7]at I;constructor
  ·intro h1;rcases I.1 (.inr h1)with rfl|h2
   ·exact absurd (j.1 x h1) AL
   exact h2
  intro h1;rcases I.2 (.inr h1)with rfl|h2
  ·exact absurd (q.1 x h1) AL
  exact h2
def af5 (h:Inc l):FN l=l:=FD (NR l) h λ_=>OJ
def a0K (a b:AA Int):J3 a b=FN (a++b):=by unfold J3 FN;rw[X5]
variable {a:AA Int}
def aO {b:AA Int}:x∈J3 a b↔x∈a\/x∈b:=by rw[a0K,OJ,KG]
def wO (a b:AA Int):Inc (J3 a b):=by rw[a0K];exact NR _
def aTl {b:AA Int}:x∈QH a b↔x∈a/\x∉b:=by unfold QH;rw[He,OJ];simp[Dv]
def aJZ (a b:AA Int):Inc (QH a b):=(NR a).sublist V8
def aiF (Dl:AA Int):∀m,m<=Dl.length->∀x,x∈Lib.compactUpTo Dl.toArray m↔x∈Dl.take m:=by
 intro m
 induction m with
 |zero=>intro _ x;simp[Lib.compactUpTo]
 |succ m I=>
  intro hm x;rw[Lib.compactUpTo_succ,KG,I AL,SI AL,KG];have J:Dl.toArray[m]! =Dl[m]' AL:=by simp[show m<Dl.length by omega]
  by_cases q:Lib.keeps Dl.toArray m=true
  ·rw[Dw q,J]
  rw[EC q];have j:Lib.keeps Dl.toArray m=false:=WU
  have L:m≠0:=by intro e;subst e;simp[Lib.keeps]at j
  have M:Dl[m]' AL=Dl[m-1]' AL:=by
   simp[Lib.keeps,L]at j;simpa[show m<Dl.length by omega,show m-1<Dl.length by omega]using j
  constructor
  ·intro h;rcases h with h|h
   ·exact .inl h
   simp at h
  rintro(h|h)
  ·exact .inl h
  refine .inl ?_;simp at h;subst h;rw[M];rw[List.mem_take_iff_getElem];exact⟨m-1,AL,rfl⟩
def ah2 (Dl:AA Int)(hs:Dl.Pairwise (· <= ·)):∀m,m<=Dl.length->Inc (Lib.compactUpTo Dl.toArray m)/\∀x∈Lib.compactUpTo Dl.toArray m,∃i,∃_:i<m,∃h2:i<Dl.length,x=Dl[i]:=by
 intro m
 induction m with
 |zero=>intro _;refine⟨by simp[Lib.compactUpTo],λx q=>by simp[Lib.compactUpTo]at q⟩
 |succ m O=>
  intro hm;obtain⟨h1,h2⟩:=O AL;have U:Dl.toArray[m]! =Dl[m]' AL:=by simp[show m<Dl.length by omega]
  rw[Lib.compactUpTo_succ];by_cases I:Lib.keeps Dl.toArray m=true
  ·rw[Dw I,U];refine⟨Sim.2 ⟨h1,Bf,?_⟩,?_⟩
   ·intro a ha b M;simp at M;subst M;obtain⟨i,hi,Y,rfl⟩:=h2 a ha
    have J:∀j,(Z:j<m)->Dl[j]' AL<=Dl[m-1]' AL:=by
     intro j Z;by_cases e:j=m-1
     ·subst e;omega
     exact Jq.1 hs j (m-1) AL AL AL
    have h3:=J i hi;have h4:=Jq.1 hs (m-1) m AL AL AL
    have h5:Dl[m]' AL≠Dl[m-1]' AL:=by
     have L:m≠0:=AL
     simp[Lib.keeps,L]at I;simpa[show m<Dl.length by omega,show m-1<Dl.length by omega]using I
    omega
   intro x q;rcases KG.1 q with q|q
   ·obtain⟨i,a,b,c⟩:=h2 x q;exact⟨i,AL,b,c⟩
   simp at q;exact⟨m,AL,AL,q⟩
  rw[EC I,MH];refine⟨h1,λx q=>?_⟩;obtain⟨i,a,b,c⟩:=h2 x q;exact⟨i,AL,b,c⟩
def a8e (l:AA Int):Lib.compact (l.mergeSort λx y=>x<=y)=FN l:=by
 have hs:(l.mergeSort λx y=>x<=y).Pairwise (· <= ·):=by
  have :=List.pairwise_mergeSort (le:=λx y:Int=>x<=y) (by intro a b c;simp;omega) (by intro a b;simp;omega) l;exact this.imp (by intro a b h;simpa using h)
 refine FD (ah2 _ hs _ (Eo _)).1 (NR l) λx=>?_;rw[OJ];unfold Lib.compact;rw[aiF _ _ (Eo _),Ho];exact List.mem_mergeSort
def dQ {R:Type}(o:AB R)(Q:R->Prop):Prop:=∃r,o=some r/\Q r
section
variable {R:Type}{Q:R->Prop}
def dQ.ret {r:R}(h:Q r):dQ (some r) Q:=⟨r,rfl,h⟩
def dQ.bind {o:AB A}{f:A->AB R}{P:A->Prop}(h:dQ o P)(k:∀x,P x->dQ (f x) Q):dQ (o.bind f) Q:=by
 obtain⟨x,rfl,j⟩:=h;exact k x j
def dQ.mono {o:AB R}{P:R->Prop}(h:dQ o P)(k:∀r,P r->Q r):dQ o Q:=by
 obtain⟨x,rfl,j⟩:=h;exact⟨x,rfl,k x j⟩
def dQ.bif {x y:AB R}(h1:b=true->dQ x Q)(h2:b=false->dQ y Q):dQ (cond b x y) Q:=by
 grind
def dQ.eq {o:AB R}{r:R}(h:dQ o (· =r)):o=some r:=by obtain⟨x,rfl,rfl⟩:=h;rfl
def dQ.of {o:AB R}{r:R}(h:o=some r):dQ o (· =r):=⟨r,h,rfl⟩
def a2R (l:AA α)(i:Nat):Aq l (i:Int)=l[i]? :=by unfold Aq;rw[Dw (aJE i)];simp
def CX {l:AA α}(h:i<l.length):Aq l (i:Int)=some l[i]:=by rw[a2R];simp[h]
def Dz {b:Nat}{l m:AA α}(h:(l.length+m.length)*b<=140737488355328):CZ b l m=some (l++m):=by unfold CZ;rw[Dw h]
def dz {l:AA α}{lo hi:Nat}(h1:lo<=hi)(h2:hi<=l.length):Gx l (lo:Int) (hi:Int)=some ((l.drop lo).take (hi-lo)):=by
 unfold Gx;rw[Dw ⟨AL,AL,AL⟩];simp
def wrap_succ (i:Nat)(h:i<9223372036854775807):Ar ((i:Int)+1)=((i+1:Nat):Int):=by
 rw[Vo];omega
def RQ (h1: -9223372036854775808<=x)(h2:x<=9223372036854775807):Ar x=x:=by
 rw[Vo];omega
def aP1 {body:(A->AB R)->A->AB R}(I:Nat->A->Prop)(hs:∀m a k,I m a->(∀j a',j<m->I j a'->dQ (k a') Q)->dQ (body k a) Q):
 ∀n m a,m<n->I m a->dQ (bg body n a) Q
 |0,m,a,h,_=>AL
 |n+1,m,a,h,hi=>hs m a _ hi λj a' h' q=>aP1 I hs n j a' AL q
def Yu {body:(A->B->AB R)->A->B->AB R}(I:Nat->A->B->Prop)(hs:∀m a b k,I m a b->(∀j a' q,j<m->I j a' q->dQ (k a' q) Q)->dQ (body k a b) Q):
 ∀n m a b,m<n->I m a b->dQ (aS body n a b) Q
 |0,m,a,b,h,_=>AL
 |n+1,m,a,b,h,hi=>hs m a b _ hi λj a' q h' J=>Yu I hs n j a' q AL J
def dZ {body:(Int->AB R)->Int->AB R}(N:Nat)(j:N<Aw)(I:Nat->Prop)(q:I 0)(hs:∀i k,i<N->I i->(I (i+1)->dQ (k ((i+1:Nat):Int)) Q)->dQ (body k (i:Int)) Q)(L:∀k,I N->dQ (body k (N:Int)) Q):dQ (bg body Aw 0) Q:=by
 refine aP1 (body:=body) (Q:=Q) (λm a=>∃i:Nat,a=i/\i+m=N/\I i) ?_ Aw N 0 j ⟨0,rfl,AL,q⟩;rintro m a k ⟨i,rfl,hm,hi⟩ J;by_cases e:i<N
 ·exact hs i k e hi λh=>J (m-1) _ AL ⟨i+1,rfl,AL,h⟩
 have :i=N:=AL
 grind
def KA {body:(A->Int->AB R)->A->Int->AB R}(N:Nat)(j:N<Aw)(I:Nat->A->Prop){a0:A}(q:I 0 a0)(hs:∀i a k,i<N->I i a->(∀a',I (i+1) a'->dQ (k a' ((i+1:Nat):Int)) Q)->dQ (body k a (i:Int)) Q)(L:∀a k,I N a->dQ (body k a (N:Int)) Q):dQ (aS body Aw a0 0) Q:=by
 refine Yu (body:=body) (Q:=Q) (λm a b=>∃i:Nat,b=i/\i+m=N/\I i a) ?_ Aw N a0 0 j ⟨0,rfl,AL,q⟩;rintro m a b k ⟨i,rfl,hm,hi⟩ J;by_cases e:i<N
 ·exact hs i a k e hi λa' h=>J (m-1) _ _ AL ⟨i+1,rfl,AL,h⟩
 have :i=N:=AL
 grind
end
end Go.Proofs.YteiakhlfaaifnaaGreat
