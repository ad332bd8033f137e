/- Part 1 of the laws' proofs (short forms by wip/shrink2.py). -/
import Derived.Test.YtfmoknlmaldmlaaGreatRows
import Derived.WalkSpells
import Derived.WalkLawsBesides
import Derived.Lib.Hide
import Derived.Laws.AppendOwnNone
import Derived.Laws.CopyOwn
import Derived.RangeFuncRecord
import Derived.Lib.OwnBridge
import Derived.Sort.OwnSortedInts
import Derived.ProofKit
import Derived.Shelf.Small.Strs
import Derived.Shelf.Strings.Shaped
import Derived.Shelf.Sort.Plain
import Derived.Shelf.Slices.Turned
import Derived.Shelf.Slices.Clone
import Derived.Shelf.Slices.Cells
import Derived.Shelf.Slices.In.SortNone
import Derived.Shelf.Slices.Empties
import Derived.Shelf.SlSortCmp.NoneTotal
import Derived.Shelf.Spec.SlicesInsertGrow
set_option linter.defProp false
set_option linter.unnecessarySimpa false
set_option linter.unusedSectionVars false
set_option linter.unusedVariables false
set_option linter.unusedSimpArgs false
namespace Go.Proofs.YtfmoknlmaldmlaaGreat
open Go.RowKit Go.Proofs.Tryz
abbrev AA.{u}:=List.{u}
abbrev AB.{u}:=Option.{u}
abbrev BL:=ByteArray
abbrev BD:=Value
abbrev BX:=World
abbrev Bg.{u}:=Array.{u}
abbrev Bz:=Operand
abbrev Ch:=Program
abbrev Bq:=TypeId
abbrev AV:=Bool
abbrev AQ (n:Nat):Nat×AV:=(n,true)
variable {p:Prop}
def aMx (h:p:=by exact λI=>EI h (λO h=>AO h λx15 U h=>by cases x15 with |true=>exact(have h:=Oy rfl h;EI h (λu h=>EI h (λz h=>EI h (λJ h=>AO h λx20 L h=>by cases x20 with |true=>exact(have h:=Oy rfl h;Bo h λx14 Y x17 Z h=>EI h (λM h=>Gt h λx21 x22 x23 x24 x27 x25 h=>by cases x27 with |true=>exact(have h:=Oy rfl h;AO h λx29 TB h=>by cases x29 with |true=>exact(have h:=Oy rfl h;AO h λx28 x30 h=>Bh.draw A8 A8 A8 (.a 3<|.c (Au some O)<|.a 2<|.ca (Rh U)<|.a 4<|.p (x:=(Af (ML j.1 q.1))) (Ug [.int .i64 j.1.Pos,.int .i64 j.1.Id,.int .i64 j.1.Status,.bool j.1.Gone] [.int .i64 q.1.Pos,.int .i64 q.1.Id,.int .i64 q.1.Status,.bool q.1.Gone] (VJ j.1 q.1) Bd Vs)<|.a 1<|.c (Au some u)<|.a 4<|.c (Au some z)<|.a 4<|.c (Au some J)<|.a 2<|.ca (jh L)<|.a 3<|.ca (iQ Y)<|.a 1<|.ca (a6O Z)<|.a 2<|.c (Au some M)<|.a 1<|.ca (a0W x22)<|.a 1<|.ca (aCQ x24)<|.ca (pR x25)<|.a 4<|.ca (aCp TB)<|.a 2<|.ca (aEt  x28 x30)<|.a 2<|.nil _)<|I _ ⟨x28,Ae [],h⟩)|false=>exact(have h:=Oe rfl h;Bh.draw A8 A8 A8 (.a 3<|.c (Au some O)<|.a 2<|.ca (Rh U)<|.a 4<|.p (x:=(Af (ML j.1 q.1))) (Ug [.int .i64 j.1.Pos,.int .i64 j.1.Id,.int .i64 j.1.Status,.bool j.1.Gone] [.int .i64 q.1.Pos,.int .i64 q.1.Id,.int .i64 q.1.Status,.bool q.1.Gone] (VJ j.1 q.1) Bd Vs)<|.a 1<|.c (Au some u)<|.a 4<|.c (Au some z)<|.a 4<|.c (Au some J)<|.a 2<|.ca (jh L)<|.a 3<|.ca (iQ Y)<|.a 1<|.ca (a6O Z)<|.a 2<|.c (Au some M)<|.a 1<|.ca (a0W x22)<|.a 1<|.ca (aCQ x24)<|.ca (pR x25)<|.a 4<|.ca (aCp TB)<|.a 5<|.nil _)<|I _ ⟨false,Ae [],h⟩))|false=>exact(have h:=Oe rfl h;Bh.draw A8 A8 A8 (.a 3<|.c (Au some O)<|.a 2<|.ca (Rh U)<|.a 4<|.p (x:=(Af (ML j.1 q.1))) (Ug [.int .i64 j.1.Pos,.int .i64 j.1.Id,.int .i64 j.1.Status,.bool j.1.Gone] [.int .i64 q.1.Pos,.int .i64 q.1.Id,.int .i64 q.1.Status,.bool q.1.Gone] (VJ j.1 q.1) Bd Vs)<|.a 1<|.c (Au some u)<|.a 4<|.c (Au some z)<|.a 4<|.c (Au some J)<|.a 2<|.ca (jh L)<|.a 3<|.ca (iQ Y)<|.a 1<|.ca (a6O Z)<|.a 2<|.c (Au some M)<|.a 1<|.ca (a0W x22)<|.a 1<|.ca (aCQ x24)<|.ca (pR x25)<|.a 10<|.nil _)<|I _ ⟨false,Ae [],h⟩)) λM h=>Bh.draw A8 A8 A8 (.a 3<|.c (Au some O)<|.a 2<|.ca (Rh U)<|.a 4<|.p (x:=(Af (ML j.1 q.1))) (Ug [.int .i64 j.1.Pos,.int .i64 j.1.Id,.int .i64 j.1.Status,.bool j.1.Gone] [.int .i64 q.1.Pos,.int .i64 q.1.Id,.int .i64 q.1.Status,.bool q.1.Gone] (VJ j.1 q.1) Bd Vs)<|.a 1<|.c (Au some u)<|.a 4<|.c (Au some z)<|.a 4<|.c (Au some J)<|.a 2<|.ca (jh L)<|.a 3<|.ca (iQ Y)<|.a 1<|.ca (a6O Z)<|.a 2<|.c (Au some M)<|.a 15<|.nil _)<|I _ ⟨false,Ae [],h⟩)|false=>exact(have h:=Oe rfl h;Bh.draw A8 A8 A8 (.a 3<|.c (Au some O)<|.a 2<|.ca (Rh U)<|.a 4<|.p (x:=(Af (ML j.1 q.1))) (Ug [.int .i64 j.1.Pos,.int .i64 j.1.Id,.int .i64 j.1.Status,.bool j.1.Gone] [.int .i64 q.1.Pos,.int .i64 q.1.Id,.int .i64 q.1.Status,.bool q.1.Gone] (VJ j.1 q.1) Bd Vs)<|.a 1<|.c (Au some u)<|.a 4<|.c (Au some z)<|.a 4<|.c (Au some J)<|.a 2<|.ca (jh L)<|.a 24<|.nil _)<|I _ ⟨false,Ae [],h⟩)) λx5 h=>Bh.draw A8 A8 A8 (.a 3<|.c (Au some O)<|.a 2<|.ca (Rh U)<|.a 4<|.p (x:=(Af (ML j.1 q.1))) (Ug [.int .i64 j.1.Pos,.int .i64 j.1.Id,.int .i64 j.1.Status,.bool j.1.Gone] [.int .i64 q.1.Pos,.int .i64 q.1.Id,.int .i64 q.1.Status,.bool q.1.Gone] (VJ j.1 q.1) Bd Vs)<|.a 1<|.c (Au some u)<|.a 4<|.c (Au some z)<|.a 4<|.c (Au some x5)<|.a 27<|.nil _)<|I _ ⟨false,Ae [],h⟩) λx5 h=>Bh.draw A8 A8 A8 (.a 3<|.c (Au some O)<|.a 2<|.ca (Rh U)<|.a 4<|.p (x:=(Af (ML j.1 q.1))) (Ug [.int .i64 j.1.Pos,.int .i64 j.1.Id,.int .i64 j.1.Status,.bool j.1.Gone] [.int .i64 q.1.Pos,.int .i64 q.1.Id,.int .i64 q.1.Status,.bool q.1.Gone] (VJ j.1 q.1) Bd Vs)<|.a 1<|.c (Au some u)<|.a 4<|.c (Au some x5)<|.a 32<|.nil _)<|I _ ⟨false,Ae [],h⟩) λx5 h=>Bh.draw A8 A8 A8 (.a 3<|.c (Au some O)<|.a 2<|.ca (Rh U)<|.a 4<|.p (x:=(Af (ML j.1 q.1))) (Ug [.int .i64 j.1.Pos,.int .i64 j.1.Id,.int .i64 j.1.Status,.bool j.1.Gone] [.int .i64 q.1.Pos,.int .i64 q.1.Id,.int .i64 q.1.Status,.bool q.1.Gone] (VJ j.1 q.1) Bd Vs)<|.a 1<|.c (Au some x5)<|.a 37<|.nil _)<|I _ ⟨false,Ae [],h⟩)|false=>exact(have h:=Oe rfl h;Bh.draw A8 A8 A8 (.a 3<|.c (Au some O)<|.a 2<|.ca (Rh U)<|.a 44<|.nil _)<|I _ ⟨false,Ae [],h⟩)) λx1 h=>Bh.draw A8 A8 A8 (.a 3<|.c (Au some x1)<|.a 47<|.nil _)<|I _ ⟨false,Ae [],h⟩):p:=h
def Bv (h:p:=by exact λh=>AY<|CW):p:=h
def EX (h:p:=by exact Bh.exit<|AY<|CW):p:=h
def aWy (h:p:=by exact λJ=>AO h λx7 j h=>by cases x7 with |true=>exact(have h:=Oy rfl h;Bo h λZ I x5 x6 h=>EI h (λU h=>AO h λx9 L h=>EI h (λq h=>AO h λx12 Y h=>EI h (λM h=>AO h λx15 x16 h=>Bh.draw A8 A8 A8 (.a 2<|.ca (PG j)<|.a 3<|.ca (PG I)<|.a 2<|.ca (Rh x6)<|.a 2<|.c (Au some U)<|.a 2<|.ca (PG L)<|.a 2<|.c (Au some q)<|.a 2<|.ca (PG Y)<|.a 2<|.c (Au some M)<|.a 2<|.ca (PG x16)<|.a 3<|.nil _)<|J _ ⟨(!x15),Ae [],h⟩) λM h=>Bh.draw A8 A8 A8 (.a 2<|.ca (PG j)<|.a 3<|.ca (PG I)<|.a 2<|.ca (Rh x6)<|.a 2<|.c (Au some U)<|.a 2<|.ca (PG L)<|.a 2<|.c (Au some q)<|.a 2<|.ca (PG Y)<|.a 2<|.c (Au some M)<|.a 6<|.nil _)<|J _ ⟨false,Ae [],h⟩) λq h=>Bh.draw A8 A8 A8 (.a 2<|.ca (PG j)<|.a 3<|.ca (PG I)<|.a 2<|.ca (Rh x6)<|.a 2<|.c (Au some U)<|.a 2<|.ca (PG L)<|.a 2<|.c (Au some q)<|.a 12<|.nil _)<|J _ ⟨false,Ae [],h⟩) λU h=>Bh.draw A8 A8 A8 (.a 2<|.ca (PG j)<|.a 3<|.ca (PG I)<|.a 2<|.ca (Rh x6)<|.a 2<|.c (Au some U)<|.a 18<|.nil _)<|J _ ⟨false,Ae [],h⟩)|false=>exact(have h:=Oe rfl h;Bh.draw A8 A8 A8 (.a 2<|.ca (PG j)<|.a 28<|.nil _)<|J _ ⟨false,Ae [],h⟩)):p:=h
def IW (h:p:=by exact Bh.exit<|AY<|Ua):p:=h
def RY (h:p:=by exact DI<|I _ _ (Ae []) h):p:=h
def bI (h:p:=by exact DI<|I _ _ (Ae [AQ 0]) h):p:=h
def Sl (h:p:=by exact DI<|I _ _ _ (Ae [AQ 0]) h):p:=h
def ZI (h:p:=by exact MZ A8<|MZ A8<|MZ A8<|MZ A8<|trivial):p:=h
def VZ (h:p:=by exact DI<|z _ _ (Ae []) h):p:=h
def UH (h:p:=by exact DI<|J _ _ (Ae []) h):p:=h
def XC (h:p:=by exact DI<|z _ _ _ (Ae [AQ 0]) h):p:=h
def aSS (h:p:=by exact .aW<|BG h (λh=>AY<|Bh.ret<|aif) λh=>AY<|Bh.ret<|by rw[←CP h];exact⟨[FP ({ LJ with Id:=j }),AX 0],[],⟨⟨0,BI (CZ ({ LJ with Id:=j })),true,9,A8,A8,A8,Ob,Dl A8,VE,A8⟩,G7 A8,trivial⟩,A8,A8,A8⟩):p:=h
def aAl (h:p:=by exact .nil<|Or.inl ⟨(),(CP h).symm,(⟨[],[],trivial,A8,A8,A8⟩)⟩):p:=h
def aOu (h:p:=by exact .aW<|AY<|Bh.ret<|by rw[←CP h];exact⟨[DV ({ j with Content:=q })],[],⟨⟨1,BI (BH ({ j with Content:=q })),true,29,A8,A8,A8,Gx,Dl A8,Rf,A8⟩,trivial⟩,A8,A8,A8⟩):p:=h
def yC (h:p:=by exact DI<|J _ _ _ (Ae [AQ 0,AQ 1]) h):p:=h
def kn (h:p:=by exact DI<|J _ _ _ (Ae [AQ 0]) h):p:=h
def aRN (h:p:=by exact λu=>AY<|Bl h (λh=>u _ ⟨(j==12),Ae [],h⟩) λh=>AY<|Bl h (λh=>u _ ⟨(j==13),Ae [],h⟩) λh=>DI<|u _ ⟨(j==14),Ae [],h⟩):p:=h
def aWL (h:p:=by exact λu=>AY<|Bl h (λh=>u _ ⟨(j==5),Ae [],h⟩) λh=>AY<|Bl h (λh=>u _ ⟨(j==8),Ae [],h⟩) λh=>DI<|u _ ⟨(j==10),Ae [],h⟩):p:=h
def xX (h:p:=by exact DI<|u _ _ _ (Ae [AQ 0]) h):p:=h
def a3c (h:p:=by exact DI<|J _ _ (Ae [AQ 0,AQ 1]) h):p:=h
def Rch (h:p:=by exact λh=>Bh.exit<|u _ ⟨Ae [],h⟩):p:=h
def aVD (h:p:=by exact λh=>Bh.ret<|⟨.inr rfl,(ZL u).slots,(.ready,none),.normal,A8,rfl,(x1 _ ⟨z,I,Ae [AQ 2,AQ 6],h⟩)⟩):p:=h
def aJu (h:p:=by exact .aN<|DI<|J _ _ _ (Ae [AQ 1]) h):p:=h
def a1C (h:p:=by exact AY<|by cases h;exact .ret (Ei [])):p:=h
def Ib (h:p:=by exact BG h Bv λh=>AY<|CW):p:=h
def qV (h:p:=by exact AY<|BG h Bv λh=>bI):p:=h
def aLG (h:p:=by exact .aU<|BG h Bv λh=>DI<|J _ _ (Ae [AQ 0]) h):p:=h
def Ze (h:p:=by exact AY<|AY<|CW):p:=h
def aOP (h:p:=by exact Bh.ret<|⟨.inr rfl,(Xo j z).slots,(.ready,none),.normal,A8,rfl,(O _ ⟨Y,Z,Ae [AQ 0,AQ 1],h⟩)⟩):p:=h
def vO (h:p:=by exact .aW<|BG h Bv λh=>RY):p:=h
def aGh (h:p:=by exact .aN<|DI<|z _ _ _ (Ae [(0,false),AQ 2]) h):p:=h
def yO (h:p:=by exact DI<|I _ _ _ (Ae []) h):p:=h
def aDn (h:p:=by exact DI<|z _ _ _ (Ae [AQ 0,AQ 1]) h):p:=h
def aJ0 (h:p:=by exact DI<|I _ _ _ (Ae [AQ 0,AQ 1]) h):p:=h
def aD7 (h:p:=by exact BG h Bv λh=>DI<|M _ _ (Ae []) h):p:=h
def aDk (h:p:=by exact DI<|I _ _ (Ae [AQ 0,AQ 1]) h):p:=h
def a5D (h:p:=by exact .aU<|BG h Bv λh=>UH):p:=h
def a6P (h:p:=by exact .aU<|BG h Bv λh=>RY):p:=h
def qB (h:p:=by exact λh=>AY<|Ua):p:=h
def yX (h:p:=by exact .aN<|z _ ⟨j,Ae [],h⟩):p:=h
def aHV (h:p:=by exact .aN<|DI<|I _ _ _ (Ae [AQ 1]) h):p:=h
def aE7 (h:p:=by exact .aW<|AY<|BG h Bv λh=>VZ):p:=h
def aKC (h:p:=by exact DI<|Y _ _ _ (Ae [AQ 0]) h):p:=h
def aWJ (h:p:=by exact λh=>Bh.block<|DI<|z _ _ (Ae [(0,false),AQ 1]) h):p:=h
def aUK (h:p:=by exact .f (x:=.aQ 1) (EL [.ent 0] [.aQ 0,AX z] (aPX M))<|aJu):p:=h
def aLD (h:p:=by exact .aN<|z _ ⟨u,Ae [AQ 2],h⟩):p:=h
def aHY (h:p:=by exact .aU<|BG h Bv λh=>VZ):p:=h
def aFa (h:p:=by exact .aU<|BG h Bv λh=>bI):p:=h
def A8 (h:p:=by kernel_rfl):p:=h
def CW (h:p:=by cases h;exact .ret (Ei [])):p:=h
def AL (h:p:=by omega):p:=h
def Ce (h:p:=by cases h;kernel_rfl):p:=h
def Bd (h:p:=by decide):p:=h
def BU (h:p:=by simp):p:=h
def Ua (h:p:=by cases h;exact .ret (Ei [AQ 0])):p:=h
def Fp (h:p:=by simp only[QK];omega):p:=h
def EY (h:p:=by simp;omega):p:=h
def aAy (h:p:=by rw[←CP h];exact⟨[DV FU,Af false],[],⟨⟨0,BI (BH FU),true,29,by kernel_rfl,by kernel_rfl,by kernel_rfl,Gx,Dl (by kernel_rfl),(by intro z;cases z),by kernel_rfl⟩,G7 (by kernel_rfl),trivial⟩,by kernel_rfl,by kernel_rfl,by kernel_rfl⟩):p:=h
def JL (h:p:=by cases h;exact .ret (Ei [AQ 1])):p:=h
def a19 (h:p:=by rw[←CP h];exact⟨[DV q,Af true],[],⟨⟨0,BI (BH q),true,29,by kernel_rfl,by kernel_rfl,by kernel_rfl,Gx,Dl (by kernel_rfl),(by intro z;cases z),by kernel_rfl⟩,G7 (by kernel_rfl),trivial⟩,by kernel_rfl,by kernel_rfl,by kernel_rfl⟩):p:=h
def KH (h:p:=by cases h;exact .ret (Ei [AQ 2])):p:=h
def Y4 (h:p:=by rw[←CP h];exact⟨[],[AQ 0],trivial,by kernel_rfl,by kernel_rfl,by kernel_rfl⟩):p:=h
def Hf (h:p:=by simpa using hi):p:=h
def Na (h:p:=by obtain⟨a,_,rfl⟩:=Hl.1 q;rfl):p:=h
def iU (h:p:=by subst e;have h:=i;exact AO h λq j h=>.a 2<|.ca (a1o j)<|.aW<|by cases h;kernel_rfl):p:=h
def Rf (h:p:=by intro z;cases z):p:=h
def aWT (h:p:=by rintro s ⟨q,hs,h⟩;exact WH hs<|AY<|Bh.ret<|by rw[←CP h];exact⟨[IB q],[],⟨⟨0,BI (F8 q),true,9,by kernel_rfl,by kernel_rfl,by kernel_rfl,Yj,Dl (by kernel_rfl),(by intro u;cases u),by kernel_rfl⟩,trivial⟩,by kernel_rfl,by kernel_rfl,by kernel_rfl⟩):p:=h
def Yv (h:p:=by cases h;exact .ret (Ei [AQ 0,AQ 1,AQ 2,AQ 3])):p:=h
def aMO (h:p:=by rw[←CP h];exact⟨[DV j.1,Af true],[],⟨⟨1,BI (BH j.1),true,29,by kernel_rfl,by kernel_rfl,by kernel_rfl,Gx,Dl (by kernel_rfl),(by intro z;cases z),by kernel_rfl⟩,G7 (by kernel_rfl),trivial⟩,by kernel_rfl,by kernel_rfl,by kernel_rfl⟩):p:=h
def aTl (h:p:=by rw[←CP h];exact⟨[DV j.1,Af j.2],[],⟨⟨1,BI (BH j.1),true,29,by kernel_rfl,by kernel_rfl,by kernel_rfl,Gx,Dl (by kernel_rfl),(by intro z;cases z),by kernel_rfl⟩,G7 (by kernel_rfl),trivial⟩,by kernel_rfl,by kernel_rfl,by kernel_rfl⟩):p:=h
def aWz (h:p:=by rintro s ⟨L,hs,h⟩;exact WH hs<|DX h (λh=>a1C) λh=>AO h λz u h=>AP 2<|.ca (aQh u)<|.aW<|BG h (λh=>a1C) λh=>UH):p:=h
def aif (h:p:=by rw[←CP h];exact⟨[FP LJ,AX 3],[],⟨⟨0,BI (CZ LJ),true,9,by kernel_rfl,by kernel_rfl,by kernel_rfl,Ob,Dl (by kernel_rfl),(by intro q;cases q),by kernel_rfl⟩,G7 (by kernel_rfl),trivial⟩,by kernel_rfl,by kernel_rfl,by kernel_rfl⟩):p:=h
def aqT (h:p:=by rw[←CP h];exact⟨[IB q],[],⟨⟨0,BI (F8 q),true,9,by kernel_rfl,by kernel_rfl,by kernel_rfl,Yj,Dl (by kernel_rfl),(by intro u;cases u),by kernel_rfl⟩,trivial⟩,by kernel_rfl,by kernel_rfl,by kernel_rfl⟩):p:=h
def Lc (h:p:=by intro I;cases I):p:=h
def a1I (h:p:=by subst e;have h:=i;exact AO h λq j h=>.a 2<|.p (KO (k:=.i64) j Gm)<|.aW<|by cases h;kernel_rfl):p:=h
def NY (h:p:=by simp[List.getD,hi]):p:=h
def iI (h:p:=by simpa using z):p:=h
def LM (h:p:=by simpa using h2):p:=h
def IV (h:p:=by simp at h):p:=h
def L8 (h:p:=by rw[Ed];omega):p:=h
def Lu (h:p:=by simpa using hl):p:=h
def yG (h:p:=by have :=hb (k+1) y (by simpa using z);simpa[Tz,Vk 1 k]using this):p:=h
def vP (h:p:=by have :=hl (k+1) (by simpa using hk);simpa[Tz,Vk 1 k]using this):p:=h
def a0E (h:p:=by have :=M (k+1) y (by simpa using z);simpa[Tz,Vk 1 k]using this):p:=h
def Src (h:p:=by have :=O (k+1) y (by simpa using z);simpa[Tz,Vk 1 k]using this):p:=h
def IK (h:p:=by cases h):p:=h
def RD (h:p:=by simp only[QX];omega):p:=h
def Nb (h:p:=by decide+kernel):p:=h
def PS (h:p:=by rw[←hm.hlen];simp):p:=h
def Va (h:p:=by simp only[Ed,QK];omega):p:=h
def O5 (h:p:=by simpa using h):p:=h
def iV (h:p:=by cases h;exact .ret (Ei [(0,false),AQ 1])):p:=h
def aP4 (h:p:=by rintro s ⟨z,hs,h⟩;exact WH hs<|BG h (λh=>a1C) λh=>a1C):p:=h
def OH (h:p:=by rw[ZX];omega):p:=h
def jl (h:p:=by have :Am=9223372036854775808:=rfl;omega):p:=h
def aLP (h:p:=by subst e;have h:=i;exact AO h λq j h=>.a 4<|.ca (aDA j)<|.aW<|by cases h;kernel_rfl):p:=h
def VE (h:p:=by intro q;cases q):p:=h
def aJz (h:p:=by rintro s ⟨J,hs,h⟩;exact WH hs<|AY<|by cases h;exact .ret (Ei [AQ 0])):p:=h
def YX (h:p:=by obtain⟨a,_,rfl⟩:=Hl.1 j;rfl):p:=h
def Ye (h:p:=by first|exact L|kernel_rfl):p:=h
def jH (h:p:=by cases h;exact .ret (Ei [AQ 3])):p:=h
def Vm (h:p:=by intro hh;cases hh):p:=h
def aQR (h:p:=by rw[←CP h];exact⟨[],[AQ 0,AQ 1,AQ 2,AQ 3],trivial,by kernel_rfl,by kernel_rfl,by kernel_rfl⟩):p:=h
def Qy (h:p:=by simpa using u):p:=h
def aCy (h:p:=by rintro s ⟨L,hs,h⟩;exact WH hs<|Sl):p:=h
def aI2 (h:p:=by rintro s ⟨v12,hs,h⟩;exact WH hs<|by cases h;exact .ret (Ei [])):p:=h
def nT (h:p:=by simp[Act.eval,Array.replicate]):p:=h
def aVb (h:p:=by subst e;have h:=i;exact .a 2<|AO h λq u h=>.mg 12 3 (Af q) (.bi u)<|.aW<|by cases h;kernel_rfl):p:=h
def nV (h:p:=by rw[Gz];omega):p:=h
def WJ (h:p:=by rw[IX]at h;exact h):p:=h
def aA (h:p:=by rw[IX];exact aLi hs):p:=h
def QL (h:p:=by rw[ahD];rfl):p:=h
def Vz (h:p:=by intro M;cases M):p:=h
def aQq (h:p:=by subst e;have h:=i;exact AO h λq j h=>.a 4<|.ca (ai7 j)<|.aW<|by cases h;kernel_rfl):p:=h
def aNK (h:p:=by subst e;have h:=i;exact AO h λq j h=>.a 4<|.ca (agj j)<|.aW<|by cases h;kernel_rfl):p:=h
def aTY (h:p:=by subst e;have h:=i;exact AO h λq j h=>.a 4<|.ca (am5 j)<|.aW<|by cases h;kernel_rfl):p:=h
def aMn (h:p:=by subst e;have h:=i;exact AO h λq j h=>.a 4<|.ca (amS j)<|.aW<|by cases h;kernel_rfl):p:=h
def aOQ (h:p:=by subst e;have h:=i;exact AO h λq j h=>.a 4<|.ca (aXv j)<|.aW<|by cases h;kernel_rfl):p:=h
def aMu (h:p:=by subst e;have h:=i;exact AO h λq j h=>.a 4<|.ca (aY7 j)<|.aW<|by cases h;kernel_rfl):p:=h
def ru (h:p:=by simpa using(hl 0 (by simp)).symm):p:=h
def VI (h:p:=by simpa using j):p:=h
def U0 (h:p:=by rw[hl];rfl):p:=h
def Ut (h:p:=by simpa using e):p:=h
def TR (h:p:=by simp at hi):p:=h
def aAY (h:p:=by cases h;exact .ret (Ei [AQ 4])):p:=h
def aKh (h:p:=by rw[alloc_eq_grow,alloc_eq_grow,grow_grow];rfl):p:=h
def aM0 (h:p:=by rintro s ⟨M,hs,h⟩;exact WH hs<|Sl):p:=h
def aG9 (h:p:=by rw[ha];exact EK (Kt _ _) (by rw[Gz];omega)):p:=h
def U9 (h:p:=by simp[flat]):p:=h
def Yn (h:p:=by rw[Di];omega):p:=h
def Yg (h:p:=by simpa using h3):p:=h
def Zh (h:p:=by simpa using h1):p:=h
def ji (h:p:=by unfold maxLen;omega):p:=h
def aVR (h:p:=by rintro s ⟨v5,hs,h⟩;exact WH hs<|by cases h;exact .ret (Ei [])):p:=h
def aGS (h:p:=by cases h;exact .ret (Ei [AQ 0,AQ 1])):p:=h
def Z5 (h:p:=by simpa using O):p:=h
def Zk (h:p:=by simpa using q):p:=h
def aAL (h:p:=by simp only[aLv];split<;>omega):p:=h
def jC (h:p:=by simp[Am];omega):p:=h
def bP (h:p:=by simp[hm.hlen]):p:=h
def a3L (h:p:=by rw[Ed];simp only[QK];omega):p:=h
def aBv (h:p:=by simpa using M 0 x (by simp)):p:=h
def jc (h:p:=by rw[j]at h;exact h):p:=h
def Yy (h:p:=by rw[ha,Gn]):p:=h
def nO (h:p:=by simp at J;omega):p:=h
def aIw (h:p:=by rw[z rfl b (by rw[h1];rfl)];exact h2):p:=h
def aDF (h:p:=by obtain⟨b,_,rfl⟩:=Hl.1 hy;exact hc b):p:=h
def yw (h:p:=by rw[ha,Di,Gz];omega):p:=h
def Ur (h:p:=by simp[hi]):p:=h
def a1s (h:p:=by simp[binOp,Op.intBits,Ej]):p:=h
def a5s (h:p:=by simp only[GN];simp;omega):p:=h
def aNV (h:p:=by rw[Di]at hi;rw[Vh _ _ _ hi];exact VG q j u (h i hi)):p:=h
def aPS (h:p:=by subst e;have h:=i;exact Dj.aW<|by cases h;kernel_rfl):p:=h
def a4y (h:p:=by rw[h3.keys];simp[CQ,aGV]):p:=h
def pY (h:p:=by simpa using q2):p:=h
def a6S (h:p:=by simp[Act.eval,Act.put]):p:=h
def aLU (h:p:=by simpa using O 0 σ.ents (by simp)):p:=h
def aGJ (h:p:=by simpa using I.lt x (by simp[hx])):p:=h
def wI (h:p:=by simp[List.getD,j]):p:=h
def aOc (h:p:=by rw[Di]at hi;rw[Vh _ _ _ hi];exact(h i hi).vG π):p:=h
def aHB (h:p:=by intro u;cases u):p:=h
def xQ (h:p:=by intro J;cases J):p:=h
def a1Y (h:p:=by simp[Op.bytesLess]at h):p:=h
def aMj (h:p:=by simp only[a5j,dec_lt h,Bj,CM h,Ac,I9,Eh,BN]):p:=h
def zZ (h:p:=by intro h;cases h):p:=h
def aHf (h:p:=by rw[hm.hlen];exact(Gs.1 h1).1):p:=h
def aPb (h:p:=by simpa using(by omega:i<(ops.map a.eval).size)):p:=h
def a4E (h:p:=by rw[World.cell?,j];rfl):p:=h
def a4b (h:p:=by constructor<;>omega):p:=h
def asN (h:p:=by simpa using hk):p:=h
def wC (h:p:=by simpa using hs):p:=h
def aP9 (h:p:=by rw[h2];exact⟨rfl,rfl,rfl,Ec _,λ_ _=>rfl⟩):p:=h
def aRv (h:p:=by cases h;exact .ret (Ei [(0,false),AQ 5])):p:=h
def aNW (h:p:=by rw[ha];exact EK (tu _ _) (by rw[Gz];omega)):p:=h
def aLX (h:p:=by rw[←h.len];exact(IJ.1 h1).1):p:=h
def aDZ (h:p:=by obtain⟨a,_,rfl⟩:=Hl.1 u;rfl):p:=h
def aPx (h:p:=by have :=zo s ⟨k,key,0⟩;unfold FN at *;omega):p:=h
def a6q (h:p:=by rw[map_take hi,ha]):p:=h
def aGs (h:p:=by simp[sizeOf,typeInfo,hi,hs]):p:=h
def aLW (h:p:=by rw[h1];rfl):p:=h
def a3o (h:p:=by simp[underlying,hu]):p:=h
def aLp (h:p:=by first|exact J|kernel_rfl):p:=h
def aVa (h:p:=by simp[Value.cells,List.getD,Array.getD,q]):p:=h
def fB (h:p:=by simp[hl]):p:=h
def aDg (h:p:=by have :=eq_of_beq h;omega):p:=h
def a0Y (h:p:=by simpa using J):p:=h
def xw (h:p:=by simpa using I):p:=h
def aGM (h:p:=by rw[hb1];exact(Gs.1 M).1):p:=h
def aJD (h:p:=by rw[Bc.afX]at J;exact J):p:=h
def a2V (h:p:=by rw[Di];exact hi):p:=h
def aOi (h:p:=by unfold KT at j;rw[EM hl]at j;exact j):p:=h
def aV7 (h:p:=by simp[Array.getD,hil]at hf ⊢;exact hf):p:=h
def aI7 (h:p:=by simp[underlying,hE.und]):p:=h
def aUh (h:p:=by obtain⟨a,_,rfl⟩:=Hl.1 hy;exact hc a):p:=h
def aSx (h:p:=by unfold Sj at j;rw[Ed,Ed]at j;omega):p:=h
def bg (h:p:=by cases h'):p:=h
def a5e (h:p:=by simpa using hm):p:=h
def aSe (h:p:=by rw[vC];exact fuel_lt (by decide)):p:=h
def aSa (h:p:=by simp[stepG,stepG.exec,Frame.atR]):p:=h
def aDa (h:p:=by simp[List.getD,eL e]):p:=h
def a2v (h:p:=by simp[flat]at hi):p:=h
def aIO (h:p:=by simp[List.getD,JR e]):p:=h
def aD8 (h:p:=by simpa[E5]using q.symm):p:=h
def aBH (h:p:=by rw[IE];omega):p:=h
def mD (h:p:=by simp[h1]):p:=h
def aIY (h:p:=by rw[hm.hlen];exact h1):p:=h
def aII (h:p:=by simp[World.setRow]):p:=h
def aHW (h:p:=by simp only[a5j,DN,BN]):p:=h
def a4e (h:p:=by apply aNG;simp):p:=h
def zT (h:p:=by rw[e];rfl):p:=h
def uS (h:p:=by rw[z];rfl):p:=h
def a1G (h:p:=by simp[go_sem]):p:=h
def a0v (h:p:=by rw[IX];exact h):p:=h
def a6T (h:p:=by simpa using hp):p:=h
def aDH (h:p:=by rw[Ed];simp;omega):p:=h
def aFw (h:p:=by simp[underlying,ht]):p:=h
def aJ4 (h:p:=by have :=N8 h1;omega):p:=h
def aF5 (h:p:=by simp[execOp,j];rfl):p:=h
def aEI (h:p:=by simp[underlying,j]):p:=h
def aJt (h:p:=by simp[underlying,q]):p:=h
def aIR (h:p:=by rw[Ed]at hi;omega):p:=h
def aGk (h:p:=by rw[ZX];simp;omega):p:=h
def aLC (h:p:=by simp[List.getD,u]):p:=h
def aEv (h:p:=by simpa using this):p:=h
def aAi (h:p:=by simp[zW,e]):p:=h
def zl (h:p:=by simp at L):p:=h
def aIK (h:p:=by rw[aHl j J];simp):p:=h
def a0f (h:p:=by simp at j):p:=h
def Sub (h:p:=by simp at z):p:=h
def aIo (h:p:=by rw[I]at q;omega):p:=h
def aLR (h:p:=by intro L;cases L):p:=h
def aCg (h:p:=by intro U;cases U):p:=h
abbrev D6:=Value.int .i64
def Ac:=@Option.bind_some
def Au:=@congrArg
def BN:=@cond_false
def Dl:=@Nat.le_of_ble_eq_true
def Bj:=@cond_true
def EM:=@List.getElem?_eq_getElem
def Ed:=@List.length_append
def Di:=@List.length_map
def QK:=@List.length_singleton
def Dv:=@Option.some.inj
def ED:=@Bool.and_eq_true
def Gs:=@List.getElem?_eq_some_iff
def Hd:=@List.eq_nil_of_length_eq_zero
def EK:=@Nat.le_trans
def Et:=@List.getElem_mem
def IJ:=@Array.getElem?_eq_some_iff
def Eh:=@Bool.not_true
def Ec:=@Nat.le_refl
def Hl:=@List.mem_map
def Gz:=@List.length_take
def Fv:=@Go.Result.andThen_ok
def Ef:=@Nat.zero_le
def Fq:=@List.all_eq_true
def GN:=@List.length_cons
def Gn:=@List.take_length
def JJ:=@Array.getD_eq_getD_getElem?
def FI:=@List.mem_cons
def JR:=@List.getElem?_append_left
def Gh:=@List.not_mem_nil
def I8:=@List.mem_cons_self
def NU:=@List.take_succ_eq_append_getElem
def Ii:=@List.mem_cons_of_mem
def Gu:=@List.foldl_cons
def Fg:=@Go.Sem.run_bind
def KJ:=@List.pairwise_iff_getElem
def Ho:=@Go.Proofs.Tryz.underlying3
def GV:=@Bool.true_and
def Ih:=@List.getElem_of_mem
def I9:=@beq_self_eq_true
def IE:=@List.nil_append
def Gg:=@List.map_cons
def Kt:=@List.length_filter_le
def Il:=@List.append_assoc
def MW:=@List.drop_eq_getElem_cons
def Iu:=@decide_eq_true_eq
def Gl:=@Go.Sem.run_pure
def ES:=@if_pos
def KR:=@Nat.mul_le_mul_right
def EZ:=@if_neg
abbrev Az:=IntKind.i64.wrap
def ZX (n:Int):Az n=(n+9223372036854775808)%18446744073709551616-9223372036854775808:=Go.IntKind.wrap_i64 n
def J8:=@List.map_append
def Jr:=@List.getElem?_map
def P7:=@List.getElem?_append_right
def QX:=@List.length_nil
def JF:=@decide_eq_false
def Ip:=@Bool.not_false
def N8:=@of_decide_eq_false
def JV:=@Option.map_some
def Je:=@List.mem_append
def Ji:=@List.mem_filter
def Ns:=@List.getElem?_eq_none
def KX:=@List.any_eq_true
def KD:=@Go.RowKit.Below.heap_alloc
def Tz:=@Nat.add_assoc
def Iz:=@Bool.and_true
def LC:=@List.nodup_cons
def Vk:=@Nat.add_comm
def Qi:=@Option.isSome_iff_exists
def Uk:=@Array.getElem?_setIfInBounds_ne
def QU:=@Go.MapKept.run_getObj_map
def Nk:=@Option.some.injEq
def Np:=@List.mem_singleton
def MN:=@Go.Proofs.Tryz.underlying9
def TP:=@List.getElem?_take_of_lt
def NQ:=@Option.getD_some
def WL:=@Array.all_eq_true_iff_forall_mem
def NP:=@List.length_drop
def Qa:=@List.take_of_length_le
def Lp:=@decide_eq_true
def Js:=@Nat.zero_add
def OZ:=@List.flatMap_cons
def Ox:=@List.drop_length
def QI:=@List.pairwise_cons
def MJ:=@Bool.or_false
def OY:=@Go.run_equalIn_int
def Pz:=@Go.Proofs.Tryz.underlying38
def Qu:=@List.filter_append
def Qw:=@Option.toList_some
def Qk:=@List.foldl_append
def TM:=@Bool.false_eq_true
def Tn:=@Array.length_toList
def Zc:=@Array.getElem?_append_left
def ZW:=@List.mem_of_find?_eq_some
def Xg:=@Go.World.putObj_heap_same
def TF:=@List.getElem_map
def Uj:=@List.filter_sublist
def Ue:=@List.take_add_one
def TY:=@bne_self_eq_false
def Ub:=@Go.Proofs.Tryz.underlying45
def KA:=@if_false
def aB:=@Go.World.putObj_heap_other
def eL:=@List.getElem?_set_ne
def PK:=@Nat.add_zero
def P6:=@Nat.le_of_eq
def Ul:=@List.getElem?_drop
def jF:=@Array.eq_empty_of_size_eq_zero
def Rs:=@List.append_nil
def U7:=@List.foldlM_cons
def U4:=@List.filter_cons
def JK:=@if_true
def Vx:=@List.filterMap_cons
def Vg:=@Bool.not_eq_true'
def VB:=@of_decide_eq_true
def V8:=@Go.Proofs.Tryz.underlying32
def RJ:=@Bool.false_or
def ZT:=@List.take_append_drop
def YE:=@Array.getElem?_modify
def QO:=@Bool.or_true
def U8:=@Bool.eq_iff_iff
def Wn:=@Nat.lt_of_lt_of_le
def X0:=@Nat.eq_zero_or_pos
def dw:=@List.getElem?_cons_zero
def ZQ:=@List.mem_of_getElem?
def Fn0:=@List.takeWhile_append_dropWhile
def ay:=@Option.map_eq_some_iff
def dZ:=@List.findIdx_lt_length
def Ws:=@List.findIdx_cons
def Xu:=@Go.Proofs.Tryz.underlying34
def qA:=@Array.getElem?_eq_getElem
def bU:=@List.filterMap_append
def WY:=@Nat.le_of_not_lt
def Vy:=@List.mem_flatMap
def Uo:=@Go.heap_alloc_new
def Q9:=@Go.wpS_region
def mY:=@Option.bind_eq_some_iff
def jV:=@List.getElem?_cons_succ
def Uu:=@Prod.mk.injEq
def xJ:=@List.getD_eq_getElem?_getD
def Zz:=@Bool.not_eq_true
def Zw:=@Nat.lt_succ_self
def YT:=@List.cons_append
def Zt:=@Go.Proofs.Tryz.underlying4
def WZ:=@List.nodup_nil
def eA:=@List.mem_filterMap
def iY:=@Array.toArray_toList
def V6:=@Nat.mul_comm
def jQ:=@Go.World.alloc_heap_new
def dP:=@Int.toNat_natCast
def yH:=@decide_eq_false_iff_not
def oU:=@List.length_pos_iff
def jd:=@Array.getElem?_push
def a0h:=@Array.getElem?_toList
def ak:=@Go.Oper.upon_enter
def y8:=@Go.Lib.wpList_append_run
def aC:=@Nat.not_lt_zero
def YM:=@List.map_take
def oN:=@Go.Value.slice.injEq
def kW:=@List.ext_getElem?
def aGV:=@Function.comp_def
def VR:=@beq_iff_eq
def aB5:=@Classical.byContradiction
def qo:=@Nat.div_lt_of_lt_mul
def a0D:=@List.mem_of_mem_take
def qQ:=@List.mem_append_left
def aCT:=@List.set_eq_take_append_cons_drop
def UD:=@Go.wpIn_mono
def aX:=@Go.Oper.wpIn_mono
def QN:=@Go.wpS_seq
def bK:=@Go.wp_region_list
def lJ:=@List.ext_getElem
def pU:=@Go.IntKind.wrap_u64
def zf:=@List.filter_eq_self
def fP:=@List.map_drop
def qH:=@List.length_set
def Vt:=@Go.mem_ready
def aLb:=@List.eq_nil_iff_forall_not_mem
def xu:=@Go.run_equalIn_string
def qM:=@beq_false_of_ne
def lI:=@Go.IntKind.wrap_u8
def kX:=@List.sum_append
def qx:=@Go.Proofs.Tryz.underlying102
def a3X:=@List.drop_of_length_le
def rF:=@Go.Proofs.Tryz.underlying27
def uq:=@Go.Proofs.Tryz.underlying22
def sF:=@Go.Proofs.Tryz.underlying79
def jU:=@List.mem_range
def iL:=@Nat.succ_mul
def gY:=@List.map_map
def a1N:=@Nat.eq_of_beq_eq_true
def aF3:=@Array.getElem?_setIfInBounds
def a6a:=@List.mem_append_right
def a5h:=@List.pairwise_append
def a1h:=@Bool.or_eq_false_iff
def aEb:=@Array.toList_setIfInBounds
def jE:=@Go.Oper.semAt_eq
def aJn:=@List.nodup_iff_pairwise_ne
def bM:=@Nat.add_mul
def a3a:=@List.toList_toArray
def aCj:=@Array.mapM_eq_mapM_toList
def zU:=@Nat.min_eq_left
def wQ:=@Go.Proofs.Tryz.zeroValue3
def zh:=@List.take_left'
def zI:=@Bool.or_eq_true
def xO:=@List.find?_cons
def a2p:=@List.getElem?_take
def a4M:=@Go.grownCap_le_maxLen
def nC:=@Go.Addr.add_lit
def aBV:=@List.find?_eq_none
def a7b:=@Go.World.ownsRow_nil
def a3F:=@List.size_toArray
def aB2:=@Nat.lt_trichotomy
def a3u:=@List.nodup_append
def a5x:=@List.getElem_take
def a2A:=@Go.Proofs.Tryz.underlying82
def aTN:=@List.findIdx?_eq_some_iff_getElem
def aEY:=@List.filter_eq_nil_iff
def pO:=@Nat.mul_one
def aGc:=@List.dropWhile_sublist
def aGg:=@ByteArray.size_extract
def a0P:=@List.sum_cons
def a5Y:=@Go.Proofs.Tryz.underlying5
def aBy:=@List.perm_middle
def fU:=@Array.ext
def aC9:=@Nat.div_add_mod
def nI:=@Nat.mod_lt
def a0c:=@Go.Proofs.Tryz.sizeOf3
def a2B:=@Go.Proofs.Tryz.zeroValue5
def a2g:=@Go.Proofs.Tryz.zeroValue9
def a5X:=@Go.Proofs.Tryz.zeroValue4
def aBI:=@List.cons.injEq
def aPG:=@List.Nodup.length_le_of_subset
def a7a:=@List.range_succ
def vW:=@Nat.lt_or_ge
def a4A:=@List.find?_some
def xE:=@Bool.not_not
def a3T:=@List.any_append
def aH6:=@Go.callsIn_of_wp_marks
def aIt:=@beq_eq_false_iff_ne
def aEJ:=@List.reverse_append
def aAT:=@Go.run_underlying
def a1Z:=@List.drop_zero
def a2Y:=@List.take_zero
def a1l:=@Nat.mul_le_mul
def ql:=@Go.setRow_heap
def a0I:=@Go.Sem.run_map
def uO:=@Go.grownCap_ge
def a0U:=@Go.Proofs.Tryz.isAgg3
def aLv:=@Nat.min_def
def aUP:=@Go.run_loadCells_list
def aEE:=@Int.natCast_nonneg
def aPa:=@Array.getElem?_append_right
def aDp:=@Go.MapKept.heap_alloc
def aLA:=@Nat.eq_or_lt_of_le
def aQ9:=@List.dropWhile_cons_of_pos
def aR9:=@List.dropWhile_cons_of_neg
def a1A:=@Go.callsD_of_wpS
def aRg:=@Int.tmod_eq_emod_of_nonneg
def aKK:=@Go.run_storeCells_at
def aI4:=@List.find?_append
def aG3:=@List.pairwise_map
def aD5:=@List.any_eq_false
def aNG:=@Array.ext'
def aWt:=@List.getElem?_zip_eq_some
def aJH:=@Go.World.size_alloc
def a1D:=@List.map_set
def oI:=@Go.wpS_cond
def a5U:=@getElem!_pos
def aDl:=@List.getElem_zip
def aCU:=@List.map_reverse
def aIZ:=@Nat.min_le_left
def aAn:=@Nat.one_mul
def a5N:=@Int.le_refl
def aDD:=@List.drop_drop
def aEw:=@List.take_take
def aGO:=@Bool.false_and
def addr_add (b o j:Nat):(⟨b,o,none⟩:Addr).add j=⟨b,o+j,none⟩:=by
 unfold Addr.add;split<;>simp_all
variable {P:Ch}{Q:Exit->Act->BX->Prop}{a:Act}{o:Oper}{ops:Bg Oper}{w:BX}
section
variable {rest:AA Oper}
def adt (w:BX)(ty:Bq)(b off:Nat)(cs:Bg BD)(hA:(isAgg ty).run P w=.ok true w)(z:(sizeOf ty).run P w=.ok cs.size w)(I:∀j,j<cs.size->w.cell? ⟨b,off+j,none⟩=some (cs.getD j undef)):(loadVar ty ⟨b,off,none⟩).run P w=.ok (.agg cs) w:=by
 have hl:(loadCells ⟨b,off,none⟩ cs.toList.length).run P w=.ok cs.toList.toArray w:=
  aUP (P:=P) w ⟨b,off,none⟩ cs.toList (λj v q=>by
   rw[addr_add]
   have u:j<cs.size:=by
    have :=(Gs.1 q).1;simpa using this
   rw[I j u];simp only[a0h]at q;simp[Array.getD,u]at q ⊢
   exact q)
 simp only[Tn,iY]at hl;simp only[loadVar,Fg,hA,z,Fv,JK,hl,Gl]
end
inductive D where
 |lit (v:Value)
 |agg (cs:List D)
 |sl (es:List D)
 |ref (cs:List D) (off:Nat)
 |fn (f:Fn) (first cap:List D)
 |RV (t:TypeId) (x:D)
def D.cells:D->AA D
 | .agg cs=>cs
 |x=>[x]
def D.leaf:D->AV
 | .lit v=>v.oneCell'
 | .agg _=>false
 |_=>true
abbrev EJ :D:=.lit undef
abbrev cellAt (w:BX)(b o:Nat):BD:=(w.cell? ⟨b,o,none⟩).getD undef
inductive EF (ok:Nat->Prop) (w:World):D->Value->Prop
 |lit (v:Value):EF ok w (.lit v) v
 |agg (cs:List D) (vs:Array Value) (hl:vs.size=cs.length) (hf:∀i,i<cs.length->(cs.getD i EJ).leaf=true)
  (h:∀i,i<cs.length->EF ok w (cs.getD i EJ) (vs.getD i undef)):EF ok w (.agg cs) (.agg vs)
 |sl0 (ad:Option Addr) (cap:Nat):EF ok w (.sl []) (.slice ad 0 cap)
 |sl (es:List D) (b off cap size:Nat) (hcap:es.length<=cap) (hok:0<es.length->0<size->ok b) (hs:∀i,i<es.length->(es.getD i EJ).cells.length=size)
  (hf:∀i,i<es.length->∀j,j<size->((es.getD i EJ).cells.getD j EJ).leaf=true)
  (hx:∀i,i<es.length->∀j,j<size->(w.cell? ⟨b,off+(i*size+j),none⟩).isSome=true)
  (hc:∀i,i<es.length->∀j,j<size->EF ok w ((es.getD i EJ).cells.getD j EJ) (cellAt w b (off+(i*size+j)))):
  EF ok w (.sl es) (.slice (some ⟨b,off,none⟩) es.length cap)
 |ref (cs:List D) (off b o:Nat) (hok:0<cs.length->ok b) (hf:∀i,i<cs.length->(cs.getD i EJ).leaf=true)
  (hx:∀j,j<cs.length->(w.cell? ⟨b,o+j,none⟩).isSome=true)
  (hc:∀j,j<cs.length->EF ok w (cs.getD j EJ) (cellAt w b (o+j))):EF ok w (.ref cs off) (.pointer (some ⟨b,o+off,none⟩))
 |fn (f:Fn) (first cap:List D) (vs us:Array Value) (hl:vs.size=first.length) (hm:us.size=cap.length)
  (h:∀i,i<first.length->EF ok w (first.getD i EJ) (vs.getD i undef)) (h':∀i,i<cap.length->EF ok w (cap.getD i EJ) (us.getD i undef)):
  EF ok w (.fn f first cap) (.func f vs us)
 |RV (t:TypeId) (x:D) (v:Value) (h:EF ok w x v):EF ok w (.RV t x) (.iface t v)
def F9 (ok:Nat->Prop)(w:BX)(ok':Nat->Prop)(w':BX):Prop:=∀b,ok b->ok' b/\w'.heap[b]? =w.heap[b]?
def F9.refl (ok:Nat->Prop)(w:BX):F9 ok w ok w:=λ_ h=>⟨h,rfl⟩
def F9.trans {ok j q:Nat->Prop}{w z I:BX}(h:F9 ok w j z)(k:F9 j z q I):F9 ok w q I:=
 λb u=>⟨(k b (h b u).1).1,((k b (h b u).1).2).trans (h b u).2⟩
def F9.cell {ok ok':Nat->Prop}{w w':BX}(h:F9 ok w ok' w'){b o:Nat}(j:ok b):w'.cell? ⟨b,o,none⟩=w.cell? ⟨b,o,none⟩:=
 World.cell?_of_block (w:=w) (a:=⟨b,o,none⟩) (h b j).2
variable {ok ok':Nat->Prop}{v:BD}{w':BX}
def EF.mono (I:F9 ok w ok' w'){x:D}(h:EF ok w x v):EF ok' w' x v:=by
 induction h with
 |lit v=>exact .lit v
 |agg cs vs hl J _ z=>exact .agg cs vs hl J z
 |sl0 ad cap=>exact .sl0 ad cap
 |sl es b off cap size L q hs J M _ z=>
  have h1:∀i j,i<es.length->j<size->ok b:=λi j hi u=>q AL AL;refine .sl es b off cap size L (λh2 h3=>(I b (q h2 h3)).1) hs J (λi hi j u=>?_) (λi hi j u=>?_)
  ·rw[I.cell (h1 i j hi u)];exact M i hi j u
  unfold cellAt;rw[I.cell (h1 i j hi u)];exact z i hi j u
 |ref cs off b o q J M _ z=>
  refine .ref cs off b o (λh2=>(I b (q h2)).1) J (λj u=>?_) (λj u=>?_)
  ·rw[I.cell (q AL)];exact M j u
  unfold cellAt;rw[I.cell (q AL)];exact z j u
 |fn f first cap vs us hl hm _ _ z O=>exact .fn f first cap vs us hl hm z O
 |RV t x v _ z=>exact .RV t x v z
def EF.shrink (hs:∀b o,ok b->(w.cell? ⟨b,o,none⟩).isSome=true->ok' b){x:D}(h:EF ok w x v):EF ok' w x v:=by
 induction h with
 |lit v=>exact .lit v
 |agg cs vs hl u _ j=>exact .agg cs vs hl u j
 |sl0 ad cap=>exact .sl0 ad cap
 |sl es b off cap size z q J u I _ j=>exact .sl es b off cap size z (λh2 h3=>hs b _ (q h2 h3) (I 0 h2 0 h3)) J u I j
 |ref cs off b o q u I _ j=>exact .ref cs off b o (λh2=>hs b _ (q h2) (I 0 h2)) u I j
 |fn f first cap vs us hl hm _ _ j L=>exact .fn f first cap vs us hl hm j L
 |RV t x v _ j=>exact .RV t x v j
def EF.leaf {ok:Nat->Prop}{w:BX}{x:D}{v:BD}(h:EF ok w x v)(hl:x.leaf=true):v.oneCell'=true:=by
 cases h<;>first|rfl|exact hl|(simp[D.leaf]at hl)
inductive Ah where
 |d (x:D)
 |ptr (k off:Nat)
 |aQ (k:Nat)
 |lN (k i off:Nat)
 |fn (f:Fn) (first cap:List Ah)
 |mp (k:Nat)
 |clip (xs:List D)
 |xP (k:Nat)
 |eG (vs:List Ah)
 |ag (vs:List Ah)
 |junk
def Ah.leaf:Ah->AV
 | .d x=>x.leaf
 | .eG _| .ag _| .junk=>false
 |_=>true
def Ah.cells:Ah->AA Ah
 | .d x=>x.cells.map .d
 | .ag xs=>xs
 |x=>[x]
inductive Bc where
 |dead
 |box (cs:List Ah)
 |arr (e:TypeId) (size:Nat) (es:List D)
 |map (es:List (Value×D))
 |fG (es:List (Value×D))
 |iter (es:List (Value×D)) (vis:List Nat)
 |loop (tm:Array Value) (slots:List Ah) (rc:Array Tmp×Code×Code) (st:LoopState) (pe:Option Code)
def Bc.live:Bc->AV
 | .dead=>false
 |_=>true
structure CG where
 v:Value
 size:Nat:=0
inductive R (ok:Nat->Prop) (w:World) (H:List CG):Ah->Value->Prop
 |d (x:D) (v:Value) (h:EF ok w x v):R ok w H (.d x) v
 |ptr (k off b s:Nat) (h:H[k]? =some ⟨.pointer (some ⟨b,0,none⟩),s⟩):R ok w H (.ptr k off) (.pointer (some ⟨b,off,none⟩))
 |aQ (k:Nat) (ad:Option Addr) (n cap s:Nat) (h:H[k]? =some ⟨.slice ad n cap,s⟩):R ok w H (.aQ k) (.slice ad n cap)
 |lN (k i off b n cap s:Nat) (h:H[k]? =some ⟨.slice (some ⟨b,0,none⟩) n cap,s⟩):R ok w H (.lN k i off) (.pointer (some ⟨b,i*s+off,none⟩))
 |fn (f:Fn) (first cap:List Ah) (vs us:Array Value) (hl:vs.size=first.length) (hm:us.size=cap.length) (h:∀i,i<first.length->R ok w H (first.getD i .junk) (vs.getD i undef))
  (h':∀i,i<cap.length->R ok w H (cap.getD i .junk) (us.getD i undef)):R ok w H (.fn f first cap) (.func f vs us)
 |mp (k:Nat) (v:Value) (s:Nat) (hl:v.oneCell'=true) (h:H[k]? =some ⟨v,s⟩):R ok w H (.mp k) v
 |clip (xs:List D) (ad:Option Addr) (h:EF ok w (.sl xs) (.slice ad xs.length xs.length)):R ok w H (.clip xs) (.slice ad xs.length xs.length)
 |xP (k:Nat) (ad:Option Addr) (n cap s:Nat) (h:H[k]? =some ⟨.slice ad n cap,s⟩):R ok w H (.xP k) (.slice ad n n)
 |eG (xs:List Ah) (vs:Array Value) (hl:vs.size=xs.length) (h:∀i,i<xs.length->R ok w H (xs.getD i .junk) (vs.getD i undef)):R ok w H (.eG xs) (.tuple vs)
 |ag (xs:List Ah) (vs:Array Value) (hl:vs.size=xs.length) (hf:∀i,i<xs.length->(xs.getD i .junk).leaf=true) (h:∀i,i<xs.length->R ok w H (xs.getD i .junk) (vs.getD i undef)):R ok w H (.ag xs) (.agg vs)
 |junk (v:Value):R ok w H .junk v
def Names (H H':AA CG):Prop:=∀(k:Nat) (v:CG),H[k]? =some v->H'[k]? =some v
def Names.refl (H:AA CG):Names H H:=λ_ _ h=>h
def kV:=@Names.refl
variable {H H2:AA CG}
def Names.trans {H1:AA CG}(h:Names H H1)(k:Names H1 H2):Names H H2:=λi v j=>k i v (h i v j)
theorem Names.push (H H':AA CG):Names H (H++H'):=λk v h=>by
 grind
def Gy:=@Names.push
def R.mono {ok ok':Nat->Prop}{w w':BX}{H H':AA CG}(z:F9 ok w ok' w')(j:Names H H'){x:Ah}{v:BD}(h:R ok w H x v):R ok' w' H' x v:=by
 induction h with
 |d x v h=>exact .d x v (h.mono z)
 |ptr k off b s h=>exact .ptr k off b s (j _ _ h)
 |aQ k ad n cap s h=>exact .aQ k ad n cap s (j _ _ h)
 |lN k i off b n cap s h=>exact .lN k i off b n cap s (j _ _ h)
 |fn f first cap vs us hl hm _ _ q u=>exact .fn f first cap vs us hl hm q u
 |mp k v s hl h=>exact .mp k v s hl (j _ _ h)
 |clip xs ad h=>exact .clip xs ad (h.mono z)
 |xP k ad n cap s h=>exact .xP k ad n cap s (j _ _ h)
 |eG xs vs hl _ q=>exact .eG xs vs hl q
 |ag xs vs hl I _ q=>exact .ag xs vs hl I q
 |junk v=>exact .junk v
def R.shrink {ok ok':Nat->Prop}{w:BX}(hs:∀b o,ok b->(w.cell? ⟨b,o,none⟩).isSome=true->ok' b){H:AA CG}{x:Ah}{v:BD}(h:R ok w H x v):R ok' w H x v:=by
 induction h with
 |d x v h=>exact .d x v (h.shrink hs)
 |ptr k off b s h=>exact .ptr k off b s h
 |aQ k ad n cap s h=>exact .aQ k ad n cap s h
 |lN k i off b n cap s h=>exact .lN k i off b n cap s h
 |fn f first cap vs us hl hm _ _ j q=>exact .fn f first cap vs us hl hm j q
 |mp k v s hl h=>exact .mp k v s hl h
 |clip xs ad h=>exact .clip xs ad (h.shrink hs)
 |xP k ad n cap s h=>exact .xP k ad n cap s h
 |eG xs vs hl _ j=>exact .eG xs vs hl j
 |ag xs vs hl u _ j=>exact .ag xs vs hl u j
 |junk v=>exact .junk v
def R.leaf {ok:Nat->Prop}{w:BX}{H:AA CG}{x:Ah}{v:BD}(h:R ok w H x v)(hl:x.leaf=true):v.oneCell'=true:=by
 cases h with
 |d x v h=>exact h.leaf hl
 |eG=>simp[Ah.leaf]at hl
 |ag=>simp[Ah.leaf]at hl
 |junk=>simp[Ah.leaf]at hl
 |mp k v s hl h=>exact hl
 |_=>rfl
def Gf (ok:Nat->Prop)(w:BX)(H:AA CG)(xs:AA Ah)(vs:AA BD):Prop:=
 vs.length=xs.length/\∀i,i<xs.length->(xs.getD i .junk).leaf=true/\R ok w H (xs.getD i .junk) (vs.getD i undef)
def Gf.mono {ok ok':Nat->Prop}{w w':BX}{H H':AA CG}(j:F9 ok w ok' w')(q:Names H H'){xs:AA Ah}{vs:AA BD}(h:Gf ok w H xs vs):Gf ok' w' H' xs vs:=
 ⟨h.1,λi hi=>⟨(h.2 i hi).1,(h.2 i hi).2.mono j q⟩⟩
def Gf.shrink {ok ok':Nat->Prop}{w:BX}(hs:∀b o,ok b->(w.cell? ⟨b,o,none⟩).isSome=true->ok' b){H:AA CG}{xs:AA Ah}{vs:AA BD}(h:Gf ok w H xs vs):Gf ok' w H xs vs:=
 ⟨h.1,λi hi=>⟨(h.2 i hi).1,(h.2 i hi).2.shrink hs⟩⟩
def flat (es:AA D):AA Ah:=es.flatMap λx=>x.cells.map .d
def ny (w:BX)(e:Bq)(size:Nat)(v:BD)(n:Nat)(xs:AA BD):Prop:=
 xs.length=n*size/\
 ((v=.slice none 0 0/\n=0)\/
  ∃g cap j,v=.slice (some ⟨g,0,none⟩) n cap/\0<=g/\w.heap[g]? =some (.cells j e (0,0))/\n<=cap/\cap<=maxLen/\cap*size<=j.size/\j.toList.take (n*size)=xs)
variable {base n size:Nat}{e:Bq}{xs:AA BD}
theorem ny.of (h:w.ownsRow base e size v n xs):ny w e size v n xs:=by
 refine⟨h.1,?_⟩;rcases h.2 with h2|⟨g,cap,j,h2,h3,q,u,z,I,J⟩
 ·exact .inl h2
 grind
theorem ny.cells (h:ny w e size v n xs){g:Nat}(z:v.ownBlock=some g):∀j u,xs[j]? =some u->w.cell? ((⟨g,0,none⟩:Addr).add j)=some u:=by
 intro j u O;rcases h.2 with⟨rfl,_⟩|⟨I,cap,J,rfl,_,L,_,_,_,M⟩
 ·simp[Value.ownBlock]at z
 simp[Value.ownBlock]at z;subst z;have q:(⟨I,0,none⟩:Addr).add j=⟨I,j,none⟩:=by unfold Addr.add;split<;>simp_all
 rw[q,cell_of_row w I j J e (0,0) L]
 grind
structure Jl (ok:Nat->Prop) (w:World) (es:List (Value×D)) (ms:Array MapEntry) (clock:Nat):Prop where
 len:ms.size=es.length
 ent:∀(i:Nat) (e:Value×D) (m:MapEntry),es[i]? =some e->ms[i]? =some m->m.key=e.1/\EF ok w e.2 m.val/\m.born<clock
 inc:∀(i j:Nat) (m n:MapEntry),i<j->ms[i]? =some m->ms[j]? =some n->m.born<n.born
def SN (ms:Bg MapEntry)(clock:Nat):Prop:=clock=ms.size/\∀(i:Nat) (e:MapEntry),ms[i]? =some e->e.born=i
def FQ (ok:Nat->Prop)(w:BX)(H:AA CG)(h:CG):Bc->Prop
 | .dead=>True
 | .box cs=>∃b vs T,h.v=.pointer (some ⟨b,0,none⟩)/\w.heap[b]? =some (.cells vs T (0,0))/\Gf ok w H cs vs.toList
 | .arr e size es=>h.size=size/\(∀x∈es,x.cells.length=size)/\∃xs,ny w e size h.v es.length xs/\Gf ok w H (flat es) xs
 | .map es=>∃b ms clock,h.v=.map (some b)/\w.heap[b]? =some (.map ms clock)/\Jl ok w es ms clock
 | .fG es=>∃b ms clock,h.v=.map (some b)/\w.heap[b]? =some (.map ms clock)/\Jl ok w es ms clock/\SN ms clock
 | .iter es vis=>∃bi q ms clock seen,h.v=.pointer (some ⟨bi,0,none⟩)/\w.heap[bi]? =some (.mapIter (some q) clock seen clock)/\ok q/\w.heap[q]? =some (.map ms clock)/\Jl ok w es ms clock/\
  seen.size=vis.length/\∀(j i:Nat),vis[j]? =some i->∃e,ms[i]? =some e/\seen[j]? =some e.born
 | .loop tm slots rc st u=>∃l fn D,h.v=.func (.yield l) #[] #[]/\w.heap[l]? =some (.loop { state:=st,pending:=u,fn,tmps:=tm,params:=rc.1,assign:=rc.2.1,body:=rc.2.2,defers:=D })/\tm.size=slots.length/\∀t,t<slots.length->R ok w H (slots.getD t .junk) (tm.getD t undef)
def E5 :BD->AB Nat
 | .pointer (some a)=>some a.block
 | .slice (some a) _ _=>some a.block
 | .map (some b)=>some b
 | .func (.yield l) _ _=>some l
 |_=>none
structure xY (w0:World) (X:List Nat) (w:World):Prop where
 os:w.os=w0.os
 tape:w.tape=w0.tape
 output:w.output=w0.output
 size:w0.heap.size<=w.heap.size
 block:∀k,k<w0.heap.size->k∉X->w.heap[k]? =w0.heap[k]?
def xY.refl (w:BX)(X:AA Nat):xY w X w:=⟨rfl,rfl,rfl,Ec _,λ_ _ _=>rfl⟩
def xY.below {w0:BX}(h:xY w0 [] w):Below w0.heap.size w0 w:=⟨h.os,h.tape,h.output,h.size,λk j=>h.block k j BU⟩
structure Ez where
 w0:World
 ok0:Nat->Prop
 X:List Nat
 H0:List CG
structure Dq (C:Ez) (ok:Nat->Prop) (H:List CG) (es:List Bc) (w:World):Prop where
 fr:xY C.w0 C.X w
 CU:∀b,C.ok0 b->ok b
 CV:∀b,ok b->C.ok0 b\/C.w0.heap.size<=b\/b∈C.X
 lg:∀b,ok b->b<w.heap.size
 names:Names C.H0 H
 hlen:H.length=es.length
 ent:∀(k:Nat) (e:Bc) (h:CG),es[k]? =some e->H[k]? =some h->FQ ok w H h e
 blk:∀(k:Nat) (e:Bc) (h:CG) (b:Nat),es[k]? =some e->e.live=true->H[k]? =some h->E5 h.v=some b->¬ok b/\b<w.heap.size/\(C.w0.heap.size<=b\/b∈C.X)
 Jy:∀(k k':Nat) (e e':Bc) (h h':CG) (b:Nat),es[k]? =some e->es[k']? =some e'->e.live=true->e'.live=true->H[k]? =some h->H[k']? =some h'->E5 h.v=some b->E5 h'.v=some b->k=k'
def FQ.mono {ok ok':Nat->Prop}{w w':BX}{H H':AA CG}{h:CG}{e:Bc}(q:F9 ok w ok' w')(L:Names H H')(z:e.live=true->∀b,E5 h.v=some b->w'.heap[b]? =w.heap[b]?)(I:FQ ok w H h e):FQ ok' w' H' h e:=by
 cases e with
 |dead=>trivial
 |box cs=>
  obtain⟨b,vs,T,h1,h2,h3⟩:=I;exact⟨b,vs,T,h1,aIw,h3.mono q L⟩
 |arr e s es=>
  obtain⟨h1,h2,xs,⟨h3,j⟩,u⟩:=I;refine⟨h1,h2,xs,⟨h3,?_⟩,u.mono q L⟩;rcases j with j|⟨g,cap,M,J,O,Y,Z⟩
  ·exact .inl j
  exact .inr ⟨g,cap,M,J,O,by rw[z rfl g (by rw[J];rfl)];exact Y,Z⟩
 |map es=>
  obtain⟨b,ms,clock,h1,h2,h3⟩:=I;exact⟨b,ms,clock,h1,aIw,h3.len,λi e m hi hm=>⟨(h3.ent i e m hi hm).1,(h3.ent i e m hi hm).2.1.mono q,(h3.ent i e m hi hm).2.2⟩,h3.inc⟩
 |fG es=>
  obtain⟨b,ms,clock,h1,h2,h3,j⟩:=I;exact⟨b,ms,clock,h1,aIw,⟨h3.len,λi e m hi hm=>⟨(h3.ent i e m hi hm).1,(h3.ent i e m hi hm).2.1.mono q,(h3.ent i e m hi hm).2.2⟩,h3.inc⟩,j⟩
 |iter es vis=>
  obtain⟨bi,U,ms,clock,seen,h1,h2,h3,j,u,J,O⟩:=I;exact⟨bi,U,ms,clock,seen,h1,by rw[z rfl bi aLW];exact h2,(q U h3).1,by rw[(q U h3).2];exact j,⟨u.len,λi e m hi hm=>⟨(u.ent i e m hi hm).1,(u.ent i e m hi hm).2.1.mono q,(u.ent i e m hi hm).2.2⟩,u.inc⟩,J,O⟩
 |loop tm slots rc st pe=>
  obtain⟨l,fn,D,h1,h2,h3,j⟩:=I;exact⟨l,fn,D,h1,by rw[z rfl l aLW];exact h2,h3,λt ht=>(j t ht).mono q L⟩
def FQ.shrink {ok ok':Nat->Prop}{w:BX}(hs:∀b o,ok b->(w.cell? ⟨b,o,none⟩).isSome=true->ok' b)(z:∀(b:Nat) (ms:Bg MapEntry) (c:Nat),ok b->w.heap[b]? =some (.map ms c)->ok' b){H:AA CG}{h:CG}{e:Bc}(q:FQ ok w H h e):FQ ok' w H h e:=by
 cases e with
 |dead=>trivial
 |box cs=>
  obtain⟨b,vs,T,h1,h2,h3⟩:=q;exact⟨b,vs,T,h1,h2,h3.shrink hs⟩
 |arr e s es=>
  obtain⟨h1,h2,xs,h3,j⟩:=q;exact⟨h1,h2,xs,h3,j.shrink hs⟩
 |map es=>
  obtain⟨b,ms,clock,h1,h2,h3⟩:=q;exact⟨b,ms,clock,h1,h2,h3.len,λi e m hi hm=>⟨(h3.ent i e m hi hm).1,(h3.ent i e m hi hm).2.1.shrink hs,(h3.ent i e m hi hm).2.2⟩,h3.inc⟩
 |fG es=>
  obtain⟨b,ms,clock,h1,h2,h3,u⟩:=q;exact⟨b,ms,clock,h1,h2,⟨h3.len,λi e m hi hm=>⟨(h3.ent i e m hi hm).1,(h3.ent i e m hi hm).2.1.shrink hs,(h3.ent i e m hi hm).2.2⟩,h3.inc⟩,u⟩
 |iter es vis=>
  obtain⟨bi,I,ms,clock,seen,h1,h2,h3,u,j,J,L⟩:=q;exact⟨bi,I,ms,clock,seen,h1,h2,z I ms clock h3 u,u,⟨j.len,λi e m hi hm=>⟨(j.ent i e m hi hm).1,(j.ent i e m hi hm).2.1.shrink hs,(j.ent i e m hi hm).2.2⟩,j.inc⟩,J,L⟩
 |loop tm slots rc st O=>
  obtain⟨l,fn,D,h1,h2,h3,u⟩:=q;exact⟨l,fn,D,h1,h2,h3,λt M=>(u t M).shrink hs⟩
variable {h:CG}
def FQ.drew {e:Bc}(j:FQ ok w H h e):FQ ok { w with drawn:=n } H h e:=
 FQ.mono (w:=w) (ok:=ok) (λ_ q=>⟨q,rfl⟩) (.refl _) (λ_ _ _=>rfl) j
def CB (P:Ch)(o:Oper)(ns:AA (Bz×Ah))(es:AA Bc)(x:Ah)(es':AA Bc):Prop:=
 ∀(C:Ez) (ok:Nat->Prop) (H:AA CG) (a:Act) (w:BX) (Q:Exit->Act->BX->Prop),
  Dq C ok H es w->(∀n∈ns,R ok w H n.2 (a.eval n.1))->
  o.wp P a w (λa' w'=>∃v ok' H',a'=a.put o.dst v/\F9 ok w ok' w'/\Names H H'/\Dq C ok' H' es' w'/\R ok' w' H' x v) Q
variable {es:AA Bc}{ns:AA (Bz×Ah)}{x:Ah}
def CB.pure (h:∀(ok:Nat->Prop) (H:AA CG) (a:Act) (w:BX),(∀(k:Nat) (e:Bc) (h:CG),es[k]? =some e->H[k]? =some h->FQ ok w H h e)->H.length=es.length->(∀n∈ns,R ok w H n.2 (a.eval n.1))->∃v,(execOp a.eval o).run P w=.ok (.value v) w/\R ok w H x v):CB P o ns es x es:=by
 intro C ok H a w Q hm j;obtain⟨v,q,u⟩:=h ok H a w hm.ent hm.hlen j;unfold Oper.wp;rw[q];exact⟨v,ok,H,rfl,.refl _ _,.refl _,hm,u⟩
structure BP where
 slots:List Ah
 ents:List Bc
 base:Nat:=0
def BP.get (σ:BP):Bz->Ah
 | .tmp t=>σ.slots.getD t .junk
 | .const v=>.d (.lit v)
 | .global g=>.d (.lit (.pointer (some ⟨g,0,none⟩)))
 | .func f=>.d (.fn (.func f) [] [])
def BP.put (σ:BP)(d:AB Tmp)(x:Ah)(es:AA Bc):BP:=
 ⟨match d with |some t=>σ.slots.set t x|none=>σ.slots,es,σ.base⟩
def BP.tX (σ:BP)(d:AB Tmp)(x:Ah):BP:=
 ⟨match d with |some t=>σ.slots.set t x|none=>σ.slots,σ.ents,σ.base⟩
def BP.aqW (σ:BP)(d:AB Tmp)(x:Ah):σ.tX d x=σ.put d x σ.ents:=rfl
def Marks (C:Ez)(ok:Nat->Prop)(w:BX)(j:AA Deferred):Prop:=
 ∃Ds:AA Nat,j=Ds.map (λD=>{ target:=.collected D,args:= #[] })/\Ds.Nodup/\∀D∈Ds,ok D/\C.w0.heap.size<=D/\w.heap[D]? =some (.deferred (some []))
def Marks.nil (C:Ez)(ok:Nat->Prop)(w:BX):Marks C ok w []:=⟨[],rfl,WZ,λ_ h=>IK⟩
variable {C:Ez}
def Marks.mono {q:AA Deferred}(h:Marks C ok w q)(u:F9 ok w ok' w'):Marks C ok' w' q:=by
 obtain⟨Ds,h1,h2,h3⟩:=h;exact⟨Ds,h1,h2,λD j=>⟨(u D (h3 D j).1).1,(h3 D j).2.1,((u D (h3 D j).1).2).trans (h3 D j).2.2⟩⟩
structure Holds (C:Ez) (ok:Nat->Prop) (H:List CG) (σ:BP) (a:Act) (w:World):Prop where
 mem:Dq C ok H σ.ents w
 size:a.tmps.size=σ.slots.length
 defers:Marks C ok w a.defers
 base:C.H0.length=σ.base
 slot:∀t,t<σ.slots.length->R ok w H (σ.slots.getD t .junk) (a.tmps.getD t undef)
def aR8 {l:AA Ah}{t:Nat}(h:¬t<l.length):l.getD t .junk=.junk:=by
 simp[List.getD,Ns (WY h)]
variable {σ:BP}
def Holds.get (h:Holds C ok H σ a w)(x:Bz):R ok w H (σ.get x) (a.eval x):=by
 cases x with
 |tmp t=>
  show R ok w H (σ.slots.getD t .junk) (a.tmps.getD t undef);by_cases j:t<σ.slots.length
  ·exact h.slot t j
  rw[aR8 j];exact .junk _
 |const v=>exact .d _ _ (.lit v)
 |global g=>exact .d _ _ (.lit _)
 |func f=>exact .d _ _ (.fn (.func f) [] [] #[] #[] rfl rfl (λi hi=>TR) (λi hi=>TR))
def Holds.put {C:Ez}{ok ok':Nat->Prop}{H H':AA CG}{σ:BP}{a:Act}{w w':BX}(h:Holds C ok H σ a w)(d:AB Tmp){x:Ah}{v:BD}{es':AA Bc}(q:F9 ok w ok' w')(I:Names H H')(hm:Dq C ok' H' es' w')(J:R ok' w' H' x v):Holds C ok' H' (σ.put d x es') (a.put d v) w':=by
 cases d with
 |none=>exact⟨hm,h.size,h.defers.mono q,h.base,λt j=>(h.slot t j).mono q I⟩
 |some d=>
  refine⟨hm,by simp[BP.put,Act.put,h.size],h.defers.mono q,h.base,λt j=>?_⟩;simp only[BP.put,qH]at j;simp only[BP.put,Act.put];by_cases e:d=t
  ·subst e;have u:(σ.slots.set d x).getD d .junk=x:=wI
   have z:(a.tmps.setIfInBounds d v).getD d undef=v:=by simp[Array.getD,h.size,j]
   rw[u,z];exact J
  have u:(σ.slots.set d x).getD t .junk=σ.slots.getD t .junk:=aDa
  have z:(a.tmps.setIfInBounds d v).getD t undef=a.tmps.getD t undef:=by simp[JJ,Uk e]
  rw[u,z];exact(h.slot t j).mono q I
def Ah.vG (π:AA (Nat×AV)):Ah->Ah
 | .d x=>.d x
 | .ptr k off=>match π.idxOf? (k,true)with |some j=>.ptr j off|none=>.junk
 | .aQ k=>match π.idxOf? (k,true)with |some j=>.aQ j|none=>.junk
 | .lN k i off=>match π.idxOf? (k,true)with |some j=>.lN j i off|none=>.junk
 | .mp k=>match π.idxOf? (k,true)with |some j=>.mp j|none=>.junk
 | .xP k=>match π.idxOf? (k,true)with |some j=>.xP j|none=>.junk
 | .clip xs=>.clip xs
 |_=>.junk
def Ah.back (π:AA (Nat×AV)):Ah->Ah
 | .fn f first cap=>.fn f (first.map (Ah.vG π)) (cap.map (Ah.vG π))
 | .eG vs=>.eG (vs.map (Ah.vG π))
 |x=>x.vG π
def Bc.back (π:AA (Nat×AV)):Bc->Bc
 | .dead=>.dead
 | .box cs=>.box (cs.map (Ah.vG π))
 | .arr e s es=>.arr e s es
 | .map es=>.map es
 | .fG es=>.fG es
 | .iter es vis=>.iter es vis
 | .loop tm slots rc st j=>.loop tm (slots.map (Ah.back π)) rc st j
variable {j k:Nat}{π:AA (Nat×AV)}
theorem a0Z (q:π.idxOf? (k,true)=some j)(u:H[k]? =some h):(π.map λp=>H.getD p.1 ⟨undef,0⟩)[j]? =some h:=by
 rw[List.idxOf?,aTN]at q
 grind
def R.vG {ok:Nat->Prop}{w:BX}{H:AA CG}(π:AA (Nat×AV)){x:Ah}{v:BD}(h:R ok w H x v):R ok w (π.map λp=>H.getD p.1 ⟨undef,0⟩) (x.vG π) v:=by
 cases h with
 |d x v h=>exact .d x v h
 |ptr k off b s h=>
  simp only[Ah.vG];split<;>rename_i j q
  ·exact .ptr _ off b s (a0Z q h)
  exact .junk _
 |aQ k ad n cap s h=>
  simp only[Ah.vG];split<;>rename_i j q
  ·exact .aQ _ ad n cap s (a0Z q h)
  exact .junk _
 |lN k i off b n cap s h=>
  simp only[Ah.vG];split<;>rename_i j q
  ·exact .lN _ i off b n cap s (a0Z q h)
  exact .junk _
 |mp k v s hl h=>
  simp only[Ah.vG];split<;>rename_i j q
  ·exact .mp _ v s hl (a0Z q h)
  exact .junk _
 |clip xs ad h=>exact .clip xs ad h
 |xP k ad n cap s h=>
  simp only[Ah.vG];split<;>rename_i j q
  ·exact .xP _ ad n cap s (a0Z q h)
  exact .junk _
 |fn f first cap vs us hl hm h h'=>exact .junk _
 |eG xs vs hl h=>exact .junk _
 |ag xs vs hl u h=>exact .junk _
 |junk v=>exact .junk _
def Vh (f:Ah->Ah)(l:AA Ah)(i:Nat)(h:i<l.length):(l.map f).getD i .junk=f (l.getD i .junk):=by
 simp[List.getD,h]
def R.back (π:AA (Nat×AV))(h:R ok w H x v):R ok w (π.map λp=>H.getD p.1 ⟨undef,0⟩) (x.back π) v:=by
 cases h with
 |fn f first cap vs us hl hm h h'=>
  exact .fn f _ _ vs us fB (by simp[hm]) (λi hi=>aOc) (λi hi=>by rw[Di]at hi;rw[Vh _ _ _ hi];exact(h' i hi).vG π)
 |eG xs vs hl h=>exact .eG _ vs fB (λi hi=>aOc)
 |ag xs vs hl j h=>exact .junk _
 |d x v h=>exact(R.d x v h).vG π
 |ptr k off b s h=>exact(R.ptr k off b s h).vG π
 |aQ k ad n cap s h=>exact(R.aQ k ad n cap s h).vG π
 |lN k i off b n cap s h=>exact(R.lN k i off b n cap s h).vG π
 |mp k v s hl h=>exact(R.mp k v s hl h).vG π
 |clip xs ad h=>exact(R.clip xs ad h).vG π
 |xP k ad n cap s h=>exact(R.xP k ad n cap s h).vG π
 |junk v=>exact .junk _
def Bc.backOk (π:AA (Nat×AV)):Bc->AV
 | .box cs=>cs.all λx=>(x.vG π).leaf
 |_=>true
def Vw (base:Nat)(es:AA Bc)(π:AA (Nat×AV)):AV:=
 π.all (λp=>p.1<es.length)&&decide ((π.filterMap λp=>if p.2 then some p.1 else none).Nodup)&&((π.take base).map (·.1)==List.range base)&&π.all λp=>(es.getD p.1 .dead).backOk π
def SS (es:AA Bc)(π:AA (Nat×AV)):AA Bc:=π.map λp=>if p.2 then(es.getD p.1 .dead).back π else .dead
theorem aOD :∀{π:AA (Nat×AV)},(π.filterMap λp=>if p.2 then some p.1 else none).Nodup->∀(i j k:Nat),π[i]? =some (k,true)->π[j]? =some (k,true)->i=j
 | [],_,i,j,k,h,_=>IV
 |p::π,z,i,j,k,hi,u=>by
  have q:∀(n:Nat),π[n]? =some (k,true)->k∈π.filterMap λp=>if p.2 then some p.1 else none:=λn h=>by
   grind
  have I:(π.filterMap λp=>if p.2 then some p.1 else none).Nodup:=by
   grind
  match i,j with
  |0,0=>
   rfl
  |0,j+1=>
   simp at hi u;subst hi;simp only[Vx,JK]at z;exact absurd (q j u) (LC.1 z).1
  |i+1,0=>
   simp at hi u;subst u;simp only[Vx,JK]at z;exact absurd (q i hi) (LC.1 z).1
  |i+1,j+1=>
    rw[aOD I i j k Hf Qy]
def FQ.back {ok:Nat->Prop}{w:BX}{H:AA CG}{h:CG}{e:Bc}(π:AA (Nat×AV))(I:e.backOk π=true)(j:FQ ok w H h e):FQ ok w (π.map λp=>H.getD p.1 ⟨undef,0⟩) h (e.back π):=by
 cases e with
 |dead=>trivial
 |box cs=>
  obtain⟨b,vs,T,h1,h2,h3,q⟩:=j;refine⟨b,vs,T,h1,h2,Yg,λi hi=>?_⟩;rw[Di]at hi;rw[Vh _ _ _ hi];refine⟨?_,(q i hi).2.vG π⟩;simp only[Bc.backOk,Fq]at I;exact I _ NY
 |arr e s es=>
  obtain⟨h1,h2,xs,h3,q,J⟩:=j;refine⟨h1,h2,xs,h3,q,λi hi=>⟨(J i hi).1,?_⟩⟩;have u:=(J i hi).2;have hm:(flat es).getD i .junk∈flat es:=NY
  unfold flat at hm ⊢;simp only[Vy,Hl]at hm;obtain⟨x,_,y,_,L⟩:=hm;unfold flat at u;rw[←L]at u ⊢;cases u with |d _ _ h=>exact .d _ _ h
 |map es=>exact j
 |fG es=>exact j
 |iter es vis=>exact j
 |loop tm slots rc st M=>
  obtain⟨l,fn,D,h1,h2,h3,q⟩:=j;refine⟨l,fn,D,h1,h2,Yg,λt z=>?_⟩;rw[Di]at z;rw[Vh _ _ _ z];exact(q t z).back π
def aOk {e:Bc}:(e.back π).live=e.live:=by cases e<;>rfl
def Dq.norm (hm:Dq C ok H es w)(π:AA (Nat×AV))(U:Vw C.H0.length es π=true):
 Dq C ok (π.map λp=>H.getD p.1 ⟨undef,0⟩) (SS es π) w:=by
 unfold Vw at U;simp only[ED,Iu,VR,Fq]at U;obtain⟨⟨⟨hlt,hnd⟩,hpre⟩,hbk⟩:=U
 have u:∀(j:Nat) (h:CG),(π.map λp=>H.getD p.1 ⟨undef,0⟩)[j]? =some h->∃p,π[j]? =some p/\p.1<es.length/\H[p.1]? =some h:=by
  intro j h q;rw[Jr]at q;cases hp:π[j]? with
  |none=>rw[hp]at q;simp at q
  |some p=>
   rw[hp]at q;have z:p.1<es.length:=hlt p (ZQ hp);refine⟨p,rfl,z,?_⟩;have hkH:p.1<H.length:=by rw[hm.hlen];exact z
   simp[List.getD,hkH]at q ⊢;exact q
 have I:∀(j:Nat) (p:Nat×AV) (e:Bc),(SS es π)[j]? =some e->π[j]? =some p->p.1<es.length->(p.2=false/\e=.dead)\/(p.2=true/\∃M,es[p.1]? =some M/\e=M.back π/\p∈π):=by
  intro j p e q hp z;unfold SS at q;rw[Jr,hp]at q;cases Z:p.2 with
  |false=>simp[Z]at q;exact .inl ⟨rfl,q.symm⟩
  |true=>
   simp[Z,List.getD,z]at q;exact .inr ⟨rfl,es[p.1],by simp[z],q.symm,ZQ hp⟩
 refine⟨hm.fr,hm.CU,hm.CV,hm.lg,?_,by simp[SS],?_,?_,?_⟩
 ·intro k v hv;have z:k<C.H0.length:=(Gs.1 hv).1;have h1:((π.take C.H0.length).map (·.1))[k]? =some k:=by rw[hpre];simp[z]
  rw[Jr,TP z]at h1;have h2:=hm.names k v hv;cases hp:π[k]? with
  |none=>rw[hp]at h1;simp at h1
  |some p=>
   rw[hp]at h1;have hpk:p.1=k:=Zh
   rw[Jr,hp];simp[List.getD,hpk,h2]
 ·intro j e h q hh;obtain⟨p,hp,z,hH⟩:=u j h hh;rcases I j p e q hp z with⟨_,rfl⟩|⟨_,M,J,rfl,L⟩
  ·trivial
  refine(hm.ent p.1 M h J hH).back π ?_;have :=hbk p L;simpa[List.getD,J]using this
 ·intro j e h b q hl hh Z;obtain⟨p,hp,z,hH⟩:=u j h hh;rcases I j p e q hp z with⟨_,rfl⟩|⟨_,M,J,rfl,L⟩
  ·cases hl
  rw[aOk]at hl;exact hm.blk p.1 M h b J hl hH Z
 intro j j' e e' h h' b q hj' hl Y hh hh' Z hb';obtain⟨p,hp,z,hH⟩:=u j h hh;obtain⟨p',hp',hk',hH'⟩:=u j' h' hh';rcases I j p e q hp z with⟨_,rfl⟩|⟨hpt,M,J,rfl,L⟩
 ·cases hl
 rcases I j' p' e' hj' hp' hk' with⟨_,rfl⟩|⟨O,e0',aKl,rfl,hmem'⟩
 ·cases Y
 rw[aOk]at hl Y;have hkk:=hm.Jy p.1 p'.1 M e0' h h' b J aKl hl Y hH hH' Z hb';obtain⟨k,bb⟩:=p;obtain⟨k',bb'⟩:=p';simp only at hkk hpt O;subst hkk;subst hpt;subst O;exact aOD hnd j j' k hp hp'
def Lr (π:AA (Nat×AV)):AA AV->AA Ah->AA Ah
 |_,[]=>[]
 |true::m,x::xs=>x.back π::Lr π m xs
 |false::m,_::xs=>.junk::Lr π m xs
 | [],_::xs=>.junk::Lr π [] xs
def aBL (π:AA (Nat×AV)):∀(m:AA AV) (l:AA Ah),(Lr π m l).length=l.length
 |_,[]=>by unfold Lr;rfl
 |true::m,x::xs=>by simp[Lr,aBL π m xs]
 |false::m,x::xs=>by simp[Lr,aBL π m xs]
 | [],x::xs=>by simp[Lr,aBL π [] xs]
def aBl (π:AA (Nat×AV)):∀(m:AA AV) (l:AA Ah) (t:Nat),(Lr π m l).getD t .junk=(l.getD t .junk).back π\/(Lr π m l).getD t .junk=.junk
 |_,[],t=>by unfold Lr;right;simp
 |true::m,x::xs,0=>by left;simp[Lr]
 |false::m,x::xs,0=>by right;simp[Lr]
 | [],x::xs,0=>by right;simp[Lr]
 |true::m,x::xs,t+1=>by simpa[Lr]using aBl π m xs t
 |false::m,x::xs,t+1=>by simpa[Lr]using aBl π m xs t
 | [],x::xs,t+1=>by simpa[Lr]using aBl π [] xs t
def aAS (σ S:BP):Prop:=∃(m:AA AV) (π:AA (Nat×AV)),Vw σ.base σ.ents π=true/\S=⟨Lr π m σ.slots,SS σ.ents π,σ.base⟩
variable {S:BP}
def Holds.aKm (h:Holds C ok H σ a w)(hs:aAS σ S):∃H',Holds C ok H' S a w:=by
 obtain⟨m,π,j,rfl⟩:=hs;refine⟨π.map λp=>H.getD p.1 ⟨undef,0⟩,h.mem.norm π (h.base▸j),by simp[aBL,h.size],h.defers,h.base,λt q=>?_⟩;rcases aBl π m σ.slots t with e|e
 ·simp only[e];exact(h.get (.tmp t)).back π
 simp only[e];exact .junk _
def CO (σ S:BP):Prop:=∀(C:Ez) (ok:Nat->Prop) (H:AA CG) (a:Act) (w:BX),Holds C ok H σ a w->∃ok' H',Holds C ok' H' S a w
def aAS.sub (h:aAS σ S):CO σ S:=λ_ ok _ _ _ j=>let⟨H',h'⟩:=j.aKm h;⟨ok,H',h'⟩
def acJ (j:BP)(h:∀C ok H a w,Holds C ok H σ a w->∃ok',Holds C ok' H j a w)(k:CO j S):CO σ S:=λC _ H a w q=>let⟨ok',h'⟩:=h C _ H a w q;k C ok' H a w h'
variable {d:AB Tmp}{i:Nat}
def toCome (j:Bg AV):Nat:=(j.toList.filter (!·)).length
def toCome_set {j:Bg AV}(hi:i<j.size)(h:j.getD i true=false):toCome (j.setIfInBounds i true)+1=toCome j:=by
 unfold toCome;have hl:j.toList[i]' Hf=false:=by simpa[Array.getD,hi]using h
 have e:j.toList=j.toList.take i++false::j.toList.drop (i+1):=by
  rw[←hl,List.getElem_cons_drop,ZT]
 have q:(j.setIfInBounds i true).toList=j.toList.take i++true::j.toList.drop (i+1):=by
  rw[aEb,aCT,ES Hf]
 rw[q]
 conv=>rhs;rw[e]
 simp[Qu];omega
def written (ops:Bg Oper):AA Tmp:=ops.toList.filterMap (·.dst)
def X9 (ops:Bg Oper):AV:=(List.range ops.size).all λi=>(List.range ops.size).all λj=>i==j||match(ops[i]?).bind (·.dst),(ops[j]?).bind (·.dst)with
 |some d,some q=>d != q
 |_,_=>true
def YC (ops:Bg Oper)(n:Nat):AV:=(written ops).all λd=>d<n
def ajF (h:X9 ops=true):∀(i j:Nat) (o q:Oper) (d:Tmp),ops[i]? =some o->ops[j]? =some q->o.dst=some d->q.dst=some d->i=j:=by
 intro i j o q d h1 h2 h3 u;unfold X9 at h;rw[Fq]at h;have hi:i<ops.size:=(IJ.1 h1).1;have z:j<ops.size:=(IJ.1 h2).1;have :=h i Hf;rw[Fq]at this;have :=this j iI;rw[h1,h2]at this;simp[h3,u]at this;exact this
def aZB {d:Tmp}(h:ops[i]? =some o)(hd:o.dst=some d):d∈written ops:=by
 unfold written;rw[eA]
 exact⟨o,by
  have⟨hi,j⟩:=IJ.1 h
  rw[←j];exact Array.getElem_mem_toList hi,hd⟩
def agF {d:Tmp}(h:d<a.tmps.size):(a.put (some d) v).tmps.getD d undef=v:=by
 simp[Act.put,Array.getD,h]
def adG {d t:Tmp}(h:d≠t):(a.put (some d) v).tmps.getD t undef=a.tmps.getD t undef:=by
 simp[Act.put,JJ,Uk h]
def size_put:(a.put d v).tmps.size=a.tmps.size:=by cases d<;>simp[Act.put]
def amC:(a.put d v).defers=a.defers:=by cases d<;>rfl
def XE (ops:Bg Oper)(σ:BP)(g:AB (Nat×AV)):Prop:=g=none\/
 ∃j q d b,g=some (j,q)/\(ops[j]?).bind (·.dst)=some d/\σ.slots.getD d .junk=.d (.lit (.bool b))/\b=q
def Ya (ops:Bg Oper)(σ:BP)(g:AB (Nat×AV)):Prop:=
 ∃j q d v,g=some (j,q)/\(ops[j]?).bind (·.dst)=some d/\σ.slots.getD d .junk=.d (.lit v)/\(v=.bool (!q)\/v=undef)
variable {g:AB (Nat×AV)}
def aZs (j:Nat)(q:AV)(d:Nat)(b:AV)(u:g=some (j,q))(hd:(ops[j]?).bind (·.dst)=some d)(hs:σ.slots.getD d .junk=.d (.lit (.bool b)))(z:b= !q):Ya ops σ g:=⟨j,q,d,_,u,hd,hs,.inl (by rw[z])⟩
def aix (j:Nat)(q:AV)(d:Nat)(u:g=some (j,q))(hd:(ops[j]?).bind (·.dst)=some d)(hs:σ.slots.getD d .junk=.d (.lit undef)):Ya ops σ g:=⟨j,q,d,_,u,hd,hs,.inr rfl⟩
variable {u:BD}
def R.bool (h:R ok w H (.d (.lit u)) v):v=u:=by
 cases h with |d _ _ h=>cases h;rfl
variable {d:Nat}
theorem akV (h:Holds C ok H σ a w)(u:(ops[j]?).bind (·.dst)=some d)(z:σ.slots.getD d .junk=.d (.lit v)):yielded ops a.tmps j=(match v with | .bool b=>some b|_=>none):=by
 have hd:d<σ.slots.length:=by
  grind
 have q:=(z▸h.slot d hd).bool
 have hs:a.tmps[d]? =some v:=by
  have :d<a.tmps.size:=by rw[h.size];exact hd
  simp[Array.getD,this]at q;simp[this,q]
 unfold yielded;rw[u];simp only[Ac,hs];cases v<;>rfl
theorem adA (h:Holds C ok H σ a w){b:AV}(u:(ops[j]?).bind (·.dst)=some d)(z:σ.slots.getD d .junk=.d (.lit (.bool b))):yielded ops a.tmps j=some b:=by
 have hd:d<σ.slots.length:=by
  grind
 have q:=(z▸h.slot d hd).bool
 have hs:a.tmps[d]? =some (.bool b):=by
  have :d<a.tmps.size:=by rw[h.size];exact hd
  simp[Array.getD,this]at q;simp[this,q]
 unfold yielded;rw[u];simp only[Ac,hs]
def Uh (h:Holds C ok H σ a w)(q:XE ops σ o.guard):Region.wanted o (yielded ops a.tmps)=true:=by
 unfold Region.wanted;rcases q with q|⟨j,u,d,b,q,z,I,rfl⟩
 ·rw[q]
 rw[q];show(yielded ops a.tmps j==some b)=true;rw[adA h z I];simp
def aHl (h:Holds C ok H σ a w)(u:Ya ops σ o.guard):Region.wanted o (yielded ops a.tmps)=false:=by
 unfold Region.wanted;obtain⟨j,q,d,v,u,z,I,J⟩:=u;rw[u];show(yielded ops a.tmps j==some q)=false;rw[akV h z I];rcases J with rfl|rfl
 ·simp
 rfl
def needs (σ:BP):AA (Bz×Ah)->Prop
 | []=>True
 |n::ns=>σ.get n.1=n.2/\needs σ ns
def Zo {σ:BP}:∀{ns:AA (Bz×Ah)},needs σ ns->∀n∈ns,σ.get n.1=n.2
 | [],_,n,h=>IV
 |m::ns,j,n,h=>by
  rcases FI.1 h with rfl|h
  ·exact j.1
  exact Zo j.2 n h
def tmpsOf (o:Oper):AA Tmp:=o.op.operands.toList.filterMap λ| .tmp t=>some t|_=>none
def OG (ns:AA (Bz×Ah)):AA Tmp:=ns.filterMap λn=>match n.1 with | .tmp t=>some t|_=>none
def QY (P:Ch)(ops:Bg Oper)(σ:BP)(x:Ah)(E:AA Bc)(bar:AV)(o:Oper):Prop:=
 ((∃ns,CB P o ns σ.ents x E/\needs σ ns/\(OG ns).all (tmpsOf o).contains=true/\XE ops σ o.guard)\/(x=.d (.lit undef)/\E=σ.ents/\Ya ops σ o.guard))/\(bar=false->E=σ.ents)
def aM1 (h:CB P o ns σ.ents x σ.ents)(j:needs σ ns)(q:XE ops σ o.guard)(u:(OG ns).all (tmpsOf o).contains=true):QY P ops σ x σ.ents false o:=
 ⟨.inl ⟨ns,h,j,u,q⟩,λ_=>rfl⟩
def JE (ro:AB Nat):Fence:={ fn:=λ_=>True,depth:=none,alive:=false,round:=ro }
variable {args:Bg BD}{ro:AB Nat}
def a1k {f:FuncId}{R:Ending->BX->Prop}:CallsIn (JE ro) n P f args w R↔Calls P f args w R:=
 callsIn_wide (n:=n)
def aZP {j:String}{R:BD->BX->Prop}(h:Rows P j args w R):RowsIn (JE ro) n P j args w R:=
 λc cs _=>let⟨v,w',r,s⟩:=h c cs;⟨v,w',r,(stepsIn_wide (P:=P)).2 s⟩
variable {es':AA Bc}
def CB.aFZ (h:CB P o ns es x es')(hm:Dq C ok H es w)(u:∀n∈ns,R ok w H n.2 (a.eval n.1)):∀c,o.op≠ .defer c:=by
 intro c z;have j:=h C ok H a w (λ_ _ _=>False) hm u;unfold Oper.wp execOp at j;rw[z]at j;simp only[Fg]at j;cases q:(resolve a.eval c o.type).run P w with
 |ok d w'=>
  rw[q]at j;simp only[Result.andThen]at j;obtain⟨v,_,_,I,_⟩:=j;have :=Au (λa=>a.defers.length) I;cases J:o.dst<;>simp[Act.put,J]at this
 |halt x w'=>
  rw[q]at j;cases x<;>exact j
def CB.inR (h:CB P o ns es x es')(ro:AB Nat)(C:Ez)(ok:Nat->Prop)(H:AA CG)(a:Act)(w:BX)(Q:Exit->Act->BX->Prop)(hm:Dq C ok H es w)(j:∀n∈ns,R ok w H n.2 (a.eval n.1)):
 o.wpIn (JE ro) 0 P a w (λa' w'=>∃v ok' H',a'=a.put o.dst v/\F9 ok w ok' w'/\Names H H'/\Dq C ok' H' es' w'/\R ok' w' H' x v) Q:=by
 have h1:=h C ok H a w Q hm j;refine⟨λ_ _=>trivial,?_⟩;rw[jE _ _ _ (h.aFZ hm j)];unfold Oper.wp at h1;generalize(execOp a.eval o).run P w=r at h1;cases r with
 |ok n w'=>
  cases n<;>first
   |exact h1
   |exact h1.elim
   |exact⟨λh=>IK,a1k.2 h1⟩
   |exact⟨λh=>IK,aZP h1⟩
 |halt x w'=>cases x<;>exact h1
inductive Chain (P:Program) (ops:Array Oper):List Oper->BP->BP->Prop
 |nil (σ:BP):Chain P ops [] σ σ
 |op {o:Oper} {rest:List Oper} {σ σ':BP} {ns:List (Operand×Ah)} {x:Ah} (d:Option Tmp) (h:CB P o ns σ.ents x σ.ents) (hn:needs σ ns) (hg:XE ops σ o.guard) (hd:o.dst=d)
  (k:Chain P ops rest (σ.tX d x) σ'):Chain P ops (o::rest) σ σ'
 |oe {o:Oper} {rest:List Oper} {σ σ':BP} {ns:List (Operand×Ah)} {x:Ah} {es':List Bc} (d:Option Tmp) (E:List Bc) (h:CB P o ns σ.ents x es') (he:es'=E) (hn:needs σ ns) (hg:XE ops σ o.guard) (hd:o.dst=d)
  (k:Chain P ops rest (σ.put d x E) σ'):Chain P ops (o::rest) σ σ'
 |skip {o:Oper} {rest:List Oper} {σ σ':BP} (d:Option Tmp) (hg:Ya ops σ o.guard) (hd:o.dst=d) (k:Chain P ops rest (σ.tX d (.d (.lit undef))) σ'):Chain P ops (o::rest) σ σ'
 |any {o:Oper} {rest:List Oper} {σ σ':BP} {x:Ah} (d:Option Tmp) (h:QY P ops σ x σ.ents false o) (hd:o.dst=d) (k:Chain P ops rest (σ.tX d x) σ'):Chain P ops (o::rest) σ σ'
 |aqY {o:Oper} {rest:List Oper} {σ σ':BP} {x:Ah} {E:List Bc} {bar:Bool} (d:Option Tmp) (h:QY P ops σ x E bar o) (hd:o.dst=d) (k:Chain P ops rest (σ.put d x E) σ'):Chain P ops (o::rest) σ σ'
 |conv {rest:List Oper} {σ σ':BP} (σ2:BP) (h:∀C ok H a w,Holds C ok H σ a w->∃ok',Holds C ok' H σ2 a w) (k:Chain P ops rest σ2 σ'):Chain P ops rest σ σ'
def QJ :Code->AV
 | .seq a b=>QJ a&&QJ b
 | .cond _ a b=>QJ a&&QJ b
 | .block _ a=>QJ a
 | .loop a=>QJ a
 | .scope a=>QJ a
 | .rangeFunc .. =>false
 |_=>true
def vX (ro:AB Nat)(c:Code):Prop:=ro=none\/QJ c=true
variable {c x y:Code}
def vX.two (h:vX ro c)(e:QJ c=(QJ x&&QJ y)):vX ro x/\vX ro y:=by
 rcases h with h|h
 ·exact⟨.inl h,.inl h⟩
 rw[e,ED]at h;exact⟨.inr h.1,.inr h.2⟩
def adU (P:Ch)(c:Code)(σ:BP)(Q:Exit->BP->Prop):Prop:=
 ∀(ro:AB Nat),vX ro c->∀(C:Ez) (ok:Nat->Prop) (H:AA CG) (a:Act) (w:BX),Holds C ok H σ a w->c.wpIn (JE ro) 0 P (λe a' w'=>∃ok' H' σ',Holds C ok' H' σ' a' w'/\Q e σ') a w
structure Bh (P:Program) (c:Code) (σ:BP) (Q:Exit->BP->Prop):Prop where
 run:adU P c σ Q
section
variable {P:Ch} {σ σ':BP} {Q:Exit->BP->Prop}
def Bh.mono {Q':Exit->BP->Prop}(h:Bh P c σ Q)(j:∀e σ,Q e σ->Q' e σ):Bh P c σ Q':=
 ⟨λro q C ok H a w u=>UD (h.run ro q C ok H a w u) λ_ _ _ ⟨ok',H',σ',h1,h2⟩=>⟨ok',H',σ',h1,j _ _ h2⟩⟩
def Bh.skip (h:Q .normal σ):Bh P .skip σ Q:=⟨λ_ _ _ ok H a w j=>wpIn_skip ⟨ok,H,σ,j,h⟩⟩
def Ew:=@Bh.skip
def Bh.label {l:Nat}(h:Q .normal σ):Bh P (.label l) σ Q:=⟨λ_ _ _ ok H a w j=>wpIn_label ⟨ok,H,σ,j,h⟩⟩
def Bh.exit {i:Nat}(h:Q (.exit i) σ):Bh P (.exit i) σ Q:=⟨λ_ _ _ ok H a w j=>wpIn_exit ⟨ok,H,σ,j,h⟩⟩
def Cj:=@Bh.exit
def Bh.ret (h:Q .ret σ):Bh P .ret σ Q:=⟨λ_ _ _ ok H a w j=>wpIn_ret ⟨ok,H,σ,j,h⟩⟩
def Ep:=@Bh.ret
def JG (K:BP->Prop)(Q:Exit->BP->Prop):Exit->BP->Prop
 | .normal,σ=>K σ
 |e,σ=>Q e σ
def Bh.seq (K:BP->Prop)(q:Bh P x σ (JG K Q))(u:∀σ',K σ'->Bh P y σ' Q):Bh P (.seq x y) σ Q:=⟨λro j C ok H a w z=>
 wpIn_seq (UD (q.run ro (j.two rfl).1 C ok H a w z) (by
  rintro e a' w' ⟨ok',H',σ',h1,h2⟩;cases e with
  |normal=>exact(u σ' h2).run ro (j.two rfl).2 C ok' H' a' w' h1
  |_=>exact⟨ok',H',σ',h1,h2⟩))⟩
def Bh.seq1 (j:BP)(q:Bh P x σ (JG (λσ'=>σ'=j) Q))(u:Bh P y j Q):Bh P (.seq x y) σ Q:=Bh.seq _ q (λ_ e=>e▸u)
def Bh.cond {c:Bz}(b:AV)(u:σ.get c=.d (.lit (.bool b)))(z:b=true->Bh P x σ Q)(I:b=false->Bh P y σ Q):Bh P (.cond c x y) σ Q:=by
 refine⟨λro q C ok H a w j=>?_⟩;have e:=(u▸j.get c).bool;exact wpIn_cond_split e (λh=>(z h).run ro (q.two rfl).1 C ok H a w j) (λh=>(I h).run ro (q.two rfl).2 C ok H a w j)
def aO5 (i:Nat)(Q:Exit->BP->Prop):Exit->BP->Prop
 | .exit j,σ=>if j=i then Q .normal σ else Q (.exit j) σ
 |e,σ=>Q e σ
def Bh.block {i:Nat}{c:Code}(h:Bh P c σ (aO5 i Q)):Bh P (.block i c) σ Q:=⟨λro u C ok H a w z=>
 wpIn_block (UD (h.run ro u C ok H a w z) (by
  rintro e a' w' ⟨ok',H',σ',h1,h2⟩;cases e with
  |exit j=>
   show if j=i then _ else _
   simp only[aO5]at h2;split<;>rename_i q
   ·rw[ES q]at h2;exact⟨ok',H',σ',h1,h2⟩
   rw[EZ q]at h2;exact⟨ok',H',σ',h1,h2⟩
  |_=>exact⟨ok',H',σ',h1,h2⟩))⟩
def Ai:=@Bh.block
def abh {P:Ch}{Q:Exit->Act->BX->Prop}(I:Nat->Act->BX->Prop)(round:∀n a w,I n a w->c.wpIn (JE ro) 0 P (Exit.then (λa' w'=>∃m,m<n/\I m a' w') Q) a w):∀n a w,I n a w->(Code.loop c).wpIn (JE ro) 0 P Q a w:=by
 intro n a w Z b k cs J L M
 have key:∀n a w,I n a w->∃e a' w',Q e a' w'/\ArrivesIn (Machine.fenced P (JE ro)) P (lone (b.atR a (.code c::.inLoop c::k)) cs w) b k cs e a' w':=by
  intro n
  induction n using Nat.strongRecOn with
  |_ n ih=>
   intro a w hI;obtain⟨e,u,z,j,harr⟩:=round n a w hI b (.inLoop c::k) cs J L M;cases e with
   |normal=>
    obtain⟨m,O,U⟩:=j;obtain⟨e₂,a₂,w₂,Y,q⟩:=ih m O u z U;exact⟨e₂,a₂,w₂,Y,.of_steps (StepsIn.trans harr (.one (fenced_calm L M rfl) stepR_inLoop)) q⟩
   |exit id=>exact⟨_,u,z,j,.pass (x:=.inLoop c) rfl (λ_ _=>.inl BU) harr⟩
   |goto l=>exact⟨_,u,z,j,.pass (x:=.inLoop c) rfl (λ_ _=>.inl BU) harr⟩
   |ret=>exact⟨_,u,z,j,.pass (x:=.inLoop c) rfl (λ_ _=>.inl BU) harr⟩
   |panic ch=>exact⟨_,u,z,j,.pass (x:=.inLoop c) rfl (λ_ _=>.inl BU) harr⟩
   |outgrown=>exact⟨_,u,z,j,.pass (x:=.inLoop c) rfl (λ_ _=>.inl BU) harr⟩
 obtain⟨e,a',w',j,harr⟩:=key n a w Z;exact⟨e,a',w',j,.of_steps (.one (fenced_calm L M rfl) stepR_loop) harr⟩
def Bh.loop (I:Nat->BP->Prop)(n:Nat)(h:I n σ)(round:∀n σ,I n σ->Bh P c σ (JG (λσ'=>∃m,m<n/\I m σ') Q)):Bh P (.loop c) σ Q:=by
 refine⟨λro u C ok H a w j=>?_⟩;refine abh (λn a w=>∃ok H σ,Holds C ok H σ a w/\I n σ) ?_ n a w ⟨ok,H,σ,j,h⟩;rintro n a w ⟨ok,H,σ,j,z⟩;refine UD ((round n σ z).run ro u C ok H a w j) ?_;rintro e a' w' ⟨ok',H',σ',h1,h2⟩;cases e with
 |normal=>obtain⟨m,hm,q⟩:=h2;exact⟨m,hm,ok',H',σ',h1,q⟩
 |_=>exact⟨ok',H',σ',h1,h2⟩
end
def WH {P:Ch}{σ S:BP}{Q:Exit->BP->Prop}{c:Code}(hs:CO σ S)(h:Bh P c S Q):Bh P c σ Q:=⟨λro j C ok H a w q=>by
 obtain⟨ok',H',h'⟩:=hs C ok H a w q
 exact h.run ro j C ok' H' a w h'⟩
def DJ:=@WH
theorem aRD {F:Fence}(I:Bg AV->Act->BX->Prop)(j:∀l a w,I l a w->l.size=ops.size)(u:∀l a w,I l a w->∀i,i∈Region.ready .any ops l->wpOpIn F n P ops Q i (λa' w'=>I (l.setIfInBounds i true) a' w') a w)(q:∀l a w,I l a w->Region.ready .any ops l=[]->Q .normal a w):
 ∀(Am:Nat) l a w,toCome l<=Am->I l a w->wpAnyIn F n P .any ops Q Am l a w:=by
 intro Am
 induction Am with
 |zero=>
  intro l a w O L
  have U:Region.ready .any ops l=[]:=by
   unfold Region.ready;rw[aEY];intro i hi;have z:i<l.size:=by rw[j l a w L];simpa using hi
   have Y:l.toList.filter (!·)=[]:=Hd (by unfold toCome at O;omega);rw[aEY]at Y;have :=Y (l[i]) BU;have M:l[i]=true:=aEv
   simp[Array.getD,z,M]
  exact⟨U,q l a w L U⟩
 |succ Am Z=>
  intro l a w O L;refine⟨q l a w L,λi hi=>?_⟩;have J:=hi;unfold Region.ready at J;rw[Ji]at J;have z:i<l.size:=by rw[j l a w L];simpa using J.1
  have hf:l.getD i true=false:=by
   grind
  have hs:=toCome_set z hf;exact wpOpIn_mono (λa' w' h=>Z _ a' w' AL h) (u l a w L i hi)
def J4 (o:Oper)(j:Nat):AV:=o.after.toList.any λe=>e.on=j&&Region.binds .any e
def XF (ops:Bg Oper):AV:=(List.range ops.size).all λi=>match ops[i]? with
 |some o=>((List.range ops.size).all λj=>match(ops[j]?).bind (·.dst)with
  |some d=> !(tmpsOf o).contains d||J4 o j||(match ops[j]? with |some q=>J4 q i|none=>false)
  |none=>true)&&(match o.guard with |some (j,_)=>J4 o j|none=>true)
 |none=>true
inductive FT (P:Program) (ops:Array Oper):List Oper->BP->List Ah->List (List Bc)->List Bool->BP->Prop
 |nil (σ:BP):FT P ops [] σ [] [] [] σ
 |op {o:Oper} {rest:List Oper} {σ σ':BP} {ns:List (Operand×Ah)} {x:Ah} {rs:List Ah} {ess:List (List Bc)} {bs:List Bool} (d:Option Tmp) (h:CB P o ns σ.ents x σ.ents) (hn:needs σ ns)
  (hg:XE ops σ o.guard) (hd:o.dst=d) (ht:(OG ns).all (tmpsOf o).contains=true) (k:FT P ops rest (σ.tX d x) rs ess bs σ'):FT P ops (o::rest) σ (x::rs) (σ.ents::ess) (false::bs) σ'
 |oe {o:Oper} {rest:List Oper} {σ σ':BP} {ns:List (Operand×Ah)} {x:Ah} {es':List Bc} {rs:List Ah} {ess:List (List Bc)} {bs:List Bool} (d:Option Tmp) (E:List Bc) (h:CB P o ns σ.ents x es') (he:es'=E) (hn:needs σ ns)
  (hg:XE ops σ o.guard) (hd:o.dst=d) (ht:(OG ns).all (tmpsOf o).contains=true) (k:FT P ops rest (σ.put d x E) rs ess bs σ'):FT P ops (o::rest) σ (x::rs) (E::ess) (true::bs) σ'
 |any {o:Oper} {rest:List Oper} {σ σ':BP} {x:Ah} {rs:List Ah} {ess:List (List Bc)} {bs:List Bool} (d:Option Tmp) (h:QY P ops σ x σ.ents false o) (hd:o.dst=d) (k:FT P ops rest (σ.tX d x) rs ess bs σ'):FT P ops (o::rest) σ (x::rs) (σ.ents::ess) (false::bs) σ'
 |aqY {o:Oper} {rest:List Oper} {σ σ':BP} {x:Ah} {E:List Bc} {bar:Bool} {rs:List Ah} {ess:List (List Bc)} {bs:List Bool} (d:Option Tmp) (h:QY P ops σ x E bar o) (hd:o.dst=d) (k:FT P ops rest (σ.put d x E) rs ess bs σ'):FT P ops (o::rest) σ (x::rs) (E::ess) (bar::bs) σ'
 |skip {o:Oper} {rest:List Oper} {σ σ':BP} {rs:List Ah} {ess:List (List Bc)} {bs:List Bool} (d:Option Tmp) (hg:Ya ops σ o.guard) (hd:o.dst=d) (k:FT P ops rest (σ.tX d (.d (.lit undef))) rs ess bs σ'):FT P ops (o::rest) σ (.d (.lit undef)::rs) (σ.ents::ess) (false::bs) σ'
variable {bs:AA AV}{ess:AA (AA Bc)}{l:AA Oper}{rs:AA Ah}{sl:AA Nat}{σ':BP}
section
variable {P:Ch} {ops:Bg Oper} {es:AA Bc}
def GU (ops:Bg Oper)(σ0:BP)(r:Nat->Ah)(ev:Nat->AA Bc):Nat->BP
 |0=>σ0
 |i+1=>match ops[i]? with
  |some o=>(GU ops σ0 r ev i).put o.dst (r i) (ev i)
  |none=>GU ops σ0 r ev i
def FT.aHy (N:Nat)(h:FT P ops l σ rs ess bs σ')(σ0:BP)(r:Nat->Ah)(ev:Nat->AA Bc)(bar:Nat->AV):∀i,(∀k:Nat,k<l.length->l[k]? =ops[i+k]?)->i+l.length=N->σ=GU ops σ0 r ev i->
 (∀(k:Nat) y,rs[k]? =some y->r (i+k)=y)->(∀(k:Nat) y,ess[k]? =some y->ev (i+k)=y)->(∀(k:Nat) y,bs[k]? =some y->bar (i+k)=y)->
 (∀j (o:Oper),i<=j->j<N->ops[j]? =some o->QY P ops (GU ops σ0 r ev j) (r j) (ev j) (bar j) o)/\σ'=GU ops σ0 r ev N:=by
 induction h with
 |nil σ=>
  intro i hl J I M _ _;have :i=N:=a0Y
  subst this;exact⟨λj o Z L ho=>AL,I⟩
 | @op o rest σ σ' ns x rs ess bs d ho hn hg hd ht k ih=>
   intro i hl J I M O hb;subst hd;have U:ops[i]? =some o:=ru
   have Y:r i=x:=aBv
   have u:ev i=σ.ents:=aLU
   obtain⟨h1,h2⟩:=ih (i+1) (λk hk=>vP) nO (by
    rw[BP.aqW];simp only[GU,U,Y,u];rw[←I]) (λk y z=>a0E)
    (λk y z=>Src) (λk y z=>yG)
   refine⟨λj o' Z L q=>?_,h2⟩;by_cases e:i=j
   ·subst e;rw[U]at q;obtain rfl:=Dv q;exact⟨.inl ⟨ns,by rw[Y,u,←I];exact ho,I▸hn,ht,I▸hg⟩,λ_=>by rw[u,←I]⟩
   exact h1 j o' AL L q
 | @oe o rest σ σ' ns x es' rs ess bs d E ho hE hn hg hd ht k ih=>
   intro i hl J I M O hb;subst hd;subst hE;have U:ops[i]? =some o:=ru
   have Y:r i=x:=aBv
   have u:ev i=es':=by simpa using O 0 es' BU
   have hbr:bar i=true:=by simpa using hb 0 true BU
   obtain⟨h1,h2⟩:=ih (i+1) (λk hk=>vP) nO (by
    simp only[GU,U,Y,u];rw[←I]) (λk y z=>a0E)
    (λk y z=>Src) (λk y z=>yG)
   refine⟨λj o' Z L q=>?_,h2⟩;by_cases e:i=j
   ·subst e;rw[U]at q;obtain rfl:=Dv q;exact⟨.inl ⟨ns,by rw[Y,u,←I];exact ho,I▸hn,ht,I▸hg⟩,λhf=>by rw[hbr]at hf;cases hf⟩
   exact h1 j o' AL L q
 | @any o rest σ σ' x rs ess bs d hs hd k ih=>
   intro i hl J I M O hb;subst hd;have U:ops[i]? =some o:=ru
   have Y:r i=x:=aBv
   have u:ev i=σ.ents:=aLU
   obtain⟨h1,h2⟩:=ih (i+1) (λk hk=>vP) nO (by
    rw[BP.aqW];simp only[GU,U,Y,u];rw[←I]) (λk y z=>a0E)
    (λk y z=>Src) (λk y z=>yG)
   refine⟨λj o' Z L q=>?_,h2⟩;by_cases e:i=j
   ·subst e;rw[U]at q;obtain rfl:=Dv q;refine⟨?_,λ_=>by rw[u,←I]⟩;rw[Y,u,←I];exact hs.1
   exact h1 j o' AL L q
 | @aqY o rest σ σ' x E br rs ess bs d hs hd k ih=>
   intro i hl J I M O hb;subst hd;have U:ops[i]? =some o:=ru
   have Y:r i=x:=aBv
   have u:ev i=E:=by simpa using O 0 E BU
   have hbr:bar i=br:=by simpa using hb 0 br BU
   obtain⟨h1,h2⟩:=ih (i+1) (λk hk=>vP) nO (by
    simp only[GU,U,Y,u];rw[←I]) (λk y z=>a0E)
    (λk y z=>Src) (λk y z=>yG)
   refine⟨λj o' Z L q=>?_,h2⟩;by_cases e:i=j
   ·subst e;rw[U]at q;obtain rfl:=Dv q;rw[Y,u,hbr,←I];exact hs
   exact h1 j o' AL L q
 | @skip o rest σ σ' rs ess bs d hg hd k ih=>
   intro i hl J I M O hb;subst hd;have U:ops[i]? =some o:=ru
   have Y:r i=.d (.lit undef):=by simpa using M 0 (.d (.lit undef)) BU
   have u:ev i=σ.ents:=aLU
   obtain⟨h1,h2⟩:=ih (i+1) (λk hk=>vP) nO (by
    rw[BP.aqW];simp only[GU,U,Y,u];rw[←I]) (λk y z=>a0E)
    (λk y z=>Src) (λk y z=>yG)
   refine⟨λj o' Z L q=>?_,h2⟩;by_cases e:i=j
   ·subst e;rw[U]at q;obtain rfl:=Dv q;exact⟨.inr ⟨Y,by rw[u,←I],I▸hg⟩,λ_=>by rw[u,←I]⟩
   exact h1 j o' AL L q
theorem FT.facts (h:FT P ops l σ rs ess bs σ')(σ0:BP)(r:Nat->Ah)(ev:Nat->AA Bc)(bar:Nat->AV):∀i,(∀k:Nat,l[k]? =ops[i+k]?)->i+l.length=ops.size->σ=GU ops σ0 r ev i->
 (∀(k:Nat) y,rs[k]? =some y->r (i+k)=y)->(∀(k:Nat) y,ess[k]? =some y->ev (i+k)=y)->(∀(k:Nat) y,bs[k]? =some y->bar (i+k)=y)->
 (∀j (o:Oper),i<=j->ops[j]? =some o->QY P ops (GU ops σ0 r ev j) (r j) (ev j) (bar j) o)/\σ'=GU ops σ0 r ev ops.size:=by
 intro i hl q u z I J;obtain⟨h1,h2⟩:=h.aHy ops.size σ0 r ev bar i (λk _=>hl k) q u z I J
 grind
def a5K {σ0:BP}{r:Nat->Ah}{ev:Nat->AA Bc}{t:Nat}:∀i,(∀j (o:Oper),j<i->ops[j]? =some o->o.dst≠some t)->(GU ops σ0 r ev i).slots.getD t .junk=σ0.slots.getD t .junk
 |0,_=>rfl
 |i+1,h=>by
  have q:=a5K (σ0:=σ0) (r:=r) (ev:=ev) i (λj o J u=>h j o AL u);simp only[GU];split
  ·rename_i o u;have z:=h i o AL u;cases hd:o.dst with
   |none=>exact q
   |some d=>
    have I:d≠t:=λe=>z (by rw[hd,e]);show((GU ops σ0 r ev i).slots.set d (r i)).getD t .junk=_;rw[←q];simp[List.getD,eL I]
  exact q
def oC {σ0:BP}{r:Nat->Ah}{ev:Nat->AA Bc}:∀i,(GU ops σ0 r ev i).slots.length=σ0.slots.length
 |0=>rfl
 |i+1=>by
  simp only[GU];split
  ·rename_i o j;cases hd:o.dst with
   |none=>exact oC i
   |some d=>show((GU ops σ0 r ev i).slots.set d (r i)).length=_;rw[qH];exact oC i
  exact oC i
def aA5 {σ0:BP}{r:Nat->Ah}{ev:Nat->AA Bc}:∀i,(GU ops σ0 r ev i).base=σ0.base
 |0=>rfl
 |i+1=>by
  simp only[GU];split
  ·exact aA5 i
  exact aA5 i
def a5o {σ0:BP}{r:Nat->Ah}{ev:Nat->AA Bc}(q:∀(i j:Nat) (o u:Oper) (d:Tmp),ops[i]? =some o->ops[j]? =some u->o.dst=some d->u.dst=some d->i=j){t j:Nat}{o:Oper}(z:ops[j]? =some o)(hd:o.dst=some t)(O:t<σ0.slots.length):
 ∀i,j<i->(GU ops σ0 r ev i).slots.getD t .junk=r j
 |0,h=>AL
 |i+1,h=>by
  by_cases e:j=i
  ·subst e;simp only[GU,z,hd];have hl:t<(GU ops σ0 r ev j).slots.length:=by rw[oC];exact O
   show((GU ops σ0 r ev j).slots.set t (r j)).getD t .junk=_;simp[List.getD,hl]
  have I:=a5o (r:=r) (ev:=ev) q z hd O i AL;simp only[GU];split
  ·rename_i u J;cases L:u.dst with
   |none=>exact I
   |some d=>
    have M:d≠t:=λe'=>e (q j i o u t z J hd (by rw[L,e']));show((GU ops σ0 r ev i).slots.set d (r i)).getD t .junk=_;rw[←I];simp[List.getD,eL M]
  exact I
theorem aju (h:XF ops=true):∀(i:Nat) (o:Oper),ops[i]? =some o->(∀(j:Nat) (q:Oper) (d:Tmp),ops[j]? =some q->q.dst=some d->d∈tmpsOf o->J4 o j=true\/J4 q i=true)/\(∀j b,o.guard=some (j,b)->J4 o j=true):=by
 intro i o u;unfold XF at h
 grind
def WG (ops:Bg Oper)(bs:AA AV):AV:=(List.range ops.size).all λi=> !(bs.getD i false)||
 (((List.range i).all λj=>(List.range (i+1)).any λm=>j<m&&(match ops[m]? with |some o=>J4 o j|none=>false))&&
  ((List.range ops.size).all λk=> !decide (i<k)||(List.range k).any λm=>i<=m&&(match ops[k]? with |some o=>J4 o m|none=>false)))
def amr (h:WG ops bs=true)(hi:i<ops.size)(L:bs.getD i false=true){D:Nat->Prop}(hd:∀(j:Nat) (o:Oper),ops[j]? =some o->D j->∀m,J4 o m=true->D m)(M:∀(o:Oper),ops[i]? =some o->∀m,J4 o m=true->D m):∀j,j<i->D j:=by
 unfold WG at h;rw[Fq]at h;have h1:=h i Hf;simp only[L,Eh,RJ,ED,Fq]at h1
 have key:∀n j,i-j<=n->j<i->D j:=by
  intro n
  induction n with
  |zero=>intro j h2 h3;omega
  |succ n O=>
   intro j h2 h3;have I:=h1.1 j Yg;rw[KX]at I;obtain⟨m,hm,J⟩:=I;simp only[jU]at hm;simp only[ED,Iu]at J;obtain⟨Y,q⟩:=J;have u:m<ops.size:=AL
   have z:ops[m]? =some ops[m]:=by simp[u]
   rw[z]at q;by_cases e:m=i
   ·subst e;exact M _ z j q
   exact hd m _ z (O m AL AL) j q
 exact λj U=>key (i-j) j (Ec _) U
def Ud (ops:Bg Oper):AV:=(List.range ops.size).all λi=>match ops[i]? with
 |some o=>o.after.toList.all λ(e:Edge)=> !Region.binds .any e||(e.on<i)
 |none=>true
theorem sI (h:Ud ops=true):∀(i:Nat) (o:Oper),ops[i]? =some o->∀e∈o.after.toList,Region.binds .any e=true->e.on<i:=by
 intro i o j e q u;unfold Ud at h
 grind
def Sr (ops:Bg Oper)(bs:AA AV)(sl:AA Nat):AV:=(List.range ops.size).all λi=> !(bs.getD i false)||(!sl.contains i&&
 ((List.range i).all λj=>sl.contains j||(List.range (i+1)).any λm=>(decide (j<m)&& !sl.contains m)&&(match ops[m]? with |some o=>J4 o j|none=>false))&&
  ((List.range ops.size).all λk=> !decide (i<k)||(List.range k).any λm=>i<=m&&(match ops[k]? with |some o=>J4 o m|none=>false)))
theorem aH4 (h:Sr ops bs sl=true)(hi:i<ops.size)(O:bs.getD i false=true){D:Nat->Prop}(hd:∀(j:Nat) (o:Oper),ops[j]? =some o->D j->∀m,J4 o m=true->D m)(U:∀(o:Oper),ops[i]? =some o->∀m,J4 o m=true->D m):∀j,j<i->sl.contains j=false->D j:=by
 unfold Sr at h;rw[Fq]at h;have h1:=h i Hf;simp only[O,Eh,RJ,ED,Fq]at h1
 have key:∀n j,i-j<=n->j<i->sl.contains j=false->D j:=by
  intro n
  induction n with
  |zero=>
   grind
  |succ n Y=>
   intro j h2 h3 q;have L:=h1.1.2 j Yg;rw[q,RJ,KX]at L;obtain⟨m,hm,M⟩:=L;simp only[jU]at hm;simp only[ED,Iu,Vg]at M;obtain⟨⟨h6,u⟩,z⟩:=M;have I:m<ops.size:=AL
   have J:ops[m]? =some ops[m]:=by simp[I]
   rw[J]at z;by_cases e:m=i
   ·subst e;exact U _ J j z
   exact hd m _ J (Y m AL AL u) j z
 exact λj Z hs=>key (i-j) j (Ec _) Z hs
def adQ (h:Sr ops bs sl=true)(hi:i<ops.size)(U:bs.getD i false=true){D:Nat->Prop}(hd:∀(j:Nat) (o:Oper),ops[j]? =some o->D j->∀m,J4 o m=true->D m):
 ∀k,i<k->∀(o:Oper),ops[k]? =some o->(∀m,J4 o m=true->D m)->D i:=by
 unfold Sr at h;rw[Fq]at h;have h1:=h i Hf;simp only[U,Eh,RJ,ED,Fq]at h1;intro k
 induction k using Nat.strongRecOn with
 |_ k Y=>
  intro I o L q;have Z:k<ops.size:=(IJ.1 L).1;have M:=h1.2 k (by simpa using Z);simp only[I,decide_true,Eh,RJ,KX]at M;obtain⟨m,hm,O⟩:=M;simp only[jU]at hm;simp only[ED,Iu,L]at O;obtain⟨h6,h7⟩:=O;have u:=q m h7;by_cases e:m=i
  ·subst e;exact u
  have J:m<ops.size:=AL
  have z:ops[m]? =some ops[m]:=by simp[J]
  exact Y m hm AL _ z (hd m _ z u)
theorem aMt (h:Sr ops bs sl=true)(hi:i<ops.size)(j:bs.getD i false=true):sl.contains i=false:=by
 unfold Sr at h
 grind
def Bh.azm (M:(Ud ops&&X9 ops&&YC ops σ.slots.length&&XF ops)=true)(sl:AA Nat)(O:Sr ops bs sl=true)(h:FT P ops ops.toList σ rs ess bs σ')(hsl:∀i,i∈sl->bs.getD i false=false/\∀m,i<=m->m<=ops.size->∀o,ops[i]? =some o->QY P ops ⟨(GU ops σ (λi=>rs.getD i .junk) (λi=>ess.getD i []) i).slots,(GU ops σ (λi=>rs.getD i .junk) (λi=>ess.getD i []) m).ents,σ.base⟩ (rs.getD i .junk) (GU ops σ (λi=>rs.getD i .junk) (λi=>ess.getD i []) m).ents false o)(ro:AB Nat)(C:Ez)(ok:Nat->Prop)(H:AA CG)(a:Act)(w:BX)(hh:Holds C ok H σ a w)(Q:Exit->Act->BX->Prop)(hQ:∀ok' H' a' w',Holds C ok' H' σ' a' w'->Q .normal a' w'):wpAnyIn (JE ro) 0 P .any ops Q ops.size (Array.replicate ops.size false) a { w with drawn:=w.drawn+1 }:=by
 simp only[ED]at M;obtain⟨⟨⟨he,hd⟩,hs⟩,hc⟩:=M;have az7:=sI he;have hinj:=ajF hd;have M:=aju hc
 have aus:∀(i:Nat) (o:Oper) (d:Tmp),ops[i]? =some o->o.dst=some d->d<σ.slots.length:=by
  intro i o d h1 h2;unfold YC at hs;rw[Fq]at hs;simpa using hs d (aZB h1 h2)
 let r:Nat->Ah:=λi=>rs.getD i .junk
 let ev:Nat->AA Bc:=λi=>ess.getD i []
 let bar:Nat->AV:=λi=>bs.getD i false
 obtain⟨au0,hend⟩:=h.facts σ r ev bar 0 (λk=>BU) BU rfl (λk y hy=>by simp[r,List.getD,hy]) (λk y hy=>by simp[ev,List.getD,hy]) (λk y hy=>by simp[bar,List.getD,hy])
 let U:Nat->BP:=GU ops σ r ev
 have hU:∀i,i<ops.size->(U (i+1)).ents=ev i:=by
  intro i hi;have L:ops[i]? =some ops[i]:=Ur
  show(GU ops σ r ev (i+1)).ents=_;simp only[GU,L];rfl
 have hconst:∀n lo,(∀b,lo<=b->b<lo+n->bar b=false)->lo+n<=ops.size->(U (lo+n)).ents=(U lo).ents:=by
  intro n
  induction n with
  |zero=>intro lo _ _;rfl
  |succ n ih=>
   intro lo z hle;have h1:=ih lo (λb h1 h2=>z b h1 AL) AL;have hi:lo+n<ops.size:=AL
   have L:ops[lo+n]? =some ops[lo+n]:=Ur
   have h2:=(au0 (lo+n) _ AL L).2 (z (lo+n) AL AL);rw[←Tz,hU _ hi,h2];exact h1
 have Y:∀lo hi,lo<=hi->hi<=ops.size->(∀b,lo<=b->b<hi->bar b=false)->(U hi).ents=(U lo).ents:=by
  intro lo hi h1 h2 h3;obtain⟨n,rfl⟩:=Nat.exists_eq_add_of_le h1;exact hconst n lo h3 h2
 let I:Bg AV->Act->BX->Prop:=λl a w=>l.size=ops.size/\∃ok H m,m<=ops.size/\(∀b,bar b=true->b<ops.size->(l.getD b false=true↔b<m))/\Dq C ok H (U m).ents w/\a.tmps.size=σ.slots.length/\Marks C ok w a.defers/\
  (∀t,t<σ.slots.length->(∀(j:Nat) (o:Oper),ops[j]? =some o->o.dst=some t->l.getD j false=false)->R ok w H (σ.slots.getD t .junk) (a.tmps.getD t undef))/\
  (∀(i:Nat) (o:Oper) (d:Tmp),ops[i]? =some o->o.dst=some d->l.getD i false=true->R ok w H (r i) (a.tmps.getD d undef))/\
  (∀(j:Nat) (o:Oper),ops[j]? =some o->l.getD j false=true->∀i,J4 o i=true->l.getD i false=true)
 refine aRD I (λl a w h=>h.1) ?_ ?_ ops.size _ _ _ ?_ ?_
 ·rintro l a w ⟨h1,ok,H,m,au1,J,hmem0,hsz,hdf,h5,h6,h7⟩ i hi;unfold Region.ready at hi;rw[Ji]at hi;obtain⟨hi1,hi2⟩:=hi;have hi':i<ops.size:=by simpa using hi1
  have L:ops[i]? =some ops[i]:=by simp[hi']
  simp only[ED]at hi2;have az8:=hi2.2;rw[L]at az8;simp only[JV,NQ]at az8;have aHz:=λe he=>(WL.1 az8) e he
  have Z:∀j,J4 ops[i] j=true->l.getD j false=true/\j<i:=by
   intro j u;unfold J4 at u;rw[KX]at u;obtain⟨e,hee,u⟩:=u;simp only[ED,Iu]at u;have :=aHz e (by simpa using hee);simp only[u.2,Eh,RJ]at this;rw[u.1]at this;exact⟨this,u.1▸az7 i _ L e hee u.2⟩
  have hself:l.getD i false=false:=by
   have h8:=hi2.1;have hil:i<l.size:=AL
   simp[Array.getD,hil]at h8 ⊢;exact h8
  have aqZ:∀(j:Nat) (o:Oper),ops[j]? =some o->l.getD j false=true->∀m,J4 o m=true->l.getD m false=true:=λj o u hl m hm=>h7 j o u hl m hm
  have hEi:(i<=m->sl.contains i=false)->(U i).ents=(U m).ents:=λhns=>by
   by_cases him:i<=m
   ·refine(Y i m him au1 (λb h2 h3=>?_)).symm;rw[←Zz];intro z;have hbl:=(J b z AL).2 h3;by_cases e:b=i
    ·subst e;rw[hself]at hbl;cases hbl
    have :=aH4 O (show b<ops.size by omega) z (D:=λj=>l.getD j false=true) aqZ (λo L m hm=>aqZ b o L hbl m hm) i AL (hns him);rw[hself]at this;cases this
   refine Y m i AL AL (λb h2 h3=>?_);rw[←Zz];intro z;have :=adQ O (show b<ops.size by omega) z (D:=λj=>l.getD j false=true) aqZ i h3 _ L (λm hm=>(Z m hm).1);exact absurd ((J b z AL).1 this) AL
  obtain⟨E0,E1,hmem,hfact,hE1,hE2⟩:∃E0 E1,Dq C ok H E0 w/\QY P ops ⟨(U i).slots,E0,σ.base⟩ (r i) E1 (bar i) ops[i]/\(bar i=false->E1=(U m).ents)/\(bar i=true->E1=ev i):=by
   by_cases hs:i<=m/\i∈sl
   ·have h9:=hsl i hs.2;refine⟨(U m).ents,(U m).ents,hmem0,?_,λ_=>rfl,λz=>?_⟩
    ·rw[show bar i=false from h9.1];exact h9.2 m hs.1 au1 _ L
    rw[show bar i=false from h9.1]at z;cases z
   have hE:=hEi (λhim=>by
    rw[←Zz]
    intro hc;exact hs ⟨him,by simpa using hc⟩)
   refine⟨(U i).ents,ev i,by rw[hE];exact hmem0,?_,λz=>?_,λ_=>rfl⟩
   ·have hf:=au0 i ops[i] AL L;have hbase:(U i).base=σ.base:=aA5 i;have :U i=⟨(U i).slots,(U i).ents,σ.base⟩:=by rw[←hbase]
    exact this▸hf
   rw[(au0 i _ AL L).2 z];exact hE
  have hread:∀t,t∈tmpsOf ops[i]->R ok w H ((GU ops σ r ev i).slots.getD t .junk) (a.tmps.getD t undef):=by
   intro t ht;by_cases hw:∃(j:Nat) (o:Oper),ops[j]? =some o/\o.dst=some t
   ·obtain⟨j,o,u,q⟩:=hw;rcases(M i _ L).1 j o t u q ht with hce|hce
    ·obtain⟨hdj,hji⟩:=Z j hce;rw[a5o hinj u q (aus j o t u q) i hji];exact h6 j o t u q hdj
    have hij:i<j:=by
     unfold J4 at hce;rw[KX]at hce;obtain⟨e,hee,hce⟩:=hce;simp only[ED,Iu]at hce;exact hce.1▸az7 j _ u e hee hce.2
    rw[a5K i (λj' o' hj' ho' hd'=>by have :=hinj j j' o o' t u ho' q hd';omega)];refine h5 t (aus j o t u q) (λj' o' ho' hd'=>?_);have hjj:=hinj j j' o o' t u ho' q hd';subst hjj;rw[←Zz];intro hd;rw[h7 j o u hd i hce]at hself;cases hself
   have hw':∀(j:Nat) (o:Oper),ops[j]? =some o->o.dst≠some t:=λj o h1 h2=>hw ⟨j,o,h1,h2⟩;rw[a5K i (λj o _ u=>hw' j o u)];by_cases htn:t<σ.slots.length
   ·exact h5 t htn (λj o u q=>absurd q (hw' j o u))
   rw[aR8 htn];exact .junk _
  have aBQ:∀j d v,J4 ops[i] j=true->(ops[j]?).bind (·.dst)=some d->(GU ops σ r ev i).slots.getD d .junk=.d (.lit v)->yielded ops a.tmps j=(match v with | .bool b=>some b|_=>none):=by
   intro j d v u q z;cases hoj:ops[j]? with
   |none=>rw[hoj]at q;simp at q
   |some oj=>
    rw[hoj]at q;simp only[Ac]at q;obtain⟨hdj,hji⟩:=Z j u;have hdn:=aus j oj d hoj q;rw[a5o hinj hoj q hdn i hji]at z;have hv:=(z▸h6 j oj d hoj q hdj).bool
    have hs:a.tmps[d]? =some v:=by
     have :d<a.tmps.size:=by rw[hsz];exact hdn
     simp[Array.getD,this]at hv;simp[this,hv]
    unfold yielded;rw[hoj];simp only[Ac,q,hs];cases v<;>rfl
  have hput:∀(x:Ah) (v:BD) (ok':Nat->Prop) (H':AA CG) (w':BX),x=r i->F9 ok w ok' w'->Names H H'->Dq C ok' H' E1 w'->R ok' w' H' x v->I (l.setIfInBounds i true) (a.put ops[i].dst v) w':=by
   intro x v ok' H' w' hx hgr hnm hmem' hR;subst hx
   have hother:∀(d t:Nat),ops[i].dst=some d->d≠t->(a.put ops[i].dst v).tmps.getD t undef=a.tmps.getD t undef:=by
    intro d t hd hne;rw[hd];exact adG hne
   obtain⟨m',aJb,aF0,aJc⟩:∃m',m'<=ops.size/\(∀b,bar b=true->b<ops.size->((l.setIfInBounds i true).getD b false=true↔b<m'))/\Dq C ok' H' (U m').ents w':=by
    have hget:∀b,b≠i->(l.setIfInBounds i true).getD b false=l.getD b false:=λb z=>by
     simp only[JJ,Uk (Ne.symm z)]
    have aJd:(l.setIfInBounds i true).getD i false=true:=by simp[Array.getD,h1,hi']
    cases hbi:bar i with
    |false=>
     refine⟨m,au1,λb z hbs=>?_,?_⟩
     ·have hne:b≠i:=λe=>by subst e;rw[hbi]at z;cases z
      rw[hget b hne];exact J b z hbs
     rw[←hE1 hbi];exact hmem'
    |true=>
     refine⟨i+1,AL,λb z hbs=>?_,by rw[hU i hi',←hE2 hbi];exact hmem'⟩;by_cases e:b=i
     ·subst e;rw[aJd];simp
     rw[hget b e];constructor
     ·intro hbl;apply aB5;intro hn;have :=aH4 O hbs z (D:=λj=>l.getD j false=true) aqZ (λo L m hm=>aqZ b o L hbl m hm) i AL (aMt O hi' hbi);rw[hself]at this;cases this
     intro hlt;exact aH4 O hi' hbi (D:=λj=>l.getD j false=true) aqZ (λo ho' m hm=>by rw[L]at ho';obtain rfl:=Dv ho';exact(Z m hm).1) b AL (aMt O hbs z)
   refine⟨mD,ok',H',m',aJb,aF0,aJc,by rw[size_put];exact hsz,by rw[amC];exact hdf.mono hgr,?_,?_,?_⟩
   ·intro t ht hno
    have hne:ops[i].dst≠some t:=by
     intro e;have :=hno i _ L e;simp[Array.getD,h1,hi']at this
    have hold:(a.put ops[i].dst v).tmps.getD t undef=a.tmps.getD t undef:=by
     cases hdi:ops[i].dst with
     |none=>rfl
     |some d=>exact hdi▸hother d t hdi (λe=>hne (by rw[hdi,e]))
    rw[hold];refine(h5 t ht (λj o u q=>?_)).mono hgr hnm;have hij:i≠j:=λe=>by subst e;rw[L]at u;obtain rfl:=Dv u;exact hne q
    have :=hno j o u q;simpa only[JJ,Uk hij]using this
   ·intro k o d hk hkd hl;by_cases hik:i=k
    ·subst hik;rw[L]at hk;obtain rfl:=Dv hk;rw[hkd,agF (by rw[hsz];exact aus i _ d L hkd)];exact hR
    have hl':l.getD k false=true:=by
     simp only[JJ,Uk hik]at hl ⊢;exact hl
    have :=(h6 k o d hk hkd hl').mono hgr hnm;cases hdst:ops[i].dst with
    |none=>exact this
    |some d'=>
     have hne:d'≠d:=λe=>hik (hinj i k _ _ d' L hk hdst (e▸hkd));rw[←hdst,hother d' d hdst hne];exact this
   intro j o u hl k hk;have hil:i<l.size:=AL
   by_cases hik:i=k
   ·subst hik;simp[Array.getD,hil]
   have hkk:l.getD k false=true:=by
    by_cases hij:i=j
    ·subst hij;rw[L]at u;obtain rfl:=Dv u;exact(Z k hk).1
    have hl':l.getD j false=true:=by
     simp only[JJ,Uk hij]at hl ⊢;exact hl
    exact h7 j o u hl' k hk
   simp only[JJ,Uk hik]at hkk ⊢;exact hkk
  unfold wpOpIn;rw[L];show if Region.wanted ops[i] (yielded ops a.tmps)=true then _ else _
  rcases hfact.1 with⟨ns,hop,az9,hnt,hg⟩|⟨hx,hev,hg⟩
  ·have hwant:Region.wanted ops[i] (yielded ops a.tmps)=true:=by
    unfold Region.wanted;rcases hg with hg|⟨j,want,d,b,hg,u,z,rfl⟩
    ·rw[hg]
    rw[hg];show(yielded ops a.tmps j==some b)=true;rw[aBQ j d _ ((M i _ L).2 j b hg) u z];simp
   rw[ES hwant];refine aX ?_ (hop.inR ro C ok H a w _ hmem (λn hn=>?_))
   ·rintro a' w' ⟨v,ok',H',rfl,hgr,hnn,hm',hx⟩;exact hput _ v ok' H' w' rfl hgr hnn hm' hx
   have hnv:=Zo az9 n hn;obtain⟨x,y⟩:=n;simp only at hnv ⊢;subst hnv;cases x with
   |tmp t=>
    refine hread t ?_;rw[Fq]at hnt
    have :t∈OG ns:=by
     unfold OG;rw[eA];exact⟨_,hn,rfl⟩
    simpa using hnt t this
   |const v=>exact .d _ _ (.lit v)
   |global g=>exact .d _ _ (.lit _)
   |func f=>exact .d _ _ (.fn (.func f) [] [] #[] #[] rfl rfl (λi hi=>TR) (λi hi=>TR))
  have hwant:Region.wanted ops[i] (yielded ops a.tmps)=false:=by
   unfold Region.wanted;obtain⟨j,want,d,v,hg,u,z,hv⟩:=hg;rw[hg];show(yielded ops a.tmps j==some want)=false;rw[aBQ j d _ ((M i _ L).2 j want hg) u z];rcases hv with rfl|rfl
   ·simp
   rfl
  rw[EZ (by rw[hwant];simp)];exact⟨λ_ _=>trivial,hput _ _ ok H w hx.symm (.refl _ _) (.refl _) (by rw[hev];exact hmem) (.d _ _ (.lit _))⟩
 ·rintro l a w ⟨h1,ok,H,m,au1,J,hmem,hsz,hdf,h5,h6,h7⟩ hr
  have hall:∀n i,i<n->i<ops.size->l.getD i false=true:=by
   intro n
   induction n with
   |zero=>intro i hi;omega
   |succ n ih=>
    intro i hi hi2;by_cases hn:i<n
    ·exact ih i hn hi2
    have hin:i=n:=AL
    subst hin;rw[←Bool.not_eq_false];intro hf;have L:ops[i]? =some ops[i]:=by simp[hi2]
    have hmem:i∈Region.ready .any ops l:=by
     unfold Region.ready;rw[Ji];refine⟨by simpa using hi2,?_⟩;have hil:i<l.size:=AL
     have hf':l.getD i true=false:=aV7
     rw[hf',L];simp only[Ip,GV,JV,NQ];rw[WL];intro e he;cases hbe:Region.binds .any e with
     |false=>simp
     |true=>
      have hlt:=az7 i _ L e (by simpa using he) hbe;rw[ih e.on AL AL];simp
    rw[hr]at hmem;simp at hmem
  refine hQ ok H _ _ ?_;subst hend
  have hE:(U ops.size).ents=(U m).ents:=Y m ops.size au1 (Ec _) (λb h2 h3=>by
   rw[←Zz];intro z
   exact absurd ((J b z h3).1 (hall (b+1) b AL h3)) AL)
  refine⟨by show Dq C ok H (U ops.size).ents w;rw[hE];exact hmem,by rw[oC];exact hsz,hdf,by rw[aA5];exact hh.base,λt ht=>?_⟩;rw[oC]at ht;by_cases hw:∃(j:Nat) (o:Oper),ops[j]? =some o/\o.dst=some t
  ·obtain⟨j,o,u,q⟩:=hw;have hjn:j<ops.size:=(IJ.1 u).1;rw[a5o hinj u q ht ops.size hjn];exact h6 j o t u q (hall (j+1) j AL hjn)
  have hw':∀(j:Nat) (o:Oper),ops[j]? =some o->o.dst≠some t:=λj o h1 h2=>hw ⟨j,o,h1,h2⟩;rw[a5K ops.size (λj o _ u=>hw' j o u)];exact h5 t ht (λj o u q=>absurd q (hw' j o u))
 ·unfold toCome;simp
 refine⟨BU,ok,H,0,Ef _,λb z _=>by simp[Array.getD],?_,hh.size,hh.defers.mono (λb z=>⟨z,rfl⟩),λt ht _=>?_,λi o d _ _ hl=>?_,λj o _ hl=>?_⟩
 ·exact⟨⟨hh.mem.fr.os,hh.mem.fr.tape,hh.mem.fr.output,hh.mem.fr.size,hh.mem.fr.block⟩,hh.mem.CU,hh.mem.CV,hh.mem.lg,hh.mem.names,hh.mem.hlen,λk e h h1 h2=>(hh.mem.ent k e h h1 h2).drew,hh.mem.blk,hh.mem.Jy⟩
 ·exact R.mono (w:=w) (ok:=ok) (w':={ w with drawn:=w.drawn+1 }) (λb z=>⟨z,rfl⟩) (.refl _) (hh.slot t ht)
 ·simp[Array.getD]at hl
 simp[Array.getD]at hl
def Bh.aAa {id:Nat}{Q:Exit->BP->Prop}(hm:P.follows .mixedOrders=true)(j:(Ud ops&&X9 ops&&YC ops σ.slots.length&&XF ops)=true)(sl:AA Nat)(q:Sr ops bs sl=true)(h:FT P ops ops.toList σ rs ess bs σ')(hsl:∀i,i∈sl->bs.getD i false=false/\∀m,i<=m->m<=ops.size->∀o,ops[i]? =some o->QY P ops ⟨(GU ops σ (λi=>rs.getD i .junk) (λi=>ess.getD i []) i).slots,(GU ops σ (λi=>rs.getD i .junk) (λi=>ess.getD i []) m).ents,σ.base⟩ (rs.getD i .junk) (GU ops σ (λi=>rs.getD i .junk) (λi=>ess.getD i []) m).ents false o)(u:Q .normal σ'):Bh P (.region id ops true) σ Q:=
 ⟨λro _ C ok H a w z=>wpIn_region_any hm (Bh.azm j sl q h hsl ro C ok H a w z _ λok' H' _ _ h=>⟨ok',H',σ',h,u⟩)⟩
def aN8 (h:WG ops bs=true):Sr ops bs []=true:=by
 unfold Sr;unfold WG at h;simpa using h
def Bh.draw {id:Nat}{σ σ':BP}{Q:Exit->BP->Prop}{rs:AA Ah}{ess:AA (AA Bc)}{bs:AA AV}(hm:P.follows .mixedOrders=true)(j:(Ud ops&&X9 ops&&YC ops σ.slots.length&&XF ops)=true)(q:WG ops bs=true)(h:FT P ops ops.toList σ rs ess bs σ')(u:Q .normal σ'):Bh P (.region id ops true) σ Q:=
 Bh.aAa hm j [] (aN8 q) h (λ_ hi=>absurd hi Gh) u
def DU:=@Bh.draw
end
def EW (P:Ch)(f:FuncId)(args:AA Ah)(E:AA Bc)(q:Ah)(E':AA Bc):Prop:=
 ∀(ok:Nat->Prop) (X:AA Nat) (H:AA CG) (w:BX) (j:Bg BD),Dq ⟨w,ok,X,H⟩ ok H E w->j.size=args.length->(∀i,i<args.length->R ok w H (args.getD i .junk) (j.getD i undef))->
  Calls P f j w λe w'=>∃v ok' H',e=.returned v/\Dq ⟨w,ok,X,H⟩ ok' H' E' w'/\R ok' w' H' q v
def Holds.azn (h:Holds C ok H σ a w)(t:Nat):R ok w H (σ.slots.getD t .junk) (a.tmps.getD t undef):=h.get (.tmp t)
def BP.enter (args:AA Ah)(n:Nat)(E:AA Bc):BP:=⟨args++List.replicate (n-args.length) .junk,E,E.length⟩
def R.lit (h:R ok w H (.d (.lit u)) v):v=u:=by
 cases h with |d _ _ h=>cases h;rfl
structure Eb (P:Program) (t:TypeId) (agg:Bool) (size:Nat):Prop where
 agg:∀w,(isAgg t).run P w=.ok agg w
 size:∀w,(sizeOf t).run P w=.ok size w
def aDh (P:Ch)(t:Bq)(agg:AV)(size:Nat):AV:=
 (match P.underlying t with |some (.struct _)|some (.array _ _)=>agg|some _=> !agg|none=>false)&&(match P.info? t with |some i=>i.size=size|none=>false)
variable {agg:AV}{t:Bq}
theorem FW (h:aDh P t agg size=true):Eb P t agg size:=by
 unfold aDh at h;simp only[ED]at h;refine⟨λw=>?_,λw=>?_⟩
 ·have h1:=h.1;cases j:P.underlying t with
  |none=>
   grind
  |some d=>
   rw[j]at h1;have e:(underlying t).run P w=.ok d w:=aEI
   simp only[isAgg,Fg,e,Fv];cases d<;>cases agg<;>simp_all
 have h2:=h.2;cases hi:P.info? t with
 |none=>
  grind
 |some i=>
  rw[hi]at h2;have :i.size=size:=LM
  simp[sizeOf,typeInfo,hi,this]
variable {α:Type}{b f off:Nat}{c x y:Bz}{cs:AA Ah}{e' t':Bq}{i:Int}{kd:IntKind}{r v:BD}{s:BL}{xs:AA D}{p:α->Prop}
def L9 {a:α}(h:∀n∈[a],p n):p a:=h a BU
def FC {a b:α}(h:∀n∈[a,b],p n):p a/\p b:=⟨h a BU,h b BU⟩
def an6 {v:Ah}(j:o.op=.move x:=by exact rfl):CB P o [(x,v)] es v es:=
 .pure λ_ _ a _ _ _ q=>⟨a.eval x,by simp[execOp,j],q (x,v) BU⟩
def afa {v:Ah}(j:o.op=.assign x:=by exact rfl):CB P o [(x,v)] es v es:=
 .pure λ_ _ a _ _ _ q=>⟨a.eval x,by simp[execOp,j],q (x,v) BU⟩
def aaT {v:Ah}(b:AV)(q:b=true)(u:o.op=.pick c x y:=by exact rfl):CB P o [(c,.d (.lit (.bool b))),(x,v)] es v es:=
 .pure λ_ _ a _ _ _ j=>⟨a.eval x,by
  have :=(FC j).1.lit;simp only at this
  simp[execOp,u,this,asBool,q],(FC j).2⟩
def ama {v:Ah}(b:AV)(q:b=false)(u:o.op=.pick c x y:=by exact rfl):CB P o [(c,.d (.lit (.bool b))),(y,v)] es v es:=
 .pure λ_ _ a _ _ _ j=>⟨a.eval y,by
  have :=(FC j).1.lit;simp only at this
  simp[execOp,u,this,asBool,q],(FC j).2⟩
def Iy {op:BinOp}(q:o.op=.binOp op t x y t')(h:∀w,(binOp op t u v).run P w=.ok r w)(z:u.oneCell'=true/\u matches .int _ _| .string _| .bool _):
 CB P o [(x,.d (.lit u)),(y,.d (.lit v))] es (.d (.lit r)) es:=
 .pure λ_ _ a w _ _ j=>⟨r,by
  have h1:=(FC j).1.lit;have h2:=(FC j).2.lit;simp only at h1 h2
  have I:(eqGuard op t x y u v).run P w=.ok () w:=by
   unfold eqGuard;cases u<;>simp at z<;>(cases op<;>simp[pure,Sem.run_pure'])
  simp only[execOp,q,h1,h2,Fg,I,h w,Fv,Gl],.d _ _ (.lit _)⟩
def aFQ {op:UnOp}(j:o.op=.unOp op t x)(h:∀w,(Op.unary op u).run P w=.ok r w):CB P o [(x,.d (.lit u))] es (.d (.lit r)) es:=
 .pure λ_ _ a w _ _ q=>⟨r,by
  have h1:=(L9 q).lit;simp only at h1
  simp only[execOp,j,h1,Fg,h w,Fv,Gl],.d _ _ (.lit _)⟩
def aSK {s:Bq}(j:o.op=.convert s t x)(h:∀w,(convert s t u).run P w=.ok r w):CB P o [(x,.d (.lit u))] es (.d (.lit r)) es:=
 .pure λ_ _ a w _ _ q=>⟨r,by
  have h1:=(L9 q).lit;simp only at h1
  simp only[execOp,j,h1,Fg,h w,Fv,Gl],.d _ _ (.lit _)⟩
def aa3 {i:Nat}{xs:AA Ah}{v:Ah}(z:o.op=.extract x i)(I:xs[i]? =some v):CB P o [(x,.eG xs)] es v es:=
 .pure λok H a w _ _ J=>by
  have h1:=L9 J;simp only at h1;generalize L:a.eval x=u at h1;cases h1 with
  |eG _ vs hl h=>
   obtain⟨hi,q⟩:=Gs.1 I;have h2:=h i hi;have M:xs.getD i .junk=v:=by simp[List.getD,hi,q]
   have j:i<vs.size:=AL
   have O:vs.getD i undef=vs[i]:=by simp[Array.getD,j]
   rw[M,O]at h2;exact⟨vs[i],by simp[execOp,z,L,Instr.extract,j],h2⟩
def aPY (I:P.underlying t=some (.slice e))(j:o.op=.call { callee:=.builtin .len,args:= #[x],argTypes:= #[t] }:=by exact rfl):
 CB P o [(x,.d (.sl xs))] es (.d (.lit (.int .i64 xs.length))) es:=
 .pure λok H a w _ _ J=>by
  have h1:=L9 J;simp only at h1;generalize q:a.eval x=u at h1;have z:(underlying t).run P w=.ok (.slice e) w:=by simp[underlying,I]
  refine⟨_,?_,.d _ _ (.lit _)⟩;cases h1 with
  |d _ _ h=>
   cases h with
   |sl0 ad cap=>simp[execOp,j,resolve,invoke,builtin,Builtin.len_,q,z,goInt]
   |sl _ b off cap size=>simp[execOp,j,resolve,invoke,builtin,Builtin.len_,q,z,goInt]
def amA (j:P.underlying t=some .string)(q:o.op=.call { callee:=.builtin .len,args:= #[x],argTypes:= #[t] }:=by exact rfl):
 CB P o [(x,.d (.lit (.string s)))] es (.d (.lit (.int .i64 s.size))) es:=
 .pure λok H a w _ _ u=>by
  have h1:=(L9 u).lit;simp only at h1;have z:(underlying t).run P w=.ok .string w:=aEI
  exact⟨_,by simp[execOp,q,resolve,invoke,builtin,Builtin.len_,h1,z,goInt],.d _ _ (.lit _)⟩
def Gp {es:AA Bc}(u:∀(k:Nat) (e:Bc) (h:CG),es[k]? =some e->H[k]? =some h->FQ ok w H h e)(hl:H.length=es.length){e:Bc}(q:es[k]? =some e):
 ∃h,H[k]? =some h/\FQ ok w H h e:=by
 have j:k<H.length:=by rw[hl];exact(Gs.1 q).1
 exact⟨H[k],by simp[j],u k e _ q (by simp[j])⟩
theorem ahm {s:Nat}(J:es[k]? =some (.arr e' s xs))(L:P.underlying t=some (.slice e))(M:o.op=.call { callee:=.builtin .len,args:= #[x],argTypes:= #[t] }:=by exact rfl):
 CB P o [(x,.aQ k)] es (.d (.lit (.int .i64 xs.length))) es:=
 .pure λok H a w j hl O=>by
  have h1:=L9 O;simp only at h1;generalize U:a.eval x=u at h1;have Y:(underlying t).run P w=.ok (.slice e) w:=by simp[underlying,L]
  obtain⟨h,Z,q⟩:=Gp j hl J;refine⟨_,?_,.d _ _ (.lit _)⟩;cases h1 with
  |aQ _ ad n cap s' I=>
   rw[Z]at I;obtain rfl:=Dv I;obtain⟨_,_,ys,⟨_,ho2⟩,_⟩:=q
   have z:n=xs.length:=by
    grind
   subst z;simp[execOp,M,resolve,invoke,builtin,Builtin.len_,U,Y,goInt]
structure E9 (P:Program) (t:TypeId) (f off:Nat):Prop where
 run:∀(b o:Nat) w,(Instr.fieldAt t (.pointer (some ⟨b,o,none⟩)) f).run P w=.ok (.pointer (some ⟨b,o+off,none⟩)) w
def aTn (P:Ch)(t:Bq)(f off:Nat):AV:=
 match P.underlying t with
 |some (.struct q)=>match q[f]? with
  |some j=>j.offset=off&&(match P.info? j.type with |some i=>i.size≠0|none=>false)
  |none=>false
 |_=>false
def EH {P:Ch}(h:aTn P t f off=true):E9 P t f off:=by
 unfold aTn at h;refine⟨λb o w=>?_⟩;split at h
 ·rename_i q u;split at h
  ·rename_i z I;simp only[ED,Iu]at h;obtain⟨h1,h2⟩:=h;split at h2
   ·rename_i i hi;have hs:(sizeOf z.type).run P w=.ok i.size w:=by simp[sizeOf,typeInfo,hi]
    have h3:i.size≠0:=LM
    have j:(underlying t).run P w=.ok (.struct q) w:=by simp[underlying,u]
    simp[Instr.fieldAt,j,I,Instr.sureAddr,fieldPlace,hs,h3,addr_add,h1]
   cases h2
  cases h
 cases h
def akJ {cs:AA D}(I:E9 P t f off)(J:o.op=.fieldAddr t x f:=by exact rfl):CB P o [(x,.d (.ref cs j))] es (.d (.ref cs (j+off))) es:=
 .pure λok H a w _ _ L=>by
  have h1:=L9 L;simp only at h1;generalize M:a.eval x=u at h1;cases h1 with
  |d _ _ h=>
   cases h with
   |ref _ _ b p q z O U=>
    refine⟨.pointer (some ⟨b,p+(j+off),none⟩),?_,.d _ _ (.ref cs (j+off) b p q z O U)⟩;simp only[execOp,J,M,Fg,I.run,Fv,Gl,Tz]
def acW (q:E9 P t f off)(z:o.op=.fieldAddr t x f:=by exact rfl):CB P o [(x,.ptr k j)] es (.ptr k (j+off)) es:=
 .pure λok H a w _ _ I=>by
  have h1:=L9 I;simp only at h1;generalize J:a.eval x=u at h1;cases h1 with
  |ptr _ _ b s h=>
   refine⟨.pointer (some ⟨b,j+off,none⟩),?_,.ptr _ _ b s h⟩;simp only[execOp,z,J,Fg,q.run,Fv,Gl]
def akY {i:Nat}(q:E9 P t f off)(z:o.op=.fieldAddr t x f:=by exact rfl):CB P o [(x,.lN k i j)] es (.lN k i (j+off)) es:=
 .pure λok H a w _ _ I=>by
  have h1:=L9 I;simp only at h1;generalize J:a.eval x=u at h1;cases h1 with
  |lN _ _ _ b n cap s h=>
   refine⟨.pointer (some ⟨b,i*s+(j+off),none⟩),?_,.lN _ _ _ b n cap s h⟩;simp only[execOp,z,J,Fg,q.run,Fv,Gl,Tz]
def zA {k:IntKind}{el:D}(Z:P.underlying t=some (.slice e))(hT:Eb P e agg size)(h0:0<=i)(hi:xs[i.toNat]? =some el)(hs:el.cells.length=size)(ho:o.op=.indexAddr t x y:=by exact rfl):CB P o [(x,.d (.sl xs)),(y,.d (.lit (.int k i)))] es (.d (.ref el.cells 0)) es:=
 .pure λok H a w _ _ U=>by
  have h1:=(FC U).1;have h2:=(FC U).2.lit;simp only at h1 h2;generalize he:a.eval x=u at h1;have hu:(underlying t).run P w=.ok (.slice e) w:=by simp[underlying,Z]
  obtain⟨z,J⟩:=Gs.1 hi;cases h1 with
  |d _ _ h=>
   cases h with
   |sl0 ad cap=>simp at z
   |sl _ b off cap q Y L M hf hx hc=>
    have hd:xs.getD i.toNat EJ=el:=by simp[List.getD,z,J]
    have O:q=size:=by rw[←M _ z,hd,hs]
    subst O;refine⟨.pointer (some ⟨b,off+i.toNat*q+0,none⟩),?_,.d _ _ (.ref el.cells 0 b (off+i.toNat*q) (λh=>L AL (by rw[hs]at h;exact h)) ?_ ?_ ?_)⟩
    ·have hlen:0<=i/\i<(xs.length:Int):=⟨h0,AL⟩
     simp only[execOp,ho,he,h2,Instr.indexAt,asIntOf,Fg,Gl,hu,Fv,Sem.run_ite,hlen,and_self,JK,hT.size,addr_add,PK]
    ·intro j I;rw[hs]at I;rw[←hd];exact hf _ z j I
    ·intro j I;rw[hs]at I;rw[Tz];exact hx _ z j I
    intro j I;rw[hs]at I;rw[Tz,←hd];exact hc _ z j I
def ai5 (U:es[k]? =some (.arr e' size xs))(Y:P.underlying t=some (.slice e))(Z:Eb P e agg size)(h0:0<=i)(hi:i.toNat<xs.length)(ho:o.op=.indexAddr t x y:=by exact rfl):CB P o [(x,.aQ k),(y,.d (.lit (.int kd i)))] es (.lN k i.toNat 0) es:=
 .pure λok H a w q hl J=>by
  have h1:=(FC J).1;have h2:=(FC J).2.lit;simp only at h1 h2;generalize he:a.eval x=u at h1;have hu:(underlying t).run P w=.ok (.slice e) w:=by simp[underlying,Y]
  obtain⟨h,L,z⟩:=Gp q hl U;cases h1 with
  |aQ _ ad n cap s' M=>
   rw[L]at M;obtain rfl:=Dv M;obtain⟨hs,_,ys,⟨_,I⟩,_⟩:=z;simp only at hs;subst hs;rcases I with⟨j,h3⟩|⟨g,O,cur,j,_⟩
   ·omega
   simp only[oN]at j;obtain⟨rfl,rfl,rfl⟩:=j;refine⟨.pointer (some ⟨g,i.toNat*s'+0,none⟩),?_,.lN _ _ _ _ _ _ _ L⟩;have hlen:0<=i/\i<(xs.length:Int):=⟨h0,AL⟩
   simp only[execOp,ho,he,h2,Instr.indexAt,asIntOf,Fg,Gl,hu,Fv,Sem.run_ite,hlen,and_self,JK,Z.size,addr_add,Js,PK]
def aeQ {k:IntKind}{c:UInt8}(q:P.underlying t=some .string)(u:0<=i)(hi:s[i.toNat]? =some c)(z:o.op=.index t x y:=by exact rfl):
 CB P o [(x,.d (.lit (.string s))),(y,.d (.lit (.int k i)))] es (.d (.lit (.int .u8 c.toNat))) es:=
 .pure λok H a w _ _ j=>by
  have h1:=(FC j).1.lit;have h2:=(FC j).2.lit;simp only at h1 h2;have I:(underlying t).run P w=.ok .string w:=aJt
  exact⟨_,by simp only[execOp,z,h1,h2,Instr.index,asIntOf,Fg,Gl,I,Fv,u,JK,hi],.d _ _ (.lit _)⟩
def JD (l:AA Ah):AA D:=l.map λ| .d x=>x|_=>EJ
def Ah.C9:Ah->AV
 | .d _=>true
 |_=>false
def R.toD {x:Ah}(h:R ok w H x v)(hd:x.C9=true):EF ok w ((λ| .d x=>x|_=>EJ) x) v:=by
 cases h with
 |d _ _ h=>exact h
 |_=>simp[Ah.C9]at hd
def Q7 (agg:AV)(cs:AA D)(off n:Nat):D:=if agg then .agg ((cs.drop off).take n)else cs.getD off EJ
theorem a6Z {P:Ch}{p:Nat}{cs:AA D}(M:Eb P t agg n)(hn:off+n<=cs.length)(h1:agg=false->n=1)(U:∀i,i<cs.length->(cs.getD i EJ).leaf=true)(Y:∀j,j<cs.length->(w.cell? ⟨b,p+j,none⟩).isSome=true)(O:∀j,j<cs.length->EF ok w (cs.getD j EJ) (cellAt w b (p+j))):
 ∃v,(Instr.loadAt t (.pointer (some ⟨b,p+off,none⟩))).run P w=.ok v w/\EF ok w (Q7 agg cs off n) v:=by
 have q:∀j,j<cs.length->w.cell? ⟨b,p+j,none⟩=some (cellAt w b (p+j)):=by
  intro j I;have :=Y j I;obtain⟨u,Z⟩:=Qi.1 this;simp[cellAt,Z]
 cases agg with
 |false=>
  have :=h1 rfl;subst this;refine⟨cellAt w b (p+off),?_,O off AL⟩;have L:=q off AL;simp[Instr.loadAt,Instr.sureAddr,loadVar,M.agg,L]
 |true=>
  let vs:Bg BD:=((List.range n).map λj=>cellAt w b (p+(off+j))).toArray
  have z:vs.size=n:=by simp[vs]
  have J:∀j,j<n->vs.getD j undef=cellAt w b (p+(off+j)):=by
   intro j I;simp[vs,Array.getD,I]
  refine⟨.agg vs,?_,?_⟩
  ·simp only[Instr.loadAt,Instr.sureAddr,Fg,Gl,Fv]
   have h:=adt (P:=P) w t b (p+off) vs (M.agg w) (by rw[z];exact M.size w) (λj I=>by
    rw[z]at I;rw[J j I,Tz]
    exact q (off+j) AL)
   exact h
  simp only[Q7,JK];have hlen:((cs.drop off).take n).length=n:=EY
  have L:∀i,i<n->((cs.drop off).take n).getD i EJ=cs.getD (off+i) EJ:=by
   grind
  refine .agg _ vs (by rw[hlen,z]) (λi hi=>?_) (λi hi=>?_)
  ·rw[hlen]at hi;rw[L i hi];exact U _ AL
  rw[hlen]at hi;rw[L i hi,J i hi];exact O _ AL
def ahd {cs:AA D}(z:Eb P t agg n)(I:off+n<=cs.length)(h1:agg=false->n=1)(J:o.op=.load t x:=by exact rfl):
 CB P o [(x,.d (.ref cs off))] es (.d (Q7 agg cs off n)) es:=
 .pure λok H a w _ _ q=>by
  have j:=L9 q;simp only at j;generalize L:a.eval x=u at j;cases j with
  |d _ _ h=>
   cases h with
   |ref _ _ b p M O U Y=>
    obtain⟨v,Z,hd⟩:=a6Z z I h1 O U Y;exact⟨v,by simp only[execOp,J,L,Fg,Z,Fv,Gl],.d _ _ hd⟩
def yQ (l:AA Ah):(JD l).length=l.length:=by simp[JD]
def aST {l:AA Ah}{i:Nat}(h:i<l.length):(JD l).getD i EJ=(λ| .d x=>x|_=>EJ) (l.getD i .junk):=by
 simp[JD,List.getD,h]
def aLj (O:FQ ok w H h (.box cs))(hd:cs.all Ah.C9=true):
 ∃b,h.v=.pointer (some ⟨b,0,none⟩)/\(∀i,i<(JD cs).length->((JD cs).getD i EJ).leaf=true)/\(∀j,j<(JD cs).length->(w.cell? ⟨b,0+j,none⟩).isSome=true)/\(∀j,j<(JD cs).length->EF ok w ((JD cs).getD j EJ) (cellAt w b (0+j))):=by
 obtain⟨b,vs,T,h1,h2,h3,I⟩:=O;rw[Fq]at hd
 have q:∀j,j<cs.length->w.cell? ⟨b,0+j,none⟩=some (vs.toList.getD j undef):=by
  intro j u;rw[Js];have z:j<vs.size:=by simpa using(by omega:j<vs.toList.length)
  simp[World.cell?,h2,z,List.getD]
 refine⟨b,h1,λi hi=>?_,λj u=>?_,λj u=>?_⟩
 ·rw[yQ]at hi;rw[aST hi];have J:=(I i hi).1;have L:=hd (cs.getD i .junk) NY;cases M:cs.getD i .junk with
  |d x=>rw[M]at J;exact J
  |_=>rw[M]at L;simp[Ah.C9]at L
 ·rw[yQ]at u;rw[q j u];rfl
 rw[yQ]at u;rw[aST u];unfold cellAt;rw[q j u];exact(I j u).2.toD (hd (cs.getD j .junk) aLC)
def amY (O:es[k]? =some (.box cs))(hd:cs.all Ah.C9=true)(U:Eb P t agg n)(Y:off+n<=cs.length)(h1:agg=false->n=1)(Z:o.op=.load t x:=by exact rfl):
 CB P o [(x,.ptr k off)] es (.d (Q7 agg (JD cs) off n)) es:=
 .pure λok H a w q hl z=>by
  have j:=L9 z;simp only at j;generalize he:a.eval x=u at j;obtain⟨h,hh,I⟩:=Gp q hl O;obtain⟨b,J,hf,hx,hc⟩:=aLj I hd;cases j with
  |ptr _ _ b' s L=>
   rw[hh]at L;obtain rfl:=Dv L;simp at J;subst J;obtain⟨v,M,hD⟩:=a6Z U (by rw[yQ];exact Y) h1 hf hx hc;rw[Js]at M;exact⟨v,by simp only[execOp,Z,he,Fg,M,Fv,Gl],.d _ _ hD⟩
def aTT {v:Ah}(Y:es[k]? =some (.box cs))(Z:cs[off]? =some v)(hT:Eb P t false 1)(ho:o.op=.load t x:=by exact rfl):CB P o [(x,.ptr k off)] es v es:=
 .pure λok H a w z hl J=>by
  have q:=L9 J;simp only at q;generalize he:a.eval x=u at q;obtain⟨h,hh,b,vs,T,M,h2,h3,h4⟩:=Gp z hl Y;cases q with
  |ptr _ _ b' s O=>
   rw[hh]at O;obtain rfl:=Dv O;simp at M;subst M;obtain⟨I,L⟩:=Gs.1 Z;have U:=(h4 off I).2;have e1:cs.getD off .junk=v:=by simp[List.getD,I,L]
   have j:off<vs.size:=by simpa using(by omega:off<vs.toList.length)
   have e2:vs.toList.getD off undef=vs[off]:=wI
   rw[e1,e2]at U;refine⟨vs[off],?_,U⟩;have hc:w.cell? ⟨b',off,none⟩=some vs[off]:=by simp[World.cell?,h2,j]
   simp[execOp,ho,he,Instr.loadAt,Instr.sureAddr,loadVar,hT.agg,hc]
variable {H':AA CG}
def Dq.change (hm:Dq C ok H es w)(B:Nat->Prop)(hos:w'.os=w.os)(M:w'.tape=w.tape)(hout:w'.output=w.output)(q:w.heap.size<=w'.heap.size)(J:∀b,b<w.heap.size->¬B b->w'.heap[b]? =w.heap[b]?)(hB:∀b,B b->b<w.heap.size->¬ok b/\(C.w0.heap.size<=b\/b∈C.X))(hok:∀b,ok b->ok' b)(L:∀b,ok' b->ok b\/(w.heap.size<=b/\b<w'.heap.size))(z:Names H H')(hlen:H'.length=es'.length)(I:∀(k:Nat) (e:Bc) (h:CG),es'[k]? =some e->H'[k]? =some h->
  (es[k]? =some e/\H[k]? =some h/\(e.live=true->∀b,E5 h.v=some b->¬B b))\/
  (FQ ok' w' H' h e/\(e.live=true->∀b,E5 h.v=some b->¬ok' b/\b<w'.heap.size/\(C.w0.heap.size<=b\/b∈C.X)/\
   ∀(k':Nat) (e':Bc) (h':CG),k'≠k->es'[k']? =some e'->e'.live=true->H'[k']? =some h'->E5 h'.v≠some b))):
 Dq C ok' H' es' w'/\F9 ok w ok' w':=by
 have hg:F9 ok w ok' w':=λb j=>⟨hok b j,J b (hm.lg b j) (λu=>(hB b u (hm.lg b j)).1 j)⟩
 refine⟨⟨⟨hos.trans hm.fr.os,M.trans hm.fr.tape,hout.trans hm.fr.output,EK hm.fr.size q,λk hk hx=>?_⟩,λb j=>hok b (hm.CU b j),?_,?_,hm.names.trans z,hlen,?_,?_,?_⟩,hg⟩
 ·have hkw:k<w.heap.size:=Wn hk hm.fr.size;rw[J k hkw (λj=>(hB k j hkw).2.elim (λh=>AL) hx)];exact hm.fr.block k hk hx
 ·intro b j;rcases L b j with h|⟨h,_⟩
  ·exact hm.CV b h
  exact .inr (.inl (EK hm.fr.size h))
 ·intro b j;rcases L b j with h|⟨_,h⟩
  ·exact Wn (hm.lg b h) q
  exact h
 ·intro k e h Z hh;rcases I k e h Z hh with⟨h1,h2,h3⟩|⟨h1,_⟩
  ·exact(hm.ent k e h h1 h2).mono hg z (λhl b j=>J b (hm.blk k e h b h1 hl h2 j).2.1 (h3 hl b j))
  exact h1
 ·intro k e h b Z hl hh j;rcases I k e h Z hh with⟨h1,h2,h3⟩|⟨_,h1⟩
  ·have :=hm.blk k e h b h1 hl h2 j;refine⟨λu=>?_,Wn this.2.1 q,this.2.2⟩;rcases L b u with h4|⟨h4,_⟩
   ·exact this.1 h4
   omega
  exact⟨(h1 hl b j).1,(h1 hl b j).2.1,(h1 hl b j).2.2.1⟩
 intro k k' e e' h h' b Z he' hl O hh hh' j u;apply aB5;intro U;rcases I k e h Z hh with⟨h1,h2,h3⟩|⟨_,h1⟩
 ·rcases I k' e' h' he' hh' with⟨Y,h2',h3'⟩|⟨_,Y⟩
  ·exact U (hm.Jy k k' e e' h h' b h1 Y hl O h2 h2' j u)
  exact(Y O b u).2.2.2 k e h U Z hl hh j
 exact(h1 hl b j).2.2.2 k' e' h' (λe=>U e.symm) he' O hh' u
variable {l:AA α}
def aAo {i:Nat}{z:α}(h:i<l.length):l.getD i z=l[i]:=by simp[List.getD,h]
theorem Xl {a x:α}(h:(l++[a])[k]? =some x):l[k]? =some x\/(k=l.length/\x=a):=by
 grind
theorem Dq.push (hm:Dq C ok H es w)(o:Obj)(h:CG)(e:Bc)(z:∀b,E5 h.v=some b->b=w.heap.size)(Z:FQ ok (w.alloc o) (H++[h]) h e):Dq C ok (H++[h]) (es++[e]) (w.alloc o)/\F9 ok w ok (w.alloc o):=by
 refine hm.change (λ_=>False) rfl rfl rfl BU (λb z _=>KD _ _ _ z) (λ_ h=>h.elim) (λ_ h=>h) (λ_ h=>.inl h) (Gy _ _) bP ?_;intro k e' h' I q;rcases Xl I with h1|⟨h1,h2⟩
 ·left;refine⟨h1,?_,λ_ _ _ h=>h⟩;have Y:k<H.length:=aHf
  grind
 subst h2;have Y:k=H.length:=aIY
 subst Y;simp at q;subst q;refine .inr ⟨Z,λ_ b J=>?_⟩;obtain rfl:=z b J;refine⟨λh3=>absurd (hm.lg _ h3) AL,BU,.inl hm.fr.size,λk' L M hne O hl j u=>?_⟩;rcases Xl O with h3|⟨h3,_⟩
 ·have U:k'<H.length:=by rw[hm.hlen];exact(Gs.1 h3).1
  rw[JR U]at j;exact absurd (hm.blk k' L M _ h3 hl j u).2.1 AL
 grind
theorem Dq.fresh (hm:Dq C ok H es w)(o:Obj):
 Dq C (λb=>ok b\/b=w.heap.size) H es (w.alloc o)/\F9 ok w (λb=>ok b\/b=w.heap.size) (w.alloc o):=by
 refine hm.change (λ_=>False) rfl rfl rfl BU (λb j _=>KD _ _ _ j) (λ_ h=>h.elim) (λ_ h=>.inl h) (λb h=>?_) (.refl _) hm.hlen ?_
 ·rcases h with h|rfl
  ·exact .inl h
  exact .inr ⟨Ec _,BU⟩
 grind
def Dq.drew (hm:Dq C ok H es w):Dq C ok H es w.drew/\F9 ok w ok w.drew:=
 hm.change (λ_=>False) rfl rfl rfl (Ec _) (λ_ _ _=>rfl) (λ_ h=>h.elim) (λ_ h=>h) (λ_ h=>.inl h) (.refl _) hm.hlen λ_ _ _ j q=>.inl ⟨j,q,λ_ _ _ h=>h⟩
def FQ.dead:FQ ok w H h .dead:=trivial
def R.al1 {x:Ah}(h:R ok w H x v)(hl:x.cells.all Ah.leaf=true):Gf ok w H x.cells v.cells.toList:=by
 rw[Fq]at hl;cases h with
 |d x v h=>
  cases h with
  |agg cs vs hs z J=>
   refine⟨by simp[Ah.cells,D.cells,Value.cells,hs],λi hi=>?_⟩;simp only[Ah.cells,D.cells,Di]at hi;have L:(Ah.cells (.d (.agg cs))).getD i .junk=.d (cs.getD i EJ):=by simp[Ah.cells,D.cells,List.getD,hi]
   have q:i<vs.size:=AL
   have I:(Value.cells (.agg vs)).toList.getD i undef=vs.getD i undef:=aVa
   rw[L,I];exact⟨z i hi,.d _ _ (J i hi)⟩
  |lit v=>
   have h1:=hl (.d (.lit v)) (by simp[Ah.cells,D.cells]);have e:v.cells= #[v]:=by cases v<;>first|rfl|(simp[Ah.leaf,D.leaf,Value.oneCell']at h1)
   refine⟨by simp[Ah.cells,D.cells,e],λi hi=>?_⟩;simp[Ah.cells,D.cells]at hi;subst hi;rw[e];exact⟨h1,.d _ _ (.lit v)⟩
  |sl0 ad cap=>
   refine⟨rfl,λi hi=>?_⟩;simp[Ah.cells,D.cells]at hi;subst hi;exact⟨rfl,.d _ _ (.sl0 ad cap)⟩
  |sl es b off cap size h1 h2 h3 u M O=>
   refine⟨rfl,λi hi=>?_⟩;simp[Ah.cells,D.cells]at hi;subst hi;exact⟨rfl,.d _ _ (.sl es b off cap size h1 h2 h3 u M O)⟩
  |ref cs off b o h1 h2 h3 u=>
   refine⟨rfl,λi hi=>?_⟩;simp[Ah.cells,D.cells]at hi;subst hi;exact⟨rfl,.d _ _ (.ref cs off b o h1 h2 h3 u)⟩
  |fn f first cap vs us h1 h2 h3 u=>
   refine⟨rfl,λi hi=>?_⟩;simp[Ah.cells,D.cells]at hi;subst hi;exact⟨rfl,.d _ _ (.fn f first cap vs us h1 h2 h3 u)⟩
  |RV t x v h1=>
   refine⟨rfl,λi hi=>?_⟩;simp[Ah.cells,D.cells]at hi;subst hi;exact⟨rfl,.d _ _ (.RV t x v h1)⟩
 |ptr k off b s h=>
  exact⟨rfl,λi hi=>by simp[Ah.cells]at hi;subst hi;exact⟨rfl,.ptr k off b s h⟩⟩
 |aQ k ad n cap s h=>
  exact⟨rfl,λi hi=>by simp[Ah.cells]at hi;subst hi;exact⟨rfl,.aQ k ad n cap s h⟩⟩
 |lN k i off b n cap s h=>
  exact⟨rfl,λj hi=>by simp[Ah.cells]at hi;subst hi;exact⟨rfl,.lN k i off b n cap s h⟩⟩
 |fn f first cap vs us h1 h2 h3 u=>
  exact⟨rfl,λi hi=>by simp[Ah.cells]at hi;subst hi;exact⟨rfl,.fn f first cap vs us h1 h2 h3 u⟩⟩
 |mp k v s hl h=>
  have e:v.cells= #[v]:=by cases v<;>first|rfl|(simp[Value.oneCell']at hl)
  exact⟨by simp[Ah.cells,e],λj hi=>by simp[Ah.cells]at hi;subst hi;rw[e];exact⟨rfl,.mp k v s hl h⟩⟩
 |clip xs ad h=>exact⟨rfl,λi hi=>by simp[Ah.cells]at hi;subst hi;exact⟨rfl,.clip xs ad h⟩⟩
 |xP k ad n cap s h=>exact⟨rfl,λi hi=>by simp[Ah.cells]at hi;subst hi;exact⟨rfl,.xP k ad n cap s h⟩⟩
 |eG xs vs h1 h2=>have :=hl (.eG xs) (by simp[Ah.cells]);simp[Ah.leaf]at this
 |ag xs vs h1 z h2=>
  refine⟨by simp[Ah.cells,Value.cells,h1],λi hi=>?_⟩;have q:i<vs.size:=by rw[h1];exact hi
  have I:(Value.cells (.agg vs)).toList.getD i undef=vs.getD i undef:=aVa
  rw[I];exact⟨z i hi,h2 i hi⟩
 |junk v=>have :=hl .junk (by simp[Ah.cells]);simp[Ah.leaf]at this
variable {ys:AA α}{z:BD}
def a3H (w:BX):∀b,E5 (CG.v ⟨.pointer (some ⟨w.heap.size,0,none⟩),0⟩)=some b->b=w.heap.size:=λb j=>by simpa[E5]using j.symm
def CB.eff {x:Ah}(h:∀(C:Ez) (ok:Nat->Prop) (H:AA CG) (a:Act) (w:BX),Dq C ok H es w->(∀n∈ns,R ok w H n.2 (a.eval n.1))->
  ∃v w' ok' H',((execOp a.eval o).run P w=.ok (.value v) w'\/(v=undef/\(execOp a.eval o).run P w=.ok .skip w'))/\F9 ok w ok' w'/\Names H H'/\Dq C ok' H' es' w'/\R ok' w' H' x v):CB P o ns es x es':=by
 intro C ok H a w Q hm u;obtain⟨v,w',ok',H',j,h1,h2,h3,q⟩:=h C ok H a w hm u;unfold Oper.wp;rcases j with j|⟨rfl,j⟩
 ·rw[j];exact⟨v,ok',H',rfl,h1,h2,h3,q⟩
 rw[j];exact⟨undef,ok',H',rfl,h1,h2,h3,q⟩
def aZh {v:Ah}(hl:v.cells.all Ah.leaf=true)(q:o.op=.box t x:=by exact rfl):CB P o [(x,v)] es (.ptr es.length 0) (es++[.box v.cells]):=
 .eff λC ok H a w hm u=>by
  have h1:=L9 u;simp only at h1
  have j:FQ ok (w.alloc (.cells (a.eval x).cells t)) (H++[⟨.pointer (some ⟨w.heap.size,0,none⟩),0⟩]) ⟨.pointer (some ⟨w.heap.size,0,none⟩),0⟩ (.box v.cells):=
   ⟨w.heap.size,(a.eval x).cells,t,rfl,Uo w _,(h1.al1 hl).mono (λb j=>⟨j,KD _ _ _ (hm.lg b j)⟩) (Gy _ _)⟩
  obtain⟨h2,h3⟩:=hm.push (.cells (a.eval x).cells t) ⟨.pointer (some ⟨w.heap.size,0,none⟩),0⟩ _ (a3H w) j;refine⟨_,_,ok,_,.inl ?_,h3,Gy _ _,h2,.ptr _ _ w.heap.size 0 PS⟩;simp[execOp,q,Instr.box,newVar,newRow]
def Oz :BD->D
 | .slice none 0 0=>.sl []
 |v=>.lit v
def kH (v:BD):EF ok w (Oz v) v:=by
 unfold Oz;split
 ·exact .sl0 none 0
 exact .lit v
def uo (h:v.oneCell'=true):(Oz v).leaf=true:=by
 unfold Oz;split
 ·rfl
 exact h
def Fz (z:BD):AA Ah:=z.cells.toList.map λv=>.d (Oz v)
def ahG (q:(P.info? t).bind (·.zero)=some z)(hl:z.cells.all (·.oneCell')=true)(u:o.op=.alloc t:=by exact rfl):CB P o [] es (.ptr es.length 0) (es++[.box (Fz z)]):=
 .eff λC ok H a w hm M=>by
  have I:FQ ok (w.alloc (.cells z.cells t)) (H++[⟨.pointer (some ⟨w.heap.size,0,none⟩),0⟩]) ⟨.pointer (some ⟨w.heap.size,0,none⟩),0⟩ (.box (Fz z)):=by
   refine⟨w.heap.size,z.cells,t,rfl,Uo w _,by simp[Fz],λi hi=>?_⟩;simp only[Fz,Di,Tn]at hi;have J:(Fz z).getD i .junk=.d (Oz z.cells[i]):=by simp[Fz,List.getD,hi]
   have L:z.cells.toList.getD i undef=z.cells[i]:=NY
   rw[J,L];exact⟨uo ((WL.1 hl) _ BU),.d _ _ (kH _)⟩
  obtain⟨h2,h3⟩:=hm.push (.cells z.cells t) ⟨.pointer (some ⟨w.heap.size,0,none⟩),0⟩ _ (a3H w) I;refine⟨_,_,ok,_,.inl ?_,h3,Gy _ _,h2,.ptr _ _ w.heap.size 0 PS⟩;obtain⟨i,hi,j⟩:=mY.1 q;simp[execOp,u,Instr.alloc,zeroValue,typeInfo,hi,j,newVar,newRow]
theorem N9 {l:AA Bc}{a x:Bc}(q:k<l.length)(h:(l.set k a)[j]? =some x):(j=k/\x=a)\/(j≠k/\l[j]? =some x):=by
 grind
def Dq.upd (hm:Dq C ok H es w){M e:Bc}(hk:es[k]? =some M)(I:M.live=true)(hh:H[k]? =some h)(hb:E5 h.v=some b)(hos:w'.os=w.os)(J:w'.tape=w.tape)(O:w'.output=w.output)(hsize:w'.heap.size=w.heap.size)(z:∀c,c≠b->w'.heap[c]? =w.heap[c]?)(he:F9 ok w ok w'->FQ ok w' H h e):Dq C ok H (es.set k e) w'/\F9 ok w ok w':=by
 have U:=hm.blk k M h b hk I hh hb;have hg:F9 ok w ok w':=λc q=>⟨q,z c (λe=>U.1 (e▸q))⟩
 refine hm.change (λc=>c=b) hos J O AL (λc _ q=>z c q) (λc q _=>by subst q;exact⟨U.1,U.2.2⟩) (λ_ h=>h) (λ_ h=>.inl h) (.refl _) bP ?_;intro j e' h' hj u;have Y:k<es.length:=(Gs.1 hk).1;rcases N9 Y hj with⟨rfl,rfl⟩|⟨L,Z⟩
 ·rw[hh]at u;obtain rfl:=Dv u;refine .inr ⟨he hg,λ_ c q=>?_⟩;rw[hb]at q;obtain rfl:=Dv q;refine⟨U.1,AL,U.2.2,λk' e'' h'' L hk' hl' aKn aKo=>L ?_⟩;rcases N9 Y hk' with⟨rfl,_⟩|⟨_,hk''⟩
  ·rfl
  exact hm.Jy k' j e'' M h'' h b hk'' hk hl' I aKn hh aKo hb
 refine .inl ⟨Z,u,λhl c q hcb=>L ?_⟩;subst hcb;exact hm.Jy j k e' M h' h c Z hk hl I u hh q hb
def aJm (w:BX)(g:Nat)(cs:Bg BD)(k:Nat)(h:k≠g):(w.setRow g cs).heap[k]? =w.heap[k]? :=setRow_other w g k cs h
def setAt (cs:AA α)(off:Nat)(ys:AA α):AA α:=cs.take off++ys++cs.drop (off+ys.length)
def SL {cs:AA α}(h:off+ys.length<=cs.length):(setAt cs off ys).length=cs.length:=by simp[setAt];omega
theorem Y1 {cs:AA α}(h:off+ys.length<=cs.length)(i:Nat)(z:α):(setAt cs off ys).getD i z=if off<=i/\i<off+ys.length then ys.getD (i-off) z else cs.getD i z:=by
 unfold setAt;have h1:(cs.take off).length=off:=EY
 by_cases hi:i<off
 ·grind
 by_cases j:i<off+ys.length
 ·rw[ES AL];simp only[List.getD]
  grind
 rw[EZ AL]
 grind
def aVk {v:Ah}(hk:es[k]? =some (.box cs))(hl:v.cells.all Ah.leaf=true)(hs:∀w,(sizeOf t).run P w=.ok n w)(hn:v.cells.length=n)(hle:off+n<=cs.length)(ho:o.op=.store t x y:=by exact rfl):
 CB P o [(x,.ptr k off),(y,v)] es .junk (es.set k (.box (setAt cs off v.cells))):=
 .eff λC ok H a w hm I=>by
  have h1:=(FC I).1;have h2:=(FC I).2;simp only at h1 h2;generalize he:a.eval x=u at h1;obtain⟨h,hh,U⟩:=Gp hm.ent hm.hlen hk;obtain⟨b,vs,T,hb,q,J,L⟩:=U;have j:=h2.al1 hl;cases h1 with
  |ptr _ _ M s hH=>
   rw[hh]at hH;obtain rfl:=Dv hH;simp at hb;subst hb;have z:(a.eval y).cells.toList.length=n:=by rw[j.1,hn]
   have aQE:vs.size=cs.length:=a0Y
   have Y:(a.eval y).cells.size=n:=iI
   have hst:=aKK (P:=P) M off T (a.eval y).cells.toList 0 vs w q (by rw[z];omega) (λu hu=>by
    obtain⟨i,hi,rfl⟩:=Ih hu;have O:=j.2 i (by rw[←j.1];exact hi);have :=O.2.leaf O.1
    rwa [aAo hi]at this)
   simp only[PK]at hst;have hlt:M<w.heap.size:=(IJ.1 q).1
   obtain⟨h3,h4⟩:=hm.upd (e:=.box (setAt cs off v.cells)) (w':=w.setRow M (vs.toList.take off++(a.eval y).cells.toList++vs.toList.drop (off+(a.eval y).cells.toList.length)).toArray) hk rfl hh rfl rfl rfl rfl aII (λc hc=>aJm _ _ _ _ hc) (λhg=>by
    refine⟨M,_,T,rfl,ql w M vs _ T (0,0) q,?_,λi hi=>?_⟩
    ·have Z:(vs.toList.take off++(a.eval y).cells.toList++vs.toList.drop (off+(a.eval y).cells.toList.length))=setAt vs.toList off (a.eval y).cells.toList:=rfl;rw[Z,a3a,SL (by have :=vs.length_toList;omega),SL AL];simpa using J
    have Z:(vs.toList.take off++(a.eval y).cells.toList++vs.toList.drop (off+(a.eval y).cells.toList.length))=setAt vs.toList off (a.eval y).cells.toList:=rfl;rw[SL AL]at hi;rw[Z,a3a,Y1 (by have :=vs.length_toList;omega),Y1 AL,z,hn];split
    ·have O:=j.2 (i-off) AL;exact⟨O.1,O.2.mono hg (.refl _)⟩
    exact⟨(L i hi).1,(L i hi).2.mono hg (.refl _)⟩)
   refine⟨undef,_,ok,H,.inr ⟨rfl,?_⟩,h4,.refl _,h3,.junk _⟩;simp only[execOp,ho,he,Instr.storeAt,Instr.sureAddr,storeVar,Fg,Gl,Fv,hs,Y,ne_eq,not_true_eq_false,KA,hst]
def XH (x:D)(es:AA D):flat (x::es)=x.cells.map .d++flat es:=U9
def qI (xs ys:AA D):flat (xs++ys)=flat xs++flat ys:=U9
def Si {size:Nat}:∀{es:AA D},(∀x∈es,x.cells.length=size)->(flat es).length=es.length*size
 | [],_=>U9
 |x::es,h=>by
  rw[XH,Ed,Di,h x BU,Si (λy j=>h y (Ii _ j)),GN,iL,Vk]
theorem flat_get {size:Nat}:∀{es:AA D},(∀x∈es,x.cells.length=size)->∀i j,i<es.length->j<size->(flat es).getD (i*size+j) .junk=.d ((es.getD i EJ).cells.getD j EJ)
 | [],_,i,j,hi,_=>TR
 |x::es,h,0,j,_,q=>by
  have u:=h x BU;rw[XH,Nat.zero_mul,Js]
  grind
 |x::es,h,i+1,j,hi,q=>by
  have u:=h x BU;have z:=flat_get (λy I=>h y (Ii _ I)) i j Hf q;rw[XH];simp only[List.getD]at z ⊢;rw[P7 (by simp[u,iL];omega)]
  grind
variable {g m:Nat}{ty:Bq}{x:BD}{xs ys:AA D}
structure XW (w:World) (v:Value) (m size:Nat) (news:List Value):Prop where
 len:news.length=m*size
 one:∀u∈news,u.oneCell'=true
 at_:(∃ad c,v=.slice (some ad) m c/\∀(j:Nat) (u:Value),news[j]? =some u->w.cell? (ad.add j)=some u)\/(∃c,v=.slice none 0 c/\m=0)
def dF (H:AA CG)(h:EF ok w (.sl ys) v)(hs:∀x∈ys,x.cells.length=size):
 ∃z,XW w v ys.length size z/\Gf ok w H (flat ys) z:=by
 cases h with
 |sl0 ad cap=>
  refine⟨[],⟨BU,BU,?_⟩,U9,λi hi=>a2v⟩;cases ad with
  |none=>exact .inr ⟨cap,rfl,rfl⟩
  |some ad=>exact .inl ⟨ad,cap,rfl,λj u h=>IV⟩
 |sl _ b off cap q hcap hok hs' hf hx hc=>
  by_cases hy:ys=[]
  ·subst hy;refine⟨[],⟨BU,BU,.inl ⟨⟨b,off,none⟩,cap,rfl,λj u h=>IV⟩⟩,U9,λi hi=>a2v⟩
  have J:0<ys.length:=oU.2 hy;have hsz:q=size:=by rw[←hs' 0 J];exact hs _ (by simp[List.getD,J])
  subst hsz;have hl:=Si hs
  have key:∀k,k<ys.length*q->∃i j,k=i*q+j/\i<ys.length/\j<q:=by
   intro k I
   have hp:0<q:=by
    rcases X0 q with h0|h0
    ·rw[h0,Nat.mul_zero]at I;omega
    exact h0
   exact⟨k/q,k % q,by rw[V6];exact(aC9 k q).symm,qo (by rwa [V6]at I),nI _ hp⟩
  let z:AA BD:=(List.range (ys.length*q)).map λk=>cellAt w b (off+k)
  have L:z.length=ys.length*q:=by simp[z]
  have O:∀k,k<ys.length*q->z.getD k undef=cellAt w b (off+k):=by
   intro k I;simp[z,List.getD,I]
  have M:Gf ok w H (flat ys) z:=by
   refine⟨by rw[L,hl],λk I=>?_⟩;rw[hl]at I;obtain⟨i,j,rfl,hi,U⟩:=key k I;rw[flat_get hs i j hi U,O _ I];exact⟨hf i hi j U,.d _ _ (hc i hi j U)⟩
  refine⟨z,⟨L,λu hu=>?_,.inl ⟨⟨b,off,none⟩,cap,rfl,λk u I=>?_⟩⟩,M⟩
  ·obtain⟨k,I,rfl⟩:=Ih hu;have h5:=M.2 k (by rw[←M.1];exact I);have :=h5.2.leaf h5.1
   rwa [aAo I]at this
  obtain⟨Y,rfl⟩:=Gs.1 I;rw[addr_add];have Z:k<ys.length*q:=by rw[←L];exact Y
  obtain⟨i,j,e,hi,U⟩:=key k Z;have hxx:=hx i hi j U;rw[←e]at hxx;obtain⟨u',hu'⟩:=Qi.1 hxx;have :=O k Z;rw[aAo Y]at this;rw[this];simp[cellAt,hu']
structure G6 (P:Program) (t e:TypeId) (size bytes:Nat):Prop where
 und:P.underlying t=some (.slice e)
 info:∃i z,P.info? e=some i/\i.zero=some z/\i.size=size/\i.bytes=bytes/\z.cells.size=size
 pos:0<size
def aRn (P:Ch)(t e size j:Nat):AV:=
 (match P.underlying t with |some (.slice e')=>e'=e|_=>false)&&(match P.info? e with |some i=>i.size=size&&(i.bytes=j)&&(match i.zero with |some z=>z.cells.size=size|none=>false)|none=>false)&&(0<size)
def JU {P:Ch}{t e:Nat}(h:aRn P t e size j=true):G6 P t e size j:=by
 unfold aRn at h;simp only[ED,Iu]at h;obtain⟨⟨h1,h2⟩,h3⟩:=h;refine⟨?_,?_,h3⟩
 ·split at h1
  ·rename_i e' u;rw[u];simp at h1;rw[h1]
  cases h1
 split at h2
 ·rename_i i hi;simp only[ED,Iu]at h2;obtain⟨⟨I,J⟩,q⟩:=h2;split at q
  ·rename_i z L;exact⟨i,z,hi,L,I,J,Zk⟩
  cases q
 cases h2
theorem al7 {O:Nat}(hE:G6 P t e size O){xs:AA BD}(L:w.ownsRow 0 e size v n xs){I:AA BD}(q:XW w x m size I)(hb:(n+m)*O<=140737488355328)(hn:n+m<=maxLen):
 ∃v' w',(Builtin.append_ #[t,t] ty #[v,x]).run P w=.ok v' w'/\w'.ownsRow 0 e size v' (n+m) (xs++I)/\w.grownBy w' v.ownBlock/\(∀g,E5 v'=some g->E5 v=some g\/w.heap.size<=g):=by
 obtain⟨i,z,hi,hz,hs,Z,hzs⟩:=hE.info;rcases q.at_ with⟨ad,c,rfl,J⟩|⟨c,rfl,rfl⟩
 ·obtain⟨v',w',hr,ho',hg,hnil⟩:=run_append_own (P:=P) w 0 t ty e i z size O hE.und hi hz hs Z hzs hE.pos v n xs L ad m c I q.len J q.one hn hb (Ef _);refine⟨v',w',hr,ho',hg,λg U=>?_⟩;rcases L.2 with⟨rfl,rfl⟩|⟨g0,cap,cur,rfl,hbg,hg0,hnc,hcm,hcs,htake⟩
  ·have hx:xs=[]:=Hd (by simpa using L.1);subst hx;obtain⟨v2,w2,M,ho2,_,_⟩:=run_append_own (P:=P) w w.heap.size t ty e i z size O hE.und hi hz hs Z hzs hE.pos _ 0 [] (a7b w w.heap.size e size) ad m c I q.len J q.one hn hb (Ec _);rw[hr]at M;simp only[Result.ok.injEq]at M;obtain⟨rfl,rfl⟩:=M;rcases ho2.2 with⟨rfl,_⟩|⟨g',_,_,rfl,hle,_⟩
   ·simp[E5]at U
   simp[E5]at U;subst U;exact .inr hle
  by_cases Y:n+m<=cap
  ·have hfit:n*i.size+I.length<=cur.size:=by rw[q.len,hcs,hs,←bM];exact KR _ Y
   have M:=run_append_room (P:=P) w t ty e i hE.und hi g0 n cap cur hg0 ad m c I (by rw[hs];exact q.len) J q.one Y hfit;rw[hr]at M;simp only[Result.ok.injEq]at M;obtain⟨rfl,rfl⟩:=M;exact .inl U
  have holds:∀(j:Nat) (u:BD),xs[j]? =some u->w.cell? ((⟨g0,0,none⟩:Addr).add j)=some u:=L.cells (g:=g0) rfl;have M:=run_append_grow (P:=P) w t ty e i z hE.und hi hz ⟨g0,0,none⟩ n cap xs (by rw[hs];exact L.1) holds ad m c I (by rw[hs];exact q.len) J AL (by unfold maxLen at hn;omega) (growslice_fits AL (by rw[Z];exact hb));rw[hr]at M;simp only[Result.ok.injEq]at M;obtain⟨rfl,rfl⟩:=M;simp[E5]at U
  grind
 have hnews:I=[]:=Hd (by simpa using q.len);subst hnews;refine⟨v,w,?_,by simpa using L,⟨rfl,rfl,rfl,Ec _,λ_ _ _=>rfl⟩,λg hg=>.inl hg⟩;rcases L.2 with⟨rfl,rfl⟩|⟨g,cap,cur,rfl,_,_,hnc,_⟩
 ·simp[Builtin.append_,aAT hE.und,sizeOf,typeInfo,hi,Builtin.lenOf,Builtin.firstCells]
 simp[Builtin.append_,aAT hE.und,sizeOf,typeInfo,hi,Builtin.lenOf,Builtin.firstCells,hnc,storeCells]
theorem aKj {I:Nat}(hE:G6 P t e size I){xs:AA BD}(u:ny w e size v n xs){q:AA BD}(j:XW w x m size q)(hb:(n+m)*I<=140737488355328)(hn:n+m<=maxLen):
 ∃v' w',(Builtin.append_ #[t,t] ty #[v,x]).run P w=.ok v' w'/\ny w' e size v' (n+m) (xs++q)/\w.grownBy w' v.ownBlock/\(∀g,E5 v'=some g->E5 v=some g\/w.heap.size<=g):=by
 rcases u.2 with h|⟨g,cap,U,rfl,h0,Z,hnc,hcm,hcs,htake⟩
 ·obtain⟨v',w',h1,h2,h3,h4⟩:=al7 (ty:=ty) hE ⟨u.1,.inl h⟩ j hb hn;exact⟨v',w',h1,.of h2,h3,h4⟩
 obtain⟨i,z,hi,hz,hs,hby,hzs⟩:=hE.info;have hlen:(xs++q).length=(n+m)*size:=by rw[Ed,u.1,j.len,bM]
 rcases j.at_ with⟨ad,c,rfl,L⟩|⟨c,rfl,rfl⟩
 ·by_cases J:n+m<=cap
  ·have O:n*i.size+q.length<=U.size:=by
    rw[j.len,hs,←bM];exact EK (KR _ J) hcs
   have hr:=run_append_room (P:=P) w t ty e i hE.und hi g n cap U Z ad m c q (by rw[hs];exact j.len) L j.one J O;rw[hs]at hr O;refine⟨_,_,hr,⟨hlen,.inr ⟨g,cap,_,rfl,Ef _,ql w g U _ e _ Z,J,hcm,?_,?_⟩⟩,⟨rfl,rfl,rfl,BU,λk _ hk=>setRow_other w g k _ (λe=>hk (by simp[Value.ownBlock,e]))⟩,λg' M=>.inl M⟩
   ·simp only[a3F,Ed,Gz,NP,Tn];omega
   grind
  obtain⟨v',w',h1,h2,h3⟩:=run_append_arg_grows (P:=P) w t ty e i z size I hE.und hi hz hs hby hzs hE.pos ⟨g,0,none⟩ n cap xs u.1 (u.cells (g:=g) rfl) ad m c q j.len L AL hn hb;refine⟨v',w',h1,.of h2,⟨h3.os,h3.tape,h3.output,h3.size,λk hk _=>h3.block k hk BU⟩,λg' M=>.inr ?_⟩;rcases h2.2 with⟨rfl,_⟩|⟨g2,_,_,rfl,hle2,_⟩
  ·simp[E5]at M
  simp[E5]at M;subst M;exact hle2
 have Y:q=[]:=Hd (by simpa using j.len);subst Y;refine⟨.slice (some ⟨g,0,none⟩) n cap,w,?_,Qy,⟨rfl,rfl,rfl,Ec _,λ_ _ _=>rfl⟩,λg hg=>.inl hg⟩;simp[Builtin.append_,aAT hE.und,sizeOf,typeInfo,hi,Builtin.lenOf,Builtin.firstCells,hnc,storeCells]
theorem Dq.turn (hm:Dq C ok H es w){Z e:Bc}{h':CG}(hk:es[k]? =some Z)(M:Z.live=true)(hh:H[k]? =some h)(hos:w'.os=w.os)(O:w'.tape=w.tape)(hout:w'.output=w.output)(U:w.heap.size<=w'.heap.size)(J:∀c,c<w.heap.size->E5 h.v≠some c->w'.heap[c]? =w.heap[c]?)(hb':∀g,E5 h'.v=some g->g<w'.heap.size/\(E5 h.v=some g\/w.heap.size<=g))(he:F9 ok w ok w'->FQ ok w' (H++[h']) h' e):Dq C ok (H++[h']) (es.set k .dead++[e]) w'/\F9 ok w ok w':=by
 have h0:=λb hb=>hm.blk k Z h b hk M hh hb;have hkl:k<es.length:=(Gs.1 hk).1;have hg:F9 ok w ok w':=λc I=>⟨I,J c (hm.lg c I) (λe=>(h0 c e).1 I)⟩
 refine hm.change (λc=>E5 h.v=some c) hos O hout U J (λc I _=>⟨(h0 c I).1,(h0 c I).2.2⟩) (λ_ h=>h) (λ_ h=>.inl h) (Gy _ _) bP ?_;intro j e' hj' hj u;rcases Xl hj with h1|⟨h1,h2⟩
 ·have hjl:j<H.length:=by rw[hm.hlen];simpa using(Gs.1 h1).1
  rw[JR hjl]at u;rcases N9 hkl h1 with⟨rfl,rfl⟩|⟨hne,h3⟩
  ·exact .inr ⟨trivial,λh=>IK⟩
  refine .inl ⟨h3,u,λhl c I hcb=>hne ?_⟩;exact hm.Jy j k e' Z hj' h c h3 hk hl M u hh I hcb
 subst h2;have hk2:j=H.length:=by rw[hm.hlen];simpa using h1
 subst hk2;simp at u;subst u;refine .inr ⟨he hg,λ_ c I=>?_⟩;obtain⟨h3,q⟩:=hb' c I;refine⟨λhok=>?_,h3,?_,λk' e'' h'' hne hk' Y z L=>?_⟩
 ·rcases q with q|q
  ·grind
  have :=hm.lg c hok;omega
 ·rcases q with q|q
  ·exact(h0 c q).2.2
  exact .inl (EK hm.fr.size q)
 rcases Xl hk' with h5|⟨h5,_⟩
 ·have hkl':k'<H.length:=by rw[hm.hlen];simpa using(Gs.1 h5).1
  rw[JR hkl']at z;rcases N9 hkl h5 with⟨rfl,rfl⟩|⟨hne',h6⟩
  ·cases Y
  rcases q with q|q
  ·exact hne' (hm.Jy k' k e'' Z h'' h c h6 hk Y M z hh L q)
  have :=(hm.blk k' e'' h'' c h6 Y z L).2.1;omega
 grind
def sK {e:Nat}{xs:AA BD}(h:ny w e size v n xs)(j:E5 v=some g):g<w.heap.size:=by
 rcases h.2 with⟨rfl,_⟩|⟨u,_,_,rfl,_,q,_⟩
 ·simp[E5]at j
 simp[E5]at j;subst j;exact(IJ.1 q).1
def aKO {e:Nat}{xs:AA BD}(h:ny w e size v n xs):v.ownBlock=E5 v:=by
 rcases h.2 with⟨rfl,_⟩|⟨j,_,_,rfl,_⟩<;>rfl
theorem Ph (j:R ok w H (.aQ k) v)(q:H[k]? =some h):v=h.v:=by
 cases j with
 |aQ _ ad n cap s u=>
  grind
def aj7 (hm:Dq C ok H es w){q:Nat}(hE:G6 P t e size q)(hk:es[k]? =some (.arr e size xs))(hv:R ok w H (.aQ k) v){j:AA BD}(L:XW w x ys.length size j)(I:Gf ok w H (flat ys) j)(hys:∀y∈ys,y.cells.length=size)(hb:(xs.length+ys.length)*q<=140737488355328)(hn:xs.length+ys.length<=maxLen):
 ∃v' w' H',(Builtin.append_ #[t,t] ty #[v,x]).run P w=.ok v' w'/\F9 ok w ok w'/\Names H H'/\Dq C ok H' (es.set k .dead++[.arr e size (xs++ys)]) w'/\R ok w' H' (.aQ es.length) v':=by
 obtain⟨h,hh,hok⟩:=Gp hm.ent hm.hlen hk;obtain rfl:=Ph hv hh;obtain⟨h1,h2,EO,z,hrs⟩:=hok;obtain⟨v',w',hr,J,M,O⟩:=aKj (P:=P) (ty:=ty) hE z L hb hn
 obtain⟨h3,h4⟩:=hm.turn (h':=⟨v',size⟩) (e:=.arr e size (xs++ys)) hk rfl hh M.os M.tape M.output M.size (λc hc hne=>M.block c hc (by rw[aKO z];exact λe=>hne e.symm)) (λg U=>⟨sK J U,O g U⟩) (λY=>by
  refine⟨rfl,λy hy=>?_,EO++j,a0Y,?_⟩
  ·rcases Je.1 hy with h|h
   ·exact h2 y h
   exact hys y h
  have Z:=hrs.mono Y (Gy H [⟨v',size⟩]);have a2:=I.mono Y (Gy H [⟨v',size⟩]);rw[qI];refine⟨by rw[Ed,Ed,Z.1,a2.1],λi hi=>?_⟩;by_cases u:i<(flat xs).length
  ·have e1:(flat xs++flat ys).getD i .junk=(flat xs).getD i .junk:=by simp[List.getD,JR u]
   have e2:(EO++j).getD i undef=EO.getD i undef:=by simp[List.getD,JR (by rw[Z.1];exact u:i<EO.length)]
   rw[e1,e2];exact Z.2 i u
  have hi3:i-(flat xs).length<(flat ys).length:=aIR
  have e1:(flat xs++flat ys).getD i .junk=(flat ys).getD (i-(flat xs).length) .junk:=by simp[List.getD,P7 (WY u)]
  have e2:(EO++j).getD i undef=j.getD (i-(flat xs).length) undef:=by simp[List.getD,P7 (by rw[Z.1];omega:EO.length<=i),Z.1]
  rw[e1,e2];exact a2.2 _ hi3)
 refine⟨v',w',_,hr,h4,Gy _ _,h3,?_⟩;have hH:(H++[(⟨v',size⟩:CG)])[es.length]? =some ⟨v',size⟩:=PS
 rcases J.2 with⟨rfl,_⟩|⟨g',c',_,rfl,_⟩
 ·exact .aQ _ _ _ _ size hH
 exact .aQ _ _ _ _ size hH
def aY9 {s x:Bz}(hE:G6 P t e size j)(M:es[k]? =some (.arr e size xs))(q:∀y∈ys,y.cells.length=size)(O:(xs.length+ys.length)*j<=140737488355328)(U:xs.length+ys.length<=maxLen)(Y:o.op=.call { callee:=.builtin .append,args:= #[s,x],argTypes:= #[t,t] }:=by exact rfl):
 CB P o [(s,.aQ k),(x,.d (.sl ys))] es (.aQ es.length) (es.set k .dead++[.arr e size (xs++ys)]):=
 .eff λC ok H a w hm u=>by
  have h1:=(FC u).1;have h2:=(FC u).2;simp only at h1 h2;have I:EF ok w (.sl ys) (a.eval x):=by cases h2 with |d _ _ h=>exact h
  obtain⟨L,z,J⟩:=dF H I q;obtain⟨v',w',H',Z,r1,r2,r3,r4⟩:=aj7 (ty:=o.type) hm hE M h1 z J q O U;refine⟨v',w',ok,H',.inl ?_,r1,r2,r3,r4⟩;simp[execOp,Y,resolve,invoke,builtin,Z]
def a03 (hm:Dq C ok H es w)(e:Bq)(size:Nat):
 Dq C ok (H++[⟨.slice none 0 0,size⟩]) (es++[.arr e size []]) w/\R ok w (H++[⟨.slice none 0 0,size⟩]) (.aQ es.length) (.slice none 0 0):=by
 obtain⟨h,_⟩:=hm.change (ok':=ok) (w':=w) (H':=H++[⟨.slice none 0 0,size⟩]) (es':=es++[.arr e size []]) (λ_=>False) rfl rfl rfl (Ec _) (λ_ _ _=>rfl) (λ_ h=>h.elim) (λ_ h=>h) (λ_ h=>.inl h) (Gy _ _) bP (by
  intro k e' h' q j;rcases Xl q with h1|⟨h1,h2⟩
  ·have u:k<H.length:=aHf
   rw[JR u]at j;exact .inl ⟨h1,j,λ_ _ _ h=>h⟩
  subst h2;have u:k=H.length:=aIY
  subst u;simp at j;subst j
  exact .inr ⟨⟨rfl,BU,[],⟨BU,.inl ⟨rfl,rfl⟩⟩,U9,λi hi=>a2v⟩,λ_ b z=>by simp[E5]at z⟩)
 exact⟨h,.aQ _ _ _ _ size PS⟩
def CY (e:Bq)(size:Nat)(j:o.op=.assign (.const (.slice none 0 0)):=by exact rfl):CB P o [] es (.aQ es.length) (es++[.arr e size []]):=
 .eff λC ok H a w hm _=>by
  obtain⟨h1,h2⟩:=a03 hm e size;exact⟨.slice none 0 0,w,ok,_,.inl aF5,.refl _ _,Gy _ _,h1,h2⟩
def aa7 (j:o.op=.assign (.const (.slice none 0 0)):=by exact rfl):CB P o [] es (.d (.sl [])) es:=
 .pure λ_ _ a w _ _ _=>⟨.slice none 0 0,aF5,.d _ _ (.sl0 none 0)⟩
def ai0 (j:o.op=.move (.const (.slice none 0 0)):=by exact rfl):CB P o [] es (.d (.sl [])) es:=
 .pure λ_ _ a w _ _ _=>⟨.slice none 0 0,aF5,.d _ _ (.sl0 none 0)⟩
theorem aVG (off:Nat):∀(vs:AA BD) (i:Nat) (cells:Bg BD),off+i+vs.length<=cells.size->
 ((vs.zipIdx i).foldl (λcs (p:BD×Nat)=>cs.setIfInBounds (off+p.2) p.1) cells).toList=setAt cells.toList (off+i) vs
 | [],i,cells,h=>by simp[setAt]
 |v::vs,i,cells,h=>by
  simp only[GN]at h;rw[List.zipIdx_cons,Gu];rw[aVG off vs (i+1) _ EY];simp only[aEb];have j:off+i<cells.toList.length:=EY
  unfold setAt;rw[aCT,ES j];have h1:(cells.toList.take (off+i)).length=off+i:=EY
  have q:(List.take (off+i) cells.toList++v::List.drop (off+i+1) cells.toList).take (off+(i+1))=cells.toList.take (off+i)++[v]:=by
   grind
  have u:(List.take (off+i) cells.toList++v::List.drop (off+i+1) cells.toList).drop (off+(i+1)+vs.length)=cells.toList.drop (off+i+(vs.length+1)):=by
   rw[List.drop_append,h1,a3X AL];have :off+(i+1)+vs.length-(off+i)=vs.length+1:=AL
   rw[this];simp[aDD];congr 1;omega
  rw[q,u];simp
def OA :AA (Nat×Bz)->AA Ah->AA (Bz×Ah)
 |(_,x)::j,v::vs=>(x,v)::OA j vs
 |_,_=>[]
def Nw (place:Nat->AB (Nat×Nat))(n:Nat):AA (Nat×Bz)->AA Ah->AV
 |(i,_)::j,v::vs=>(match place i with |some (off,s)=>v.cells.length=s&&(off+s<=n)&&v.cells.all Ah.leaf|none=>false)&&Nw place n j vs
 | [],[]=>true
 |_,_=>false
def KL (place:Nat->AB (Nat×Nat)):AA Ah->AA (Nat×Bz)->AA Ah->AA Ah
 |cs,(i,_)::j,v::vs=>KL place (setAt cs ((place i).getD (0,0)).1 v.cells) j vs
 |cs,_,_=>cs
variable {us vs:AA BD}
def Gf.setAt {ys:AA Ah}(h:Gf ok w H cs vs)(k:Gf ok w H ys us)(j:off+ys.length<=cs.length):Gf ok w H (setAt cs off ys) (setAt vs off us):=by
 refine⟨by rw[SL (by rw[h.1,k.1];exact j),SL j,h.1],λi hi=>?_⟩;rw[SL j]at hi;rw[Y1 j,Y1 (by rw[h.1,k.1];exact j),k.1];split
 ·exact k.2 _ AL
 exact h.2 i hi
theorem a01 {ok:Nat->Prop}{w:BX}{H:AA CG}{place:Nat->AB (Nat×Nat)}{a:Act}:∀(q:AA (Nat×Bz)) (vs:AA Ah) (cs:AA Ah) (cells:Bg BD),Gf ok w H cs cells.toList->Nw place cs.length q vs=true->
 (∀n∈OA q vs,R ok w H n.2 (a.eval n.1))->∃j,Instr.fill place cells (q.map λp=>(p.1,a.eval p.2))=some j/\Gf ok w H (KL place cs q vs) j.toList
 | [],[],cs,cells,I,_,_=>⟨cells,rfl,I⟩
 | [],_::_,_,_,_,h,_=>by simp[Nw]at h
 |_::_,[],_,_,_,h,_=>by simp[Nw]at h
 |(i,x)::q,v::vs,cs,cells,I,h,L=>by
  simp only[Nw,ED]at h;obtain⟨h1,h2⟩:=h;cases hp:place i with
  |none=>
   grind
  |some os=>
   obtain⟨off,s⟩:=os;rw[hp]at h1;simp only[ED,Iu]at h1;obtain⟨⟨h3,h4⟩,U⟩:=h1;have M:Gf ok w H v.cells (a.eval x).cells.toList:=(L (x,v) (by simp[OA])).al1 U;have Y:(a.eval x).cells.size=s:=by have :=M.1;simp at this;omega
   have O:cells.size=cs.length:=by simpa using I.1
   have u:((a.eval x).cells.zipIdx.foldl (λcs (p:BD×Nat)=>cs.setIfInBounds (off+p.2) p.1) cells).toList=setAt cells.toList off (a.eval x).cells.toList:=by
    rw[←Array.foldl_toList,Array.toList_zipIdx];exact aVG off (a.eval x).cells.toList 0 cells EY
   have z:=I.setAt M (off:=off) AL;rw[←u]at z;obtain⟨j,Z,hR⟩:=a01 q vs (setAt cs off v.cells) _ z (by rw[SL AL];exact h2) (λn J=>L n (by simp[OA,J]));refine⟨j,?_,?_⟩
   ·simp only[Gg,Instr.fill,hp];rw[EZ EY];exact Z
   simp only[KL,hp,NQ];exact hR
def RU (z:BD)(n:Nat):AA Ah:=(List.range n).map λk=>(Fz z).getD (k % z.cells.size) .junk
def akW (hl:z.cells.all (·.oneCell')=true)(q:0<z.cells.size):Gf ok w H (RU z n) (((Array.range n).map (z.cells[· % z.cells.size]!)).toList):=by
 refine⟨by simp[RU],λi hi=>?_⟩;have j:i<n:=by simpa[RU]using hi
 have hm:i % z.cells.size<z.cells.size:=nI _ q;have u:(RU z n).getD i .junk=.d (Oz z.cells[i % z.cells.size]):=by simp[RU,Fz,List.getD,j,hm]
 have I:(((Array.range n).map (z.cells[· % z.cells.size]!)).toList).getD i undef=z.cells[i % z.cells.size]:=by simp[List.getD,j,hm]
 rw[u,I];exact⟨uo ((WL.1 hl) _ BU),.d _ _ (kH _)⟩
def aDW (hl:z.cells.all (·.oneCell')=true):Gf ok w H (Fz z) z.cells.toList:=by
 refine⟨by simp[Fz],λi hi=>?_⟩;simp only[Fz,Di,Tn]at hi;have j:(Fz z).getD i .junk=.d (Oz z.cells[i]):=by simp[Fz,List.getD,hi]
 have q:z.cells.toList.getD i undef=z.cells[i]:=NY
 rw[j,q];exact⟨uo ((WL.1 hl) _ BU),.d _ _ (kH _)⟩
def aJC {P:Ch}{w:BX}:∀(l:AA Field),(∀f∈l,(P.info? f.type).isSome=true)->
 (l.mapM λf=>(do pure (f.offset,←sizeOf f.type):Sem (Nat×Nat))).run P w=.ok (l.map λf=>(f.offset,P.cellsOf f.type)) w
 | [],_=>rfl
 |f::l,h=>by
  obtain⟨i,hi⟩:=Qi.1 (h f BU);have j:=aJC (P:=P) (w:=w) l (λg q=>h g (by simp[q]));have hs:(sizeOf f.type).run P w=.ok i.size w:=by simp[sizeOf,typeInfo,hi]
  have u:P.cellsOf f.type=i.size:=by simp[Program.cellsOf,hi]
  simp only[List.mapM_cons,Fg,hs,Fv,Gl,j,Gg,u]
structure Iw (P:Program) (t:TypeId) (places:List (Nat×Nat)) (z:Value):Prop where
 fields:∃fs,P.underlying t=some (.struct fs)/\(∀f∈fs.toList,(P.info? f.type).isSome=true)/\(fs.toList.map λf=>(f.offset,P.cellsOf f.type))=places
 zero:(P.info? t).bind (·.zero)=some z
 one:z.cells.all (·.oneCell')=true
def aNg (P:Ch)(t:Bq)(j:AA (Nat×Nat)):AV:=
 match P.underlying t with
 |some (.struct q)=>q.toList.all (λf=>(P.info? f.type).isSome)&&decide ((q.toList.map λf=>(f.offset,P.cellsOf f.type))=j)
 |_=>false
variable {j:AA (Nat×Nat)}
def Kq (h:aNg P t j=true)(q:(P.info? t).bind (·.zero)=some z)(h1:z.cells.all (·.oneCell')=true):Iw P t j z:=by
 unfold aNg at h;split at h
 ·rename_i u I;simp only[ED,Fq,Iu]at h;exact⟨⟨u,I,h.1,h.2⟩,q,h1⟩
 cases h
variable {j q:Bg (Nat×Bz)}{len:Nat}
def aAc (q:(P.info? t).bind (·.zero)=some z)(w:BX):(zeroValue t).run P w=.ok z w:=by
 obtain⟨i,hi,j⟩:=mY.1 q;simp[zeroValue,typeInfo,hi,j]
def aO0 {l:AA Ah}(h:l.all Ah.C9=true):l=(JD l).map .d:=by
 rw[Fq]at h;unfold JD;rw[gY]
 conv=>lhs;rw[←List.map_id l]
 refine List.map_congr_left λx j=>?_;have :=h x j;cases x<;>first|rfl|(simp[Ah.C9]at this)
theorem akt {j:AA (Nat×Nat)}(Z:Iw P t j z)(vs:AA Ah)(hp:Nw (λ(i:Nat)=>j[i]?) (Fz z).length q.toList vs=true)(ho:o.op=.build t q:=by exact rfl):
 CB P o (OA q.toList vs) es (.ag (KL (λ(i:Nat)=>j[i]?) (Fz z) q.toList vs)) es:=
 .pure λok H a w _ _ hn=>by
  obtain⟨⟨U,hu,hf,J⟩,hz,h1⟩:=Z;have L:=aAc (P:=P) hz w;have M:(underlying t).run P w=.ok (.struct U) w:=a3o
  have hm:(U.mapM λf=>(do pure (f.offset,←sizeOf f.type):Sem (Nat×Nat))).run P w=.ok j.toArray w:=by
   rw[aCj];rw[a0I,aJC _ hf,J];rfl
  obtain⟨u,hc,I⟩:=a01 (place:=λ(i:Nat)=>j[i]?) q.toList vs (Fz z) z.cells (aDW (ok:=ok) (w:=w) (H:=H) h1) hp hn;refine⟨.agg u,?_,.ag _ _ (by simpa using I.1) (λi hi=>(I.2 i hi).1) (λi hi=>?_)⟩
  rotate_left
  ·have h3:=(I.2 i hi).2;have O:i<u.size:=by have :=I.1;simp at this;omega
   have Y:u.toList.getD i undef=u.getD i undef:=by simp[List.getD,Array.getD,O]
   grind
  have e:(q.map λ(i,x)=>(i,a.eval x)).toList=q.toList.map λp=>(p.1,a.eval p.2):=BU
  have Y:(λ(i:Nat)=>j.toArray[i]?)=(λ(i:Nat)=>j[i]?):=by funext i;simp
  simp only[execOp,ho,Instr.build,Fg,L,M,hm,Fv];rw[e,Y,hc];rfl
theorem akZ {j:AA (Nat×Nat)}(hS:Iw P t j z)(vs:AA Ah)(hp:Nw (λ(i:Nat)=>j[i]?) (Fz z).length q.toList vs=true)(hd:(KL (λ(i:Nat)=>j[i]?) (Fz z) q.toList vs).all Ah.C9=true)(ho:o.op=.build t q:=by exact rfl):
 CB P o (OA q.toList vs) es (.d (.agg (JD (KL (λ(i:Nat)=>j[i]?) (Fz z) q.toList vs)))) es:=
 .pure λok H a w _ _ hn=>by
  obtain⟨⟨Z,hu,hf,I⟩,hz,h1⟩:=hS;have J:=aAc (P:=P) hz w;have L:(underlying t).run P w=.ok (.struct Z) w:=a3o
  have hm:(Z.mapM λf=>(do pure (f.offset,←sizeOf f.type):Sem (Nat×Nat))).run P w=.ok j.toArray w:=by
   rw[aCj];rw[a0I,aJC _ hf,I];rfl
  obtain⟨u,hc,M⟩:=a01 (place:=λ(i:Nat)=>j[i]?) q.toList vs (Fz z) z.cells (aDW (ok:=ok) (w:=w) (H:=H) h1) hp hn;refine⟨.agg u,?_,.d _ _ ?_⟩
  ·have e:(q.map λ(i,x)=>(i,a.eval x)).toList=q.toList.map λp=>(p.1,a.eval p.2):=BU
   have e2:(λ(i:Nat)=>j.toArray[i]?)=(λ(i:Nat)=>j[i]?):=by funext i;simp
   simp only[execOp,ho,Instr.build,Fg,J,L,hm,Fv];rw[e,e2,hc];rfl
  rw[aO0 hd]at M;generalize JD (KL (λ(i:Nat)=>j[i]?) (Fz z) q.toList vs)=xs at M ⊢;obtain⟨h2,h3⟩:=M;simp only[Di]at h2 h3
  have hg:∀i,i<xs.length->(xs.map Ah.d).getD i .junk=.d (xs.getD i EJ):=by
   grind
  have O:u.size=xs.length:=LM
  refine .agg xs u O ?_ ?_<;>intro i hi
  ·have :=(h3 i hi).1;rw[hg i hi]at this;exact this
  have U:=(h3 i hi).2;rw[hg i hi]at U;have Y:i<u.size:=AL
  have e:u.toList.getD i undef=u.getD i undef:=by simp[List.getD,Array.getD,Y]
  rw[e]at U;cases U with |d _ _ h=>exact h
theorem aXn {cells:Bg BD}{fr:Nat×Nat}(u:∀y∈ys,y.cells.length=size)(M:w.heap[b]? =some (.cells cells e fr))(z:ok b)(I:Gf ok w H (flat ys) cells.toList):
 EF ok w (.sl ys) (.slice (some ⟨b,0,none⟩) ys.length ys.length):=by
 have hl:=Si u;have J:cells.size=ys.length*size:=by have :=I.1;simp at this;omega
 have O:∀i,i<ys.length->ys.getD i EJ∈ys:=λi hi=>NY
 have L:∀i j,i<ys.length->j<size->i*size+j<ys.length*size:=by
  intro i j hi q
  calc i*size+j<i*size+size:=AL
   _=(i+1)*size:=by rw[iL]
   _<=ys.length*size:=KR _ hi
 have U:∀i j,i<ys.length->j<size->w.cell? ⟨b,0+(i*size+j),none⟩=some (cells.toList.getD (i*size+j) undef):=by
  intro i j hi q;have :=L i j hi q;rw[Js];simp[World.cell?,M,J,this,List.getD]
 refine .sl ys b 0 ys.length size (Ec _) (λ_ _=>z) (λi hi=>u _ (O i hi)) (λi hi j q=>?_) (λi hi j q=>?_) (λi hi j q=>?_)
 ·have :=(I.2 (i*size+j) (by rw[hl];exact L i j hi q)).1;rw[flat_get u i j hi q]at this;exact this
 ·grind
 have :=(I.2 (i*size+j) (by rw[hl];exact L i j hi q)).2;rw[flat_get u i j hi q]at this;unfold cellAt;rw[U i j hi q];cases this with |d _ _ h=>exact h
def aRI {u:Nat}(hE:G6 P t e size u)(hz:(P.info? e).bind (·.zero)=some z)(h1:z.cells.all (·.oneCell')=true)(Y:z.cells.size=size)(hlen:len*size<=16777216){vs:AA Ah}(hp:Nw (λi=>some (i*size,size)) (len*size) j.toList vs=true)(hn:∀n∈OA j.toList vs,R ok w H n.2 (a.eval n.1)):
 ∃cells,(Instr.buildSlice t len (j.map λ(i,x)=>(i,a.eval x))).run P w=.ok (.slice (some ⟨w.heap.size,0,none⟩) len len) (w.alloc (.cells cells e))/\Gf ok w H (KL (λi=>some (i*size,size)) (RU z (len*size)) j.toList vs) cells.toList:=by
 obtain⟨i,z',hi,_,hs,_,_⟩:=hE.info;have Z:=aAc (P:=P) hz w;have I:(sizeOf e).run P w=.ok size w:=aGs
 have J:(underlying t).run P w=.ok (.slice e) w:=aI7
 have e0:(j.map λ(i,x)=>(i,a.eval x)).toList=j.toList.map λp=>(p.1,a.eval p.2):=BU
 have hzl:(RU z (len*size)).length=len*size:=by simp[RU]
 have L:0<z.cells.size:=by rw[Y];exact hE.pos
 obtain⟨q,hc,hR⟩:=a01 (place:=λi=>some (i*size,size)) j.toList vs (RU z (len*size)) _ (akW (ok:=ok) (w:=w) (H:=H) (n:=len*size) h1 L) (by rw[hzl];exact hp) hn;refine⟨q,?_,hR⟩;have M:¬(len*size>2^24):=AL
 by_cases O:len*size=0
 ·have hr0:(Array.range (len*size)).map (λk=>(z.cells[k % z.cells.size]! :BD))= #[]:=by rw[O];simp
  rw[hr0]at hc;have U:(Array.range (len*size)).map (λk=>((#[]:Bg BD)[k % (#[]:Bg BD).size]! :BD))= #[]:=by rw[O];simp
  simp only[Instr.buildSlice,Fg,J,Fv,I,M,KA,Sem.run_ite,O,JK,Gl];simp only[O]at U;rw[U,e0,hc];rfl
 simp only[Instr.buildSlice,Fg,J,Fv,I,M,KA,Sem.run_ite,O,Z,Gl];rw[e0,hc];rfl
def aIA {q:Nat}(hE:G6 P t e size q)(M:(P.info? e).bind (·.zero)=some z)(h1:z.cells.all (·.oneCell')=true)(J:z.cells.size=size)(hlen:len*size<=16777216)(vs:AA Ah)(ys:AA D)(hp:Nw (λi=>some (i*size,size)) (len*size) j.toList vs=true)(L:KL (λi=>some (i*size,size)) (RU z (len*size)) j.toList vs=flat ys)(hl:ys.length=len)(u:ys.all (λy=>y.cells.length=size)=true)(O:o.op=.buildSlice t len j:=by exact rfl):
 CB P o (OA j.toList vs) es (.d (.sl ys)) es:=
 .eff λC ok H a w hm U=>by
  obtain⟨cells,Y,I⟩:=aRI hE M h1 J hlen hp U;rw[L]at I;obtain⟨h2,h3⟩:=hm.fresh (.cells cells e);refine⟨.slice (some ⟨w.heap.size,0,none⟩) len len,_,_,H,.inl ?_,h3,.refl _,h2,.d _ _ ?_⟩
  ·simp only[execOp,O,Fg,Y,Fv,Gl]
  rw[←hl];exact aXn (H:=H) (λy L=>by rw[Fq]at u;simpa using u y L) (Uo w _) (.inr rfl) (I.mono h3 (.refl _))
theorem aEG {q:Nat}(hE:G6 P t e size q)(hz:(P.info? e).bind (·.zero)=some z)(h1:z.cells.all (·.oneCell')=true)(U:z.cells.size=size)(hlen:len*size<=16777216)(vs:AA Ah)(ys:AA D)(hp:Nw (λi=>some (i*size,size)) (len*size) j.toList vs=true)(Y:KL (λi=>some (i*size,size)) (RU z (len*size)) j.toList vs=flat ys)(hl:ys.length=len)(I:ys.all (λy=>y.cells.length=size)=true)(ho:o.op=.buildSlice t len j:=by exact rfl):
 CB P o (OA j.toList vs) es (.aQ es.length) (es++[.arr e size ys]):=
 .eff λC ok H a w hm hn=>by
  obtain⟨cells,hr,u⟩:=aRI hE hz h1 U hlen hp hn;rw[Y]at u;have J:∀y∈ys,y.cells.length=size:=λy Y=>by rw[Fq]at I;simpa using I y Y
  have hfl:=Si J;have L:cells.size=ys.length*size:=by have :=u.1;simp at this;omega
  have M:=hE.pos
  have Z:ys.length<=16777216:=by
   have :ys.length*1<=ys.length*size:=Nat.mul_le_mul_left _ M
   grind
  obtain⟨h2,h3⟩:=hm.push (.cells cells e) ⟨.slice (some ⟨w.heap.size,0,none⟩) len len,size⟩ (.arr e size ys) (λb O=>by simpa[E5]using O.symm) (by
   refine⟨rfl,J,cells.toList,⟨by simpa using L,.inr ⟨w.heap.size,len,cells,by rw[hl],Ef _,Uo w _,AL,ji,P6 (by rw[L,hl]),?_⟩⟩,?_⟩
   ·rw[Qa EY]
   exact u.mono (λb O=>⟨O,KD _ _ _ (hm.lg b O)⟩) (Gy _ _))
  refine⟨.slice (some ⟨w.heap.size,0,none⟩) len len,_,ok,_,.inl ?_,h3,Gy _ _,h2,.aQ _ _ _ _ size PS⟩;simp only[execOp,ho,Fg,hr,Fv,Gl]
variable {W:BX}{ats:Bg Bq}{f:FuncId}{fn:Func}
section
variable {φ:Nat->BD->BX->Prop}{a0:Act}{i:Nat}
variable {d:AB Tmp} {t:Bq} {p:String} {af:Bg Edge} {g:AB (Nat×AV)}
def Enters (P:Ch)(f:FuncId):Prop:=∀args w,(callFunc f args).run P w=.ok (.enter f args) w
def enters_of {c:Code}(q:P.funcs[f]? =some fn)(j:(fn.name== "runtime.NumGoroutine")=false)(u:fn.body=some c):Enters P f:=by
 intro args w;have h1:fn.name≠ "runtime.NumGoroutine" :=VI
 simp[callFunc,q,h1,u]
def Gw (P:Ch)(f:FuncId):AV:=match P.funcs[f]? with
 |some fn=> !(fn.name== "runtime.NumGoroutine")&&fn.body.isSome
 |none=>false
def UC (h:Gw P f=true):Enters P f:=by
 unfold Gw at h;cases j:P.funcs[f]? with
 |none=>rw[j]at h;cases h
 |some fn=>
  rw[j]at h;simp only[ED,Vg]at h;obtain⟨c,q⟩:=Qi.1 h.2;exact enters_of j h.1 q
def yg {aQP:Bg Bz}(j:o.op=.call { callee:=.value (.func f),args:=aQP,argTypes:=ats }):execOp a.eval o=callFunc f (aQP.map a.eval):=by
 have q:a.eval (.func f)=.func (.func f) #[] #[]:=rfl;unfold execOp;simp[j,resolve,Deferred.ofValue,invoke,q]
end
inductive EN where
 |ent (k:Nat)
 |nil (size:Nat)
def EN.hd (H:AA CG):EN->CG
 | .ent k=>H.getD k ⟨undef,0⟩
 | .nil s=>⟨.slice none 0 0,s⟩
def Ah.X6 (srcs:AA EN)(n:Nat):Ah->Ah
 | .d x=>.d x
 | .ptr k off=>match srcs[k]? with |some (.ent j)=>.ptr j off|some (.nil _)=>.junk|none=>.ptr (n+(k-srcs.length)) off
 | .aQ k=>match srcs[k]? with |some (.ent j)=>.aQ j|some (.nil _)=>.junk|none=>.aQ (n+(k-srcs.length))
 | .lN k i off=>match srcs[k]? with |some (.ent j)=>.lN j i off|some (.nil _)=>.junk|none=>.lN (n+(k-srcs.length)) i off
 | .mp k=>match srcs[k]? with |some (.ent j)=>.mp j|some (.nil _)=>.junk|none=>.mp (n+(k-srcs.length))
 | .xP k=>match srcs[k]? with |some (.ent j)=>.xP j|some (.nil _)=>.junk|none=>.xP (n+(k-srcs.length))
 | .clip xs=>.clip xs
 |_=>.junk
def Ah.up (srcs:AA EN)(n:Nat):Ah->Ah
 | .eG xs=>.eG (xs.map (Ah.X6 srcs n))
 | .fn f fi ca=>.fn f (fi.map (Ah.X6 srcs n)) (ca.map (Ah.X6 srcs n))
 |x=>x.X6 srcs n
def aH5 (srcs:AA EN):Ah->Ah->Prop
 | .d x,y=>y=.d x
 | .ptr k off,y=>∃i,y=.ptr i off/\srcs[i]? =some (.ent k)
 | .mp k,y=>∃i,y=.mp i/\srcs[i]? =some (.ent k)
 |_,_=>False
def sH (srcs:AA EN):AA Ah->AA Ah->Prop
 |x::xs,y::ys=>aH5 srcs x y/\sH srcs xs ys
 | [],[]=>True
 |_,_=>False
def yt {srcs:AA EN}:∀{xs ys:AA Ah},sH srcs xs ys->xs.length=ys.length
 | [],[],_=>rfl
 |_::xs,_::ys,h=>by simp[yt h.2]
 | [],_::_,h=>h.elim
 |_::_,[],h=>h.elim
def aEu {srcs:AA EN}:∀{xs ys:AA Ah},sH srcs xs ys->∀i,i<ys.length->aH5 srcs (xs.getD i .junk) (ys.getD i .junk)
 | [],[],_,i,hi=>TR
 |_::xs,_::ys,h,0,_=>by simpa using h.1
 |_::xs,_::ys,h,i+1,hi=>by simpa using aEu h.2 i Hf
 | [],_::_,h,_,_=>h.elim
 |_::_,[],h,_,_=>h.elim
def aQX (srcs:AA EN):Ah->Ah->Prop
 | .fn f fi ca,y=>∃j q,y=.fn f j q/\sH srcs fi j/\sH srcs ca q
 | .d x,y=>y=.d x\/(∃i s,x=.lit (.slice none 0 0)/\y=.aQ i/\srcs[i]? =some (.nil s))\/(x=.lit (.slice none 0 0)/\y=.d (.sl []))
 | .aQ k,y=>∃i,y=.aQ i/\srcs[i]? =some (.ent k)
 | .ptr k off,y=>∃i,y=.ptr i off/\srcs[i]? =some (.ent k)
 | .mp k,y=>∃i,y=.mp i/\srcs[i]? =some (.ent k)
 |_,_=>False
def Bc.closed:Bc->AV
 | .box cs=>cs.all Ah.C9
 | .loop .. =>false
 |_=>true
variable {e:Bc}
def FQ.any (q:FQ ok w H h e)(I:e.closed=true):FQ ok w H2 h e:=by
 cases e with
 |dead=>trivial
 |box cs=>
  obtain⟨b,vs,T,h1,h2,h3,z⟩:=q;refine⟨b,vs,T,h1,h2,h3,λi hi=>⟨(z i hi).1,?_⟩⟩;have u:=(z i hi).2;simp only[Bc.closed,Fq]at I;have j:=I (cs.getD i .junk) NY;cases J:cs.getD i .junk with
  |d x=>rw[J]at u;cases u with |d _ _ h=>exact .d _ _ h
  |_=>rw[J]at j;simp[Ah.C9]at j
 |arr e s es=>
  obtain⟨h1,h2,xs,h3,z,u⟩:=q;refine⟨h1,h2,xs,h3,z,λi hi=>⟨(u i hi).1,?_⟩⟩;have j:=(u i hi).2;have hm:(flat es).getD i .junk∈flat es:=NY
  unfold flat at hm ⊢;simp only[Vy,Hl]at hm;obtain⟨x,_,y,_,L⟩:=hm;unfold flat at j;rw[←L]at j ⊢;cases j with |d _ _ h=>exact .d _ _ h
 |map es=>exact q
 |fG es=>exact q
 |iter es vis=>exact q
 |loop=>cases I
def Bc.up (srcs:AA EN)(n:Nat):Bc->Bc
 | .box cs=>.box (cs.map (Ah.X6 srcs n))
 |e=>e
def Ah.aut (srcs:AA EN):Ah->AV
 | .d _=>true
 | .mp k=>match srcs[k]? with |some (.ent _)=>true|_=>false
 | .ptr k _=>match srcs[k]? with |some (.ent _)=>true|_=>false
 |_=>false
def Bc.ao2 (srcs:AA EN):Bc->AV
 | .box cs=>cs.all (Ah.aut srcs)
 | .loop .. =>false
 |_=>true
def Bc.aq1 (srcs:AA EN)(n:Nat):Bc->AV
 | .box cs=>cs.all λx=>x.C9||(x.X6 srcs n).leaf
 | .loop .. =>false
 |_=>true
def Bc.afX (srcs:AA EN)(n:Nat)(e:Bc):(e.up srcs n).live=e.live:=by cases e<;>rfl
variable {srcs:AA EN}{x:Ah}
def aVl (h:x.C9=true):x.X6 srcs n=x:=by cases x<;>first|rfl|cases h
def Bc.aBX (h:e.closed=true):e.up srcs n=e:=by
 cases e with
 |box cs=>
  simp only[Bc.closed,Fq]at h;show Bc.box (cs.map (Ah.X6 srcs n))=Bc.box cs
  rw[show cs.map (Ah.X6 srcs n)=cs from by
   conv=>rhs;rw[←List.map_id cs]
   exact List.map_congr_left λx j=>aVl (h x j)]
 |_=>rfl
def aWr {srcs:AA EN}{n:Nat}:∀{E:AA Bc},E.all Bc.closed=true->E.map (Bc.up srcs n)=E
 | [],_=>rfl
 |e::E,h=>by
  simp only[List.all_cons,ED]at h;rw[Gg,Bc.aBX h.1,aWr h.2]
def afh (h:e.closed=true):e.aq1 srcs n=true:=by
 cases e with
 |box cs=>
  simp only[Bc.closed,Bc.aq1,Fq]at h ⊢;intro x j;rw[h x j];rfl
 |loop=>cases h
 |_=>rfl
variable {Hc:AA CG}
theorem FQ.down (L:∀(j:Nat) (s:EN),srcs[j]? =some s->Hc[j]? =some (EN.hd H s))(hd:e.ao2 srcs=true)(u:FQ ok w H h (e.up srcs n)):FQ ok w Hc h e:=by
 cases e with
 |dead=>
  trivial
 |arr=>
  exact u.any rfl
 |map=>
  exact u
 |fG=>
  exact u
 |iter=>
  exact u
 |loop=>
  cases hd
 |box cs=>
  obtain⟨b,vs,T,h1,h2,h3,M⟩:=u;refine⟨b,vs,T,h1,h2,by rw[h3,Di],λi hi=>?_⟩;obtain⟨I,q⟩:=M i a2V;rw[Vh _ _ _ hi]at q I;simp only[Bc.ao2,Fq]at hd;have z:=hd (cs.getD i .junk) NY;generalize cs.getD i .junk=x at q z I ⊢;generalize vs.toList.getD i undef=v at q ⊢;cases x with
  |d x=>
     exact⟨I,by cases q with |d _ _ h=>exact .d _ _ h⟩
  |mp k=>
   refine⟨rfl,?_⟩;simp only[Ah.aut]at z;simp only[Ah.X6]at q;cases hs:srcs[k]? with
   |none=>
    grind
   |some s=>
    cases s with
    |nil _=>
     grind
    |ent j=>
     rw[hs]at q;cases q with
     |mp _ _ s hl J=>
      refine .mp k _ s hl ?_;rw[L k _ hs];simp[EN.hd,List.getD,J]
  |ptr k off=>
   refine⟨rfl,?_⟩;simp only[Ah.aut]at z;simp only[Ah.X6]at q;cases hs:srcs[k]? with
   |none=>
    grind
   |some s=>
    cases s with
    |nil _=>
     grind
    |ent j=>
     rw[hs]at q;cases q with
     |ptr _ _ b s J=>
      refine .ptr k off b s ?_;rw[L k _ hs];simp[EN.hd,List.getD,J]
  |_=>
    simp[Ah.aut]at z
def MG (srcs:AA EN)(es E':AA Bc):AA Bc:=
 (es.zipIdx.map λ(e,j)=>match srcs.findIdx? (λs=>match s with | .ent k=>k==j| .nil _=>false)with |some i=>(E'.getD i .dead).up srcs es.length|none=>e)++(E'.drop srcs.length).map (Bc.up srcs es.length)
def Sm (srcs:AA EN)(es E E':AA Bc):AV:=
 decide (srcs.length=E.length)&&(srcs.length<=E'.length)&&E.all (Bc.ao2 srcs)&&E'.all (Bc.aq1 srcs es.length)&&
 decide ((srcs.filterMap λs=>match s with | .ent k=>some k| .nil _=>none).Nodup)&&
 ((srcs.zip E').all λp=>match p.1 with | .ent _=>true| .nil _=> !p.2.live)&&(srcs.all λs=>match s with | .ent k=>k<es.length&&(es.getD k .dead).live| .nil _=>true)
def qU (srcs:AA EN)(es:AA Bc):AA Bc->Prop
 |E=>∀(i:Nat) (s:EN),srcs[i]? =some s->match s with | .ent k=>(E[i]?).map (Bc.up srcs es.length)=es[k]? | .nil sz=>∃e,E[i]? =some (.arr e sz [])
theorem VG (I:Hc=srcs.map (EN.hd H))(q:∀(i k:Nat),srcs[i]? =some (.ent k)->k<H.length)(J:Names Hc H')(h:R ok w H' x v):R ok w (H++H'.drop srcs.length) (x.X6 srcs H.length) v:=by
 have key:∀(k:Nat) (hd:CG),H'[k]? =some hd->(∀(j:Nat),srcs[k]? =some (.ent j)->(H++H'.drop srcs.length)[j]? =some hd)/\(srcs[k]? =none->(H++H'.drop srcs.length)[H.length+(k-srcs.length)]? =some hd):=by
  intro k hd O;refine⟨λj z=>?_,λu=>?_⟩
  ·have L:=q k j z;have h1:Hc[k]? =some (H.getD j ⟨undef,0⟩):=by rw[I,Jr,z];rfl
   have h2:=J _ _ h1
   grind
  have M:srcs.length<=k:=Qy
  grind
 cases h with
 |d x v h=>
    exact .d x v h
 |ptr k off b s h=>
  obtain⟨h1,h2⟩:=key k _ h;simp only[Ah.X6];split<;>rename_i hs
  ·exact .ptr _ off b s (h1 _ hs)
  ·exact .junk _
  exact .ptr _ off b s (h2 hs)
 |aQ k ad n cap s h=>
  obtain⟨h1,h2⟩:=key k _ h;simp only[Ah.X6];split<;>rename_i hs
  ·exact .aQ _ ad n cap s (h1 _ hs)
  ·exact .junk _
  exact .aQ _ ad n cap s (h2 hs)
 |lN k i off b n cap s h=>
  obtain⟨h1,h2⟩:=key k _ h;simp only[Ah.X6];split<;>rename_i hs
  ·exact .lN _ i off b n cap s (h1 _ hs)
  ·exact .junk _
  exact .lN _ i off b n cap s (h2 hs)
 |mp k v s hl h=>
  obtain⟨h1,h2⟩:=key k _ h;simp only[Ah.X6];split<;>rename_i hs
  ·exact .mp _ v s hl (h1 _ hs)
  ·exact .junk _
  exact .mp _ v s hl (h2 hs)
 |clip xs ad h=>
  exact .clip xs ad h
 |xP k ad n cap s h=>
  obtain⟨h1,h2⟩:=key k _ h;simp only[Ah.X6];split<;>rename_i hs
  ·exact .xP _ ad n cap s (h1 _ hs)
  ·exact .junk _
  exact .xP _ ad n cap s (h2 hs)
 |fn f first cap vs us hl hm h h'=>
  exact .junk _
 |eG xs vs hl h=>
  exact .junk _
 |ag xs vs hl U h=>
  exact .junk _
 |junk v=>
  exact .junk _
def aNx (q:Hc=srcs.map (EN.hd H))(j:∀(i k:Nat),srcs[i]? =some (.ent k)->k<H.length)(u:Names Hc H')(h:R ok w H' x v):R ok w (H++H'.drop srcs.length) (x.up srcs H.length) v:=by
 cases h with
 |eG xs vs hl h=>exact .eG _ vs fB (λi hi=>aNV)
 |ag xs vs hl z h=>exact .junk _
 |d x v h=>exact VG q j u (.d x v h)
 |ptr k off b s h=>exact VG q j u (.ptr k off b s h)
 |aQ k ad n cap s h=>exact VG q j u (.aQ k ad n cap s h)
 |lN k i off b n cap s h=>exact VG q j u (.lN k i off b n cap s h)
 |mp k v s hl h=>exact VG q j u (.mp k v s hl h)
 |clip xs ad h=>exact VG q j u (.clip xs ad h)
 |xP k ad n cap s h=>exact VG q j u (.xP k ad n cap s h)
 |fn f first cap vs us hl hm h h'=>exact .fn f _ _ vs us fB (by simp[hm]) (λi hi=>aNV) (λi hi=>by rw[Di]at hi;rw[Vh _ _ _ hi];exact VG q j u (h' i hi))
 |junk v=>exact .junk _
def FQ.upw (I:Hc=srcs.map (EN.hd H))(u:∀(i k:Nat),srcs[i]? =some (.ent k)->k<H.length)(J:Names Hc H')(hl:H.length=n)(z:e.aq1 srcs n=true)(j:FQ ok w H' h e):
 FQ ok w (H++H'.drop srcs.length) h (e.up srcs n):=by
 cases e with
 |dead=>trivial
 |arr=>exact j.any rfl
 |map=>exact j
 |fG=>exact j
 |iter=>exact j
 |loop=>cases z
 |box cs=>
  obtain⟨b,vs,T,h1,h2,h3,L⟩:=j;refine⟨b,vs,T,h1,h2,by rw[h3,Di],λi hi=>?_⟩;rw[Di]at hi;obtain⟨M,O⟩:=L i hi;simp only[Bc.aq1,Fq]at z;have q:=z (cs.getD i .junk) NY;rw[Vh _ _ _ hi];refine⟨?_,by have :=VG I u J O;rwa [hl]at this⟩;rcases Bool.or_eq_true_iff.1 q with q|q
  ·rw[aVl q];exact M
  exact q
def Fh :AA Bz->AA Ah->AA (Bz×Ah)
 |x::xs,v::vs=>(x,v)::Fh xs vs
 |_,_=>[]
def NV (srcs:AA EN):AA Ah->AA Ah->Prop
 |x::xs,y::ys=>aQX srcs x y/\NV srcs xs ys
 | [],[]=>True
 |_,_=>False
def aU6 {srcs:AA EN}:∀{xs ys:AA Ah},NV srcs xs ys->xs.length=ys.length
 | [],[],_=>rfl
 |_::xs,_::ys,h=>by simp[aU6 h.2]
 | [],_::_,h=>h.elim
 |_::_,[],h=>h.elim
variable {ops:AA Bz}
def afN:∀{xs ys:AA Ah},ops.length=xs.length->NV srcs xs ys->∀i,i<ys.length->∃o x,ops[i]? =some o/\(o,x)∈Fh ops xs/\aQX srcs x (ys.getD i .junk):=by
 induction ops with
 |nil=>
  intro xs ys hl h i hi;cases xs with
  |nil=>cases ys with |nil=>simp at hi|cons _ _=>exact h.elim
  |cons _ _=>simp at hl
 |cons o ops j=>
  intro xs ys hl h i hi;cases xs with
  |nil=>simp at hl
  |cons x xs=>
   cases ys with
   |nil=>exact h.elim
   |cons y ys=>
    cases i with
    |zero=>exact⟨o,x,rfl,by simp[Fh],h.1⟩
    |succ i=>
     obtain⟨q,u,h1,h2,h3⟩:=j Lu h.2 i Hf;exact⟨q,u,Zh,by simp[Fh,h2],Yg⟩
theorem ajw:b∈(srcs.filterMap λs=>match s with | .ent k=>E5 (H.getD k ⟨undef,0⟩).v| .nil _=>none)↔∃k,.ent k∈srcs/\E5 (H.getD k ⟨undef,0⟩).v=some b:=by
 grind
variable {E E':AA Bc}{dY fE:AA Ah}{j:Ah}{ops:Bg Bz}
theorem aQl :∀{srcs:AA EN},(srcs.filterMap λs=>match s with | .ent k=>some k| .nil _=>none).Nodup->∀(i j k:Nat),srcs[i]? =some (.ent k)->srcs[j]? =some (.ent k)->i=j
 | [],_,i,j,k,h,_=>IV
 |s::srcs,z,i,j,k,hi,u=>by
  have q:∀(n:Nat),srcs[n]? =some (.ent k)->k∈srcs.filterMap λs=>match s with | .ent k=>some k| .nil _=>none:=λn h=>by
   rw[eA];exact⟨_,ZQ h,rfl⟩
  have I:(srcs.filterMap λs=>match s with | .ent k=>some k| .nil _=>none).Nodup:=by
   grind
  match i,j with
  |0,0=>
   rfl
  |0,j+1=>
   simp at hi u;subst hi;simp only[Vx]at z;exact absurd (q j u) (LC.1 z).1
  |i+1,0=>
   simp at hi u;subst u;simp only[Vx]at z;exact absurd (q i hi) (LC.1 z).1
  |i+1,j+1=>
    rw[aQl I i j k Hf Qy]
def aQW (hm:Dq C ok H es w)(srcs:AA EN){res:Ah}(hr:EW P f fE E res E')(hb:Sm srcs es E E'=true)(hE:qU srcs es E)(ha:NV srcs dY fE){ops:AA Bz}(hl:ops.length=dY.length)(hn:∀n∈Fh ops dY,R ok w H n.2 (a.eval n.1)):
 Calls P f (ops.map a.eval).toArray w λe w'=>∃v ok' H',e=.returned v/\F9 ok w ok' w'/\Names H H'/\Dq C ok' H' (MG srcs es E') w'/\R ok' w' H' (res.up srcs es.length) v:=by
 unfold Sm at hb;simp only[ED,Iu,Fq]at hb;obtain⟨⟨⟨⟨⟨⟨hb1,hb2⟩,hb3⟩,hb4⟩,hb5⟩,hb6⟩,hb7⟩:=hb;have hidx:=aQl hb5
 let Hc:=srcs.map (EN.hd H)
 let X:=srcs.filterMap λs=>match s with | .ent k=>E5 (H.getD k ⟨undef,0⟩).v| .nil _=>none
 have hX:∀b,b∈X↔∃k,.ent k∈srcs/\E5 (H.getD k ⟨undef,0⟩).v=some b:=λb=>ajw
 have O:∀(i k:Nat),srcs[i]? =some (.ent k)->k<es.length/\(es.getD k .dead).live=true:=by
  intro i k hi;have :=hb7 _ (ZQ hi);simpa using this
 have hlt:∀(i k:Nat),srcs[i]? =some (.ent k)->k<H.length:=λi k hi=>by rw[hm.hlen];exact(O i k hi).1
 have hHk:∀(k:Nat),k<H.length->H[k]? =some (H.getD k ⟨undef,0⟩):=λk hk=>by simp[List.getD,hk]
 have aq2:∀(k:Nat),k<es.length->es[k]? =some (es.getD k .dead):=λk hk=>by simp[List.getD,hk]
 have L:∀b,b∈X->∃(i k:Nat),srcs[i]? =some (.ent k)/\E5 (H.getD k ⟨undef,0⟩).v=some b/\¬ok b/\b<w.heap.size/\(C.w0.heap.size<=b\/b∈C.X):=by
  intro b hb;obtain⟨k,hk,hbk⟩:=(hX b).1 hb;obtain⟨i,hi,M⟩:=Ih hk;have hi':srcs[i]? =some (.ent k):=by simp[hi,M]
  have :=hm.blk k _ _ b (aq2 k (O i k hi').1) (O i k hi').2 (hHk k (hlt i k hi')) hbk;exact⟨i,k,hi',hbk,this⟩
 have hmc:Dq ⟨w,ok,X,Hc⟩ ok Hc E w:=by
  refine⟨.refl _ _,λ_ h=>h,λ_ h=>.inl h,hm.lg,.refl _,by simp[Hc,hb1],?_,?_,?_⟩
  ·intro i e h M I;have hi:i<srcs.length:=aGM
   have hcl:e.ao2 srcs=true:=hb3 e (ZQ M);have aKp:∀(j:Nat) (s:EN),srcs[j]? =some s->Hc[j]? =some (EN.hd H s):=λj s hs=>by simp[Hc,hs]
   have hs:srcs[i]? =some srcs[i]:=Ur
   have hd:=hE i _ hs;simp only[Hc,Jr,hs,JV,Nk]at I;cases hsi:srcs[i]with
   |ent k=>
    rw[hsi]at hd I hs;simp only[EN.hd]at I;subst I;simp only at hd;rw[M,JV]at hd;exact FQ.down aKp hcl (hm.ent k _ _ hd.symm (hHk k (hlt i k hs)))
   |nil sz=>
    rw[hsi]at hd I;simp only[EN.hd]at I;subst I;obtain⟨e',he'⟩:=hd;rw[M]at he';obtain rfl:=Dv he';exact⟨rfl,BU,[],⟨BU,.inl ⟨rfl,rfl⟩⟩,U9,λi hi=>a2v⟩
  ·intro i e h b M J I z;have hi:i<srcs.length:=aGM
   have hs:srcs[i]? =some srcs[i]:=Ur
   simp only[Hc,Jr,hs,JV,Nk]at I;cases hsi:srcs[i]with
   |ent k=>
    rw[hsi]at I hs;simp only[EN.hd]at I;subst I;have hbX:b∈X:=(hX b).2 ⟨k,ZQ hs,z⟩;obtain⟨_,_,_,_,h1,h2,_⟩:=L b hbX;exact⟨h1,h2,.inr hbX⟩
   |nil sz=>
    rw[hsi]at I;simp only[EN.hd]at I;subst I;simp[E5]at z
  intro i j e e' h h' b M he' J U I hh' z Y;have hi:i<srcs.length:=aGM
  have hj:j<srcs.length:=by rw[hb1];exact(Gs.1 he').1
  have hs:srcs[i]? =some srcs[i]:=Ur
  have hs':srcs[j]? =some srcs[j]:=by simp[hj]
  simp only[Hc,Jr,hs,JV,Nk]at I;simp only[Hc,Jr,hs',JV,Nk]at hh';cases hsi:srcs[i]with
  |nil sz=>rw[hsi]at I;simp only[EN.hd]at I;subst I;simp[E5]at z
  |ent k=>
   cases hsj:srcs[j]with
   |nil sz=>rw[hsj]at hh';simp only[EN.hd]at hh';subst hh';simp[E5]at Y
   |ent k'=>
    rw[hsi]at I hs;rw[hsj]at hh' hs';simp only[EN.hd]at I hh';subst I;subst hh';have hkk:=hm.Jy k k' _ _ _ _ b (aq2 k (O i k hs).1) (aq2 k' (O j k' hs').1) (O i k hs).2 (O j k' hs').2 (hHk k (hlt i k hs)) (hHk k' (hlt j k' hs')) z Y;subst hkk;exact hidx i j k hs hs'
 have hargs:∀i,i<fE.length->R ok w Hc (fE.getD i .junk) ((ops.map a.eval).toArray.getD i undef):=by
  intro i hi;obtain⟨op,x,ho,hmem,Z⟩:=afN hl ha i hi;have hR:=hn _ hmem
  have e:(ops.map a.eval).toArray.getD i undef=a.eval op:=by
   obtain⟨h1,h2⟩:=Gs.1 ho;simp[Array.getD,h1,h2]
  rw[e];simp only at hR;generalize fE.getD i .junk=y at Z ⊢;generalize a.eval op=u at hR ⊢;have hHc:∀(j:Nat) (s:EN),srcs[j]? =some s->Hc[j]? =some (EN.hd H s):=λj s hs=>by simp[Hc,hs]
  cases x with
  |d x=>
   rcases Z with rfl|⟨j,s,rfl,rfl,hs⟩|⟨rfl,rfl⟩
   ·cases hR with |d _ _ h=>exact .d _ _ h
   ·have :=hR.lit;rw[this];exact .aQ j none 0 0 s (hHc j _ hs)
   have :=hR.lit;rw[this];exact .d _ _ (.sl0 none 0)
  |aQ k=>
   obtain⟨j,rfl,hs⟩:=Z;cases hR with
   |aQ _ ad n cap s hH=>
    refine .aQ j ad n cap s ?_;rw[hHc j _ hs];simp[EN.hd,List.getD,hH]
  |ptr k off=>
   obtain⟨j,rfl,hs⟩:=Z;cases hR with
   |ptr _ _ b s hH=>
    refine .ptr j off b s ?_;rw[hHc j _ hs];simp[EN.hd,List.getD,hH]
  |mp k=>
   obtain⟨j,rfl,hs⟩:=Z;cases hR with
   |mp _ _ s hl hH=>
    refine .mp j _ s hl ?_;rw[hHc j _ hs];simp[EN.hd,List.getD,hH]
  |fn f fi ca=>
   obtain⟨fi',ca',rfl,h1,h2⟩:=Z
   have one:∀(x y:Ah) (v:BD),aH5 srcs x y->R ok w H x v->R ok w Hc y v:=by
    intro x y v hxy hx;cases x with
    |d x=>obtain rfl:=hxy;cases hx with |d _ _ h=>exact .d _ _ h
    |mp k=>
     obtain⟨j,rfl,hs⟩:=hxy;cases hx with
     |mp _ _ s hl hH=>
      refine .mp j _ s hl ?_;rw[hHc j _ hs];simp[EN.hd,List.getD,hH]
    |ptr k off=>
     obtain⟨j,rfl,hs⟩:=hxy;cases hx with
     |ptr _ _ b s hH=>
      refine .ptr j off b s ?_;rw[hHc j _ hs];simp[EN.hd,List.getD,hH]
    |_=>exact hxy.elim
   cases hR with
   |fn _ _ _ vs us hl1 hl2 h3 h4=>
    refine .fn f fi' ca' vs us (by rw[hl1,yt h1]) (by rw[hl2,yt h2]) (λi hi=>?_) (λi hi=>?_)
    ·exact one _ _ _ (aEu h1 i hi) (h3 i (by rw[yt h1];exact hi))
    exact one _ _ _ (aEu h2 i hi) (h4 i (by rw[yt h2];exact hi))
  |_=>exact Z.elim
 refine(hr ok X Hc w _ hmc (by simp[hl,aU6 ha]) hargs).mono ?_;rintro e w' ⟨v,ok',H',rfl,q,hR⟩;have hgr:F9 ok w ok' w':=λb hb=>⟨q.CU b hb,q.fr.block b (hm.lg b hb) (λhbX=>by obtain⟨_,_,_,_,h1,_⟩:=L b hbX;exact h1 hb)⟩
 have aPN:srcs.length<=H'.length:=by rw[q.hlen];exact hb2
 refine⟨v,ok',H++H'.drop srcs.length,rfl,hgr,Gy _ _,?_,by have :=aNx rfl hlt q.names hR;rwa [hm.hlen]at this⟩
 let idx:Nat->AB Nat:=λj=>srcs.findIdx? (λs=>match s with | .ent k=>k==j| .nil _=>false)
 have aJe:∀(j i:Nat),idx j=some i->srcs[i]? =some (.ent j):=by
  intro j i h;simp only[idx,aTN]at h;obtain⟨h1,h2,_⟩:=h;have :srcs[i]? =some srcs[i]:=mD
  cases hs:srcs[i]with
  |ent k=>rw[hs]at h2 this;simp at h2;rw[this,h2]
  |nil _=>rw[hs]at h2;simp at h2
 have aJf:∀(j:Nat),idx j=none->∀(i:Nat),srcs[i]? ≠some (.ent j):=by
  intro j h i hi;simp only[idx,List.findIdx?_eq_none_iff]at h;have :=h _ (ZQ hi);simp at this
 have hlow:∀(j:Nat),j<es.length->(MG srcs es E')[j]? =some (match idx j with |some i=>(E'.getD i .dead).up srcs es.length|none=>es.getD j .dead):=by
  intro j hj;unfold MG;rw[JR (by simpa using hj)];simp only[Jr,List.getElem?_zipIdx,aq2 j hj,JV,Js];rfl
 have aHC:(MG srcs es E').length=es.length+(E'.length-srcs.length):=by simp[MG]
 have hhigh:∀(j:Nat),es.length<=j->(MG srcs es E')[j]? =(E'[srcs.length+(j-es.length)]?).map (Bc.up srcs es.length):=by
  intro j hj;unfold MG;rw[P7 (by simpa using hj),Jr,Ul];simp
 have aJg:∀(j:Nat),j<es.length->(H++H'.drop srcs.length)[j]? =H[j]? :=λj hj=>JR (by rw[hm.hlen];exact hj)
 have aHD:∀(j:Nat),es.length<=j->(H++H'.drop srcs.length)[j]? =H'[srcs.length+(j-es.length)]? :=by
  intro j hj;rw[P7 (by rw[hm.hlen];exact hj),Ul,hm.hlen]
 have hcls:∀(j:Nat) (e:Bc) (h:CG),(MG srcs es E')[j]? =some e->e.live=true\/True->(H++H'.drop srcs.length)[j]? =some h->
  (∃(i:Nat) (e0:Bc),e=e0.up srcs es.length/\E'[i]? =some e0/\H'[i]? =some h/\((j<es.length/\srcs[i]? =some (.ent j))\/(es.length<=j/\i=srcs.length+(j-es.length))))\/(j<es.length/\es[j]? =some e/\H[j]? =some h/\∀(i:Nat),srcs[i]? ≠some (.ent j)):=by
  intro j e h M _ I;by_cases hj:j<es.length
  ·rw[hlow j hj]at M;rw[aJg j hj]at I;cases hi:idx j with
   |none=>
    rw[hi]at M;simp only[Nk]at M;exact .inr ⟨hj,by rw[aq2 j hj,M],I,aJf j hi⟩
   |some i=>
    rw[hi]at M;simp only[Nk]at M;have hs:=aJe j i hi;have hil:i<srcs.length:=(Gs.1 hs).1;have hiE:i<E'.length:=AL
    refine .inl ⟨i,_,M.symm,by simp[List.getD,hiE],?_,.inl ⟨hj,hs⟩⟩;refine q.names i h ?_;simp only[Hc,Jr,hs,JV,EN.hd];simp[List.getD,I]
  rw[hhigh j AL]at M;rw[aHD j AL]at I;rw[ay]at M;obtain⟨e0,M,rfl⟩:=M;exact .inl ⟨_,_,rfl,M,I,.inr ⟨AL,rfl⟩⟩
 have hold:∀(j:Nat) (e:Bc) (h:CG) (b:Nat),es[j]? =some e->H[j]? =some h->(∀(i:Nat),srcs[i]? ≠some (.ent j))->e.live=true->E5 h.v=some b->b<w.heap.size/\b∉X/\¬ok b/\(C.w0.heap.size<=b\/b∈C.X):=by
  intro j e h b M I hno J z;have h1:=hm.blk j e h b M J I z;refine⟨h1.2.1,λhbX=>?_,h1.1,h1.2.2⟩;obtain⟨i,k,hs,hbk,_⟩:=L b hbX;have :=hm.Jy j k e _ h _ b M (aq2 k (O i k hs).1) J (O i k hs).2 I (hHk k (hlt i k hs)) z hbk;subst this;exact hno i hs
 have aq3:∀(i:Nat) (e:Bc) (h:CG) (b:Nat),E'[i]? =some e->H'[i]? =some h->e.live=true->E5 h.v=some b->¬ok' b/\b<w'.heap.size/\(w.heap.size<=b\/b∈X):=λi e h b M I J z=>q.blk i e h b M J I z;refine⟨⟨q.fr.os.trans hm.fr.os,q.fr.tape.trans hm.fr.tape,q.fr.output.trans hm.fr.output,EK hm.fr.size q.fr.size,λk hk hx=>?_⟩,λb hb=>q.CU b (hm.CU b hb),?_,q.lg,hm.names.trans (Gy _ _),?_,?_,?_,?_⟩
 ·have hkw:k<w.heap.size:=Wn hk hm.fr.size
  rw[q.fr.block k hkw (λhkX=>by
   obtain⟨_,_,_,_,_,_,h⟩:=L k hkX;rcases h with h|h
   ·omega
   exact hx h)]
  exact hm.fr.block k hk hx
 ·intro b hb;rcases q.CV b hb with h|h|h
  ·exact hm.CV b h
  ·exact .inr (.inl (EK hm.fr.size h))
  obtain⟨_,_,_,_,_,_,h⟩:=L b h;exact .inr h
 ·rw[aHC,Ed,NP,hm.hlen,q.hlen]
 ·intro j e h M I;rcases hcls j e h M (.inr trivial) I with⟨i,e0,rfl,h1,h2,_⟩|⟨_,h1,h2,h3⟩
  ·exact FQ.upw rfl hlt q.names hm.hlen (hb4 e0 (ZQ h1)) (q.ent i e0 h h1 h2)
  refine(hm.ent j e h h1 h2).mono hgr (Gy _ _) (λJ b z=>?_);have h4:=hold j e h b h1 h2 h3 J z;exact q.fr.block b h4.1 h4.2.1
 ·intro j e h b M J I z;rcases hcls j e h M (.inr trivial) I with⟨i,e0,rfl,h1,h2,_⟩|⟨_,h1,h2,h3⟩
  ·have h4:=aq3 i e0 h b h1 h2 aJD z;refine⟨h4.1,h4.2.1,?_⟩;rcases h4.2.2 with h5|h5
   ·exact .inl (EK hm.fr.size h5)
   obtain⟨_,_,_,_,_,_,h⟩:=L b h5;exact h
  have h4:=hold j e h b h1 h2 h3 J z;refine⟨λhok'=>?_,Wn h4.1 q.fr.size,h4.2.2.2⟩;rcases q.CV b hok' with h5|h5|h5
  ·exact h4.2.2.1 h5
  ·have :w.heap.size<=b:=h5;omega
  exact h4.2.1 h5
 intro j j' e e' h h' b M he' J U I hh' z Y;rcases hcls j e h M (.inr trivial) I with⟨i,e0,rfl,h1,h2,h3⟩|⟨_,h1,h2,h3⟩
 ·rcases hcls j' e' h' he' (.inr trivial) hh' with⟨i',e0',rfl,h1',h2',h3'⟩|⟨_,h1',h2',h3'⟩
  ·have hii:=q.Jy i i' e0 e0' h h' b h1 h1' aJD (by rw[Bc.afX]at U;exact U) h2 h2' z Y;subst hii;rcases h3 with⟨_,h4⟩|⟨h4,h5⟩
   ·rcases h3' with⟨_,h4'⟩|⟨h4',h5'⟩
    ·rw[h4]at h4';simpa using h4'
    have :=(Gs.1 h4).1;omega
   rcases h3' with⟨_,h4'⟩|⟨h4',h5'⟩
   ·have :=(Gs.1 h4').1;omega
   omega
  have h4:=hold j' e' h' b h1' h2' h3' U Y;rcases(aq3 i e0 h b h1 h2 aJD z).2.2 with h5|h5
  ·omega
  exact absurd h5 h4.2.1
 rcases hcls j' e' h' he' (.inr trivial) hh' with⟨i',e0',rfl,h1',h2',h3'⟩|⟨_,h1',h2',h3'⟩
 ·have h4:=hold j e h b h1 h2 h3 J z;rcases(aq3 i' e0' h' b h1' h2' (by rw[Bc.afX]at U;exact U) Y).2.2 with h5|h5
  ·omega
  exact absurd h5 h4.2.1
 exact hm.Jy j j' e e' h h' b h1 h1' J U h2 h2' z Y
def aQ0 (srcs:AA EN)(q:EW P f fE E j E')(u:Gw P f=true)(z:Sm srcs es E E'=true)(hE:qU srcs es E)(ha:NV srcs dY fE)(hl:ops.toList.length=dY.length)(I:o.op=.call { callee:=.value (.func f),args:=ops,argTypes:=ats }:=by exact rfl):CB P o (Fh ops.toList dY) es (j.up srcs es.length) (MG srcs es E'):=by
 intro C ok H a w Q hm J;unfold Oper.wp;rw[yg I,UC u,ak];have e:ops.map a.eval=(ops.toList.map a.eval).toArray:=a4e
 rw[e];refine(aQW hm srcs q z hE ha hl J).mono ?_;rintro e w' ⟨v,ok',H',rfl,h1,h2,h3,L⟩;exact⟨v,ok',H',rfl,h1,h2,h3,L⟩
def Ad (n:Int):D:=.lit (.int .i64 n)
def Dh (n:Int):D:=.lit (.int .u8 n)
def Dt (b:AV):D:=.lit (.bool b)
def DT (s:BL):D:=.lit (.string s)
def BQ (e:α->D)(l:AA α):D:=.sl (l.map e)
def BI (x:D):AA Ah:=x.cells.map .d
def Aj (l:AA α)(i:Int):AB α:=if 0<=i then l[i.toNat]? else none
def DC (j:Nat)(l m:AA α):AB (AA α):=if(l.length+m.length)*j<=140737488355328 then some (l++m)else none
def Hz (s:BL)(i:Int):AB Int:=if 0<=i then(s[i.toNat]?).map λc=>(c.toNat:Int)else none
def Hq (l:AA α)(lo hi:Int):AB (AA α):=if 0<=lo/\lo<=hi/\hi<=l.length then some ((l.drop lo.toNat).take (hi.toNat-lo.toNat))else none
def OC (s:BL)(lo hi:Int):AB BL:=if 0<=lo/\lo<=hi/\hi<=s.size then some (s.extract lo.toNat hi.toNat)else none
def Ir (j:Nat)(z:α)(n c:Int):AB (AA α):=if 0<=n/\n<=c/\(j:Int)*c<=140737488355328 then some (List.replicate n.toNat z)else none
variable {x:α}
def GZ (h:Aj l i=some x):0<=i/\l[i.toNat]? =some x:=by
 unfold Aj at h;split at h
 ·exact⟨‹_›,h⟩
 cases h
variable {β:Type}
def adF {i:Nat}(f:α->β)(h:l[i]? =some x):(l.map f)[i]? =some (f x):=by simp[h]
def Oy {b:AV}{y z:α}(j:b=true)(h:(cond b x y)=z):x=z:=by subst j;exact h
def Oe {b:AV}{y z:α}(j:b=false)(h:(cond b x y)=z):y=z:=by subst j;exact h
def Dn {x:AB α}{f:α->AB β}{z:β}(h:x.bind f=some z):∃a,x=some a/\f a=some z:=mY.1 h
def Am :Nat:=9223372036854775808
variable {e:Bq}{hi lo:AB Bz}{l:Int}{r:BL}{s:Nat}{x:Bz}
def aXj (enc:α->D)(l:AA α)(j:P.underlying t=some (.slice e))(q:o.op=.call { callee:=.builtin .len,args:= #[x],argTypes:= #[t] }:=by exact rfl):
 CB P o [(x,.d (BQ enc l))] es (.d (Ad l.length)) es:=by
 have :=aPY (es:=es) (xs:=l.map enc) j q;rw[Di]at this;exact this
def Jq (enc:α->D)(l:AA α)(j:es[k]? =some (.arr e' s (l.map enc)))(q:P.underlying t=some (.slice e))(u:o.op=.call { callee:=.builtin .len,args:= #[x],argTypes:= #[t] }:=by exact rfl):
 CB P o [(x,.aQ k)] es (.d (Ad l.length)) es:=by
 have :=ahm j q u;rw[Di]at this;exact this
def aYu (s:BL)(j:P.underlying t=some .string)(q:o.op=.call { callee:=.builtin .len,args:= #[x],argTypes:= #[t] }:=by exact rfl):
 CB P o [(x,.d (DT s))] es (.d (Ad s.size)) es:=amA j q
def ZF {k:IntKind}(enc:α->D){l:AA α}{a:α}(h:Aj l i=some a)(j:P.underlying t=some (.slice e))(q:Eb P e agg size)(hs:(enc a).cells.length=size)(u:o.op=.indexAddr t x y:=by exact rfl):
 CB P o [(x,.d (BQ enc l)),(y,.d (.lit (.int k i)))] es (.d (.ref (enc a).cells 0)) es:=
 zA j q (GZ h).1 (adF enc (GZ h).2) hs u
def Hw (enc:α->D){l:AA α}{a:α}(h:Aj l i=some a)(j:es[k]? =some (.arr e' size (l.map enc)))(q:P.underlying t=some (.slice e))(u:Eb P e agg size)(z:o.op=.indexAddr t x y:=by exact rfl):
 CB P o [(x,.aQ k),(y,.d (.lit (.int kd i)))] es (.lN k i.toNat 0) es:=
 ai5 j q u (GZ h).1 (by have :=(Gs.1 (GZ h).2).1;simpa using this) z
theorem acF {s:BL}{n:Int}(h:Hz s i=some n):∃c,0<=i/\s[i.toNat]? =some c/\n=c.toNat:=by
 unfold Hz at h;split at h
 ·grind
 cases h
def KO {k:IntKind}{n:Int}{s:BL}(h:Hz s i=some n)(j:P.underlying t=some .string)(q:o.op=.index t x y:=by exact rfl):
 CB P o [(x,.d (DT s)),(y,.d (.lit (.int k i)))] es (.d (Dh n)) es:=by
 obtain⟨c,u,h1,rfl⟩:=acF h;exact aeQ j u h1 q
theorem wK {l m r:AA α}(h:DC b l m=some r):r=l++m/\(l.length+m.length)*b<=140737488355328:=by
 unfold DC at h;split at h
 ·grind
 cases h
def a3p (j:0<b)(h:n*b<=140737488355328):n<=maxLen:=by
 have :n*1<=n*b:=Nat.mul_le_mul_left _ j;unfold maxLen;omega
def DZ {s:Bz}{j:Nat}(enc:α->D){l m r:AA α}(h:DC j l m=some r)(hE:G6 P t e size j)(q:es[k]? =some (.arr e size (l.map enc)))(u:∀a,(enc a).cells.length=size)(z:0<j)(I:o.op=.call { callee:=.builtin .append,args:= #[s,x],argTypes:= #[t,t] }:=by exact rfl):
 CB P o [(s,.aQ k),(x,.d (BQ enc m))] es (.aQ es.length) (es.set k .dead++[.arr e size (r.map enc)]):=by
 obtain⟨rfl,h2⟩:=wK h;have :=aY9 (ys:=m.map enc) hE q (λy J=>by obtain⟨a,_,rfl⟩:=Hl.1 J;exact u a) LM (by simpa using a3p z h2) I;rw[←J8]at this;exact this
theorem aZJ {s:BL}{lo hi:Int}(h:OC s lo hi=some r):(0<=lo/\lo<=hi/\hi<=s.size)/\r=s.extract lo.toNat hi.toNat:=by
 unfold OC at h;split at h
 ·grind
 cases h
def zW (x:AB Bz)(n:Int):AA (Bz×Ah):=match x with |some y=>[(y,.d (Ad n))]|none=>[]
def kY {h:Int}{s:BL}(hr:OC s l h=some r)(hl:lo=none->l=0)(Z:hi=none->h=s.size)(ht:P.underlying t=some .string)(J:o.op=.slice t x lo hi none:=by exact rfl):
 CB P o ((x,.d (DT s))::(zW lo l++zW hi h)) es (.d (DT r)) es:=
 .pure λok H a w _ _ M=>by
  obtain⟨⟨O,h1,h2⟩,rfl⟩:=aZJ hr;have q:=(M (x,.d (DT s)) BU).lit;simp only at q;have L:(underlying t).run P w=.ok .string w:=aFw
  refine⟨.string (s.extract l.toNat h.toNat),?_,.d _ _ (.lit _)⟩;have u:∀y,lo=some y->a.eval y=.int .i64 l:=λy e=>(M (y,.d (Ad l)) aAi).lit;have I:∀y,hi=some y->a.eval y=.int .i64 h:=λy e=>(M (y,.d (Ad h)) aAi).lit;have e1:((0:Int)<=h/\h<=(s.size:Int)):=⟨AL,h2⟩
  have e2:((0:Int)<=l/\l<=(h.toNat:Int)):=⟨O,AL⟩
  cases lo with
  |none=>
   have U:=hl rfl;subst U;cases hi with
   |none=>
    have j:=Z rfl;subst j;simp[execOp,J,q,Instr.sliceAt,Instr.slice,L,Instr.sliceBounds]
   |some y=>
    simp[execOp,J,q,Instr.sliceAt,Instr.slice,L,Instr.sliceBounds,Instr.sliceBound,I y rfl,asIntOf,e1]
  |some z=>
   cases hi with
   |none=>
    have j:=Z rfl;subst j;have Y:((0:Int)<=l/\l<=(s.size:Int)):=⟨O,AL⟩
    simp[execOp,J,q,Instr.sliceAt,Instr.slice,L,Instr.sliceBounds,Instr.sliceBound,u z rfl,asIntOf,Y]
   |some y=>
    simp[execOp,J,q,Instr.sliceAt,Instr.slice,L,Instr.sliceBounds,Instr.sliceBound,u z rfl,I y rfl,asIntOf,e1];intro hc;have :=hc O;omega
theorem aV4 {l r:AA α}{lo hi:Int}(h:Hq l lo hi=some r):(0<=lo/\lo<=hi/\hi<=l.length)/\r=(l.drop lo.toNat).take (hi.toNat-lo.toNat):=by
 unfold Hq at h;split at h
 ·grind
 cases h
theorem aRE {ad:AB Addr}{cap l h:Nat}(Y:EF ok w (.sl xs) (.slice ad xs.length cap))(hs:∀x∈xs,x.cells.length=size)(h1:l<=h)(h2:h<=xs.length):
 EF ok w (.sl ((xs.drop l).take (h-l))) (.slice (if cap=l then ad else ad.map (·.add (l*size))) (h-l) (cap-l)):=by
 have hlen:((xs.drop l).take (h-l)).length=h-l:=EY
 by_cases Z:h-l=0
 ·have :(xs.drop l).take (h-l)=[]:=by rw[Z];rfl
  rw[this,Z];exact .sl0 _ _
 have I:0<xs.length:=AL
 generalize hn:xs.length=n at Y;cases Y with
 |sl0=>
  simp at I
 |sl _ b off _ q hcap J L hf hx hc=>
  have M:q=size:=by
   grind
  subst M;have O:cap≠l:=AL
  rw[EZ O];simp only[JV,addr_add]
  have U:∀i,i<h-l->((xs.drop l).take (h-l)).getD i EJ=xs.getD (l+i) EJ:=by
   intro i hi;simp[List.getD,TP hi,Ul]
  have u:∀i j,off+l*q+(i*q+j)=off+((l+i)*q+j):=by
   grind
  have :=EF.sl ((xs.drop l).take (h-l)) b (off+l*q) (cap-l) q (ok:=ok) (w:=w) (by rw[hlen];omega) (λh1 h2=>J (by rw[hlen]at h1;omega) h2) (λi hi=>by rw[hlen]at hi;rw[U i hi];exact L _ AL)
   (λi hi j z=>by rw[hlen]at hi;rw[U i hi];exact hf _ AL j z) (λi hi j z=>by rw[hlen]at hi;rw[u];exact hx _ AL j z)
   (λi hi j z=>by rw[hlen]at hi;rw[U i hi,u];exact hc _ AL j z)
  rw[hlen]at this;exact this
theorem Qq {h:Int}(enc:α->D){xs r:AA α}(hr:Hq xs l h=some r)(hl:lo=none->l=0)(hh:hi=none->h=xs.length)(ht:P.underlying t=some (.slice e))(O:Eb P e agg size)(hc:∀a,(enc a).cells.length=size)(U:o.op=.slice t x lo hi none:=by exact rfl):CB P o ((x,.d (BQ enc xs))::(zW lo l++zW hi h)) es (.d (BQ enc r)) es:=
 .pure λok H a w _ _ hn=>by
  obtain⟨⟨h0,h1,h2⟩,rfl⟩:=aV4 hr;have hx:=hn (x,.d (BQ enc xs)) BU;simp only at hx;generalize Y:a.eval x=v at hx;have Z:(underlying t).run P w=.ok (.slice e) w:=aFw
  have L:∀y,lo=some y->a.eval y=.int .i64 l:=λy e=>(hn (y,.d (Ad l)) aAi).lit;have M:∀y,hi=some y->a.eval y=.int .i64 h:=λy e=>(hn (y,.d (Ad h)) aAi).lit;have u:EF ok w (.sl (xs.map enc)) v:=by cases hx with |d _ _ h=>exact h
  have I:∃ad cap,v=.slice ad (xs.map enc).length cap/\(xs.map enc).length<=cap:=by
   generalize hys:xs.map enc=ys at u;cases u with
   |sl0 ad cap=>
    grind
   |sl _ b off cap size j=>
    grind
  obtain⟨ad,cap,rfl,j⟩:=I;have q:=aRE (l:=l.toNat) (h:=h.toNat) u (size:=size) (λy hy=>aDF) AL EY;rw[←fP,←YM]at q;rw[Di]at j;refine⟨_,?_,.d _ _ q⟩;have e1:((0:Int)<=h/\h<=(cap:Int)):=⟨AL,AL⟩
  cases lo with
  |none=>
   have hl0:=hl rfl;subst hl0;cases hi with
   |none=>
    have J:=hh rfl;subst J;simp[execOp,U,Y,Instr.sliceAt,Instr.slice,Z,Instr.sliceBounds,O.size]
   |some y=>
    simp[execOp,U,Y,Instr.sliceAt,Instr.slice,Z,Instr.sliceBounds,Instr.sliceBound,M y rfl,asIntOf,e1,O.size]
  |some z=>
   cases hi with
   |none=>
    have J:=hh rfl;subst J;have e2':((0:Int)<=l/\l<=(xs.length:Int)):=⟨h0,AL⟩
    simp[execOp,U,Y,Instr.sliceAt,Instr.slice,Z,Instr.sliceBounds,Instr.sliceBound,L z rfl,asIntOf,e2',O.size]
   |some y=>
    simp[execOp,U,Y,Instr.sliceAt,Instr.slice,Z,Instr.sliceBounds,Instr.sliceBound,L z rfl,M y rfl,asIntOf,e1,O.size];intro hc';have :=hc' h0;omega
def mZ (P:Ch)(t:Bq)(f off:Nat)(agg:AV)(n:Nat):AV:=
 match P.underlying t with
 |some (.struct q)=>match q[f]? with
  |some j=>j.offset=off&&aDh P j.type agg n
  |none=>false
 |_=>false
theorem ajD {f:Nat}{cs:AA D}(hp:mZ P t f off agg n=true)(hn:off+n<=cs.length)(h1:agg=false->n=1)(M:o.op=.field t x f:=by exact rfl):CB P o [(x,.d (.agg cs))] es (.d (Q7 agg cs off n)) es:=
 .pure λok H a w _ _ I=>by
  have J:=L9 I;simp only at J;generalize O:a.eval x=v at J;unfold mZ at hp;split at hp
  ·rename_i Z hu;split at hp
   ·rename_i j U;simp only[ED,Iu]at hp;obtain⟨rfl,q⟩:=hp;have q:=FW q;have u:(underlying t).run P w=.ok (.struct Z) w:=a3o
    cases J with
    |d _ _ h=>
     cases h with
     |agg _ vs hl L Y=>
      cases agg with
      |false=>
       have :=h1 rfl;subst this;have z:j.offset<vs.size:=AL
       refine⟨vs[j.offset],?_,?_⟩
       ·simp[execOp,M,O,Instr.field,u,U,asAgg,part,q.agg,z]
       have :=Y j.offset AL;simp[Array.getD,z]at this;exact .d _ _ this
      |true=>
       refine⟨.agg (vs.extract j.offset (j.offset+n)),?_,?_⟩
       ·simp[execOp,M,O,Instr.field,u,U,asAgg,part,q.agg,q.size]
       simp only[Q7,JK];have hlen:((cs.drop j.offset).take n).length=n:=EY
       have hg:∀i,i<n->((cs.drop j.offset).take n).getD i EJ=cs.getD (j.offset+i) EJ:=by
        grind
       refine .d _ _ (.agg _ _ (by rw[hlen];simp;omega) ?_ ?_)<;>intro i hi<;>rw[hlen]at hi<;>rw[hg i hi]
       ·exact L _ AL
       have :=Y (j.offset+i) AL
       have e:(vs.extract j.offset (j.offset+n)).getD i undef=vs.getD (j.offset+i) undef:=by
        have h3:j.offset+i<vs.size:=AL
        have h4:i<(vs.extract j.offset (j.offset+n)).size:=EY
        have h5:i<min (j.offset+n) vs.size-j.offset:=AL
        simp[Array.getD,h3,h5]
       rw[e];exact this
   cases hp
  cases hp
def Ah.flat:Ah->AV
 | .d (.lit _)=>true
 | .eG xs=>xs.all λx=>match x with | .d (.lit _)=>true|_=>false
 |_=>false
def aW1 (es:AA Bc):Ah->Ah->Prop
 | .d x,y=>y=.d x
 | .aQ k,y=>∃e s xs,es[k]? =some (.arr e s xs)/\y=.d (.sl xs)
 |_,_=>False
def fD (es:AA Bc):AA Ah->AA Ah->Prop
 |x::xs,y::ys=>aW1 es x y/\fD es xs ys
 | [],[]=>True
 |_,_=>False
def aCO :∀{xs ys:AA Ah},fD es xs ys->xs.length=ys.length
 | [],[],_=>rfl
 |_::xs,_::ys,h=>by simp[aCO h.2]
 | [],_::_,h=>h.elim
 |_::_,[],h=>h.elim
def aUj {ops:AA Bz}:∀{xs ys:AA Ah},ops.length=xs.length->fD es xs ys->∀i,i<ys.length->∃o x,ops[i]? =some o/\(o,x)∈Fh ops xs/\aW1 es x (ys.getD i .junk):=by
 induction ops with
 |nil=>
  intro xs ys hl h i hi;cases xs with
  |nil=>cases ys with |nil=>simp at hi|cons _ _=>exact h.elim
  |cons _ _=>simp at hl
 |cons o ops j=>
  intro xs ys hl h i hi;cases xs with
  |nil=>simp at hl
  |cons x xs=>
   cases ys with
   |nil=>exact h.elim
   |cons y ys=>
    cases i with
    |zero=>exact⟨o,x,rfl,by simp[Fh],h.1⟩
    |succ i=>
     obtain⟨q,u,h1,h2,h3⟩:=j Lu h.2 i Hf;exact⟨q,u,Zh,by simp[Fh,h2],Yg⟩
def oP {e:Nat}(he:FQ ok w H h (.arr e s xs))(z:∀b,ok b->ok' b)(M:∀b,E5 h.v=some b->ok' b):EF ok' w (.sl xs) h.v:=by
 obtain⟨h1,h2,ys,⟨h3,h4⟩,h5⟩:=he;rcases h4 with⟨L,h7⟩|⟨g,cap,u,L,h7,h8,h9,h10,O,U⟩
 ·rw[Hd h7,L];exact .sl0 none 0
 rw[L];have I:=M g (by rw[L];rfl);have J:=Si h2
 have Y:∀i j,i<xs.length->j<s->i*s+j<xs.length*s:=by
  intro i j hi q
  calc i*s+j<i*s+s:=AL
   _=(i+1)*s:=by rw[iL]
   _<=xs.length*s:=KR _ hi
 have hcur:xs.length*s<=u.size:=by
  exact EK (KR _ h9) O
 have hc:∀i j,i<xs.length->j<s->w.cell? ⟨g,0+(i*s+j),none⟩=some (ys.getD (i*s+j) undef):=by
  intro i j hi q;have Z:=Y i j hi q;rw[Js]
  have e1:ys.getD (i*s+j) undef=u[i*s+j]' AL:=by
   rw[←U];simp[List.getD,TP Z,show i*s+j<u.size by omega]
  rw[e1];simp[World.cell?,h8,show i*s+j<u.size by omega]
 have hg:∀i,i<xs.length->xs.getD i EJ∈xs:=λi hi=>NY
 refine .sl xs g 0 cap s h9 (λ_ _=>I) (λi hi=>h2 _ (hg i hi)) (λi hi j q=>?_) (λi hi j q=>?_) (λi hi j q=>?_)
 ·have :=(h5.2 (i*s+j) (by rw[J];exact Y i j hi q)).1;rw[flat_get h2 i j hi q]at this;exact this
 ·rw[hc i j hi q];rfl
 have :=(h5.2 (i*s+j) (by rw[J];exact Y i j hi q)).2;rw[flat_get h2 i j hi q]at this;unfold cellAt;rw[hc i j hi q];cases this with |d _ _ h=>exact h.mono (λb M=>⟨z b M,rfl⟩)
def bW {I:Ah}(hr:EW P f fE [] I [])(hf:Gw P f=true)(z:I.flat=true)(ha:fD es dY fE)(hl:ops.toList.length=dY.length)(ho:o.op=.call { callee:=.value (.func f),args:=ops,argTypes:=ats }:=by exact rfl):CB P o (Fh ops.toList dY) es I es:=by
 intro C ok H a w Q hm hn;unfold Oper.wp;rw[yg ho,UC hf,ak];have e:ops.map a.eval=(ops.toList.map a.eval).toArray:=a4e
 rw[e]
 let J:Nat->Prop:=λb=>b<w.heap.size
 have hmc:Dq ⟨w,J,[],[]⟩ J [] [] w:=
  ⟨.refl _ _,λ_ h=>h,λ_ h=>.inl h,λ_ h=>h,.refl _,rfl,λk e h L _=>zl,λk e h b L=>zl,λk k' e e' h h' b L=>zl⟩
 refine(hr J [] [] w _ hmc (by simp[hl,aCO ha]) (λi hi=>?_)).mono ?_
 ·obtain⟨op,x,ho',U,j⟩:=aUj hl ha i hi;have O:=hn _ U
  have e:(ops.toList.map a.eval).toArray.getD i undef=a.eval op:=by
   obtain⟨h1,h2⟩:=Gs.1 ho';have h3:i<ops.size:=Zh
   have Y:ops[i]=op:=LM
   simp[Array.getD,h3,Y]
  rw[e];simp only at O;generalize fE.getD i .junk=y at j;generalize a.eval op=u at O;cases x with
  |d x=>
   obtain rfl:=j;cases O with |d _ _ h=>exact .d _ _ (h.mono (λb M=>⟨hm.lg b M,rfl⟩))
  |aQ k=>
   obtain⟨e',s,xs,hk,rfl⟩:=j;obtain⟨h,hh,hok⟩:=Gp hm.ent hm.hlen hk;obtain rfl:=Ph O hh;exact .d _ _ (oP hok (λb M=>hm.lg b M) (λb M=>(hm.blk k _ h b hk rfl hh M).2.1))
  |_=>exact j.elim
 rintro e w' ⟨v,ok',H',rfl,q,O⟩;have Z:∀b,b<w.heap.size->¬False->w'.heap[b]? =w.heap[b]? :=λb M _=>q.fr.block b M BU;obtain⟨h1,h2⟩:=hm.change (ok':=ok) (H':=H) (es':=es) (w':=w') (λ_=>False) q.fr.os q.fr.tape q.fr.output q.fr.size Z (λ_ h=>h.elim) (λ_ h=>h) (λ_ h=>.inl h) (.refl _) hm.hlen (λk e h L hh=>.inl ⟨L,hh,λ_ _ _ h=>h⟩);refine⟨v,ok,H,rfl,h2,.refl _,h1,?_⟩;cases O with
 |d x v h=>
  cases x with
  |lit u=>cases h;exact .d _ _ (.lit _)
  |_=>simp[Ah.flat]at z
 |eG xs vs hl' h=>
  refine .eG xs vs hl' (λi hi=>?_);simp only[Ah.flat,Fq]at z;have h3:=z (xs.getD i .junk) NY;have Y:=h i hi;generalize xs.getD i .junk=x at h3 Y;generalize vs.getD i undef=u at Y;cases Y with
  |d y _ h5=>
   cases y with
   |lit u=>cases h5;exact .d _ _ (.lit _)
   |_=>simp at h3
  |_=>simp at h3
 |_=>simp[Ah.flat]at z
def Ah.thaw (k:Nat)(xs:AA D):Ah->Ah
 | .aQ j=>if j=k then .d (.sl xs)else .aQ j
 | .lN j i off=>if j=k then .junk else .lN j i off
 |x=>x
def BP.thaw (σ:BP)(k:Nat)(xs:AA D):BP:=⟨σ.slots.map (Ah.thaw k xs),σ.ents.set k .dead,σ.base⟩
theorem IQ (k:Nat){e:Nat}(hk:σ.ents[k]? =some (.arr e s xs)):∀C ok H a w,Holds C ok H σ a w->∃ok',Holds C ok' H (σ.thaw k xs) a w:=by
 intro C ok H a w u;obtain⟨hd,M,hok⟩:=Gp u.mem.ent u.mem.hlen hk;have I:k<σ.ents.length:=(Gs.1 hk).1
 let ok':Nat->Prop:=λb=>ok b\/E5 hd.v=some b
 have hblk:=λb q=>u.mem.blk k _ hd b hk rfl M q;have hg:F9 ok w ok' w:=λb q=>⟨.inl q,rfl⟩
 refine⟨ok',⟨u.mem.fr,λb q=>.inl (u.mem.CU b q),?_,?_,u.mem.names,by simp[BP.thaw,u.mem.hlen],?_,?_,?_⟩,by simp[BP.thaw,u.size],u.defers.mono hg,u.base,?_⟩
 ·rintro b (q|q)
  ·exact u.mem.CV b q
  grind
 ·rintro b (q|q)
  ·exact u.mem.lg b q
  grind
 ·intro j e' h' he J;rcases N9 I he with⟨rfl,rfl⟩|⟨_,L⟩
  ·trivial
  exact(u.mem.ent j e' h' L J).mono hg (.refl _) (λ_ _ _=>rfl)
 ·intro j e' h' b he hl J q;rcases N9 I he with⟨rfl,rfl⟩|⟨hne,L⟩
  ·cases hl
  have h3:=u.mem.blk j e' h' b L hl J q;refine⟨λz=>?_,h3.2⟩;rcases z with z|z
  ·exact h3.1 z
  exact hne (u.mem.Jy j k e' _ h' hd b L hk hl rfl J M q z)
 ·intro i j e1 e2 h1 h2 b he1 he2 U Y hh1 hh2 hb1 hb2;rcases N9 I he1 with⟨rfl,rfl⟩|⟨_,Z⟩
  ·cases U
  rcases N9 I he2 with⟨rfl,rfl⟩|⟨_,aDO⟩
  ·cases Y
  exact u.mem.Jy i j e1 e2 h1 h2 b Z aDO U Y hh1 hh2 hb1 hb2
 intro t ht;simp only[BP.thaw,Di]at ht
 have e1:(σ.thaw k xs).slots.getD t .junk=(σ.slots.getD t .junk).thaw k xs:=by
  simp only[BP.thaw];exact Vh _ _ _ ht
 rw[e1];have O:=(u.slot t ht).mono hg (kV H);generalize σ.slots.getD t .junk=x at O ⊢;generalize a.tmps.getD t undef=v at O ⊢;cases x with
 |aQ j=>
  simp only[Ah.thaw];split
  ·rename_i hj;subst hj;obtain rfl:=Ph O M;exact .d _ _ (oP hok (λb q=>.inl q) (λb q=>.inr q))
  exact O
 |lN j i off=>
  simp only[Ah.thaw];split
  ·exact .junk _
  exact O
 |_=>
   exact O
def EW.view {args:AA Ah}{e:Nat}(h:EW P f args [] (.aQ 0) [.arr e s xs]):EW P f args [] (.d (.sl xs)) []:=by
 intro ok X H w q hm hs ha;refine(h ok X H w q hm hs ha).mono ?_;rintro e' w' ⟨v,ok',H',rfl,j,L⟩;have M:H=[]:=Hd hm.hlen;have hl:H'.length=1:=j.hlen
 match H',hl with
 | [hd],_=>
   obtain rfl:=Ph L (h:=hd) rfl;have I:=j.ent 0 _ hd rfl rfl;have z:=λb z=>j.blk 0 _ hd b rfl rfl rfl z
   let J:Nat->Prop:=λb=>ok' b\/E5 hd.v=some b
   refine⟨hd.v,J,[],rfl,⟨j.fr,λb h=>.inl (j.CU b h),?_,?_,by intro k v O;subst M;simp at O,rfl,λk e h u=>by simp at u,λk e h b u=>by simp at u,λk k' e e' h h' b u=>by simp at u⟩,.d _ _ (oP I (λb h=>.inl h) (λb h=>.inr h))⟩
   ·rintro b (h|h)
    ·exact j.CV b h
    exact .inr (z b h).2.2
   rintro b (h|h)
   ·exact j.lg b h
   exact(z b h).2.1
theorem aYi (es E':AA Bc)(j:E'.all Bc.closed=true):MG [] es E'=es++E':=by
 unfold MG;simp only[List.findIdx?_nil,QX,a1Z];rw[aWr j];congr 1;apply kW
 grind
variable {res':Ah}
def aCc (z:EW P f fE [] j E')(I:Gw P f=true)(q:E'.all Bc.closed=true)(ha:NV [] dY fE)(hl:ops.toList.length=dY.length)(J:j.up [] es.length=res')(L:o.op=.call { callee:=.value (.func f),args:=ops,argTypes:=ats }:=by exact rfl):CB P o (Fh ops.toList dY) es res' (es++E'):=by
 have :=aQ0 (es:=es) [] z I (by
  have u:E'.all (Bc.aq1 [] es.length)=true:=by
   rw[Fq]at q ⊢;exact λe M=>afh (q e M)
  simp[Sm,u]) (λi s h=>IV) ha hl L
 rw[aYi _ _ q,J]at this;exact this
theorem aSt (q:EW P f fE [] j [])(u:Gw P f=true)(ha:NV [] dY fE)(hl:ops.toList.length=dY.length)(z:j.up [] es.length=res')(I:o.op=.call { callee:=.value (.func f),args:=ops,argTypes:=ats }:=by exact rfl):CB P o (Fh ops.toList dY) es res' es:=by
 have :=aCc (es:=es) q u rfl ha hl z I
 grind
variable {x y:Code}
section
variable {P:Ch} {σ:BP} {Q:Exit->BP->Prop}
def aFC (P:Ch)(σ:BP):ResultVar->Ah->Prop
 | .tmp t,x=>x=σ.slots.getD t .junk
 | .cell t T,x=>∃k cs agg n,σ.slots.getD t .junk=.ptr k 0/\σ.ents[k]? =some (.box cs)/\cs.all Ah.C9=true/\Eb P T agg n/\n<=cs.length/\(agg=false->n=1)/\x=.d (Q7 agg (JD cs) 0 n)
def G7 {P:Ch}{σ:BP}{t:Tmp}{x:Ah}(h:x=σ.slots.getD t .junk):aFC P σ (.tmp t) x:=h
def YR (P:Ch)(σ:BP):AA ResultVar->AA Ah->Prop
 |r::rs,x::xs=>aFC P σ r x/\YR P σ rs xs
 | [],[]=>True
 |_,_=>False
def nK :AA Ah->Ah
 | [x]=>x
 |xs=>.eG xs
def bC (P:Ch)(fn:Func)(j:Ah)(E':AA Bc):Exit->BP->Prop
 | .ret,σ=>∃xs π,YR P σ fn.results.toList xs/\Vw σ.base σ.ents π=true/\j=(nK xs).back π/\E'=SS σ.ents π
 | .normal,σ=>∃xs π,YR P σ fn.results.toList xs/\Vw σ.base σ.ents π=true/\j=(nK xs).back π/\E'=SS σ.ents π
 |_,_=>False
def aKA (tmps:Bg BD):ResultVar->Sem BD
 | .tmp t=>pure (tmps.getD t undef)
 | .cell t T=>do loadVar T (←asAddr (tmps.getD t undef))
def amK (h:Holds C ok H σ a w){r:ResultVar}{x:Ah}(j:aFC P σ r x):
 ∃v,(aKA a.tmps r).run P w=.ok v w/\R ok w H x v:=by
 cases r with
 |tmp t=>
  obtain rfl:=j;exact⟨_,rfl,h.azn t⟩
 |cell t T=>
  obtain⟨k,cs,agg,n,hs,J,hd,L,hn,h1,rfl⟩:=j;have hp:=hs▸h.azn t;obtain⟨M,O,q⟩:=Gp h.mem.ent h.mem.hlen J;obtain⟨b,z,U,Y,Z⟩:=aLj q hd;generalize hu:a.tmps.getD t undef=u at hp;cases hp with
  |ptr _ _ b' s I=>
   rw[O]at I;obtain rfl:=Dv I;simp at z;subst z;show ∃v,((do loadVar T (←asAddr (a.tmps.getD t undef)):Sem BD)).run P w=.ok v w/\_;rw[hu];obtain⟨v,j,hD⟩:=a6Z L (off:=0) (by rw[yQ];omega) h1 U Y Z;refine⟨v,?_,.d _ _ hD⟩;simp only[Instr.loadAt,Instr.sureAddr,Fg,Gl,Fv,Js]at j;simp only[asAddr,Fg,Gl,Fv];exact j
theorem aSm {C:Ez}{ok:Nat->Prop}{H:AA CG}{a:Act}{w:BX}(h:Holds C ok H σ a w):∀(rs:AA ResultVar) (xs:AA Ah),YR P σ rs xs->
 ∃vs:AA BD,(rs.mapM (aKA a.tmps)).run P w=.ok vs w/\vs.length=xs.length/\∀i,i<xs.length->R ok w H (xs.getD i .junk) (vs.getD i undef)
 | [],[],_=>⟨[],rfl,rfl,λi hi=>TR⟩
 | [],_::_,h'=>h'.elim
 |_::_,[],h'=>h'.elim
 |r::rs,x::xs,h'=>by
  obtain⟨v,q,z⟩:=amK (P:=P) h h'.1;obtain⟨vs,j,hl,u⟩:=aSm h rs xs h'.2;refine⟨v::vs,?_,fB,λi hi=>?_⟩
  ·simp only[List.mapM_cons,Fg,q,j,Fv,Gl]
  grind
def afk (h:Holds C ok H σ a w){xs:AA Ah}(z:YR P σ fn.results.toList xs):
 ∃v,(results fn a.tmps).run P w=.ok v w/\R ok w H (nK xs) v:=by
 obtain⟨vs,q,hl,j⟩:=aSm (P:=P) h _ _ z
 have hm:(results fn a.tmps).run P w=.ok (if h:vs.toArray.size=1 then vs.toArray[0]else .tuple vs.toArray) w:=by
  have e:results fn a.tmps=(do let vs ←fn.results.mapM (aKA a.tmps);pure (if h:vs.size=1 then vs[0]else .tuple vs)):=rfl;rw[e,aCj];simp only[Fg,a0I,q,Fv,Gl]
 refine⟨_,hm,?_⟩
 match xs,hl,j with
 | [x],hl,j=>
   have h1:vs.toArray.size=1:=Lu
   rw[dif_pos h1];have :=j 0 BU
   have e:vs.getD 0 undef=vs.toArray[0]:=by
    have :0<vs.length:=fB
    simp[List.getD,this]
   rw[e]at this;exact this
 | [],hl,j=>
   have h1:¬vs.toArray.size=1:=by simp at hl;simp[hl]
   rw[dif_neg h1];exact .eG [] _ Lu (λi hi=>TR)
 |x::y::xs,hl,j=>
  have h1:¬vs.toArray.size=1:=by simp at hl;simp[hl]
  rw[dif_neg h1];refine .eG _ _ Lu (λi hi=>?_);have :=j i hi;have u:i<vs.length:=AL
  have e:vs.toArray.getD i undef=vs.getD i undef:=by simp[Array.getD,List.getD,u]
  rw[e];exact this
def agn {D:Nat}{x:AB (AA Deferred)}(h:w.heap[D]? =some (.deferred x))(o:Nat):w.cell? ⟨D,o,none⟩=none:=by
 unfold World.cell?;rw[h]
theorem Holds.take {σ:BP}(Z:∀b,C.ok0 b->b<C.w0.heap.size)(h:Holds C ok H σ a w){D:Nat}{Ds:AA Nat}(hd:∀d∈Ds,ok d/\C.w0.heap.size<=d/\w.heap[d]? =some (.deferred (some [])))(hD:ok D/\C.w0.heap.size<=D/\w.heap[D]? =some (.deferred (some [])))(M:(D::Ds).Nodup):
 ∃ok',Holds C ok' H σ { a with defers:=Ds.map λD=>{ target:=.collected D,args:= #[] } } (w.putObj D (.deferred none))/\∀d∈Ds,ok' d/\C.w0.heap.size<=d/\(w.putObj D (.deferred none)).heap[d]? =some (.deferred (some [])):=by
 obtain⟨h1,h2,h3⟩:=hD;have q:∀b,b≠D->(w.putObj D (.deferred none)).heap[b]? =w.heap[b]? :=λb j=>aB j;have I:∀b o,ok b->(w.cell? ⟨b,o,none⟩).isSome=true->ok b/\b≠D:=λb o j J=>⟨j,λe=>by subst e;rw[agn h3]at J;cases J⟩
 have Y:F9 (λb=>ok b/\b≠D) w (λb=>ok b/\b≠D) (w.putObj D (.deferred none)):=λb j=>⟨j,q b j.2⟩
 have O:∀(k:Nat) (e:Bc) (hd:CG) (b:Nat),σ.ents[k]? =some e->e.live=true->H[k]? =some hd->E5 hd.v=some b->b≠D:=λk e hd b u hl z j U=>(h.mem.blk k e hd b u hl z j).1 (U▸h1)
 have L:∀d∈Ds,(ok d/\d≠D)/\C.w0.heap.size<=d/\(w.putObj D (.deferred none)).heap[d]? =some (.deferred (some [])):=λd hdm=>by
  grind
 refine⟨λb=>ok b/\b≠D,⟨⟨⟨h.mem.fr.os,h.mem.fr.tape,h.mem.fr.output,by simpa[World.putObj]using h.mem.fr.size,λk hk hX=>by rw[q k AL];exact h.mem.fr.block k hk hX⟩,λb j=>⟨h.mem.CU b j,λe=>by have :=Z b j;omega⟩,λb j=>h.mem.CV b j.1,λb j=>by simpa[World.putObj]using h.mem.lg b j.1,h.mem.names,h.mem.hlen,?_,?_,?_⟩,h.size,⟨Ds,rfl,(LC.1 M).2,L⟩,h.base,λt ht=>((h.slot t ht).shrink I).mono Y (.refl _)⟩,L⟩
 ·intro k e hd u z;exact((h.mem.ent k e hd u z).shrink I (λb ms c j J=>⟨j,λe=>by subst e;rw[h3]at J;cases J⟩)).mono Y (.refl _) λhl b j=>q b (O k e hd b u hl z j)
 ·intro k e hd b u hl z j;obtain⟨h4,h5,h6⟩:=h.mem.blk k e hd b u hl z j;exact⟨λhx=>h4 hx.1,by simpa[World.putObj]using h5,h6⟩
 exact h.mem.Jy
def aFI {fn:Func}{Rr:Ending->BX->Prop}{C:Ez}(u:∀b,C.ok0 b->b<C.w0.heap.size){H:AA CG}{σ:BP}(z:∀ok a w,Holds C ok H σ a w->∃v,(results fn a.tmps).run P w=.ok v w/\Rr (.returned v) w):∀(Ds:AA Nat) {ok:Nat->Prop} {a:Act} {w:BX},Holds C ok H σ a w->(∀d∈Ds,ok d/\C.w0.heap.size<=d/\w.heap[d]? =some (.deferred (some [])))->Ds.Nodup->
  LeavesInM (JE none) 0 P fn a.tmps Rr (Ds.map λD=>{ target:=.collected D,args:= #[] }) .returning w
 | [],ok,a,w,h,_,_=>z ok a w h
 |D::Ds,ok,a,w,h,hd,I=>by
  obtain⟨ok',h',j⟩:=h.take u (λd q=>hd d (Ii _ q)) (hd D (I8 ..)) I;have h2:=aFI u z Ds h' j (LC.1 I).2;exact⟨BU,.inl ⟨D,_,rfl,run_takeDeferred (hd D (I8 ..)).2.2,h2⟩⟩
theorem EW.dO {f:FuncId}{fn:Func}{c:Code}{args:AA Ah}{E E':AA Bc}{u:Ah}(Y:P.funcs[f]? =some fn)(Z:fn.body=some c)(h:Bh P c (.enter args fn.ntmps E) (bC P fn u E')):EW P f args E u E':=by
 intro ok X H w j hm hs ha;refine(a1k (ro:=none) (n:=0)).1 (aH6 Y Z trivial (UD (h.run none (.inl rfl) ⟨w,ok,X,H⟩ ok H _ w ?_) ?_) rfl)
 ·refine⟨hm,?_,.nil _ _ _,hm.hlen,λt ht=>?_⟩
  ·simp[BP.enter,hs]
  simp only[BP.enter];by_cases e:t<args.length
  ·have U:(args++List.replicate (fn.ntmps-args.length) Ah.junk).getD t .junk=args.getD t .junk:=aIO
   have e2:(j++Array.replicate (fn.ntmps-j.size) undef).getD t undef=j.getD t undef:=by
    simp[JJ,Zc (show t<j.size by omega)]
   grind
  have U:(args++List.replicate (fn.ntmps-args.length) Ah.junk).getD t .junk=.junk:=by
   grind
  rw[U];exact .junk _
 rintro e a' w' ⟨ok',H',σ',h1,h2⟩;obtain⟨Ds,I,J,L⟩:=h1.defers
 have key:∀(x:AA Ah) (π:AA (Nat×AV)),YR P σ' fn.results.toList x->Vw σ'.base σ'.ents π=true->u=(nK x).back π->E'=SS σ'.ents π->
  LeavesInM (JE none) 0 P fn a'.tmps (λe w'=>∃v ok' H',e=.returned v/\Dq ⟨w,ok,X,H⟩ ok' H' E' w'/\R ok' w' H' u v) a'.defers .returning w':=by
  rintro x π z q rfl rfl;rw[I];refine aFI (P:=P) (C:=⟨w,ok,X,H⟩) hm.lg (λM a2 w2 h3=>?_) Ds h1 L J;obtain⟨v,hv,hR⟩:=afk (P:=P) h3 z;exact⟨v,hv,v,M,_,rfl,h3.mem.norm π (h3.base▸q),hR.back π⟩
 cases e with
 |ret=>
  obtain⟨x,π,z,q,h3,O⟩:=h2;exact key x π z q h3 O
 |normal=>
  obtain⟨x,π,z,q,h3,O⟩:=h2;exact key x π z q h3 O
 |_=>
   exact h2.elim
def ER:=@EW.dO
def AZ (j:Bh P x σ (JG (λs=>Bh P y s Q) Q)):Bh P (.seq x y) σ Q:=Bh.seq _ j (λ_ h=>h)
def Bh.join {x y:Code}(K:BP->Prop)(j:∀s,K s->Bh P y s Q)(q:(∀s,K s->Bh P y s Q)->Bh P x σ (JG (λs=>Bh P y s Q) Q)):Bh P (.seq x y) σ Q:=Bh.seq _ (q j) (λ_ h=>h)
def D9:=@Bh.join
def Nc (j:σ.get c=.d (.lit (.bool true)))(h:Bh P x σ Q):Bh P (.cond c x y) σ Q:=Bh.cond true j (λ_=>h) (λh=>IK)
def MF (j:σ.get c=.d (.lit (.bool false)))(h:Bh P y σ Q):Bh P (.cond c x y) σ Q:=Bh.cond false j (λh=>IK) (λ_=>h)
def El {id:Nat}{ops:Bg Oper}(hm:P.follows .mixedOrders=true)(j:(Ud ops&&X9 ops&&YC ops σ.slots.length&&XF ops)=true)(q:WG ops bs=true)(h:FT P ops ops.toList σ rs ess bs σ')(u:Bh P y σ' Q):Bh P (.seq (.region id ops true) y) σ Q:=
 Bh.seq (λs=>s=σ') (.draw hm j q h rfl) (λ_ e=>e▸u)
end
variable {a b:AV}{s:Bq}{x y:Bz}
def am9 {cs:AA D}{y:D}(j:y=Q7 agg cs off n)(q:Eb P t agg n)(u:off+n<=cs.length)(h1:agg=false->n=1)(z:o.op=.load t x:=by exact rfl):CB P o [(x,.d (.ref cs off))] es (.d y) es:=j▸ahd q u h1 z
def aXc {y:D}(j:y=Q7 agg (JD cs) off n)(q:es[k]? =some (.box cs))(hd:cs.all Ah.C9=true)(u:Eb P t agg n)(z:off+n<=cs.length)(h1:agg=false->n=1)(I:o.op=.load t x:=by exact rfl):
 CB P o [(x,.ptr k off)] es (.d y) es:=j▸amY q hd u z h1 I
def aaQ {f:Nat}{cs:AA D}{y:D}(j:y=Q7 agg cs off n)(hp:mZ P t f off agg n=true)(q:off+n<=cs.length)(h1:agg=false->n=1)(u:o.op=.field t x f:=by exact rfl):CB P o [(x,.d (.agg cs))] es (.d y) es:=j▸ajD hp q h1 u
def alz {j:AA (Nat×Nat)}{y:D}(u:Iw P t j z)(vs:AA Ah)(I:o.op=.build t q)(J:y=.agg (JD (KL (λ(i:Nat)=>j[i]?) (Fz z) q.toList vs)))(hp:Nw (λ(i:Nat)=>j[i]?) (Fz z).length q.toList vs=true)(hd:(KL (λ(i:Nat)=>j[i]?) (Fz z) q.toList vs).all Ah.C9=true):CB P o (OA q.toList vs) es (.d y) es:=J▸akZ u vs hp hd I
def aae {j k:IntKind}{n:Int}(hs:P.underlying s=some (.int j))(q:P.underlying t=some (.int k))(u:o.op=.convert s t x:=by exact rfl):CB P o [(x,.d (.lit (.int j n)))] es (.d (.lit (.int k (k.wrap n)))) es:=
 aSK u λw=>by simp[convert,underlying,hs,q,Conv.intToInt]
def amh {u:BL}(hs:P.underlying s=some .string)(j:P.underlying t=some .string)(q:o.op=.convert s t x:=by exact rfl):CB P o [(x,.d (DT u))] es (.d (DT u)) es:=
 aSK q λw=>by simp[convert,underlying,hs,j]
def aa0 (j:P.underlying t=some .bool)(q:o.op=.binOp .eql t x y t':=by exact rfl):CB P o [(x,.d (Dt a)),(y,.d (Dt b))] es (.d (Dt (a==b))) es:=
 Iy (u:=.bool a) (v:=.bool b) (r:=.bool (a==b)) q (λw=>by
  show((do pure (.bool (←Op.equal t (.bool a) (.bool b))):Sem BD)).run P w=_
  simp only[Fg,run_equal_bool w t a b j,Fv,Gl]) ⟨rfl,rfl⟩
def abb (j:P.underlying t=some .bool)(q:o.op=.binOp .neq t x y t':=by exact rfl):CB P o [(x,.d (Dt a)),(y,.d (Dt b))] es (.d (Dt (!(a==b)))) es:=
 Iy (u:=.bool a) (v:=.bool b) (r:=.bool (!(a==b))) q (λw=>by
  show((do pure (.bool (!(←Op.equal t (.bool a) (.bool b)))):Sem BD)).run P w=_
  simp only[Fg,run_equal_bool w t a b j,Fv,Gl]) ⟨rfl,rfl⟩
def bf {A Rr:Type}(body:(A->AB Rr)->A->AB Rr):Nat->A->AB Rr
 |0,_=>none
 |n+1,a=>body (bf body n) a
variable {A Rr:Type}{Q:Exit->BP->Prop}
def Dk {q:Code}(S:A->BP)(body:(A->AB Rr)->A->AB Rr)(r:Rr)(a0:A)(hs:CO σ (S a0))(h:Go.Proofs.YtfmoknlmaldmlaaGreat.bf body Am a0=some r)(round:∀(J:BP->Prop) (k:A->AB Rr),(∀σ' a,CO σ' (S a)->k a=some r->J σ')->∀a,body k a=some r->Bh P q (S a) (JG J Q)):Bh P (.loop q) σ Q:=by
 refine Bh.loop (λn s=>∃a,CO s (S a)/\Go.Proofs.YtfmoknlmaldmlaaGreat.bf body n a=some r) Am ⟨a0,hs,h⟩ ?_;rintro n s ⟨a,j,u⟩;refine DJ j ?_;cases n with
 |zero=>cases u
 |succ n=>exact round _ (Go.Proofs.YtfmoknlmaldmlaaGreat.bf body n) (λσ' a h1 h2=>⟨n,Zw n,a,h1,h2⟩) a u
def aP {A B Rr:Type}(body:(A->B->AB Rr)->A->B->AB Rr):Nat->A->B->AB Rr
 |0,_,_=>none
 |n+1,a,b=>body (aP body n) a b
variable {B:Type}
def DW {u:Code}(S:A->B->BP)(body:(A->B->AB Rr)->A->B->AB Rr)(r:Rr)(a0:A)(q:B)(hs:CO σ (S a0 q))(h:Go.Proofs.YtfmoknlmaldmlaaGreat.aP body Am a0 q=some r)(round:∀(J:BP->Prop) (k:A->B->AB Rr),(∀σ' a b,CO σ' (S a b)->k a b=some r->J σ')->∀a b,body k a b=some r->Bh P u (S a b) (JG J Q)):Bh P (.loop u) σ Q:=by
 refine Bh.loop (λn s=>∃a b,CO s (S a b)/\Go.Proofs.YtfmoknlmaldmlaaGreat.aP body n a b=some r) Am ⟨a0,q,hs,h⟩ ?_;rintro n s ⟨a,b,j,z⟩;refine DJ j ?_;cases n with
 |zero=>cases z
 |succ n=>exact round _ (Go.Proofs.YtfmoknlmaldmlaaGreat.aP body n) (λσ' a b h1 h2=>⟨n,Zw n,a,b,h1,h2⟩) a b z
def iK {A B C Rr:Type}(body:(A->B->C->AB Rr)->A->B->C->AB Rr):Nat->A->B->C->AB Rr
 |0,_,_,_=>none
 |n+1,a,b,c=>body (iK body n) a b c
def Pv {z:Code}{C:Type}(S:A->B->C->BP)(body:(A->B->C->AB Rr)->A->B->C->AB Rr)(r:Rr)(a0:A)(q:B)(u:C)(hs:CO σ (S a0 q u))(h:Go.Proofs.YtfmoknlmaldmlaaGreat.iK body Am a0 q u=some r)(round:∀(J:BP->Prop) (k:A->B->C->AB Rr),(∀σ' a b c,CO σ' (S a b c)->k a b c=some r->J σ')->∀a b c,body k a b c=some r->Bh P z (S a b c) (JG J Q)):Bh P (.loop z) σ Q:=by
 refine Bh.loop (λn s=>∃a b c,CO s (S a b c)/\Go.Proofs.YtfmoknlmaldmlaaGreat.iK body n a b c=some r) Am ⟨a0,q,u,hs,h⟩ ?_;rintro n s ⟨a,b,c,j,I⟩;refine DJ j ?_;cases n with
 |zero=>cases I
 |succ n=>exact round _ (Go.Proofs.YtfmoknlmaldmlaaGreat.iK body n) (λσ' a b c h1 h2=>⟨n,Zw n,a,b,c,h1,h2⟩) a b c I
def WV {A B C D Rr:Type}(body:(A->B->C->D->AB Rr)->A->B->C->D->AB Rr):Nat->A->B->C->D->AB Rr
 |0,_,_,_,_=>none
 |n+1,a,b,c,d=>body (WV body n) a b c d
def Bh.WV {P:Ch}{σ:BP}{Q:Exit->BP->Prop}{I:Code}{A B C D Rr:Type}(S:A->B->C->D->BP)(body:(A->B->C->D->AB Rr)->A->B->C->D->AB Rr)(r:Rr)(a0:A)(q:B)(u:C)(z:D)(hs:CO σ (S a0 q u z))(h:Go.Proofs.YtfmoknlmaldmlaaGreat.WV body Am a0 q u z=some r)(round:∀(J:BP->Prop) (k:A->B->C->D->AB Rr),(∀σ' a b c d,CO σ' (S a b c d)->k a b c d=some r->J σ')->∀a b c d,body k a b c d=some r->Bh P I (S a b c d) (JG J Q)):Bh P (.loop I) σ Q:=by
 refine Bh.loop (λn s=>∃a b c d,CO s (S a b c d)/\Go.Proofs.YtfmoknlmaldmlaaGreat.WV body n a b c d=some r) Am ⟨a0,q,u,z,hs,h⟩ ?_;rintro n s ⟨a,b,c,d,j,L⟩;refine DJ j ?_;cases n with
 |zero=>cases L
 |succ n=>exact round _ (Go.Proofs.YtfmoknlmaldmlaaGreat.WV body n) (λσ' a b c d h1 h2=>⟨n,Zw n,a,b,c,d,h1,h2⟩) a b c d L
def DK {A B C D E Rr:Type}(body:(A->B->C->D->E->AB Rr)->A->B->C->D->E->AB Rr):Nat->A->B->C->D->E->AB Rr
 |0,_,_,_,_,_=>none
 |n+1,a,b,c,d,e=>body (DK body n) a b c d e
def aAB {L:Code}{C D E:Type}(S:A->B->C->D->E->BP)(body:(A->B->C->D->E->AB Rr)->A->B->C->D->E->AB Rr)(r:Rr)(a0:A)(q:B)(u:C)(z:D)(I:E)(hs:CO σ (S a0 q u z I))(h:Go.Proofs.YtfmoknlmaldmlaaGreat.DK body Am a0 q u z I=some r)(round:∀(J:BP->Prop) (k:A->B->C->D->E->AB Rr),(∀σ' a b c d e,CO σ' (S a b c d e)->k a b c d e=some r->J σ')->∀a b c d e,body k a b c d e=some r->Bh P L (S a b c d e) (JG J Q)):Bh P (.loop L) σ Q:=by
 refine Bh.loop (λn s=>∃a b c d e,CO s (S a b c d e)/\Go.Proofs.YtfmoknlmaldmlaaGreat.DK body n a b c d e=some r) Am ⟨a0,q,u,z,I,hs,h⟩ ?_;rintro n s ⟨a,b,c,d,e,j,M⟩;refine DJ j ?_;cases n with
 |zero=>cases M
 |succ n=>exact round _ (Go.Proofs.YtfmoknlmaldmlaaGreat.DK body n) (λσ' a b c d e h1 h2=>⟨n,Zw n,a,b,c,d,e,h1,h2⟩) a b c d e M
def GR {A B C D E F Rr:Type}(body:(A->B->C->D->E->F->AB Rr)->A->B->C->D->E->F->AB Rr):Nat->A->B->C->D->E->F->AB Rr
 |0,_,_,_,_,_,_=>none
 |n+1,a,b,c,d,e,f=>body (GR body n) a b c d e f
def Bh.GR {P:Ch}{σ:BP}{Q:Exit->BP->Prop}{M:Code}{A B C D E F Rr:Type}(S:A->B->C->D->E->F->BP)(body:(A->B->C->D->E->F->AB Rr)->A->B->C->D->E->F->AB Rr)(r:Rr)(a0:A)(q:B)(u:C)(z:D)(I:E)(L:F)(hs:CO σ (S a0 q u z I L))(h:Go.Proofs.YtfmoknlmaldmlaaGreat.GR body Am a0 q u z I L=some r)(round:∀(J:BP->Prop) (k:A->B->C->D->E->F->AB Rr),(∀σ' a b c d e f,CO σ' (S a b c d e f)->k a b c d e f=some r->J σ')->∀a b c d e f,body k a b c d e f=some r->Bh P M (S a b c d e f) (JG J Q)):Bh P (.loop M) σ Q:=by
 refine Bh.loop (λn s=>∃a b c d e f,CO s (S a b c d e f)/\Go.Proofs.YtfmoknlmaldmlaaGreat.GR body n a b c d e f=some r) Am ⟨a0,q,u,z,I,L,hs,h⟩ ?_;rintro n s ⟨a,b,c,d,e,f,j,O⟩;refine DJ j ?_;cases n with
 |zero=>cases O
 |succ n=>exact round _ (Go.Proofs.YtfmoknlmaldmlaaGreat.GR body n) (λσ' a b c d e f h1 h2=>⟨n,Zw n,a,b,c,d,e,f,h1,h2⟩) a b c d e f O
def adv {A B C D E F G Rr:Type}(body:(A->B->C->D->E->F->G->AB Rr)->A->B->C->D->E->F->G->AB Rr):Nat->A->B->C->D->E->F->G->AB Rr
 |0,_,_,_,_,_,_,_=>none
 |n+1,a,b,c,d,e,f,g=>body (adv body n) a b c d e f g
def Bh.adv {P:Ch}{σ:BP}{Q:Exit->BP->Prop}{O:Code}{A B C D E F G Rr:Type}(S:A->B->C->D->E->F->G->BP)(body:(A->B->C->D->E->F->G->AB Rr)->A->B->C->D->E->F->G->AB Rr)(r:Rr)(a0:A)(q:B)(u:C)(z:D)(I:E)(L:F)(M:G)(hs:CO σ (S a0 q u z I L M))(h:Go.Proofs.YtfmoknlmaldmlaaGreat.adv body Am a0 q u z I L M=some r)(round:∀(J:BP->Prop) (k:A->B->C->D->E->F->G->AB Rr),(∀σ' a b c d e f g,CO σ' (S a b c d e f g)->k a b c d e f g=some r->J σ')->∀a b c d e f g,body k a b c d e f g=some r->Bh P O (S a b c d e f g) (JG J Q)):Bh P (.loop O) σ Q:=by
 refine Bh.loop (λn s=>∃a b c d e f g,CO s (S a b c d e f g)/\Go.Proofs.YtfmoknlmaldmlaaGreat.adv body n a b c d e f g=some r) Am ⟨a0,q,u,z,I,L,M,hs,h⟩ ?_;rintro n s ⟨a,b,c,d,e,f,g,j,U⟩;refine DJ j ?_;cases n with
 |zero=>cases U
 |succ n=>exact round _ (Go.Proofs.YtfmoknlmaldmlaaGreat.adv body n) (λσ' a b c d e f g h1 h2=>⟨n,Zw n,a,b,c,d,e,f,g,h1,h2⟩) a b c d e f g U
variable {c:Int}
theorem aeh {b:Nat}{z:α}{n:Int}{r:AA α}(h:Ir b z n c=some r):(0<=n/\n<=c/\(b:Int)*c<=140737488355328)/\r=List.replicate n.toNat z:=by
 unfold Ir at h;split at h
 ·grind
 cases h
theorem YO {j:Nat}{q:BD}{n:Int}{r:AA α}(enc:α->D)(z:α)(h:Ir j z n c=some r)(hE:G6 P t e size j)(hz:(P.info? e).bind (·.zero)=some q)(h1:q.cells.all (·.oneCell')=true)(U:q.cells.size=size)(L:Fz q=(enc z).cells.map .d)(hb:0<j)(ho:o.op=.makeSlice t x y:=by exact rfl):CB P o [(x,.d (Ad n)),(y,.d (Ad c))] es (.aQ es.length) (es++[.arr e size (List.map enc r)]):=
 .eff λC ok H a w hm hn=>by
  obtain⟨⟨h0,Y,hbc⟩,rfl⟩:=aeh h;have hx:=(FC hn).1.lit;have hy:=(FC hn).2.lit;simp only at hx hy;obtain⟨i,z',hi,hz',hs,Z,_⟩:=hE.info;have hzv:i.zero=some q:=by rw[hi]at hz;simpa using hz
  have M:c<=9223372036854775807:=by
   have h2:(1:Int)*c<=(j:Int)*c:=Int.mul_le_mul_of_nonneg_right AL AL;omega
  have hr:=run_make (P:=P) w t e i q hE.und hi hzv .i64 .i64 n c h0 Y (by rw[Z];omega) M;rw[hs]at hr
  let cells:=madeCells q.cells (c.toNat*size)
  have O:=hE.pos;have u:cells.size=c.toNat*size:=size_madeCells _ _;have hlc:(Fz q).length=size:=by simp[Fz,U]
  have I:∀y∈List.map enc (List.replicate n.toNat z),y.cells.length=size:=by
   grind
  have J:=Si I;have hlen:(List.map enc (List.replicate n.toNat z)).length=n.toNat:=BU
  rw[hlen]at J;have aQF:n.toNat*size<=c.toNat*size:=KR _ AL
  have hrs:∀{ok:Nat->Prop} {w:BX} {H:AA CG},Gf ok w H (flat (List.map enc (List.replicate n.toNat z))) (cells.toList.take (n.toNat*size)):=by
   intro ok w H;refine⟨by rw[J,Gz,Tn,u];omega,λk hk=>?_⟩;rw[J]at hk;have hd:=aC9 k size;have hq:k/size<n.toNat:=qo (by rwa [V6]at hk);have hm':k % size<size:=nI _ O;have e0:k=k/size*size+k % size:=by rw[V6];exact hd.symm
   have e1:(flat (List.map enc (List.replicate n.toNat z))).getD k .junk=.d ((enc z).cells.getD (k % size) EJ):=by
    have hg:=flat_get I (k/size) (k % size) (by rw[hlen];exact hq) hm';rw[←e0]at hg;rw[hg]
    grind
   have hcl:(enc z).cells.length=size:=by rw[←hlc,L];simp
   have e2:(Ah.d ((enc z).cells.getD (k % size) EJ))=(Fz q).getD (k % size) .junk:=by
    rw[L];have :k % size<(enc z).cells.length:=AL
    grind
   have hmz:k % size<q.cells.size:=AL
   have e3:(cells.toList.take (n.toNat*size)).getD k undef=q.cells[k % size]:=by
    have hk2:k<c.toNat*size:=AL
    have e:cells.toList=(List.range (c.toNat*size)).map λi=>q.cells[i % q.cells.size]! :=by
     show(madeCells q.cells (c.toNat*size)).toList=_;simp[madeCells]
    rw[e];simp only[List.getD,TP hk]
    grind
   rw[e1,e2,e3];have e4:(Fz q).getD (k % size) .junk=.d (Oz q.cells[k % size]):=by simp[Fz,List.getD,hmz]
   rw[e4];exact⟨uo ((WL.1 h1) _ BU),.d _ _ (kH _)⟩
  obtain⟨h2,h3⟩:=hm.push (.cells cells e) ⟨.slice (some ⟨w.heap.size,0,none⟩) n.toNat c.toNat,size⟩ (.arr e size (List.map enc (List.replicate n.toNat z))) (λb hb=>by simpa[E5]using hb.symm) (by
   refine⟨rfl,I,cells.toList.take (n.toNat*size),⟨?_,.inr ⟨w.heap.size,c.toNat,cells,by rw[hlen],Ef _,Uo w _,by rw[hlen];omega,ji,P6 u.symm,by rw[hlen]⟩⟩,hrs⟩
   rw[hlen,Gz,Tn,u];omega)
  refine⟨.slice (some ⟨w.heap.size,0,none⟩) n.toNat c.toNat,_,ok,_,.inl ?_,h3,Gy _ _,h2,.aQ _ _ _ _ size PS⟩;simp only[execOp,ho,hx,hy,Fg,hr,Fv,Gl];rfl
def gCopy (l m:AA α):AA α:=m.take l.length++l.drop m.length
def aeM {bytes:Nat}(enc:α->D)(l m:AA α)(hE:G6 P t e size bytes)(hk:es[k]? =some (.arr e size (List.map enc l)))(hc:∀a,(enc a).cells.length=size)(ho:o.op=.call { callee:=.builtin .copy,args:= #[x,y],argTypes:= #[t,t] }:=by exact rfl):
 CB P o [(x,.aQ k),(y,.d (BQ enc m))] es .junk (es.set k (.arr e size (List.map enc (gCopy l m)))):=
 .eff λC ok H a w hm hn=>by
  have hx:=(FC hn).1;have hy:=(FC hn).2;simp only at hx hy;obtain⟨h,hh,hok⟩:=Gp hm.ent hm.hlen hk;have hxv:=Ph hx hh;obtain⟨i,z',hi,hz',hs,hby,_⟩:=hE.info;have hu:(underlying t).run P w=.ok (.slice e) w:=aI7
  have hsz:(sizeOf e).run P w=.ok size w:=aGs
  have Y:∀(q:AA α),∀y∈q.map enc,y.cells.length=size:=λq y hy=>aDF
  have hyR:EF ok w (.sl (m.map enc)) (a.eval y):=by cases hy with |d _ _ h=>exact h
  obtain⟨z,U,aKq⟩:=dF H hyR (Y m);obtain⟨h1,h2,ys,Z,hrs⟩:=hok;have hlm:(m.map enc).length=m.length:=BU
  have hll:(l.map enc).length=l.length:=BU
  have hnl:z.length=m.length*size:=by rw[U.len,hlm]
  let n:=Nat.min m.length l.length
  have hlenx:(Builtin.lenOf (a.eval y)).run P w=.ok m.length w:=by
   rcases U.at_ with⟨ad,c,e1,_⟩|⟨c,e1,e2⟩
   ·rw[e1];simp[Builtin.lenOf]
   rw[e1];rw[hlm]at e2;simp[Builtin.lenOf,e2]
  have J:(Builtin.firstCells size n (a.eval y)).run P w=.ok (z.take (n*size)).toArray w:=by
   rcases U.at_ with⟨ad,c,e1,hcells⟩|⟨c,e1,e2⟩
   ·rw[e1];refine run_firstCells_some (P:=P) w size n ad _ c (z.take (n*size)) ?_ ?_
    ·rw[Gz,hnl];have :n*size<=m.length*size:=KR _ (aIZ _ _);omega
    intro j v hj;rw[a2p]at hj;split at hj
    ·exact hcells j v hj
    cases hj
   rw[e1];rw[hlm]at e2;have :z=[]:=Hd (by rw[hnl,e2];simp);simp[Builtin.firstCells,this]
  have hone:∀u∈z.take (n*size),u.oneCell'=true:=λu hu=>U.one u (a0D hu);have hn1:n<=m.length:=aIZ _ _;have hn2:n<=l.length:=Nat.min_le_right _ _
  have I:(z.take (n*size)).length=n*size:=by
   rw[Gz,hnl];have :n*size<=m.length*size:=KR _ hn1;omega
  have hgc:gCopy l m=m.take n++l.drop n:=by
   unfold gCopy;by_cases hle:m.length<=l.length
   ·have e1:n=m.length:=zU hle;rw[e1,Qa hle,Gn]
   have e1:n=l.length:=Nat.min_eq_right AL;rw[e1,a3X AL,Ox]
  have L:(gCopy l m).length=l.length:=by rw[hgc];simp;omega
  rcases Z.2 with⟨hv,hl0⟩|⟨g,cap,M,hv,_,hg,hncap,hcm,hcs,htake⟩
  ·
   rw[hll]at hl0;have hn0:n=0:=AL
   have hl:l=[]:=Hd hl0;have hge:gCopy l m=l:=by rw[hgc,hn0];simp
   rw[hge]
   have hset:es.set k (.arr e size (List.map enc l))=es:=by
    apply kW;intro j;by_cases hj:k=j
    ·subst hj;have hkl:=(Gs.1 hk).1;rw[List.getElem?_set_self hkl,hk]
    rw[eL hj]
   rw[hset];refine⟨goInt n,w,ok,H,.inl ?_,.refl _ _,.refl _,hm,.junk _⟩;have e0:Nat.min m.length 0=n:=by rw[hn0];simp
   have hf0:(Builtin.firstCells size 0 (a.eval y)).run P w=.ok #[] w:=by rw[hn0]at J;simpa using J
   simp[execOp,ho,resolve,invoke,builtin,Builtin.copy_,hxv,hv,hu,hlenx,hsz,hf0,hn0]
  ·rw[hll]at hv hncap htake;have hlt:g<w.heap.size:=(IJ.1 hg).1
   have hfit:n*size<=M.size:=by
    exact EK (KR _ AL) hcs
   have hst:=aKK (P:=P) g 0 e (z.take (n*size)) 0 M w hg (by rw[I];omega) hone;have aDV:∀y∈(gCopy l m).map enc,y.cells.length=size:=Y _
   obtain⟨h3,h4⟩:=hm.upd (e:=.arr e size (List.map enc (gCopy l m))) (w':=w.setRow g (M.toList.take (0+0)++z.take (n*size)++M.toList.drop (0+0+(z.take (n*size)).length)).toArray) hk rfl hh (by rw[hv];rfl) rfl rfl rfl aII (λc hc=>aJm _ _ _ _ hc) (λhg'=>by
    refine⟨h1,aDV,z.take (n*size)++ys.drop (n*size),?_,?_⟩
    ·refine⟨?_,.inr ⟨g,cap,_,by rw[Di,L];exact hv,Ef _,ql w g M _ e (0,0) hg,by rw[Di,L];exact hncap,hcm,?_,?_⟩⟩
     ·simp only[Ed,I,NP,Z.1,Di,L];have :n*size<=l.length*size:=KR _ hn2;omega
     ·simp only[PK,a2Y,IE,Js,I];simp only[a3F,Ed,I,NP,Tn];rw[show n*size+(M.size-n*size)=M.size by omega];exact hcs
     simp only[PK,a2Y,IE,Js,I,a3a];rw[Di,L,←htake];rw[List.take_append,I,Qa (by rw[I];exact KR _ hn2)];congr 1;rw[List.drop_take]
    have ha:=aKq.mono hg' (kV H);have hb:=hrs.mono hg' (kV H);have aKr:=Si (Y l);have aAk:=Si (Y m);have aHG:=Si aDV;have aQG:n*size<=l.length*size:=KR _ hn2;have aQH:n*size<=m.length*size:=KR _ hn1;refine⟨by simp only[aHG,Ed,I,NP,Z.1,Di,L];omega,λj hj=>?_⟩;rw[aHG,Di,L]at hj;have hpos:=hE.pos;have e0:j=j/size*size+j % size:=by rw[V6];exact(aC9 j size).symm
    have hq:j/size<l.length:=qo (by rwa [V6]at hj);have hr:j % size<size:=nI _ hpos;have hg3:=flat_get aDV (j/size) (j % size) (by rw[Di,L];exact hq) hr;rw[←e0]at hg3;by_cases hjn:j<n*size
    ·have hqn:j/size<n:=qo (by rwa [V6]at hjn);have hg2:=flat_get (Y m) (j/size) (j % size) (by rw[hlm];omega) hr;rw[←e0]at hg2
     have O:((gCopy l m).map enc).getD (j/size) EJ=(m.map enc).getD (j/size) EJ:=by
      rw[hgc];simp only[List.getD,J8];rw[JR EY,YM,TP hqn]
     rw[hg3,O,←hg2]
     have e5:(z.take (n*size)++ys.drop (n*size)).getD j undef=z.getD j undef:=by
      simp only[List.getD];rw[JR (by rw[I];exact hjn),TP hjn]
     rw[e5];exact ha.2 j (by rw[aAk,hlm];omega)
    have hqn:n<=j/size:=(Nat.le_div_iff_mul_le hpos).2 AL;have hg1:=flat_get (Y l) (j/size) (j % size) (by rw[hll];exact hq) hr;rw[←e0]at hg1
    have O:((gCopy l m).map enc).getD (j/size) EJ=(l.map enc).getD (j/size) EJ:=by
     rw[hgc];have hlt':(m.take n).length=n:=EY
     simp only[List.getD,J8];rw[P7 (by rw[Di,hlt'];exact hqn),Di,hlt',fP,Ul];congr 2;omega
    rw[hg3,O,←hg1]
    have e5:(z.take (n*size)++ys.drop (n*size)).getD j undef=ys.getD j undef:=by
     simp only[List.getD];rw[P7 (by rw[I];omega),I,Ul];congr 2;omega
    rw[e5]
    exact hb.2 j (by rw[aKr,hll];omega))
   refine⟨goInt n,_,ok,H,.inl ?_,h4,.refl _,h3,.junk _⟩;have e0:Nat.min m.length l.length=n:=rfl;simp[execOp,ho,resolve,invoke,builtin,Builtin.copy_,hxv,hv,hu,hlenx,hsz,e0,J];rw[hst];simp
def DL (s:BL):AA Int:=s.data.toList.map λc=>(c.toNat:Int)
def IX (s:BL):(DL s).length=s.size:=by unfold DL;rw[Di,Tn];rfl
variable {k k':IntKind}{l:AA Int}{r u v:Int}
def aBp :∀(l:AA Int),flat (l.map Dh)=l.map λn=>.d (Dh n)
 | []=>rfl
 |n::l=>by rw[Gg,XH,aBp l];rfl
theorem aej {u:Bq}{i:TypeInfo}(ht:P.underlying t=some (.slice e))(hu:P.underlying u=some .string)(hi:P.info? e=some i)(hz:i.zero=some (.int .u8 0))(j:i.size=1)(Z:i.bytes=1){v:BD}{xs:AA BD}(z:ny w e 1 v n xs)(s:BL)(M:n+s.size<=maxLen)(J:n+s.size<=140737488355328):
 ∃v' w',(Builtin.append_ #[t,u] ty #[v,.string s]).run P w=.ok v' w'/\ny w' e 1 v' (n+s.size) (xs++Lib.strCells s)/\w.grownBy w' v.ownBlock/\(∀Y,E5 v'=some Y->E5 v=some Y\/w.heap.size<=Y):=by
 have L:xs.length=n:=by simpa using z.1
 have hlen:(xs++Lib.strCells s).length=(n+s.size)*1:=by rw[Ed,L,Lib.strCells_length,pO]
 rcases z.2 with⟨rfl,rfl⟩|⟨g,cap,cur,rfl,_,hg,hnc,O,hcs,U⟩
 ·have hx:xs=[]:=Hd L;subst hx;obtain⟨v',w',q1,q2,q3,q4⟩:=Lib.run_append_own_string (P:=P) w w.heap.size t u ty e i ht hu hi hz j Z _ 0 [] (a7b w w.heap.size e 1) s M J (Ec _);refine⟨v',w',q1,.of q2,q3,λY q=>.inr ?_⟩;rcases q2.2 with⟨rfl,_⟩|⟨g2,_,_,rfl,hle,_⟩
  ·simp[E5]at q
  simp[E5]at q;subst q;exact hle
 rw[pO]at hcs U;by_cases I:n+s.size<=cap
 ·have hr:=Lib.run_append_room_string (P:=P) w t u ty e i ht hu hi j g n cap cur hg s I AL;refine⟨_,_,hr,⟨hlen,.inr ⟨g,cap,_,rfl,Ef _,ql w g cur _ e _ hg,I,O,?_,?_⟩⟩,⟨rfl,rfl,rfl,BU,λk _ hk=>setRow_other w g k _ (λe=>hk (by simp[Value.ownBlock,e]))⟩,λY q=>.inl q⟩
  ·grind
  grind
 have hr:=Lib.run_append_grow_string (P:=P) w t u ty e i (.int .u8 0) ht hu hi hz ⟨g,0,none⟩ n cap xs (by rw[j];simpa using L) (z.cells (g:=g) rfl) s AL (by unfold maxLen at M;omega) (by rw[Z];exact growslice_fits AL AL);have hge:=uO w (n+s.size) cap e;have O:grownCap w (n+s.size) cap e<=maxLen:=a4M w (n+s.size) cap e M;refine⟨_,_,hr,⟨hlen,.inr ⟨w.heap.size,_,_,rfl,Ef _,Uo w.drew _,hge,O,P6 ?_,?_⟩⟩,⟨rfl,rfl,rfl,BU,λk hk _=>KD w.drew _ k hk⟩,λY q=>.inr (by simp[E5]at q;omega)⟩
 ·have hz1:(Value.int IntKind.u8 0).cells.size=1:=rfl;simp only[Array.size_append,a3F,size_zeroCells,hz1,L,Lib.strCells_length];omega
 grind
def aei {s:Bz}{u:Bq}{k:Nat}{r:AA Int}{j:BL}(h:DC 1 l (DL j)=some r)(hE:G6 P t e 1 1)(hz:(P.info? e).bind (·.zero)=some (.int .u8 0))(hu:P.underlying u=some .string)(hk:es[k]? =some (.arr e 1 (List.map Dh l)))(ho:o.op=.call { callee:=.builtin .append,args:= #[s,x],argTypes:= #[t,u] }:=by exact rfl):CB P o [(s,.aQ k),(x,.d (DT j))] es (.aQ es.length) (es.set k .dead++[.arr e 1 (List.map Dh r)]):=
 .eff λC ok H a w hm hn=>by
  obtain⟨rfl,hlen⟩:=wK h;rw[IX,pO]at hlen;have hs:=(FC hn).1;have hx:=(FC hn).2.lit;simp only at hs hx;obtain⟨hd,hh,hok⟩:=Gp hm.ent hm.hlen hk;have hsv:=Ph hs hh;obtain⟨h1,h2,ys,I,hrs⟩:=hok;obtain⟨i,z',hi,hz',hs1,hby,_⟩:=hE.info;have hz2:i.zero=some (.int .u8 0):=by rw[hi]at hz;simpa using hz
  have L:(l.map Dh).length=l.length:=BU
  have M:(l.map Dh).length+j.size<=maxLen:=by rw[L];unfold maxLen;omega
  obtain⟨v',w',hr,J,O,U⟩:=aej (P:=P) (ty:=o.type) hE.und hu hi hz2 hs1 hby I j M (by rw[L];exact hlen)
  obtain⟨h3,h4⟩:=hm.turn (h':=⟨v',1⟩) (e:=.arr e 1 (List.map Dh (l++DL j))) hk rfl hh O.os O.tape O.output O.size (λc hc hne=>O.block c hc (by rw[aKO I];exact λe=>hne e.symm)) (λg Y=>⟨sK J Y,U g Y⟩) (λhgr=>by
   refine⟨rfl,λy hy=>by obtain⟨q,_,rfl⟩:=Hl.1 hy;rfl,ys++Lib.strCells j,?_,?_⟩
   ·have e:(List.map Dh (l++DL j)).length=(l.map Dh).length+j.size:=by simp[IX]
    rw[e];exact J
   have Z:=hrs.mono hgr (Gy H [⟨v',1⟩]);have hfl:(flat (l.map Dh)).length=l.length:=by rw[aBp];simp
   have hcl:(Lib.strCells j)=(DL j).map (.int .u8):=by unfold Lib.strCells DL;rw[gY];rfl
   rw[J8,qI,aBp (DL j),hcl];refine⟨by rw[Ed,Ed,Z.1,Di,Di],λi hi=>?_⟩;by_cases z:i<(flat (l.map Dh)).length
   ·have e1:(flat (l.map Dh)++(DL j).map λn=>Ah.d (Dh n)).getD i .junk=(flat (l.map Dh)).getD i .junk:=by simp[List.getD,JR z]
    have e2:(ys++(DL j).map (Value.int .u8)).getD i undef=ys.getD i undef:=by simp[List.getD,JR (by rw[Z.1];exact z:i<ys.length)]
    rw[e1,e2];exact Z.2 i z
   have hi3:i-(flat (l.map Dh)).length<(DL j).length:=by rw[Ed,Di]at hi;omega
   have e1:(flat (l.map Dh)++(DL j).map λn=>Ah.d (Dh n)).getD i .junk=.d (Dh (DL j)[i-(flat (l.map Dh)).length]):=by simp[List.getD,P7 (WY z),hi3]
   have e2:(ys++(DL j).map (Value.int .u8)).getD i undef=.int .u8 (DL j)[i-(flat (l.map Dh)).length]:=by simp[List.getD,P7 (by rw[Z.1];omega:ys.length<=i),Z.1,hi3]
   rw[e1,e2]
   exact⟨rfl,.d _ _ (.lit _)⟩)
  have hH:(H++[(⟨v',1⟩:CG)])[es.length]? =some ⟨v',1⟩:=PS
  refine⟨v',w',ok,_,.inl ?_,h4,Gy _ _,h3,?_⟩
  ·simp[execOp,ho,resolve,invoke,builtin,hx,hsv,hr]
  rcases J.2 with⟨rfl,_⟩|⟨g',c',_,rfl,_⟩
  ·exact .aQ _ _ _ _ 1 hH
  exact .aQ _ _ _ _ 1 hH
def ah1 {I J:Bq}{s:BL}(hs:P.underlying I=some .string)(hd:P.underlying J=some (.slice e))(O:P.underlying e=some (.int .u8))(U:o.op=.convert I J x:=by exact rfl):CB P o [(x,.d (DT s))] es (.d (BQ Dh (DL s))) es:=
 .eff λC ok H a w hm Y=>by
  have M:=(L9 Y).lit;simp only at M;have Z:=run_bytes_of_string (P:=P) w I J e s hs hd O;obtain⟨h1,h2⟩:=hm.drew;obtain⟨h3,h4⟩:=h1.fresh (.cells (bytesRow s (grownCap w s.size 0 e)) e ((bytesRow s (grownCap w s.size 0 e)).size,(bytesRow s (grownCap w s.size 0 e)).size+1));refine⟨.slice (some ⟨w.heap.size,0,none⟩) s.size (grownCap w s.size 0 e),_,_,H,.inl ?_,h2.trans h4,.refl _,h3,.d _ _ ?_⟩
  ·simp only[execOp,U,M,Fg,Z,Fv,Gl]
  have q:((DL s).map Dh).length=s.size:=by simp[IX]
  have u:∀i,i<s.size->(w.drew.alloc (.cells (bytesRow s (grownCap w s.size 0 e)) e ((bytesRow s (grownCap w s.size 0 e)).size,(bytesRow s (grownCap w s.size 0 e)).size+1))).cell? ⟨w.heap.size,0+(i*1+0),none⟩=some (.int .u8 ((s.data.toList.getD i 0).toNat)):=by
   intro i hi;have hb:(w.drew.alloc (.cells (bytesRow s (grownCap w s.size 0 e)) e ((bytesRow s (grownCap w s.size 0 e)).size,(bytesRow s (grownCap w s.size 0 e)).size+1))).heap[w.heap.size]? =some (.cells (bytesRow s (grownCap w s.size 0 e)) e ((bytesRow s (grownCap w s.size 0 e)).size,(bytesRow s (grownCap w s.size 0 e)).size+1)):=Uo w.drew _;rw[Js,pO,PK];have z:i<s.data.size:=hi
   have hg:(bytesRow s (grownCap w s.size 0 e))[i]? =some (.int .u8 ((s.data.toList.getD i 0).toNat)):=by
    unfold bytesRow;rw[Zc iI];simp[qA z,List.getD]
   unfold World.cell?;simp only[hb];simpa using hg
  have hl:∀i,i<s.size->((DL s).map Dh).getD i EJ=Dh ((s.data.toList.getD i 0).toNat):=by
   intro i hi;have z:i<s.data.size:=hi;simp[DL,List.getD,qA z]
  have z0:∀j,j<1->j=0:=λj L=>AL
  have :=EF.sl (ok:=λb=>ok b\/b=w.drew.heap.size) (w:=w.drew.alloc (.cells (bytesRow s (grownCap w s.size 0 e)) e ((bytesRow s (grownCap w s.size 0 e)).size,(bytesRow s (grownCap w s.size 0 e)).size+1))) ((DL s).map Dh) w.heap.size 0 (grownCap w s.size 0 e) 1 (by rw[q];exact uO w s.size 0 e) (λ_ _=>.inr rfl)
   (λi hi=>by rw[q]at hi;rw[hl i hi];rfl)
   (λi hi j L=>by rw[q]at hi;rw[z0 j L,hl i hi];rfl)
   (λi hi j L=>by rw[q]at hi;rw[z0 j L,u i hi];rfl)
   (λi hi j L=>by rw[q]at hi;rw[z0 j L];unfold cellAt;rw[u i hi,hl i hi];exact .lit _)
  rw[q]at this;exact this
def Ej (op:BinOp)(k:IntKind)(x y:Int):Int:=
 match op with
 | .and=>k.wrap ((BitVec.ofInt k.bits x&&& BitVec.ofInt k.bits y).toNat)
 | .or=>k.wrap ((BitVec.ofInt k.bits x|||BitVec.ofInt k.bits y).toNat)
 | .xor=>k.wrap ((BitVec.ofInt k.bits x^^^BitVec.ofInt k.bits y).toNat)
 |_=>k.wrap ((BitVec.ofInt k.bits x&&& ~~~(BitVec.ofInt k.bits y)).toNat)
def Qr (j:o.op=.binOp .and t x y t':=by exact rfl):CB P o [(x,.d (.lit (.int k u))),(y,.d (.lit (.int k v)))] es (.d (.lit (.int k (Ej .and k u v)))) es:=
 Iy j (λw=>a1s) ⟨rfl,rfl⟩
def WC (j:o.op=.binOp .or t x y t':=by exact rfl):CB P o [(x,.d (.lit (.int k u))),(y,.d (.lit (.int k v)))] es (.d (.lit (.int k (Ej .or k u v)))) es:=
 Iy j (λw=>a1s) ⟨rfl,rfl⟩
def a6y (j:o.op=.binOp .xor t x y t':=by exact rfl):CB P o [(x,.d (.lit (.int k u))),(y,.d (.lit (.int k v)))] es (.d (.lit (.int k (Ej .xor k u v)))) es:=
 Iy j (λw=>a1s) ⟨rfl,rfl⟩
def al6 (j:o.op=.binOp .andNot t x y t':=by exact rfl):CB P o [(x,.d (.lit (.int k u))),(y,.d (.lit (.int k v)))] es (.d (.lit (.int k (Ej .andNot k u v)))) es:=
 Iy j (λw=>a1s) ⟨rfl,rfl⟩
def eu (k:IntKind)(x:Int):Int:=Ej .xor k (if k.signed then -1 else k.max) x
def aME (j:o.op=.unOp .xor t x:=by exact rfl):CB P o [(x,.d (.lit (.int k u)))] es (.d (.lit (.int k (eu k u)))) es:=
 aFQ j (λw=>by simp[Op.unary,Op.intBits,eu,Ej])
def PZ (op:BinOp)(k:IntKind)(x y:Int):AB Int:=
 if y<0 then none else some (match op with | .shl=>k.wrap (x*2^(min y.toNat k.bits))|_=>x.fdiv (2^(min y.toNat k.bits)))
def a4J (h:PZ .shl k u v=some r)(j:o.op=.binOp .shl t x y t':=by exact rfl):CB P o [(x,.d (.lit (.int k u))),(y,.d (.lit (.int k' v)))] es (.d (.lit (.int k r))) es:=by
 unfold PZ at h;split at h
 ·cases h
 rename_i q;obtain rfl:=Dv h;exact Iy j (λw=>by simp[binOp,Op.shift,q]) ⟨rfl,rfl⟩
def aOX (h:PZ .shr k u v=some r)(j:o.op=.binOp .shr t x y t':=by exact rfl):CB P o [(x,.d (.lit (.int k u))),(y,.d (.lit (.int k' v)))] es (.d (.lit (.int k r))) es:=by
 unfold PZ at h;split at h
 ·cases h
 rename_i q;obtain rfl:=Dv h;exact Iy j (λw=>by simp[binOp,Op.shift,q]) ⟨rfl,rfl⟩
def yR (k:IntKind)(a b:Int):AB Int:=if b=0 then none else some (k.wrap (a.tdiv b))
def Wi (a b:Int):AB Int:=if b=0 then none else some (a.tmod b)
def aiL (h:yR k u v=some r)(j:o.op=.binOp .quo t x y t':=by exact rfl):CB P o [(x,.d (.lit (.int k u))),(y,.d (.lit (.int k v)))] es (.d (.lit (.int k r))) es:=by
 unfold yR at h;split at h
 ·cases h
 rename_i q;obtain rfl:=Dv h;exact Iy j (λw=>by simp[binOp,Op.intDiv,q]) ⟨rfl,rfl⟩
def aG4 (h:Wi u v=some r)(j:o.op=.binOp .rem t x y t':=by exact rfl):CB P o [(x,.d (.lit (.int k u))),(y,.d (.lit (.int k v)))] es (.d (.lit (.int k r))) es:=by
 unfold Wi at h;split at h
 ·cases h
 rename_i q;obtain rfl:=Dv h;exact Iy j (λw=>by simp[binOp,Op.intDiv,q]) ⟨rfl,rfl⟩
variable {i k:Nat}{v:BD}
def aPg {e:Nat}(O:H[k]? =some h)(z:FQ ok w H h (.arr e size xs))(hi:i<xs.length)(U:R ok w H (.lN k i off) v):
 ∃g cap j ys,h.v=.slice (some ⟨g,0,none⟩) xs.length cap/\w.heap[g]? =some (.cells j e (0,0))/\xs.length<=cap/\cap<=maxLen/\xs.length*size<=j.size/\cap*size<=j.size/\j.toList.take (xs.length*size)=ys/\ys.length=xs.length*size/\Gf ok w H (flat xs) ys/\(∀x∈xs,x.cells.length=size)/\v=.pointer (some ⟨g,i*size+off,none⟩):=by
 obtain⟨h1,h2,ys,⟨h3,Y⟩,Z⟩:=z;rcases Y with⟨u,h7⟩|⟨g,cap,j,u,h7,h8,L,I,q,J⟩
 ·omega
 refine⟨g,cap,j,ys,u,h8,L,I,EK (KR _ L) q,q,J,h3,Z,h2,?_⟩;cases U with
 |lN _ _ _ b n c s M=>
  rw[O]at M;obtain rfl:=Dv M;simp only[oN,Nk,Addr.mk.injEq]at u;simp only at h1;rw[u.1.1,h1]
def aOl {j:Nat}(hi:i<n)(q:j<size):i*size+j<n*size:=
 calc i*size+j<i*size+size:=AL
  _=(i+1)*size:=by rw[iL]
  _<=n*size:=KR _ hi
theorem JZ {e:Nat}{y:D}(enc:α->D){l:AA α}{a:α}(hy:y=Q7 agg (enc a).cells off n)(hk:es[k]? =some (.arr e size (List.map enc l)))(ha:l[i]? =some a)(hT:Eb P t agg n)(hn:off+n<=(enc a).cells.length)(h1:agg=false->n=1)(ho:o.op=.load t x:=by exact rfl):CB P o [(x,.lN k i off)] es (.d y) es:=
 .pure λok H ac w M hl Y=>by
  have hx:=L9 Y;simp only at hx;subst hy;obtain⟨h,hh,Z⟩:=Gp M hl hk;obtain⟨O,hia⟩:=Gs.1 ha;have q:i<(List.map enc l).length:=Z5
  obtain⟨g,cap,z,ys,e1,e2,e3,e4,e5,e5',e6,e7,e8,e9,e10⟩:=aPg hh Z q hx;have J:(List.map enc l).getD i EJ=enc a:=by simp[List.getD,O,hia]
  have hsz:(enc a).cells.length=size:=by
   grind
  have hfl:=Si e9
  have u:∀j,j<size->w.cell? ⟨g,i*size+j,none⟩=some (ys.getD (i*size+j) undef):=by
   intro j L;have I:=aOl q L;have hcur:(List.map enc l).length*size<=z.size:=e5;have h15:i*size+j<z.size:=AL
   have e11:ys.getD (i*size+j) undef=z[i*size+j]'(h15):=by
    rw[←e6]
    grind
   rw[e11];simp[World.cell?,e2,show i*size+j<z.size by omega]
  have U:∀j,j<size->((enc a).cells.getD j EJ).leaf=true/\EF ok w ((enc a).cells.getD j EJ) (ys.getD (i*size+j) undef):=by
   intro j L;have I:=e8.2 (i*size+j) (by rw[hfl];exact aOl q L);rw[flat_get e9 i j q L,J]at I;refine⟨I.1,?_⟩;cases I.2 with |d _ _ h=>exact h
  obtain⟨v,hr,hD⟩:=a6Z (ok:=ok) (w:=w) (b:=g) (p:=i*size) (cs:=(enc a).cells) hT hn h1 (λj L=>(U j AL).1) (λj L=>by rw[u j AL];rfl) (λj L=>by unfold cellAt;rw[u j AL];exact(U j AL).2);exact⟨v,by simp only[execOp,ho,e10,Fg,hr,Fv,Gl],.d _ _ hD⟩
theorem Zn {e:Nat}(enc:α->D){l:AA α}{a a':α}{v:Ah}(hk:es[k]? =some (.arr e size (List.map enc l)))(ha:l[i]? =some a)(hl:v.cells.all Ah.leaf=true)(hs:∀w,(sizeOf t).run P w=.ok n w)(hn:v.cells.length=n)(hle:off+n<=(enc a).cells.length)(hset:(enc a').cells.map Ah.d=setAt ((enc a).cells.map Ah.d) off v.cells)(hc:∀b,(enc b).cells.length=size)(ho:o.op=.store t x y:=by exact rfl):
 CB P o [(x,.lN k i off),(y,v)] es .junk (es.set k (.arr e size (List.map enc (l.set i a')))):=
 .eff λC ok H J w hm hn'=>by
  have h1:=(FC hn').1;have h2:=(FC hn').2;simp only at h1 h2;obtain⟨h,hh,hok⟩:=Gp hm.ent hm.hlen hk;obtain⟨Y,hia⟩:=Gs.1 ha;have aKs:i<(List.map enc l).length:=by simpa using Y
  have hok1:=hok.1;obtain⟨g,cap,z,ys,e1,e2,e3,e4,e5,e5',e6,e7,e8,e9,e10⟩:=aPg hh hok aKs h1;have I:=h2.al1 hl;have hll:(List.map enc l).length=l.length:=BU
  rw[hll]at e1 e3 e6 e7;have hea:(enc a).cells.length=size:=hc a;have Z:(J.eval y).cells.toList.length=n:=by rw[I.1,hn]
  have hsz:(J.eval y).cells.size=n:=by simpa using Z
  have hcur:l.length*size<=z.size:=by simpa using e5
  have hend:i*size+off+n<=l.length*size:=by
   have :(i+1)*size<=l.length*size:=KR _ Y
   grind
  have hst:=aKK (P:=P) g (i*size+off) e (J.eval y).cells.toList 0 z w e2 (by rw[Z];omega) (λu hu=>by
   obtain⟨j,L,rfl⟩:=Ih hu;have h5:=I.2 j (by rw[←I.1];exact L);have :=h5.2.leaf h5.1
   rwa [aAo L]at this)
  simp only[PK]at hst;have O:∀(q:AA α),∀y∈q.map enc,y.cells.length=size:=λq y hy=>aDF
  obtain⟨h3,h4⟩:=hm.upd (e:=.arr e size (List.map enc (l.set i a'))) (w':=w.setRow g (z.toList.take (i*size+off)++(J.eval y).cells.toList++z.toList.drop (i*size+off+(J.eval y).cells.toList.length)).toArray) hk rfl hh (by rw[e1];rfl) rfl rfl rfl aII (λc hc=>aJm _ _ _ _ hc) (λhg'=>by
   have esz:(setAt z.toList (i*size+off) (J.eval y).cells.toList).length=z.toList.length:=SL (by have :=z.length_toList;omega);refine⟨hok1,O _,setAt ys (i*size+off) (J.eval y).cells.toList,⟨?_,.inr ⟨g,cap,_,by simp;exact e1,Ef _,ql w g z _ e (0,0) e2,by simpa using e3,e4,?_,?_⟩⟩,?_⟩
   ·rw[SL AL];simpa using e7
   ·have h9:(setAt z.toList (i*size+off) (J.eval y).cells.toList).toArray.size=z.size:=by rw[a3F,esz];simp
    show _<=(setAt z.toList (i*size+off) (J.eval y).cells.toList).toArray.size;rw[h9];exact e5'
   ·rw[a3a];show(setAt z.toList (i*size+off) (J.eval y).cells.toList).take _=_;rw[←e6];have hlen':(List.map enc (l.set i a')).length=l.length:=BU
    rw[hlen'];apply kW;intro j;have hcl:=z.length_toList;by_cases L:j<l.length*size
    ·have a1:((setAt z.toList (i*size+off) (J.eval y).cells.toList).take (l.length*size))[j]? =some ((setAt z.toList (i*size+off) (J.eval y).cells.toList).getD j undef):=by
      rw[TP L];simp[List.getD,show j<(setAt z.toList (i*size+off) (J.eval y).cells.toList).length by rw[esz];omega]
     have tl:(z.toList.take (l.length*size)).length=l.length*size:=EY
     have sl:(setAt (z.toList.take (l.length*size)) (i*size+off) (J.eval y).cells.toList).length=l.length*size:=by rw[SL AL,tl]
     have a2:(setAt (z.toList.take (l.length*size)) (i*size+off) (J.eval y).cells.toList)[j]? =some ((setAt (z.toList.take (l.length*size)) (i*size+off) (J.eval y).cells.toList).getD j undef):=by
      simp[List.getD,show j<(setAt (z.toList.take (l.length*size)) (i*size+off) (J.eval y).cells.toList).length by omega]
     rw[a1,a2,Y1 AL,Y1 AL];congr 1;split
     ·rfl
     simp[List.getD,TP L]
    have tl:(z.toList.take (l.length*size)).length=l.length*size:=EY
    have sl:(setAt (z.toList.take (l.length*size)) (i*size+off) (J.eval y).cells.toList).length=l.length*size:=by rw[SL AL,tl]
    rw[Ns EY,Ns AL]
   have hb:=e8.mono hg' (kV H);have hcr:=I.mono hg' (kV H);have hfl:=Si (O l);have aAk:=Si (O (l.set i a'));refine⟨by rw[SL AL,e7,aAk];simp,λj L=>?_⟩;rw[aAk]at L;simp only[Di,qH]at L
   have hpos:0<size:=by
    rcases X0 size with h0|h0
    ·rw[h0,Nat.mul_zero]at L;omega
    exact h0
   have e0:j=j/size*size+j % size:=by rw[V6];exact(aC9 j size).symm
   have hq:j/size<l.length:=qo (by rwa [V6]at L);have hr:j % size<size:=nI _ hpos
   have hdiv:j/size=i↔i*size<=j/\j<i*size+size:=by
    rw[Nat.div_eq_iff hpos,V6];omega
   rw[Z]at hb hcr;generalize j/size=qd at e0 hq hdiv;generalize j % size=M at e0 hr;have hg3:=flat_get (O (l.set i a')) qd M (by simpa using hq) hr;rw[←e0]at hg3;have hg1:=flat_get (O l) qd M (by simpa using hq) hr;rw[←e0]at hg1;rw[hg3,Y1 AL,Z];by_cases U:qd=i
   ·have hnew:(List.map enc (l.set i a')).getD (qd) EJ=enc a':=by rw[U];simp[List.getD,Y]
    have hold:(List.map enc l).getD (qd) EJ=enc a:=by rw[U];simp[List.getD,Y,hia]
    rw[hnew];have aQI:(enc a').cells.length=size:=hc a'
    have e11:Ah.d ((enc a').cells.getD (M) EJ)=(setAt ((enc a).cells.map Ah.d) off v.cells).getD (M) .junk:=by
     rw[←hset];simp[List.getD,show M<(enc a').cells.length by omega]
    rw[e11,Y1 (by rw[Di,hn];exact hle),hn];have hji:j=i*size+M:=by rw[←U];exact e0
    by_cases hin:off<=M/\M<off+n
    ·rw[ES hin,ES AL];have :j-(i*size+off)=M-off:=AL
     rw[this];exact hcr.2 _ AL
    rw[EZ hin,EZ AL];have e12:((enc a).cells.map Ah.d).getD (M) .junk=.d ((enc a).cells.getD (M) EJ):=by simp[List.getD,show M<(enc a).cells.length by omega]
    rw[e12,←hold,←hg1];exact hb.2 j (by rw[hfl];simpa using L)
   have hsame:(List.map enc (l.set i a')).getD (qd) EJ=(List.map enc l).getD (qd) EJ:=by
    simp[List.getD,eL (Ne.symm U)]
   have hnot:¬(i*size+off<=j/\j<i*size+off+n):=by
    rintro⟨ha1,ha2⟩;exact U (hdiv.2 ⟨AL,AL⟩)
   rw[EZ hnot,hsame,←hg1]
   exact hb.2 j (by rw[hfl];simpa using L))
  refine⟨undef,_,ok,H,.inr ⟨rfl,?_⟩,h4,.refl _,h3,.junk _⟩;simp only[execOp,ho,e10,Instr.storeAt,Instr.sureAddr,storeVar,Fg,Gl,Fv,hs,hsz,ne_eq,not_true_eq_false,KA,hst]
def Ah.WW (k:Nat)(cs:AA D):Ah->Ah
 | .ptr j off=>if j=k then .d (.ref cs off)else .ptr j off
 |x=>x
def BP.WW (σ:BP)(k:Nat)(cs:AA D):BP:=⟨σ.slots.map (Ah.WW k cs),σ.ents.set k .dead,σ.base⟩
theorem Qv (k:Nat)(hk:σ.ents[k]? =some (.box cs))(hd:cs.all Ah.C9=true):∀C ok H a w,Holds C ok H σ a w->∃ok',Holds C ok' H (σ.WW k (JD cs)) a w:=by
 intro C ok H a w q;obtain⟨h,M,hok⟩:=Gp q.mem.ent q.mem.hlen hk;have I:k<σ.ents.length:=(Gs.1 hk).1;obtain⟨b0,O,hf,hx,hc⟩:=aLj hok hd
 let ok':Nat->Prop:=λb=>ok b\/E5 h.v=some b
 have hblk:=λb u=>q.mem.blk k _ h b hk rfl M u;have hg:F9 ok w ok' w:=λb u=>⟨.inl u,rfl⟩
 refine⟨ok',⟨q.mem.fr,λb u=>.inl (q.mem.CU b u),?_,?_,q.mem.names,by simp[BP.WW,q.mem.hlen],?_,?_,?_⟩,by simp[BP.WW,q.size],q.defers.mono hg,q.base,?_⟩
 ·rintro b (u|u)
  ·exact q.mem.CV b u
  grind
 ·rintro b (u|u)
  ·exact q.mem.lg b u
  grind
 ·intro j e' h' he J;rcases N9 I he with⟨rfl,rfl⟩|⟨_,L⟩
  ·trivial
  exact(q.mem.ent j e' h' L J).mono hg (.refl _) (λ_ _ _=>rfl)
 ·intro j e' h' b he hl J u;rcases N9 I he with⟨rfl,rfl⟩|⟨hne,L⟩
  ·cases hl
  have h3:=q.mem.blk j e' h' b L hl J u;refine⟨λz=>?_,h3.2⟩;rcases z with z|z
  ·exact h3.1 z
  exact hne (q.mem.Jy j k e' _ h' h b L hk hl rfl J M u z)
 ·intro i j e1 e2 h1 h2 b he1 he2 U Y hh1 hh2 hb1 hb2;rcases N9 I he1 with⟨rfl,rfl⟩|⟨_,Z⟩
  ·cases U
  rcases N9 I he2 with⟨rfl,rfl⟩|⟨_,aDO⟩
  ·cases Y
  exact q.mem.Jy i j e1 e2 h1 h2 b Z aDO U Y hh1 hh2 hb1 hb2
 intro t ht;simp only[BP.WW,Di]at ht
 have e1:(σ.WW k (JD cs)).slots.getD t .junk=(σ.slots.getD t .junk).WW k (JD cs):=by
  simp only[BP.WW];exact Vh _ _ _ ht
 rw[e1];have hR:=(q.slot t ht).mono hg (kV H);generalize σ.slots.getD t .junk=x at hR ⊢;generalize a.tmps.getD t undef=v at hR ⊢;cases x with
 |ptr j off=>
  simp only[Ah.WW];split
  ·rename_i hj;subst hj;cases hR with
   |ptr _ _ b s hH=>
    rw[M]at hH;obtain rfl:=Dv hH;simp at O;subst O;have :=EF.ref (ok:=ok') (w:=w) (JD cs) off b 0 (λ_=>.inr rfl) hf hx (λj hj=>(hc j hj).mono hg);rw[Js]at this;exact .d _ _ this
  exact hR
 |_=>
   exact hR
variable {fn:Fn}{u:Ah}
section
variable {γ:Type}
def yj {ok:Nat->Prop}{w:BX}{H:AA CG}{a:Act}:∀{xs:AA Bz} {vs:AA Ah},xs.length=vs.length->(∀n∈Fh xs vs,R ok w H n.2 (a.eval n.1))->∀i,i<vs.length->R ok w H (vs.getD i .junk) ((xs.map a.eval).getD i undef)
 | [],[],_,_,i,hi=>TR
 | [],_::_,h,_,_,_=>IV
 |_::_,[],h,_,_,_=>IV
 |x::xs,v::vs,h,j,0,_=>by simpa using j (x,v) (by simp[Fh])
 |x::xs,v::vs,h,j,i+1,hi=>by
  have :=yj O5 (λn q=>j n (by simp[Fh,q])) i Hf;simpa using this
def Oq {j:Bg Bz}(q:AA D)(hl:j.toList.length=q.length)(z:o.op=.makeFunc fn #[] j:=by exact rfl):CB P o (Fh j.toList (q.map .d)) es (.d (.fn fn [] q)) es:=
 .pure λok H a w _ _ I=>by
  refine⟨.func fn #[] (j.map a.eval),by simp[execOp,z,Instr.makeFunc],.d _ _ (.fn fn [] q #[] _ rfl Lu (λi hi=>TR) (λi hi=>?_))⟩;have h1:=yj (xs:=j.toList) (vs:=q.map .d) Lu I i Hf;have J:(q.map Ah.d).getD i .junk=.d (q.getD i EJ):=NY
  have u:i<j.size:=by
    have :j.size=q.length:=Lu
    omega
  have L:(j.toList.map a.eval).getD i undef=(j.map a.eval).getD i undef:=by simp[List.getD,Array.getD,u]
  rw[J,L]at h1;cases h1 with |d _ _ h=>exact h
def aWd (hm:Dq C ok H es w){z:AA D}(Z:EW P f (z.map .d) [] u [])(q:Bg BD)(hs:q.size=z.length)(O:∀i,i<z.length->EF ok w (z.getD i EJ) (q.getD i undef))(J:u.up [] es.length=u):
 Calls P f q w λe w'=>∃v ok' H',e=.returned v/\F9 ok w ok' w'/\Names H H'/\Dq C ok' H' es w'/\R ok' w' H' u v:=by
 have U:Dq ⟨w,ok,[],[]⟩ ok [] [] w:=
  ⟨.refl _ _,λ_ h=>h,λ_ h=>.inl h,hm.lg,.refl _,rfl,λk e h I _=>by simp at I,λk e h b I=>by simp at I,λk k' e e' h h' b I=>by simp at I⟩
 refine(Z ok [] [] w q U wC (λi hi=>?_)).mono ?_
 ·have L:i<z.length:=Hf
  have e1:(z.map Ah.d).getD i .junk=.d (z.getD i EJ):=by simp[List.getD,L]
  rw[e1];exact .d _ _ (O i L)
 rintro e w' ⟨v,ok',H',rfl,j,hR⟩;have Y:H'=[]:=Hd j.hlen
 obtain⟨h1,h2⟩:=hm.change (ok':=ok') (H':=H) (es':=es) (w':=w') (λ_=>False) j.fr.os j.fr.tape j.fr.output j.fr.size (λb M _=>j.fr.block b M BU) (λ_ h=>h.elim) j.CU (λb M=>by
  rcases j.CV b M with h|h|h
  ·exact .inl h
  ·exact .inr ⟨h,j.lg b M⟩
  simp at h) (.refl _) hm.hlen (λk e h I hh=>.inl ⟨I,hh,λ_ _ _ h=>h⟩)
 refine⟨v,ok',H,rfl,h2,.refl _,h1,?_⟩;have :=aNx (srcs:=[]) (H:=H) (Hc:=[]) (H':=H') rfl (λi k h=>IV) (λk v O=>by simp at O) hR;rw[hm.hlen,J,Y]at this;simpa using this
theorem aHK (j cs:AA D){q:Ah}(hr:EW P f ((j++cs).map .d) [] q [])(hf:Gw P f=true)(hl:ops.toList.length=j.length)(J:q.up [] es.length=q)(ho:o.op=.call { callee:=.value x,args:=ops,argTypes:=ats }:=by exact rfl):CB P o ((x,.d (.fn (.func f) [] cs))::Fh ops.toList (j.map .d)) es q es:=by
 intro C ok H a w Q hm hn;have L:=hn (x,.d (.fn (.func f) [] cs)) BU;simp only at L;have z:=yj (xs:=ops.toList) (vs:=j.map .d) Lu (λn M=>hn n (Ii _ M));generalize hv:a.eval x=v at L;cases L with
 |d _ _ h=>
  cases h with
  |fn _ _ _ vs us O U h1 h2=>
   have Y:vs= #[]:=jF Z5;subst Y;unfold Oper.wp
   have he:(execOp a.eval o).run P w=.ok (.enter f ((ops.map a.eval)++us)) w:=by
    have :=UC hf (ops.map a.eval++us) w;simp[execOp,ho,resolve,hv,Deferred.ofValue,invoke,this]
   rw[he,ak];have Z:(ops.map a.eval).size=j.length:=Lu
   refine(aWd hm hr _ (by simp[Z,U]) (λi hi=>?_) J).mono ?_
   ·by_cases u:i<j.length
    ·have h3:=z i Qy;have e1:(j.map Ah.d).getD i .junk=.d (j.getD i EJ):=aLC
     have I:i<ops.size:=aPb
     have e2:(ops.toList.map a.eval).getD i undef=(ops.map a.eval++us).getD i undef:=by
      simp[List.getD,JJ,Zc,I]
     have e3:(j++cs).getD i EJ=j.getD i EJ:=by simp[List.getD,JR u]
     rw[e1,e2]at h3;rw[e3];cases h3 with |d _ _ h=>exact h
    have I:i-j.length<cs.length:=aIR
    have e3:(j++cs).getD i EJ=cs.getD (i-j.length) EJ:=by simp[List.getD,P7 (WY u)]
    have e4:(ops.map a.eval++us).getD i undef=us.getD (i-j.length) undef:=by
     simp only[JJ]
     grind
    rw[e3,e4];exact h2 _ I
   rintro e w' ⟨v,ok',H',rfl,h3,h4,h5,h6⟩;exact⟨v,ok',H',rfl,h3,h4,h5,h6⟩
def S9 (P:Ch)(j:α->D)(q:β->D)(d:D)(g:α->AB β):Prop:=∃f cs,d=.fn (.func f) [] cs/\Gw P f=true/\∀a b,g a=some b->EW P f (([j a]++cs).map .d) [] (.d (q b)) []
def Ve (P:Ch)(j:α->D)(q:β->D)(u:γ->D)(d:D)(g:α->β->AB γ):Prop:=∃f cs,d=.fn (.func f) [] cs/\Gw P f=true/\∀a b c,g a b=some c->EW P f (([j a,q b]++cs).map .d) [] (.d (u c)) []
def yT (P:Ch)(j:β->D)(d:D)(g:AB β):Prop:=∃f cs,d=.fn (.func f) [] cs/\Gw P f=true/\∀b,g=some b->EW P f (cs.map .d) [] (.d (j b)) []
def rU {j:α->D}{q:β->D}{d:D}{g:α->AB β}{a:α}{b:β}(hd:S9 P j q d g)(h:g a=some b)(u:o.op=.call { callee:=.value x,args:= #[y],argTypes:=ats }:=by exact rfl):
 CB P o [(x,.d d),(y,.d (j a))] es (.d (q b)) es:=by
 obtain⟨f,cs,rfl,z,I⟩:=hd;exact aHK [j a] cs (I a b h) z rfl rfl u
def YL {z:Bz}{j:α->D}{q:β->D}{u:γ->D}{d:D}{g:α->β->AB γ}{a:α}{b:β}{c:γ}(hd:Ve P j q u d g)(h:g a b=some c)(I:o.op=.call { callee:=.value x,args:= #[y,z],argTypes:=ats }:=by exact rfl):
 CB P o [(x,.d d),(y,.d (j a)),(z,.d (q b))] es (.d (u c)) es:=by
 obtain⟨f,cs,rfl,J,L⟩:=hd;exact aHK [j a,q b] cs (L a b c h) J rfl rfl I
def a2t {j:β->D}{d:D}{g:AB β}{b:β}(hd:yT P j d g)(h:g=some b)(q:o.op=.call { callee:=.value x,args:= #[],argTypes:=ats }:=by exact rfl):
 CB P o [(x,.d d)] es (.d (j b)) es:=by
 obtain⟨f,cs,rfl,u,z⟩:=hd;exact aHK [] cs (z b h) u rfl rfl q
end
variable {S:AA EN}{ca fi:AA D}{t:Nat}{ys:Bg BD}
def aBm {v:Ah}(e:Bq)(size:Nat)(h:CB P o ((.const (.slice none 0 0),.aQ es.length)::ns) (es++[.arr e size []]) v es'):CB P o ns es v es':=by
 intro C ok H a w Q hm z;obtain⟨h1,h2⟩:=a03 hm e size;refine Oper.wp_mono ?_ (h C ok _ a w Q h1 (λn j=>?_))
 ·rintro a' w' ⟨v',ok',H',I,J,q,u,L⟩;exact⟨v',ok',H',I,J,(Gy _ _).trans q,u,L⟩
 rcases FI.1 j with rfl|j
 ·exact h2
 exact(z n j).mono (.refl _ _) (Gy _ _)
def R.ajO (h:R ok w H (.d (.agg (us.map .lit))) v):v=.agg us.toArray:=by
 cases h with
 |d _ _ h=>
  cases h with
  |agg _ vs hl _ h=>
   congr 1;apply fU
   ·simpa using hl
   intro i h1 h2;have hi:i<(us.map D.lit).length:=AL
   have h3:=h i hi;have j:i<us.length:=Hf
   have q:(us.map D.lit).getD i EJ=.lit (us[i]):=wI
   have z:vs.getD i undef=vs[i]:=by simp[Array.getD,h1]
   rw[q,z]at h3;generalize vs[i]=u at h3;cases h3;simp
structure VA (P:Program) (n:Nat) (t:TypeId) (us vs:List Value) (b:Bool):Prop where
 run:∀(d:Nat) (w:World),(Op.equalIn (d+n) t (.agg us.toArray) (.agg vs.toArray)).run P w=.ok b w
def G5 {t:Bq}{cs:Bg BD}(j:Eb P t false size)(h:cs[off]? =some v)(w:BX):(part t cs off).run P w=.ok v w:=by
 simp[part,j.agg,h]
def WA (d:Nat)(xs ys:Bg BD):AA (Bq×Nat)->Sem AV
 | []=>pure true
 |f::j=>do
  let a ←part f.1 xs f.2
  let b ←part f.1 ys f.2
  let r ←Op.equalIn d f.1 a b
  if(!r)=true then pure false else WA d xs ys j
def aOd (d:Nat)(xs ys:Bg BD):∀(j:AA Field),j.all (λf=>f.name != "_")=true->Op.eqFields d xs ys j=WA d xs ys (j.map λf=>(f.type,f.offset))
 | [],_=>rfl
 |f::j,h=>by
  simp only[List.all_cons,ED,bne_iff_ne,ne_eq]at h;simp only[Op.eqFields,Gg,WA,ne_eq,h.1,not_false_eq_true,JK,aOd d xs ys j h.2]
def Y8 {t:Bq}{xs:Bg BD}{l:AA (Bq×Nat)}(j:P.underlying t=some (.struct (P.fieldsOf t)))(hp:P.stoodInHeld t=false)(q:(P.fieldsOf t).toList.all (λf=>f.name != "_")=true)(hl:(P.fieldsOf t).toList.map (λf=>(f.type,f.offset))=l)(h:(WA d xs ys l).run P w=.ok b w):(Op.equalIn (d+1) t (.agg xs) (.agg ys)).run P w=.ok b w:=by
 rw[run_equalIn_struct w d t xs ys j hp,aOd _ _ _ _ q,hl,h]
def Y3 (d:Nat)(xs ys:Bg BD)(w:BX):(WA d xs ys []).run P w=.ok true w:=by simp[WA]
def KY {xs:Bg BD}{t:Bq}{j:AA (Bq×Nat)}{a b:BD}{r rs:AV}(ha:(part t xs off).run P w=.ok a w)(q:(part t ys off).run P w=.ok b w)(u:(Op.equalIn d t a b).run P w=.ok r w)(hs:(WA d xs ys j).run P w=.ok rs w):(WA d xs ys ((t,off)::j)).run P w=.ok (r&&rs) w:=by
 unfold WA;simp only[Fg,ha,q,u,Fv];cases r<;>simp[hs]
def Ug {t:Bq}(us vs:AA BD)(h:VA P n t us vs b)(hd:n<=10000)(u:P.eqGuardType P.depth t=false)(z:o.op=.binOp .eql t x y t':=by exact rfl):
 CB P o [(x,.d (.agg (us.map .lit))),(y,.d (.agg (vs.map .lit)))] es (.d (Dt b)) es:=
 .pure λ_ _ a w _ _ q=>⟨.bool b,by
  have h1:=(FC q).1.ajO;have h2:=(FC q).2.ajO;simp only at h1 h2;have j:(eqGuard .eql t x y (.agg us.toArray) (.agg vs.toArray)).run P w=.ok () w:=by simp[eqGuard,u]
  simp only[execOp,z,h1,h2,Fg,j,Fv,Gl,run_eql_struct,(by have :=h.run (10000-n) w;rwa [Nat.sub_add_cancel hd]at this:(Op.equalIn 10000 t (.agg us.toArray) (.agg vs.toArray)).run P w=.ok b w)],.d _ _ (.lit _)⟩
def Us {t:Bq}(us vs:AA BD)(h:VA P n t us vs b)(hd:n<=10000)(u:P.eqGuardType P.depth t=false)(z:o.op=.binOp .neq t x y t':=by exact rfl):
 CB P o [(x,.d (.agg (us.map .lit))),(y,.d (.agg (vs.map .lit)))] es (.d (Dt (!b))) es:=
 .pure λ_ _ a w _ _ q=>⟨.bool (!b),by
  have h1:=(FC q).1.ajO;have h2:=(FC q).2.ajO;simp only at h1 h2;have j:(eqGuard .neq t x y (.agg us.toArray) (.agg vs.toArray)).run P w=.ok () w:=by simp[eqGuard,u]
  simp only[execOp,z,h1,h2,Fg,j,Fv,Gl,run_neq_struct,(by have :=h.run (10000-n) w;rwa [Nat.sub_add_cancel hd]at this:(Op.equalIn 10000 t (.agg us.toArray) (.agg vs.toArray)).run P w=.ok b w)],.d _ _ (.lit _)⟩
def Rz (l:AA Int):BL:=l.foldl (λr n=>r.push (UInt8.ofNat n.toNat)) ByteArray.empty
def alC {j:AA BD}(h:Gf ok w H (flat (l.map Dh)) j):j=l.map (.int .u8):=by
 rw[aBp]at h;apply lJ
 ·simpa using h.1
 intro i h1 h2;have hi:i<(l.map λn=>Ah.d (Dh n)).length:=LM
 have h3:=(h.2 i hi).2;have q:i<l.length:=Hf
 have u:(l.map λn=>Ah.d (Dh n)).getD i .junk=.d (Dh l[i]):=by simp[List.getD,q]
 have z:j.getD i undef=j[i]:=by simp[List.getD,h1]
 rw[u,z]at h3;have :=h3.lit;simpa using this
theorem abS (h:XW w v m 1 (l.map (.int .u8))):(Conv.bytesToString v).run P w=.ok (.string (Rz l)) w:=by
 rcases h.at_ with⟨ad,c,rfl,j⟩|⟨c,rfl,hm⟩
 ·refine run_bytesToString w ad m c l ?_;have hl:=h.len;have :=aUP (P:=P) w ad (l.map (Value.int .u8)) j
  grind
 have hl:=h.len;rw[hm,Nat.zero_mul,Di]at hl;rw[Hd hl];simp[Conv.bytesToString,Rz]
def Value.isSlice:BD->AV
 | .slice _ _ _=>true
 |_=>false
def adq {j:AA BD}(h:XW w v m size j):Value.isSlice v=true:=by
 rcases h.at_ with⟨_,_,rfl,_⟩|⟨_,rfl,_⟩<;>rfl
def aiO {t:Bq}{r:BL}(hs:P.underlying s=some (.slice e))(j:P.underlying e=some (.int .u8))(q:P.underlying t=some .string)(u:Value.isSlice v=true)(h:(Conv.bytesToString v).run P w=.ok (.string r) w):(convert s t v).run P w=.ok (.string r) w:=by
 cases v<;>simp[Value.isSlice]at u
 simp[convert,underlying,hs,j,q,h]
def aVP {t:Bq}(hs:P.underlying s=some (.slice e))(z:P.underlying e=some (.int .u8))(I:P.underlying t=some .string)(J:o.op=.convert s t x:=by exact rfl):
 CB P o [(x,.d (BQ Dh l))] es (.d (DT (Rz l))) es:=
 .pure λok H a w _ _ L=>by
  have h1:=L9 L;simp only at h1;generalize M:a.eval x=v at h1;refine⟨.string (Rz l),?_,.d _ _ (.lit _)⟩;cases h1 with
  |d _ _ h=>
   obtain⟨u,j,q⟩:=dF H h (size:=1) (λy O=>by obtain⟨n,_,rfl⟩:=Hl.1 O;rfl);obtain rfl:=alC q;have hsl:=adq j;simp[execOp,J,M,aiO hs z I hsl (abS j)]
theorem Q5 {firsts j:Bg Bz}{fi ca:AA Ah}(hl:firsts.toList.length=fi.length)(hm:j.toList.length=ca.length)(z:o.op=.makeFunc fn firsts j:=by exact rfl):
 CB P o (Fh firsts.toList fi++Fh j.toList ca) es (.fn fn fi ca) es:=
 .pure λok H a w _ _ q=>by
  have key:∀(xs:Bg Bz) (vs:AA Ah),xs.toList.length=vs.length->(∀n∈Fh xs.toList vs,R ok w H n.2 (a.eval n.1))->∀i,i<vs.length->R ok w H (vs.getD i .junk) ((xs.map a.eval).getD i undef):=by
   intro xs vs hl q i hi;have h1:=yj hl q i hi
   have u:i<xs.size:=by
     have :xs.size=vs.length:=Lu
     omega
   have I:(xs.toList.map a.eval).getD i undef=(xs.map a.eval).getD i undef:=by simp[List.getD,Array.getD,u]
   grind
  refine⟨.func fn (firsts.map a.eval) (j.map a.eval),by simp[execOp,z,Instr.makeFunc],.fn fn fi ca _ _ Lu a5e (key _ _ hl λn h=>q n (by simp[h])) (key _ _ hm λn h=>q n (by simp[h]))⟩
def aGd :∀{xs:AA Bz} {vs:AA Ah} {ys:AA Bz} {us:AA Ah},xs.length=vs.length->Fh (xs++ys) (vs++us)=Fh xs vs++Fh ys us
 | [],[],_,_,_=>rfl
 | [],_::_,_,_,h=>IV
 |_::_,[],_,_,h=>IV
 |x::xs,v::vs,ys,us,h=>by simp[Fh,aGd (xs:=xs) (vs:=vs) O5]
def aIh {ok:Nat->Prop}{w:BX}{H:AA CG}{a:Act}:∀{us:AA BD} {vs:AA Ah},us.length=vs.length->(∀i,i<vs.length->R ok w H (vs.getD i .junk) (us.getD i undef))->∀n∈Fh (us.map Operand.const) vs,R ok w H n.2 (a.eval n.1)
 | [],[],_,_,n,j=>by simp[Fh]at j
 | [],_::_,h,_,_,_=>IV
 |_::_,[],h,_,_,_=>IV
 |u::us,v::vs,hl,h,n,j=>by
  simp only[Gg,Fh,FI]at j;rcases j with rfl|j
  ·have :=h 0 BU;simp at this;exact this
  exact aIh (us:=us) (vs:=vs) Lu (λi hi=>by simpa using h (i+1) Hf) n j
def aQ1 (srcs:AA EN){fi ca:AA Ah}(L:EW P f fE E u E')(M:Gw P f=true)(O:Sm srcs es E E'=true)(hE:qU srcs es E)(ha:NV srcs (fi++dY++ca) fE)(hl:ops.toList.length=dY.length)(U:o.op=.call { callee:=.value x,args:=ops,argTypes:=ats }:=by exact rfl):
 CB P o ((x,.fn (.func f) fi ca)::Fh ops.toList dY) es (u.up srcs es.length) (MG srcs es E'):=by
 intro C ok H a w Q hm J;have I:=J (x,.fn (.func f) fi ca) BU;simp only at I;generalize Y:a.eval x=v at I;cases I with
 |fn _ _ _ vs us q z h1 h2=>
  unfold Oper.wp
  have Z:(execOp a.eval o).run P w=.ok (.enter f ((vs++ops.map a.eval)++us)) w:=by
   have :=UC M (vs++ops.map a.eval++us) w;rw[Array.append_assoc]at this;simp[execOp,U,resolve,Y,Deferred.ofValue,invoke,this]
  rw[Z,ak]
  have e:vs++ops.map a.eval++us=((vs.toList.map Operand.const++ops.toList++us.toList.map Operand.const).map a.eval).toArray:=by
   apply aNG;simp[aGV,Act.eval]
  rw[e];have l1:(vs.toList.map Operand.const).length=fi.length:=Zk
  refine(aQW hm srcs L O hE ha (by simp at hl;simp[q,z,hl]) (a:=a) ?_).mono ?_
  ·rw[aGd (by simp at hl;simp[q,hl]),aGd l1];intro n j;simp only[Je]at j;rcases j with(j|j)|j
   ·exact aIh Zk (λi hi=>by have :=h1 i hi;simpa[List.getD,JJ]using this) n j
   ·exact J n (Ii _ j)
   exact aIh iI (λi hi=>by have :=h2 i hi;simpa[List.getD,JJ]using this) n j
  rintro e w' ⟨v,ok',H',rfl,h3,h4,h5,h6⟩;exact⟨v,ok',H',rfl,h3,h4,h5,h6⟩
def R.dfn {f:Fn}(h:R ok w H (.d (.fn f fi ca)) v):R ok w H (.fn f (fi.map .d) (ca.map .d)) v:=by
 cases h with
 |d _ _ h=>
  cases h with
  |fn _ _ _ vs us h1 h2 h3 u=>
   refine .fn f _ _ vs us Zh LM (λi hi=>?_) (λi hi=>?_)
   ·have j:i<fi.length:=Hf
    have q:(fi.map Ah.d).getD i .junk=.d (fi.getD i EJ):=wI
    rw[q];exact .d _ _ (h3 i j)
   have j:i<ca.length:=Hf
   have q:(ca.map Ah.d).getD i .junk=.d (ca.getD i EJ):=wI
   rw[q];exact .d _ _ (u i j)
theorem ahh (srcs:AA EN)(u:EW P f fE E j E')(z:Gw P f=true)(I:Sm srcs es E E'=true)(hE:qU srcs es E)(ha:NV srcs (fi.map .d++dY++ca.map .d) fE)(hl:ops.toList.length=dY.length)(J:o.op=.call { callee:=.value x,args:=ops,argTypes:=ats }:=by exact rfl):
 CB P o ((x,.d (.fn (.func f) fi ca))::Fh ops.toList dY) es (j.up srcs es.length) (MG srcs es E'):=by
 intro C ok H a w Q hm L;refine aQ1 (fi:=fi.map .d) (ca:=ca.map .d) srcs u z I hE ha hl J C ok H a w Q hm (λn q=>?_);rcases FI.1 q with rfl|q
 ·exact R.dfn (L (x,.d (.fn (.func f) fi ca)) BU)
 grind
def Qs (S:AA EN)(es:AA Bc):AA EN->AA Bc->Prop
 |s::srcs,e::E=>(match s with | .ent k=>es[k]? =some (e.up S es.length)| .nil sz=>∃t,e=.arr t sz [])/\Qs S es srcs E
 | [],_=>True
 |_::_,[]=>False
def MZ {es:AA Bc}{e:Bc}(h:es[k]? =some (e.up S es.length))(hs:Qs S es srcs E):Qs S es (.ent k::srcs) (e::E):=⟨h,hs⟩
def alE {es:AA Bc}{sz:Nat}(hs:Qs S es srcs E):Qs S es (.nil sz::srcs) (.arr t sz []::E):=⟨⟨t,rfl⟩,hs⟩
theorem aVs {S:AA EN}{es:AA Bc}:∀{srcs:AA EN} {E:AA Bc},Qs S es srcs E->∀(i:Nat) (s:EN),srcs[i]? =some s->match s with | .ent k=>(E[i]?).map (Bc.up S es.length)=es[k]? | .nil sz=>∃e,E[i]? =some (.arr e sz [])
 | [],_,_,i,s,hs=>by simp at hs
 |_::_,[],h,_,_,_=>h.elim
 |s::srcs,e::E,h,0,j,hs=>by
  simp at hs;subst hs;have h1:=h.1;cases s with
  |ent k=>
   grind
  |nil sz=>
   grind
 |s::srcs,e::E,h,i+1,j,hs=>by
  have :=aVs h.2 i j wC;cases j with
  |ent k=>
   simpa using this
  |nil sz=>
   simpa using this
def aFu {es:AA Bc}(h:Qs srcs es srcs E):qU srcs es E:=aVs h
def aQY (srcs:AA EN)(q:EW P f fE E j E')(u:Gw P f=true)(z:Sm srcs es E E'=true)(hE:Qs srcs es srcs E)(ha:NV srcs dY fE)(hl:ops.toList.length=dY.length)(I:res'=j.up srcs es.length)(J:o.op=.call { callee:=.value (.func f),args:=ops,argTypes:=ats }:=by exact rfl):CB P o (Fh ops.toList dY) es res' (MG srcs es E'):=I▸aQ0 srcs q u z (aFu hE) ha hl J
def ahA (srcs:AA EN)(fi ca:AA Ah)(q:EW P f fE E j E')(u:Gw P f=true)(z:Sm srcs es E E'=true)(hE:Qs srcs es srcs E)(ha:NV srcs (fi++dY++ca) fE)(hl:ops.toList.length=dY.length)(I:res'=j.up srcs es.length)(J:o.op=.call { callee:=.value x,args:=ops,argTypes:=ats }:=by exact rfl):
 CB P o ((x,.fn (.func f) fi ca)::Fh ops.toList dY) es res' (MG srcs es E'):=I▸aQ1 srcs q u z (aFu hE) ha hl J
def acO (srcs:AA EN)(fi ca:AA D)(q:EW P f fE E j E')(u:Gw P f=true)(z:Sm srcs es E E'=true)(hE:Qs srcs es srcs E)(ha:NV srcs (fi.map .d++dY++ca.map .d) fE)(hl:ops.toList.length=dY.length)(I:res'=j.up srcs es.length)(J:o.op=.call { callee:=.value x,args:=ops,argTypes:=ats }:=by exact rfl):
 CB P o ((x,.d (.fn (.func f) fi ca))::Fh ops.toList dY) es res' (MG srcs es E'):=I▸ahh srcs q u z (aFu hE) ha hl J
structure Turns (v:Value) (w w':World):Prop where
 os:w'.os=w.os
 tape:w'.tape=w.tape
 output:w'.output=w.output
 size:w.heap.size<=w'.heap.size
 block:∀c,c<w.heap.size->E5 v≠some c->w'.heap[c]? =w.heap[c]?
def Turns.refl (v:BD)(w:BX):Turns v w w:=⟨rfl,rfl,rfl,Ec _,λ_ _ _=>rfl⟩
def Turns.aDX {o c:Nat}{s:AB Nat}(h:w.grownBy w' (some g)):Turns (.slice (some ⟨g,o,s⟩) n c) w w':=
 ⟨h.os,h.tape,h.output,h.size,λk q j=>h.block k q (λe=>j (by cases e;rfl))⟩
def EF.Sv {u:BD}(h:EF ok w (.lit u) v):v=u:=by cases h;rfl
def aLE :∀(l:AA Int),flat (l.map Ad)=l.map λn=>.d (Ad n)
 | []=>rfl
 |n::l=>by rw[Gg,XH,aLE l];rfl
theorem a4c:FQ ok w H h (.arr e 1 (List.map Ad l))↔h.size=1/\ny w e 1 h.v l.length (l.map (.int .i64)):=by
 constructor
 ·rintro⟨h1,_,xs,h3,q,u⟩;refine⟨h1,?_⟩;rw[Di]at h3
  have :xs=l.map (.int .i64):=by
   rw[aLE]at q u;rw[Di]at q;refine lJ (by simp[q]) λi hi J=>?_;have j:i<l.length:=AL
   have z:=(u i VI).2;simp only[List.getD,Jr,EM j,JV,NQ,EM hi]at z;cases z with |d _ _ h=>rw[EF.Sv h];simp
  grind
 rintro⟨h1,h3⟩;refine⟨h1,λx I=>?_,l.map (.int .i64),by rw[Di];exact h3,?_⟩
 ·obtain⟨n,_,rfl⟩:=Hl.1 I;rfl
 rw[aLE];refine⟨BU,λi hi=>?_⟩;have j:i<l.length:=Hf
 simp only[List.getD,Jr,EM j,JV,NQ];exact⟨rfl,.d _ _ (.lit _)⟩
variable {j:Bg BD}
def aWB (hs:j.size=1):j= #[j.getD 0 undef]:=by
 refine fU (by simp[hs]) λi h1 h2=>?_;simp at h2;subst h2;simp[Array.getD,hs]
variable {r:AA Int}
def EW.aGb (h:∀(v:BD) (w:BX),ny w e 1 v l.length (l.map (.int .i64))->Calls P f #[v] w λx w'=>x=.returned (.tuple #[])/\ny w' e 1 v r.length (r.map (.int .i64))/\Turns v w w'):
 EW P f [.aQ 0] [.arr e 1 (List.map Ad l)] (.eG []) [.arr e 1 (List.map Ad r)]:=by
 intro ok X H w Z hm hs ha;have h0:=ha 0 Bd;rw[aWB hs];obtain⟨hd,M,O⟩:=Gp hm.ent hm.hlen (k:=0) rfl;obtain hv:=Ph h0 M;rw[hv];obtain⟨hz,U⟩:=a4c.1 O;refine(h hd.v w U).mono ?_;rintro x w' ⟨rfl,I,z⟩;have q:=λb J=>hm.blk 0 _ hd b rfl rfl M J
 have hg:=hm.change (ok':=ok) (H':=H) (w':=w') (es':=[.arr e 1 (List.map Ad r)]) (λc=>E5 hd.v=some c) z.os z.tape z.output z.size z.block (λc hc _=>⟨(q c hc).1,(q c hc).2.2⟩) (λ_ h=>h) (λ_ h=>.inl h) (.refl _) hm.hlen (by
  intro k e' h' j L
  match k,j with
  |0,j=>
   simp at j;subst j;rw[M]at L;obtain rfl:=Dv L;refine .inr ⟨a4c.2 ⟨hz,I⟩,λ_ b J=>⟨(q b J).1,Wn (q b J).2.1 z.size,(q b J).2.2,λk' e'' h'' Y u=>?_⟩⟩
   match k',u with
   |0,_=>exact absurd rfl Y
   |k'+1,u=>simp at u
  |k+1,j=>simp at j)
 exact⟨_,ok,H,rfl,hg.1,.eG [] #[] rfl (λi hi=>TR)⟩
def EW.turned (h:∀(v:BD) (w:BX),ny w e 1 v l.length (l.map (.int .i64))->Calls P f #[v] w λx w'=>∃v',x=.returned v'/\ny w' e 1 v' r.length (r.map (.int .i64))/\Turns v w w'/\∀g,E5 v'=some g->E5 v=some g\/w.heap.size<=g):
 EW P f [.aQ 0] [.arr e 1 (List.map Ad l)] (.aQ 1) [.dead,.arr e 1 (List.map Ad r)]:=by
 intro ok X H w L hm hs ha;have U:=ha 0 Bd;rw[aWB hs];obtain⟨hd,M,I⟩:=Gp hm.ent hm.hlen (k:=0) rfl;obtain Y:=Ph U M;rw[Y];obtain⟨hz,J⟩:=a4c.1 I;refine(h hd.v w J).mono ?_;rintro x w' ⟨v',rfl,j,q,u⟩;have z:=hm.turn (e:=.arr e 1 (List.map Ad r)) (h':=⟨v',1⟩) (w':=w') (k:=0) rfl rfl M q.os q.tape q.output q.size q.block (λg z=>⟨sK j z,u g z⟩) (λ_=>a4c.2 ⟨rfl,j⟩);refine⟨v',ok,H++[⟨v',1⟩],rfl,z.1,?_⟩;have hl:H.length=1:=hm.hlen;have O:(H++[(⟨v',1⟩:CG)])[1]? =some ⟨v',1⟩:=by rw[←hl];simp
 rcases j.2 with⟨rfl,_⟩|⟨g,cap,Z,rfl,_⟩
 ·exact .aQ 1 _ _ _ 1 O
 exact .aQ 1 _ _ _ 1 O
theorem EW.plain {j:Ah}(O:∀ok w H,R ok w H j v)(h:∀w,Calls P f vs.toArray w λx w'=>x=.returned v/\Below w.heap.size w w'):EW P f (vs.map λu=>.d (.lit u)) [] j []:=by
 intro ok X H w q hm hs ha
 have e:q=vs.toArray:=by
  refine fU wC λi h1 h2=>?_;have z:i<vs.length:=LM
  have h3:=ha i iI;simp only[List.getD,Jr,EM z,JV,NQ]at h3;cases h3 with |d _ _ h=>have :=EF.Sv h;simpa[Array.getD,h1]using this
 rw[e];refine(h w).mono ?_;rintro x w' ⟨rfl,I⟩
 have U:=hm.change (ok':=ok) (H':=H) (w':=w') (es':=[]) (λ_=>False) I.os I.tape I.output I.size (λc L _=>I.block c L) (λ_ h=>h.elim) (λ_ h=>h) (λ_ h=>.inl h) (.refl _) hm.hlen (by
  intro k e' h' J M
  simp at J)
 grind
variable {ops:Bg Oper}
theorem Chain.aCe {l O:AA Oper}(h:Chain P ops l σ σ'){H0:AA CG}{Q:Exit->Act->BX->Prop}:
 ∀{ok:Nat->Prop} {H:AA CG} {a:Act} {w:BX},Holds C ok H σ a w->Names H0 H->(∀ok' H' a' w',Holds C ok' H' σ' a' w'->Names H0 H'->wpListIn (JE ro) 0 P ops Q O a' w')->wpListIn (JE ro) 0 P ops Q (l++O) a w:=by
 induction h with
 |nil σ=>
  grind
 | @op o rest σ σ' ns x d U Y J hd k L=>
   intro ok H a w j q M;subst hd;rw[YT];unfold wpListIn;rw[ES (Uh j J)];refine aX ?_ (U.inR ro C ok H a w Q j.mem (λn z=>Zo Y n z▸j.get n.1));rintro a' w' ⟨v,ok',H',rfl,I,u,hm,Z⟩;exact L (j.put o.dst I u hm Z) (q.trans u) M
 | @oe o rest σ σ' ns x es' d E U he Y J hd k L=>
   intro ok H a w j q M;subst hd;subst he;rw[YT];unfold wpListIn;rw[ES (Uh j J)];refine aX ?_ (U.inR ro C ok H a w Q j.mem (λn z=>Zo Y n z▸j.get n.1));rintro a' w' ⟨v,ok',H',rfl,I,u,hm,Z⟩;exact L (j.put o.dst I u hm Z) (q.trans u) M
 | @skip o rest σ σ' d J hd k L=>
   intro ok H a w j q M;subst hd;rw[YT];unfold wpListIn;rw[EZ aIK];exact⟨λ_ _=>trivial,L (j.put o.dst (.refl _ _) (.refl _) j.mem (.d _ _ (.lit _))) q M⟩
 | @any o rest σ σ' x d hs hd k L=>
   intro ok H a w j q M;subst hd;rw[YT];unfold wpListIn;rcases hs.1 with⟨ns,U,Y,_,J⟩|⟨rfl,_,J⟩
   ·rw[ES (Uh j J)];refine aX ?_ (U.inR ro C ok H a w Q j.mem (λn z=>Zo Y n z▸j.get n.1));rintro a' w' ⟨v,ok',H',rfl,I,u,hm,Z⟩;exact L (j.put o.dst I u hm Z) (q.trans u) M
   rw[EZ aIK];exact⟨λ_ _=>trivial,L (j.put o.dst (.refl _ _) (.refl _) j.mem (.d _ _ (.lit _))) q M⟩
 | @aqY o rest σ σ' x E bar d hs hd k L=>
   intro ok H a w j q M;subst hd;rw[YT];unfold wpListIn;rcases hs.1 with⟨ns,U,Y,_,J⟩|⟨rfl,rfl,J⟩
   ·rw[ES (Uh j J)];refine aX ?_ (U.inR ro C ok H a w Q j.mem (λn z=>Zo Y n z▸j.get n.1));rintro a' w' ⟨v,ok',H',rfl,I,u,hm,Z⟩;exact L (j.put o.dst I u hm Z) (q.trans u) M
   rw[EZ aIK];exact⟨λ_ _=>trivial,L (j.put o.dst (.refl _ _) (.refl _) j.mem (.d _ _ (.lit _))) q M⟩
 |conv σ2 hc k L=>
  intro ok H a w j q M;obtain⟨ok',hh'⟩:=hc C ok H a w j;exact L hh' q M
variable {e t':Nat}{es:AA D}{q:Oper}
theorem Bh.aAm {I:BP}{id:Nat}(k:Nat)(j:ops.toList.drop k=[q])(h:Chain P ops (ops.toList.take k) σ I)(M:q.op=.binOp .eql t x (.const (.slice none 0 0)) t')(hd:q.dst=some d)(O:q.guard=none)(U:P.underlying t=some (.slice e))(Y:I.get x=.d (.sl es))(Z:∀b,(es≠[]->b=false)->Q .normal (I.tX (some d) (.d (.lit (.bool b))))):Bh P (.region id ops false) σ Q:=by
 refine⟨λro _ C ok H a w hh=>wpIn_region_list ?_⟩;rw[←ZT k ops.toList,j];refine h.aCe hh (.refl H) λok' H' a' w' h1 _=>?_;have z:=Y▸h1.get x
 obtain⟨b,hb,hr⟩:∃b,(es≠[]->b=false)/\(execOp a'.eval q).run P w'=.ok (.value (.bool b)) w':=by
  cases z with
  |d _ _ z=>
   generalize u:a'.eval x=v at z
   have key:∀(ad:AB Addr) (n c:Nat),v=.slice ad n c->(execOp a'.eval q).run P w'=.ok (.value (.bool ad.isNone)) w':=λad n c J=>by
    have L:(eqGuard .eql t x (.const (.slice none 0 0)) (.slice ad n c) (.slice none 0 0)).run P w'=.ok () w':=by simp[eqGuard]
    have e0:a'.eval (.const (.slice none 0 0))=.slice none 0 0:=rfl;rw[J]at u;simp only[execOp,M,u,e0,Fg,L,Fv,Lib.run_eql_slice_nil w' t e ad n c 0 0 U,Gl]
   cases z with
   |sl0 ad cap=>
    grind
   |sl es b off cap size=>
    grind
 unfold wpListIn;rw[ES (by unfold Region.wanted;rw[O])];unfold Oper.wpIn;rw[jE _ _ _ (by rw[M];intro c h;cases h),hr,Oper.uponIn_value];refine⟨λ_ _=>trivial,?_⟩;unfold wpListIn;exact⟨ok',H',_,by rw[hd];exact h1.put (some d) (.refl _ _) (.refl _) h1.mem (.d _ _ (.lit _)),Z b hb⟩
def jL {u:BP}{id:Nat}{y:Code}(k:Nat)(j:ops.toList.drop k=[q])(h:Chain P ops (ops.toList.take k) σ u)(I:q.op=.binOp .eql t x (.const (.slice none 0 0)) t')(hd:q.dst=some d)(J:q.guard=none)(L:P.underlying t=some (.slice e))(M:u.get x=.d (.sl es))(O:∀b,(es≠[]->b=false)->Bh P y (u.tX (some d) (.d (.lit (.bool b)))) Q):Bh P (.seq (.region id ops false) y) σ Q:=
 Bh.seq (λs=>∃b,(es≠[]->b=false)/\s=u.tX (some d) (.d (.lit (.bool b)))) (Bh.aAm k j h I hd J L M λb z=>⟨b,z,rfl⟩) (by rintro _ ⟨b,z,rfl⟩;exact O b z)
theorem lR {l:AA α}{e:α->D}(h:List.map e l≠[]->true=false):l=[]:=by
 cases l with
 |nil=>
  rfl
 |cons a l=>
  grind
theorem aMN {α:Type}{p:Nat->α->Prop}:∀n,(∀i,i<n->∃x,p i x)->∃l:AA α,l.length=n/\∀i (h:i<l.length),p i l[i]
 |0,_=>⟨[],rfl,λi h=>IV⟩
 |n+1,h=>by
  obtain⟨l,h1,h2⟩:=aMN n (λi hi=>h i AL);obtain⟨x,j⟩:=h n AL;refine⟨l++[x],mD,λi hi=>?_⟩
  grind
def pieces :AA Nat->Nat->AA BD->AA BD
 | [],_,_=>[]
 |n::r,o,cs=>(cs.drop o).take n++pieces r (o+n) cs
def pieces_eq :∀(ns:AA Nat) (o:Nat) (cs:AA BD),cs.length=o+ns.sum->pieces ns o cs=cs.drop o
 | [],o,cs,h=>by simp at h;simp[pieces,h]
 |n::r,o,cs,h=>by
  simp only[a0P]at h;unfold pieces;rw[pieces_eq r (o+n) cs AL,←aDD,ZT]
def E8 (w:BX)(q:AA D)(cs:AA BD):Prop:=cs.length=q.length/\∀j,j<q.length->(q.getD j EJ).leaf=true/\EF (λb=>b<w.heap.size) w (q.getD j EJ) (cs.getD j undef)
def E8.nil (w:BX):E8 w [] []:=⟨rfl,λj h=>IV⟩
variable {cs:AA BD}
theorem E8.append {q:AA D}(h:E8 w q cs)(k:E8 w es us):E8 w (q++es) (cs++us):=by
 refine⟨by simp[h.1,k.1],λj J=>?_⟩;by_cases e:j<q.length
 ·have u:(q++es).getD j EJ=q.getD j EJ:=aIO
  have z:(cs++us).getD j undef=cs.getD j undef:=by simp[List.getD,JR (show j<cs.length by rw[h.1];exact e)]
  rw[u,z];exact h.2 j e
 have I:j-q.length<es.length:=nO
 have u:(q++es).getD j EJ=es.getD (j-q.length) EJ:=by simp[List.getD,P7 (WY e)]
 have z:(cs++us).getD j undef=us.getD (j-q.length) undef:=by
  have h1:=h.1
  grind
 rw[u,z];exact k.2 _ I
variable {x:D}
section
variable {H:Type}{enc:Bq×BD->H}{spare:Nat->AV}{held:AV}{t:Bq}
def aPE (enc:Bq×BD->H)(P:Ch)(w:BX)(base:Nat)(spare:Nat->AV)(held:AV)(t:Bq)(e:α->D)(V:α->Prop):Prop:=
 ∀Am cs x,DataW.trod enc P w base spare held Am t cs=some x->∃a:α,V a/\E8 w (e a).cells cs
theorem E8.one {w:BX}(q:x.cells=[x])(hl:x.leaf=true)(h:EF (λb=>b<w.heap.size) w x v):E8 w x.cells [v]:=by
 rw[q];refine⟨rfl,λj u=>?_⟩
 grind
def aXu {k:IntKind}(j:P.underlying t=some (.int k)):aPE enc P w base spare held t (λn=>D.lit (.int k n)) (λn:Int=>k.min<=n/\n<=k.max):=by
 intro Am cs x h;obtain⟨n,rfl, -,q⟩:=DataW.trod_int j h;exact⟨n,by simpa[Lit.wf]using q,.one rfl rfl (.lit _)⟩
def als (j:P.underlying t=some .bool):aPE enc P w base spare held t Dt (λ_=>True):=by
 intro Am cs x h;obtain⟨n,rfl, -⟩:=DataW.trod_bool j h;exact⟨n,trivial,.one rfl rfl (.lit _)⟩
def UJ {j:Bg Field}{Am:Nat}{x:DataW H×AA MemPlace}(q:P.underlying t=some (.struct j))(h:DataW.trod enc P w base spare held Am t cs=some x)(n:Nat)(u:P.cellsOf t=n):cs.length=n:=by
 obtain⟨xs,k, -, -,hlen, -⟩:=DataW.trod_struct q h;rw[hlen,u]
def Tt {j:AA D}(ns:AA Nat)(hl:cs.length=ns.sum)(h:E8 w j (pieces ns 0 cs)):E8 w j cs:=by
 rw[pieces_eq ns 0 cs AL]at h;simpa using h
end
def aYJ {j:AA D}{cs:Bg BD}(q:x=.agg j)(h:E8 w x.cells (Value.agg cs).cells.toList):EF (λb=>b<w.heap.size) w x (.agg cs):=by
 subst q;have h':E8 w j cs.toList:=h
 exact .agg j cs (by simpa using h'.1) (λi hi=>(h'.2 i hi).1) λi hi=>by
  have :=(h'.2 i hi).2;simpa[JJ,List.getD]using this
def aVM (j:x.cells=[x])(q:v.cells= #[v])(h:E8 w x.cells v.cells.toList):EF (λb=>b<w.heap.size) w x v:=by
 rw[j,q]at h;exact(h.2 0 BU).2
def EW.start (h:EW P f (xs.map .d) [] (.d x) [])(hs:j.size=xs.length)(ha:∀i,i<xs.length->EF (λb=>b<W.heap.size) W (xs.getD i EJ) (j.getD i undef)):
 Calls P f j W λe W'=>∃v ok,e=.returned v/\EF ok W' x v/\Below W.heap.size W W':=by
 refine(h (λb=>b<W.heap.size) [] [] W j ⟨.refl _ _,λ_ h=>h,λ_ h=>.inl h,λ_ h=>h,.refl _,rfl,λk e h q=>by simp at q,λk e h b q=>by simp at q,λk k' e e' h h' b q=>by simp at q⟩ wC (λi hi=>?_)).mono ?_
 ·have u:i<xs.length:=Hf
  have :(xs.map Ah.d).getD i .junk=.d (xs.getD i EJ):=aLC
  rw[this];exact .d _ _ (ha i u)
 rintro e W' ⟨v,ok',H',rfl,hm,z⟩;cases z with
 |d _ _ z=>exact⟨v,ok',rfl,z,hm.fr.below⟩
def EW.law (h:EW P f (xs.map .d) [] (.d (Dt true)) [])(hs:j.size=xs.length)(ha:∀i,i<xs.length->EF (λb=>b<W.heap.size) W (xs.getD i EJ) (j.getD i undef)):
 Calls P f j W λe W'=>e=.returned (.bool true)/\Below W.heap.size W W':=by
 refine(h.start hs ha).mono ?_;rintro e W' ⟨v,ok,rfl,q,u⟩;exact⟨by rw[EF.Sv q],u⟩
def ET (l:AA Int)(x:Int):AV:=l.contains x
variable {x:Int}
def Lm:ET l x=true↔x∈l:=by unfold ET;simp
def PW:ET l x=false↔x∉l:=by unfold ET;simp
def put (l:AA Int)(x:Int):AA Int:=if ET l x then l else l.takeWhile (decide<| · <x)++x::l.dropWhile (decide<| · <x)
def F7 (l:AA Int):AA Int:=l.foldl put []
def Hr (a b:AA Int):AA Int:=b.foldl put (F7 a)
def PX (a b:AA Int):AA Int:=(F7 a).filter (λx=> !ET b x)
abbrev Inc (l:AA Int):Prop:=l.Pairwise (· < ·)
def aZ7:∀y∈l.takeWhile (decide<| · <x),y<x:=by
 intro y j;have :=List.all_takeWhile (l:=l) (p:=(decide<| · <x));rw[Fq]at this;simpa using this y j
def aSl :∀{l:AA Int} {x:Int},Inc l->∀y∈l.dropWhile (decide<| · <x),x<=y
 | [],x,_,y,j=>a0f
 |a::l,x,h,y,j=>by
  have h':=QI.1 h;by_cases ha:a<x
  ·rw[aQ9 (by simpa using ha)]at j;exact aSl h'.2 y j
  rw[aR9 (by simpa using ha)]at j;rcases FI.1 j with rfl|j
  ·omega
  have :=h'.1 y j;omega
variable {y:Int}
def XY:y∈put l x↔y∈l\/y=x:=by
 unfold put;split
 ·rename_i h;have j:x∈l:=Lm.1 h;constructor
  ·exact .inl
  rintro(h|rfl)
  ·exact h
  exact j
 have e:l.takeWhile (decide<| · <x)++l.dropWhile (decide<| · <x)=l:=Fn0
 have :y∈l↔y∈l.takeWhile (decide<| · <x)\/y∈l.dropWhile (decide<| · <x):=by
  conv=>lhs;rw[←e]
  exact Je
 rw[this,Je,FI];constructor
 ·rintro(h|h|h)
  ·exact .inl (.inl h)
  ·exact .inr h
  exact .inl (.inr h)
 rintro((h|h)|h)
 ·exact .inl h
 ·exact .inr (.inr h)
 exact .inr (.inl h)
def Pn (h:Inc l):Inc (put l x):=by
 unfold put;split
 ·exact h
 rename_i z;have j:x∉l:=λh=>z (Lm.2 h)
 have hd:∀y∈l.dropWhile (decide<| · <x),x<y:=by
  intro y u;have h1:=aSl h y u;have h2:y∈l:=(aGc _).mem u;have :y≠x:=λe=>j (e▸h2);omega
 refine a5h.2 ⟨h.sublist (List.takeWhile_sublist _),QI.2 ⟨hd,h.sublist (aGc _)⟩,?_⟩;intro a ha b q;have h1:=aZ7 a ha;rcases FI.1 q with rfl|q
 ·exact h1
 have :=hd b q;omega
def aIV:∀{j:AA Int} {y:Int},y∈l.foldl put j↔y∈j\/y∈l:=by
 induction l with
 |nil=>intro j y;simp
 |cons a l q=>intro j y;rw[Gu,q,XY,FI,or_assoc]
def lq:∀{j:AA Int},Inc j->Inc (l.foldl put j):=by
 induction l with
 |nil=>intro j h;exact h
 |cons a l q=>intro j h;exact q (Pn h)
def MP:y∈F7 l↔y∈l:=by unfold F7;rw[aIV];simp
def Ll (l:AA Int):Inc (F7 l):=lq List.Pairwise.nil
def Du :∀{a b:AA Int},Inc a->Inc b->(∀x,x∈a↔x∈b)->a=b
 | [],[],_,_,_=>rfl
 | [],b::bs,_,_,h=>by have :=(h b).2 BU;simp at this
 |a::aQP,[],_,_,h=>by have :=(h a).1 BU;simp at this
 |a::aQP,b::bs,ha,z,h=>by
  have j:=QI.1 ha;have q:=QI.1 z
  have e:a=b:=by
   rcases FI.1 ((h a).1 BU)with h1|h1
   ·exact h1
   rcases FI.1 ((h b).2 BU)with h2|h2
   ·exact h2.symm
   have :=j.1 b h2;have :=q.1 a h1;omega
  subst e;congr 1;refine Du j.2 q.2 λx=>?_;have u:=h x;rw[FI,FI]at u;constructor
  ·intro h1;rcases u.1 (.inr h1)with rfl|h2
   ·exact absurd (j.1 x h1) AL
   exact h2
  intro h1;rcases u.2 (.inr h1)with rfl|h2
  ·exact absurd (q.1 x h1) AL
  exact h2
def ab5 (h:Inc l):F7 l=l:=Du (Ll l) h λ_=>MP
def rO (a b:AA Int):Hr a b=F7 (a++b):=by unfold Hr F7;rw[Qk]
variable {a:AA Int}
def gI {b:AA Int}:x∈Hr a b↔x∈a\/x∈b:=by rw[rO,MP,Je]
def xk (a b:AA Int):Inc (Hr a b):=by rw[rO];exact Ll _
def aM8 {b:AA Int}:x∈PX a b↔x∈a/\x∉b:=by unfold PX;rw[Ji,MP];simp[ET]
def aDy (a b:AA Int):Inc (PX a b):=(Ll a).sublist Uj
def ag6 (EO:AA Int):∀m,m<=EO.length->∀x,x∈Lib.compactUpTo EO.toArray m↔x∈EO.take m:=by
 intro m
 induction m with
 |zero=>intro _ x;simp[Lib.compactUpTo]
 |succ m u=>
  intro hm x;rw[Lib.compactUpTo_succ,Je,u AL,NU AL,Je];have z:EO.toArray[m]! =EO[m]' AL:=by simp[show m<EO.length by omega]
  by_cases q:Lib.keeps EO.toArray m=true
  ·rw[ES q,z]
  rw[EZ q];have j:Lib.keeps EO.toArray m=false:=Zk
  have I:m≠0:=by intro e;subst e;simp[Lib.keeps]at j
  have J:EO[m]' AL=EO[m-1]' AL:=by
   simp[Lib.keeps,I]at j;simpa[show m<EO.length by omega,show m-1<EO.length by omega]using j
  constructor
  ·intro h;rcases h with h|h
   ·exact .inl h
   simp at h
  rintro(h|h)
  ·exact .inl h
  refine .inl ?_;simp at h;subst h;rw[J];rw[List.mem_take_iff_getElem];exact⟨m-1,AL,rfl⟩
def aYo (EO:AA Int)(hs:EO.Pairwise (· <= ·)):∀m,m<=EO.length->Inc (Lib.compactUpTo EO.toArray m)/\∀x∈Lib.compactUpTo EO.toArray m,∃i,∃_:i<m,∃h2:i<EO.length,x=EO[i]:=by
 intro m
 induction m with
 |zero=>intro _;refine⟨by simp[Lib.compactUpTo],λx q=>by simp[Lib.compactUpTo]at q⟩
 |succ m L=>
  intro hm;obtain⟨h1,h2⟩:=L AL;have M:EO.toArray[m]! =EO[m]' AL:=by simp[show m<EO.length by omega]
  rw[Lib.compactUpTo_succ];by_cases u:Lib.keeps EO.toArray m=true
  ·rw[ES u,M];refine⟨a5h.2 ⟨h1,BU,?_⟩,?_⟩
   ·intro a ha b J;simp at J;subst J;obtain⟨i,hi,O,rfl⟩:=h2 a ha
    have z:∀j,(U:j<m)->EO[j]' AL<=EO[m-1]' AL:=by
     intro j U;by_cases e:j=m-1
     ·subst e;omega
     exact KJ.1 hs j (m-1) AL AL AL
    have h3:=z i hi;have Y:=KJ.1 hs (m-1) m AL AL AL
    have Z:EO[m]' AL≠EO[m-1]' AL:=by
     have I:m≠0:=AL
     simp[Lib.keeps,I]at u;simpa[show m<EO.length by omega,show m-1<EO.length by omega]using u
    omega
   intro x q;rcases Je.1 q with q|q
   ·obtain⟨i,a,b,c⟩:=h2 x q;exact⟨i,AL,b,c⟩
   simp at q;exact⟨m,AL,AL,q⟩
  rw[EZ u,Rs];refine⟨h1,λx q=>?_⟩;obtain⟨i,a,b,c⟩:=h2 x q;exact⟨i,AL,b,c⟩
def aCb (l:AA Int):Lib.compact (l.mergeSort λx y=>x<=y)=F7 l:=by
 have hs:(l.mergeSort λx y=>x<=y).Pairwise (· <= ·):=by
  have :=List.pairwise_mergeSort (le:=λx y:Int=>x<=y) (by intro a b c;simp;omega) (by intro a b;simp;omega) l;exact this.imp (by intro a b h;simpa using h)
 refine Du (aYo _ hs _ (Ec _)).1 (Ll l) λx=>?_;rw[MP];unfold Lib.compact;rw[ag6 _ _ (Ec _),Gn];exact List.mem_mergeSort
def dW {R:Type}(o:AB R)(Q:R->Prop):Prop:=∃r,o=some r/\Q r
section
variable {R:Type}{Q:R->Prop}
def dW.ret {r:R}(h:Q r):dW (some r) Q:=⟨r,rfl,h⟩
def dW.bind {o:AB A}{f:A->AB R}{P:A->Prop}(h:dW o P)(k:∀x,P x->dW (f x) Q):dW (o.bind f) Q:=by
 obtain⟨x,rfl,j⟩:=h;exact k x j
def dW.mono {o:AB R}{P:R->Prop}(h:dW o P)(k:∀r,P r->Q r):dW o Q:=by
 obtain⟨x,rfl,j⟩:=h;exact⟨x,rfl,k x j⟩
theorem dW.bif {x y:AB R}(h1:b=true->dW x Q)(h2:b=false->dW y Q):dW (cond b x y) Q:=by
 grind
def dW.eq {o:AB R}{r:R}(h:dW o (· =r)):o=some r:=by obtain⟨x,rfl,rfl⟩:=h;rfl
def dW.of {o:AB R}{r:R}(h:o=some r):dW o (· =r):=⟨r,h,rfl⟩
def aC8 (l:AA α)(i:Nat):Aj l (i:Int)=l[i]? :=by unfold Aj;rw[ES (aEE i)];simp
def CM {l:AA α}(h:i<l.length):Aj l (i:Int)=some l[i]:=by rw[aC8];simp[h]
def Dp {b:Nat}{l m:AA α}(h:(l.length+m.length)*b<=140737488355328):DC b l m=some (l++m):=by unfold DC;rw[ES h]
def iy {l:AA α}{lo hi:Nat}(h1:lo<=hi)(h2:hi<=l.length):Hq l (lo:Int) (hi:Int)=some ((l.drop lo).take (hi-lo)):=by
 unfold Hq;rw[ES ⟨AL,AL,AL⟩];simp
def wrap_succ (i:Nat)(h:i<9223372036854775807):Az ((i:Int)+1)=((i+1:Nat):Int):=by
 rw[ZX];omega
def P5 (h1: -9223372036854775808<=x)(h2:x<=9223372036854775807):Az x=x:=by
 rw[ZX];omega
def aMa {body:(A->AB R)->A->AB R}(I:Nat->A->Prop)(hs:∀m a k,I m a->(∀j a',j<m->I j a'->dW (k a') Q)->dW (body k a) Q):
 ∀n m a,m<n->I m a->dW (bf body n a) Q
 |0,m,a,h,_=>AL
 |n+1,m,a,h,hi=>hs m a _ hi λj a' h' q=>aMa I hs n j a' AL q
def ZJ {body:(A->B->AB R)->A->B->AB R}(I:Nat->A->B->Prop)(hs:∀m a b k,I m a b->(∀j a' q,j<m->I j a' q->dW (k a' q) Q)->dW (body k a b) Q):
 ∀n m a b,m<n->I m a b->dW (aP body n a b) Q
 |0,m,a,b,h,_=>AL
 |n+1,m,a,b,h,hi=>hs m a b _ hi λj a' q h' u=>ZJ I hs n j a' q AL u
theorem rJ {body:(Int->AB R)->Int->AB R}(N:Nat)(j:N<Am)(I:Nat->Prop)(q:I 0)(hs:∀i k,i<N->I i->(I (i+1)->dW (k ((i+1:Nat):Int)) Q)->dW (body k (i:Int)) Q)(z:∀k,I N->dW (body k (N:Int)) Q):dW (bf body Am 0) Q:=by
 refine aMa (body:=body) (Q:=Q) (λm a=>∃i:Nat,a=i/\i+m=N/\I i) ?_ Am N 0 j ⟨0,rfl,AL,q⟩;rintro m a k ⟨i,rfl,hm,hi⟩ u;by_cases e:i<N
 ·exact hs i k e hi λh=>u (m-1) _ AL ⟨i+1,rfl,AL,h⟩
 have :i=N:=AL
 grind
theorem Jd {body:(A->Int->AB R)->A->Int->AB R}(N:Nat)(j:N<Am)(I:Nat->A->Prop){a0:A}(q:I 0 a0)(hs:∀i a k,i<N->I i a->(∀a',I (i+1) a'->dW (k a' ((i+1:Nat):Int)) Q)->dW (body k a (i:Int)) Q)(z:∀a k,I N a->dW (body k a (N:Int)) Q):dW (aP body Am a0 0) Q:=by
 refine ZJ (body:=body) (Q:=Q) (λm a b=>∃i:Nat,b=i/\i+m=N/\I i a) ?_ Am N a0 0 j ⟨0,rfl,AL,q⟩;rintro m a b k ⟨i,rfl,hm,hi⟩ u;by_cases e:i<N
 ·exact hs i a k e hi λa' h=>u (m-1) _ _ AL ⟨i+1,rfl,AL,h⟩
 have :i=N:=AL
 grind
end
end Go.Proofs.YtfmoknlmaldmlaaGreat
namespace Go.Proofs
open Go.Proofs.YtfmoknlmaldmlaaGreat
open Go.Shelf
def Tryz.ax3:Go.Shelf.Ren:=⟨λ|137=>203|217=>273|266=>341|n=>n,λ|9=>9|5=>5|3=>3|n=>n,λ|n=>n⟩
noncomputable abbrev Ak:=Tryz.prog
def Tryz.lays137:Go.Proofs.Lays.n137 Ak Tryz.ax3:={
 mixed:=A8
 f137:=Tryz.func203.trans (Au some A8)
 f217:=Tryz.func273.trans (Au some A8)
 f266:=Tryz.func341.trans (Au some A8)
 t3:=Ho
 a3:=a0U
 z3:=a0c
 v3:=wQ
 t5:=a5Y
 a5:=Tryz.isAgg5
 z5:=Tryz.sizeOf5
 v5:=a2B
 t9:=MN
 a9:=Tryz.isAgg9
 z9:=Tryz.sizeOf9
 v9:=a2g }
open Go.RowKit in
def Tryz.strings_IndexByte (s:BL)(c:Int)(w:BX):
 Calls Ak 203 #[.string s,.int .u8 c] w λe w'=>e=.returned (.int .i64 (Lib.indexByte s.data.toList c.toNat.toUInt8))/\w'=w:=Any.strings_IndexByte Tryz.lays137 s c w
def Tryz.ax4:Go.Shelf.Ren:=⟨λ|219=>342|217=>273|225=>412|224=>413|267=>414|266=>341|314=>443|n=>n,λ|9=>9|3=>3|4=>4|5=>5|46=>203|146=>370|51=>306|n=>n,λ|1=>0|n=>n⟩
def Tryz.lays219:Go.Proofs.Lays.n219 Ak Tryz.ax4:={
 mixed:=A8
 f217:=Tryz.func273.trans (Au some A8)
 f219:=Tryz.func342.trans (Au some A8)
 f224:=Tryz.func413.trans (Au some A8)
 f225:=Tryz.func412.trans (Au some A8)
 f266:=Tryz.func341.trans (Au some A8)
 f267:=Tryz.func414.trans (Au some A8)
 f314:=Tryz.func443.trans (Au some A8)
 t3:=Ho
 a3:=a0U
 z3:=a0c
 v3:=wQ
 t4:=Zt
 a4:=Tryz.isAgg4
 z4:=Tryz.sizeOf4
 v4:=a5X
 t5:=a5Y
 a5:=Tryz.isAgg5
 z5:=Tryz.sizeOf5
 v5:=a2B
 t9:=MN
 a9:=Tryz.isAgg9
 z9:=Tryz.sizeOf9
 v9:=a2g
 t46:=Tryz.underlying203
 a46:=Tryz.isAgg203
 z46:=Tryz.sizeOf203
 v46:=Tryz.zeroValue203
 t51:=Tryz.underlying306
 a51:=Tryz.isAgg306
 z51:=Tryz.sizeOf306
 v51:=Tryz.zeroValue306
 t146:=Tryz.underlying370
 a146:=Tryz.isAgg370
 z146:=Tryz.sizeOf370
 v146:=Tryz.zeroValue370
 g1:=by kernel_rfl }
open Go.RowKit Go.Lib in
def Tryz.stringslite_Index_one (s:BL)(c:UInt8)(w:BX):
 Calls Ak 342 #[.string s,.string ⟨#[c]⟩] w λe w'=>e=.returned (.int .i64 (Lib.indexByte s.data.toList c))/\w'=w:=Any.stringslite_Index_one Tryz.lays219 s c w
def Tryz.ax5:Go.Shelf.Ren:=⟨λ|189=>197|125=>267|257=>266|128=>339|129=>340|294=>331|295=>332|296=>333|297=>334|298=>335|299=>336|216=>199|300=>337|301=>338|328=>407|329=>408|330=>409|331=>410|332=>411|215=>268|343=>442|n=>n,λ|28=>27|3=>3|46=>203|0=>0|51=>306|53=>202|4=>4|183=>300|182=>299|131=>150|5=>5|9=>9|218=>350|222=>354|228=>367|229=>368|n=>n,λ|n=>n⟩
def Tryz.lays189:Go.Proofs.Lays.n189 Ak Tryz.ax5:={
 mixed:=A8
 f125:=Tryz.func267.trans (Au some A8)
 f128:=Tryz.func339.trans (Au some A8)
 f129:=Tryz.func340.trans (Au some A8)
 f189:=Tryz.func197.trans (Au some A8)
 f215:=Tryz.func268.trans (Au some A8)
 f216:=Tryz.func199.trans (Au some A8)
 f257:=Tryz.func266.trans (Au some A8)
 f294:=Tryz.func331.trans (Au some A8)
 f295:=Tryz.func332.trans (Au some A8)
 f296:=Tryz.func333.trans (Au some A8)
 f297:=Tryz.func334.trans (Au some A8)
 f298:=Tryz.func335.trans (Au some A8)
 f299:=Tryz.func336.trans (Au some A8)
 f300:=Tryz.func337.trans (Au some A8)
 f301:=Tryz.func338.trans (Au some A8)
 f328:=Tryz.func407.trans (Au some A8)
 f329:=Tryz.func408.trans (Au some A8)
 f330:=Tryz.func409.trans (Au some A8)
 f331:=Tryz.func410.trans (Au some A8)
 f332:=Tryz.func411.trans (Au some A8)
 f343:=Tryz.func442.trans (Au some A8)
 t0:=Tryz.underlying0
 a0:=Tryz.isAgg0
 z0:=Tryz.sizeOf0
 v0:=Tryz.zeroValue0
 t3:=Ho
 a3:=a0U
 z3:=a0c
 v3:=wQ
 t4:=Zt
 a4:=Tryz.isAgg4
 z4:=Tryz.sizeOf4
 v4:=a5X
 t5:=a5Y
 a5:=Tryz.isAgg5
 z5:=Tryz.sizeOf5
 v5:=a2B
 t9:=MN
 a9:=Tryz.isAgg9
 z9:=Tryz.sizeOf9
 v9:=a2g
 t28:=rF
 a28:=Tryz.isAgg27
 z28:=Tryz.sizeOf27
 v28:=Tryz.zeroValue27
 t46:=Tryz.underlying203
 a46:=Tryz.isAgg203
 z46:=Tryz.sizeOf203
 v46:=Tryz.zeroValue203
 t51:=Tryz.underlying306
 a51:=Tryz.isAgg306
 z51:=Tryz.sizeOf306
 v51:=Tryz.zeroValue306
 t53:=Tryz.underlying202
 a53:=Tryz.isAgg202
 z53:=Tryz.sizeOf202
 v53:=Tryz.zeroValue202
 t131:=Tryz.underlying150
 a131:=Tryz.isAgg150
 z131:=Tryz.sizeOf150
 v131:=Tryz.zeroValue150
 t182:=Tryz.underlying299
 a182:=Tryz.isAgg299
 z182:=Tryz.sizeOf299
 v182:=Tryz.zeroValue299
 t183:=Tryz.underlying300
 a183:=Tryz.isAgg300
 z183:=Tryz.sizeOf300
 v183:=Tryz.zeroValue300
 t218:=Tryz.underlying350
 a218:=Tryz.isAgg350
 z218:=Tryz.sizeOf350
 v218:=Tryz.zeroValue350
 t222:=Tryz.underlying354
 a222:=Tryz.isAgg354
 z222:=Tryz.sizeOf354
 v222:=Tryz.zeroValue354
 t228:=Tryz.underlying367
 a228:=Tryz.isAgg367
 z228:=Tryz.sizeOf367
 v228:=Tryz.zeroValue367
 t229:=Tryz.underlying368
 a229:=Tryz.isAgg368
 z229:=Tryz.sizeOf368
 v229:=Tryz.zeroValue368 }
open Go.Sort Go.RowKit in
def Tryz.slices_Sort_int (blk off cap:Nat)(EO:AA Int)(w:BX)(hH:Holds D6 w blk off EO.toArray)(hblk:blk<w.heap.size)(hsz:EO.length<4611686018427387904):
 Calls Ak 197 #[.slice (some ⟨blk,off,none⟩) EO.length cap] w λe w'=>
  e=.returned (.tuple #[])/\∃n os,w'=grow (putRow D6 (Sort.ahead w n) blk off (EO.mergeSort λx y=>x<=y).toArray) os:=Any.slices_Sort_int Tryz.lays189 blk off cap EO w hH hblk hsz
def Tryz.atu:Go.Shelf.Ren:=⟨λ|20=>198|n=>n,λ|22=>27|3=>3|4=>4|0=>0|n=>n,λ|n=>n⟩
def Tryz.asz:Go.Proofs.Lays2.n20 Ak Tryz.atu:={
 mixed:=A8
 f20:=Tryz.func198.trans (Au some A8)
 t0:=Tryz.underlying0
 a0:=Tryz.isAgg0
 z0:=Tryz.sizeOf0
 v0:=Tryz.zeroValue0
 t3:=Ho
 a3:=a0U
 z3:=a0c
 v3:=wQ
 t4:=Zt
 a4:=Tryz.isAgg4
 z4:=Tryz.sizeOf4
 v4:=a5X
 t22:=rF
 a22:=Tryz.isAgg27
 z22:=Tryz.sizeOf27
 v22:=Tryz.zeroValue27
 i3:=by kernel_rfl }
open Go.RowKit Go.Lib Go.Sort in
def Tryz.slices_Compact_int (blk off cap:Nat)(EO:AA Int)(w:BX)(hH:Holds D6 w blk off EO.toArray)(hsz:EO.length<=9223372036854775807)(hcap:EO.length<=cap):
 Calls Ak 198 #[.slice (some ⟨blk,off,none⟩) EO.length cap] w λe w'=>e=.returned (.slice (some ⟨blk,off,none⟩) (Lib.compact EO).length cap)/\∃q,w'=putRow D6 (Sort.ahead w q) blk off (Lib.compact EO++List.replicate (EO.length-(Lib.compact EO).length) 0).toArray:=Any.slices_Compact_int Tryz.asz blk off cap EO w hH hsz hcap
open Go.RowKit Go.Lib Go.Sort in
def Tryz.slices_Compact_int_empty (a:AB Addr)(cap:Nat)(w:BX):
 Calls Ak 198 #[.slice a 0 cap] w λe w'=>e=.returned (.slice a 0 cap)/\w'=w:=Any.slices_Compact_int_empty Tryz.asz a cap w
open Go.RowKit Go.Sort in
def Tryz.slices_Sort_int_none (p:AB Addr)(cap:Nat)(w:BX):
 Calls Ak 197 #[.slice p 0 cap] w λe w'=>e=.returned (.tuple #[])/\w'=w:=Any.slices_Sort_int_none Tryz.lays189 p cap w
end Go.Proofs