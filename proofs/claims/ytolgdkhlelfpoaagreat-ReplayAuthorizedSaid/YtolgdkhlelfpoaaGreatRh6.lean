/- Part 6 of what the laws' proofs lean on: states of the walk, typed functions of the program and their laws (short forms written by wip/shrink.py; no condition). -/
import Derived.Test.YtolgdkhlelfpoaaGreatRh5
set_option linter.defProp false
set_option linter.unnecessarySimpa false
set_option linter.unusedVariables false
set_option linter.unusedSimpArgs false
section
namespace Go.Proofs.YtolgdkhlelfpoaaGreat
open Go.RowKit
def PS {α:Type} {l:List α} (h:((l.length:Int)==0)=true):l=[]:=Fj (by have :=eq_of_beq h;omega)
def KI (l:CP):Bool:=((l.Users.length:Int)==0)&&((l.Kinds.length:Int)==0)&&(l.User==0)&&(l.Message==0)&&(l.State==0)&&(l.fP==0)&&(l.jU==0)&&(l.nH==0)&&(l.gZ==0)
def bare_eq (l:CP):tK l=some (KI l):=by
 unfold tK KI;simp only[J6,Aa,Ur]
def ac9 (l:CP):bQ l Jv=some (KI l):=by
 unfold bQ KI;show(bif ((l.Users.length:Int) != 0)then some true else some ((l.Kinds.length:Int) != 0)).bind _=_;simp only[bne];cases m:((l.Users.length:Int)==0)with
 |false=>rfl
 |true=>
  cases n:((l.Kinds.length:Int)==0)with
  |false=>rfl
  |true=>
   have f:=PS m;have j:=PS n
   have q:Zx l Jv 0=some ((l.User==0)&&(l.Message==0)&&(l.State==0)&&(l.fP==0)&&(l.jU==0)&&(l.nH==0)&&(l.gZ==0)):=by
    unfold Zx;refine aBO l.Kinds (by rw[j];simp) _ (fun k i h=>by rw[j]at h;simp at h) (fun k=>?_);simp only[Src,EG,BK,J6,Aa,Ur];rfl
   have s:aAI l Jv 0=some ((l.User==0)&&(l.Message==0)&&(l.State==0)&&(l.fP==0)&&(l.jU==0)&&(l.nH==0)&&(l.gZ==0)):=by
    unfold aAI;refine aBO l.Users (by rw[f];simp) _ (fun k i h=>by rw[f]at h;simp at h) (fun k=>?_);simp only[yF,EG,BK];exact q
   simp only[EF,BK,Aa,s,FC]
def ag1 (l:CP):aDy l=some (KI l):=by
 unfold aDy;rw[ac9];rfl
def ajM (l:List ByteArray):Uu l []=some ((l.length:Int)==0):=by
 cases h:((l.length:Int)==0)with
 |true=>rw[PS h];exact ah8 (l:=[]) BG
 |false=>
  unfold Uu;show(bif ((l.length:Int) != 0)then some false else _)=_;simp only[bne,h,Jg,Ba]
def ZN (a0 f h j m n q s:Bool):Bool:=a0&&f&&h&&j&&m&&n&&q&&s
def aIy (c:Bf):YD c EH=some (ZN (c.Text.toList==BL.toList) (c.N==0) (c.Target==0) (!c.Thread) (c.Via.toList==BL.toList) ((c.Allow.length:Int)==0) ((c.iq.length:Int)==0) (KI c.Levels)):=by
 unfold YD ZN;show(bif c.Text.toList==BL.toList then some (c.N==0)else some false).bind _=_;simp only[show EH.Allow=[]from rfl,show EH.iq=[]from rfl,show EH.Levels=Jv from rfl,show EH.Target=0 from rfl,show EH.Thread=false from rfl,show EH.Via=BL from rfl,ajM,ac9,J6,Aa,Ur];congr 1;cases c.Thread<;>simp
def uh (a0 f h j m n q s:Bool):Int:=
 let v:=bif !a0 then Dc .or .i64 0 1 else 0
 let v:=bif !f then Dc .or .i64 v 2 else v
 let v:=bif !h then Dc .or .i64 v 4 else v
 let v:=bif !j then Dc .or .i64 v 8 else v
 let v:=bif !m then Dc .or .i64 v 16 else v
 let v:=bif !n then Dc .or .i64 v 32 else v
 let v:=bif !q then Dc .or .i64 v 64 else v
 bif !s then Dc .or .i64 v 128 else v
def pos_eq {α:Type} (l:List α):decide ((l.length:Int)>0)= !((l.length:Int)==0):=by
 cases h:((l.length:Int)==0)with
 |true=>have :=eq_of_beq h;rw[EF,VG];omega
 |false=>have :=ne_of_beq_false h;rw[Jg,FI];omega
def aqR (c:Bf):lQ c=some (uh (c.Text.toList==BL.toList) (c.N==0) (c.Target==0) (!c.Thread) (c.Via.toList==BL.toList) ((c.Allow.length:Int)==0) ((c.iq.length:Int)==0) (KI c.Levels)):=by
 unfold lQ rY pK yU yN aA1 zk zQ uf uh;rw[bare_eq,pos_eq,pos_eq];simp only[Aa,bne,Bool.not_not];generalize(c.Text.toList==BL.toList)=f;generalize(c.N==0)=h;generalize(c.Target==0)=j;generalize c.Thread=m;generalize(c.Via.toList==BL.toList)=n;generalize((c.Allow.length:Int)==0)=q;generalize((c.iq.length:Int)==0)=s;generalize KI c.Levels=u;cases f<;>cases h<;>cases j<;>cases m<;>cases n<;>cases q<;>cases s<;>cases u<;>rfl
def ahQ :∀a0 f h j m n q s:Bool,(uh a0 f h j m n q s==0)=ZN a0 f h j m n q s:=JV
def Ii (f h j m n q s u a0 z I J L M O S:Bool):Bool:=(a0||f)&&(z||h)&&(I||j)&&(J||m)&&(L||n)&&(M||q)&&(O||s)&&(S||u)
def ael {K:Int} {c:Bf} {f h j m n q s u:Bool} (z:BZ K Ht=some f) (I:BZ K II=some h) (J:BZ K He=some j) (L:BZ K JK=some m) (M:BZ K Jf=some n) (O:BZ K Iy=some q) (S:BZ K JZ=some s) (U:BZ K JG=some u):Zv K c=some (Ii f h j m n q s u (c.Text.toList==BL.toList) (c.N==0) (c.Target==0) (!c.Thread) (c.Via.toList==BL.toList) ((c.Allow.length:Int)==0) ((c.iq.length:Int)==0) (KI c.Levels)):=by
 unfold Zv Ii;simp only[z,I,J,L,M,O,S,U,ag1,J6,Aa,dV,Ur]
def F9 (x r:Option Int):Option Int:=x.bind fun v=>bif v != 0 then some v else r
def DW {x r:Option Int} (h:x=some 0):F9 x r=r:=by rw[h];rfl
def JJ {x y r s:Option Int} (h:Bh x y) (k:Bh r s):Bh (F9 x r) (F9 y s):=Bh.bind h fun _=>Bh.bif (fun _=>.ret _) fun _=>k
def qO (x:Option Int):F9 x (some 0)=x:=by
 cases x with
 |none=>rfl
 |some v=>
  show(bif v != 0 then some v else some 0)=some v;by_cases h:v=0
  ·subst h;rfl
  rw[show(v != 0)=true from by simpa using h];rfl
def zJ {A:Type} (x:Option A):(x.bind fun v=>some v)=x:=by cases x<;>rfl
def Jl (K:Int) (c:Bf):Option Int:=F9 (X5 K c) (F9 (KW K c.N) (F9 (Um K c) (F9 (XB c) (bif K==4 then YZ c else F9 (Pv c.Allow) (F9 (Pv c.iq) (Wv c.Levels))))))
def frame {K M kp:Int} {br:Bool} {c:Bf} {h j m n q s u z:Bool} (S:YS K=some M) (U:(decide (K≥1)&&decide (K≤14))=true) (I:bG K=some kp) (Y:aDp K=some br) (Z:BZ K Ht=some h) (h1:BZ K II=some j) (h2:BZ K He=some m) (h3:BZ K JK=some n) (h4:BZ K Jf=some q) (h5:BZ K Iy=some s) (h6:BZ K JZ=some u) (h7:BZ K JG=some z)
 (hM:∀a0 a1 a2 a3 a4 a5 a6 a7:Bool,(Dc .andNot .i64 (uh a0 a1 a2 a3 a4 a5 a6 a7) M != 0)= !Ii h j m n q s u z a0 a1 a2 a3 a4 a5 a6 a7) (J:(br=true→kp=0)) (hA:kp=0→br=false→J9 M K 0 c=some 0)
 (f:Ii h j m n q s u z (c.Text.toList==BL.toList) (c.N==0) (c.Target==0) (!c.Thread) (c.Via.toList==BL.toList) ((c.Allow.length:Int)==0) ((c.iq.length:Int)==0) (KI c.Levels)=true→Bh (J9 M K 0 c) (Jl K c)):Bh (IZ K c) (Gw K c):=by
 have ht:Gw K c=(fA K).bind fun x1=>(bif (!x1)then some true else(Zv K c).bind fun x4=>some (!x4)).bind fun x2=>(bif x2 then some 1 else(aDp K).bind fun x6=>(bif x6 then(YD c EH).bind fun x9=>some x9 else some false).bind fun x7=>(bif x7 then some 0 else Jl K c)):=by
  unfold Gw Jl F9;simp only[zJ]
 rw[ht];unfold IZ;obtain⟨O,k2⟩:=xR K;rw[U]at O k2;rw[S,O,k2,aqR,I,Y,ael Z h1 h2 h3 h4 h5 h6 h7,aIy];simp only[Aa,EF,BK,hM,ahQ];cases ho:Ii h j m n q s u z (c.Text.toList==BL.toList) (c.N==0) (c.Target==0) (!c.Thread) (c.Via.toList==BL.toList) ((c.Allow.length:Int)==0) ((c.iq.length:Int)==0) (KI c.Levels)with
 |false=>exact .ret _
 |true=>
  simp only[EF,BK];have f:=f ho;cases ha:ZN (c.Text.toList==BL.toList) (c.N==0) (c.Target==0) (!c.Thread) (c.Via.toList==BL.toList) ((c.Allow.length:Int)==0) ((c.iq.length:Int)==0) (KI c.Levels)with
  |false=>
   simp only[BK,Aa];cases br<;>exact f
  |true=>
   simp only[Ba,Aa];cases L:kp==0 with
   |false=>
    cases br with
    |false=>exact f
    |true=>rw[J rfl]at L;cases L
   |true=>
    cases br with
    |true=>exact .ret _
    |false=>
     have e:=hA (eq_of_beq L) rfl;rw[e]at f;exact f
def OQ (M b:Int) (x r:Option Int):Option Int:=bif Dc .and .i64 M b==0 then r else F9 x r
def Xu {S B R:Type} (body:(S→B→Option R)→S→B→Option R) (n:Nat) (a:S) (b:B):aX body (n+1) a b=body (aX body n) a b:=rfl
def apq (M K:Int) (c:Bf):J9 M K 0 c=OQ M 1 (Ny K c) (OQ M 2 (L8 K c) (OQ M 4 (Ot K c) (OQ M 8 (Vy K c) (OQ M 16 (Vu K c) (OQ M 32 (U9 K c)
 (bif Dc .and .i64 M 64 != 0 then TB c.iq else bif Dc .and .i64 M 128 != 0 then Xo c.Levels else some 0)))))):=by
 have f:Ar=9223372036854775801+1+1+1+1+1+1+1:=rfl;have h:∀k,VY M K k 0 c=OQ M 1 (Ny K c) (k 1 c):=fun k=>rfl;have j:∀k,VY M K k 1 c=OQ M 2 (L8 K c) (k 2 c):=fun k=>rfl;have m:∀k,VY M K k 2 c=OQ M 4 (Ot K c) (k 3 c):=fun k=>rfl;have n:∀k,VY M K k 3 c=OQ M 8 (Vy K c) (k 4 c):=fun k=>rfl;have q:∀k,VY M K k 4 c=OQ M 16 (Vu K c) (k 5 c):=fun k=>rfl;have s:∀k,VY M K k 5 c=OQ M 32 (U9 K c) (k 6 c):=fun k=>rfl;have u:∀k,VY M K k 6 c=(bif Dc .and .i64 M 64 != 0 then(TB c.iq).bind fun x=>some x else bif Dc .and .i64 M 128 != 0 then(Xo c.Levels).bind fun x=>some x else some 0):=fun k=>rfl;unfold J9;rw[f,Xu,h,Xu,j,Xu,m,Xu,n,Xu,q,Xu,s,Xu,u,zJ,zJ]
section
variable {c : Bf} {K : Int}
def text0 (h:(c.Text.toList==BL.toList)=true) (f:K≠12):X5 K c=some 0:=by
 have j:(c.Text.size:Int)=0:=by rw[vV]at h;exact eq_of_beq h
 unfold X5;rw[h,j,show(K==12)=false from by simpa using f];cases K==9<;>rfl
def Qo (h:BZ K He=some false) (f:(!c.Thread)=true):Um K c=some 0:=by
 unfold Um;rw[h,show c.Thread=false from by simpa using f];rfl
def OC (h:(c.Via.toList==BL.toList)=true):XB c=some 0:=by unfold XB;rw[h];rfl
def H9 {l:List ByteArray} (h:((l.length:Int)==0)=true):Pv l=some 0:=by
 rw[PS h];unfold Pv aDu;show bF (kZ []) Ar 0=some 0;rw[I5 ([]:List ByteArray) BP (fun _=>false) 0 (some 0) (fun k i h=>Fq) (fun k=>rfl)];rfl
def OU {l:CP} (h:KI l=true):Wv l=some 0:=by
 unfold KI at h;simp only[Bv]at h;obtain⟨⟨⟨⟨⟨⟨⟨⟨f,j⟩,m⟩,n⟩,q⟩,s⟩,u⟩,z⟩,I⟩:=h
 have J:XA []=some 0:=by
  unfold XA aDb;show bF (jS []) Ar 0=some 0;rw[I5 ([]:List ByteArray) BP (fun _=>false) 0 (some 0) (fun k i h=>Fq) (fun k=>rfl)];rfl
 have L:Xi []=some 0:=by
  unfold Xi aGI;show bF (aAN []) Ar 0=some 0;rw[I5 ([]:List ByteArray) BP (fun _=>false) 0 (some 0) (fun k i h=>Fq) (fun k=>rfl)];rfl
 unfold Wv;rw[PS f,PS j,J,L,eq_of_beq m,eq_of_beq n,eq_of_beq q,eq_of_beq s,eq_of_beq u,eq_of_beq z,eq_of_beq I];rfl
def X9 (j:IJ c):Bh (Ny K c) (X5 K c):=by
 have u:=j.text;obtain⟨m,n⟩:=aDx (s:=c.Text) AA;unfold Ny aAb X5;rw[m,n];have e:=vV c.Text;by_cases f:K=9
 ·subst f;cases h:(c.Text.toList==BL.toList)with
  |false=>exact .ret _
  |true=>
   have q:(c.Text.size:Int)=0:=by rw[e]at h;exact eq_of_beq h
   rw[q];exact .ret _
 rw[show(K==9)=false from by simpa using f];cases K==12<;>cases(c.Text.toList==BL.toList)<;>cases decide ((c.Text.size:Int)>32)<;>cases decide ((c.Text.size:Int)>400)<;>exact .ret _
def ao6 (f:IJ c):Bh (Vu K c) (XB c):=by
 have m:=f.via;obtain⟨h,j⟩:=Ve (s:=c.Via) AA;unfold Vu XB;rw[h,j];exact Bh.bif (fun _=>.ret _) fun _=>Bh.bif (fun _=>.ret _) fun _=>.ret _
def aEV (h:BZ K He=some true) (f:(!c.Thread)=true):Bh (Ot K c) (Um K c):=by
 unfold Ot Um;rw[h,show c.Thread=false from by simpa using f];cases decide (c.Target<0)<;>cases c.Target==0<;>cases K != 11<;>exact .ret _
def ase (h:BZ K He=some true):Bh (F9 (Ot K c) (Vy K c)) (Um K c):=by
 unfold Ot Vy Um F9;rw[h];cases decide (c.Target<0)<;>cases c.Target==0<;>cases K != 11<;>cases c.Thread<;>exact .ret _
def aoi (f:IJ c):Bh (U9 6 c) (Pv c.Allow):=by
 have h:=f.allow;have :=afe (l:=c.Allow) AA f.allows;show Bh ((TB c.Allow).bind fun x=>some x) _;rw[zJ];exact this
end
def eu (a b:Int):decide (a≥b)= !decide (a<b):=by by_cases h:a<b<;>simp[h]<;>omega
def nI (a b:Int):decide (a≤b)= !decide (a>b):=by by_cases h:a>b<;>simp[h]<;>omega
def aqU {c:Bf} (hc:IJ c):Bh (IZ 1 c) (Gw 1 c):=by
 have m:BZ 1 Ht=some false:=A8
 have n:BZ 1 II=some false:=A8
 have j:BZ 1 He=some false:=A8
 have q:BZ 1 JK=some false:=A8
 have s:BZ 1 Jf=some false:=A8
 have u:BZ 1 Iy=some false:=A8
 have z:BZ 1 JZ=some false:=A8
 have I:BZ 1 JG=some false:=A8
 refine frame (M:=0) (kp:=0) (br:=false) rfl rfl rfl rfl m n j q s u z I JV (fun h=>GX) (fun h h'=>rfl) fun f=>?_;unfold Ii at f;simp only[Ld,Ir,KT,FC,Bv]at f;obtain⟨⟨⟨⟨⟨⟨⟨J,e1⟩,e2⟩,L⟩,O⟩,S⟩,U⟩,Y⟩:=f;have Z:J9 0 1 0 c=(some 0):=NT
 rw[Z];unfold Jl;rw[DW (text0 J BP),DW (show KW 1 c.N=some 0 from rfl),DW (Qo j L),DW (OC O),show((1:Int)==4)=false from rfl,BK,DW (H9 S),DW (H9 U),OU Y];exact .ret _
def akx (c:Bf):Bh (L8 2 c) (KW 2 c.N):=by
 show Bh ((bif decide (c.N<0)then some true else some (decide (c.N>4))).bind fun f=>(bif f then some 2 else some 0)) ((bif decide (c.N≥0)then some (decide (c.N≤4))else some false).bind fun h=>(bif (!h)then some 2 else some 0));rw[eu,nI];cases decide (c.N<0)<;>cases decide (c.N>4)<;>exact .ret _
def ajy {c:Bf} (j:IJ c):Bh (IZ 2 c) (Gw 2 c):=by
 have n:BZ 2 Ht=some true:=A8
 have q:BZ 2 II=some true:=A8
 have m:BZ 2 He=some false:=A8
 have s:BZ 2 JK=some false:=A8
 have u:BZ 2 Jf=some true:=A8
 have z:BZ 2 Iy=some false:=A8
 have I:BZ 2 JZ=some false:=A8
 have J:BZ 2 JG=some false:=A8
 refine frame (M:=19) (kp:=18) (br:=false) rfl rfl rfl rfl n q m s u z I J JV (fun h=>GX) (fun h h'=>GX) fun f=>?_;unfold Ii at f;simp only[Ld,Ir,KT,FC,Bv]at f;obtain⟨⟨⟨⟨Z,L⟩,O⟩,S⟩,U⟩:=f;have Y:J9 19 2 0 c=(F9 (Ny 2 c) (F9 (L8 2 c) (F9 (Vu 2 c) (some 0)))):=NT
 rw[Y];unfold Jl;rw[DW (Qo m L),show((2:Int)==4)=false from rfl,BK,DW (H9 O),DW (H9 S),OU U];exact JJ (X9 j) (JJ (akx c) (JJ (ao6 j) (.ret _)))
def ajP {c:Bf} (f:IJ c):Bh (IZ 3 c) (Gw 3 c):=by
 have n:BZ 3 Ht=some false:=A8
 have q:BZ 3 II=some false:=A8
 have m:BZ 3 He=some false:=A8
 have s:BZ 3 JK=some false:=A8
 have u:BZ 3 Jf=some false:=A8
 have z:BZ 3 Iy=some false:=A8
 have I:BZ 3 JZ=some false:=A8
 have J:BZ 3 JG=some true:=A8
 refine frame (M:=128) (kp:=128) (br:=false) rfl rfl rfl rfl n q m s u z I J JV (fun h=>GX) (fun h h'=>GX) fun j=>?_;unfold Ii at j;simp only[Ld,Ir,KT,FC,Bv]at j;obtain⟨⟨⟨⟨⟨⟨L,e1⟩,e2⟩,O⟩,S⟩,U⟩,Y⟩:=j;have Z:J9 128 3 0 c=(Xo c.Levels):=NT
 rw[Z];unfold Jl;rw[DW (text0 L BP),DW (show KW 3 c.N=some 0 from rfl),DW (Qo m O),DW (OC S),show((3:Int)==4)=false from rfl,BK,DW (H9 U),DW (H9 Y)];exact aic f.users f.kinds f.names
def anG (c:Bf):Bh (L8 4 c) (KW 4 c.N):=by
 show Bh ((bif decide (c.N<0)then some true else some (decide (c.N>3))).bind fun f=>(bif f then some 2 else some 0)) ((bif decide (c.N≥0)then some (decide (c.N≤3))else some false).bind fun h=>(bif (!h)then some 2 else some 0));rw[eu,nI];cases decide (c.N<0)<;>cases decide (c.N>3)<;>exact .ret _
def asY {c:Bf} (m:IJ c):Bh (IZ 4 c) (Gw 4 c):=by
 have n:BZ 4 Ht=some false:=A8
 have q:BZ 4 II=some true:=A8
 have j:BZ 4 He=some false:=A8
 have s:BZ 4 JK=some false:=A8
 have u:BZ 4 Jf=some false:=A8
 have z:BZ 4 Iy=some true:=A8
 have I:BZ 4 JZ=some false:=A8
 have J:BZ 4 JG=some false:=A8
 refine frame (M:=34) (kp:=34) (br:=false) rfl rfl rfl rfl n q j s u z I J JV (fun h=>GX) (fun h h'=>GX) fun f=>?_;unfold Ii at f;simp only[Ld,Ir,KT,FC,Bv]at f;obtain⟨⟨⟨⟨⟨L,Y⟩,O⟩,S⟩,Z⟩,e7⟩:=f;have U:J9 34 4 0 c=(F9 (L8 4 c) (F9 (U9 4 c) (some 0))):=NT
 rw[U];unfold Jl;rw[DW (text0 L BP),DW (Qo j O),DW (OC S),show((4:Int)==4)=true from rfl,Ba];rw[qO];exact JJ (anG c) (asE m)
def agp (c:Bf):Bh (L8 5 c) (KW 5 c.N):=by
 show Bh ((bif decide (c.N<0)then some true else some (decide (c.N>3))).bind fun f=>(bif f then some 2 else some 0)) ((bif decide (c.N≥0)then some (decide (c.N≤3))else some false).bind fun h=>(bif (!h)then some 2 else some 0));rw[eu,nI];cases decide (c.N<0)<;>cases decide (c.N>3)<;>exact .ret _
def al5 {c:Bf} (hc:IJ c):Bh (IZ 5 c) (Gw 5 c):=by
 have m:BZ 5 Ht=some false:=A8
 have n:BZ 5 II=some true:=A8
 have j:BZ 5 He=some false:=A8
 have q:BZ 5 JK=some false:=A8
 have s:BZ 5 Jf=some false:=A8
 have u:BZ 5 Iy=some false:=A8
 have z:BZ 5 JZ=some false:=A8
 have I:BZ 5 JG=some false:=A8
 refine frame (M:=2) (kp:=2) (br:=false) rfl rfl rfl rfl m n j q s u z I JV (fun h=>GX) (fun h h'=>GX) fun f=>?_;unfold Ii at f;simp only[Ld,Ir,KT,FC,Bv]at f;obtain⟨⟨⟨⟨⟨⟨J,e2⟩,L⟩,O⟩,S⟩,U⟩,Y⟩:=f;have Z:J9 2 5 0 c=(F9 (L8 5 c) (some 0)):=NT
 rw[Z];unfold Jl;rw[DW (text0 J BP),DW (Qo j L),DW (OC O),show((5:Int)==4)=false from rfl,BK,DW (H9 S),DW (H9 U),OU Y];exact JJ (agp c) (.ret _)
def ar8 {c:Bf} (f:IJ c):Bh (IZ 6 c) (Gw 6 c):=by
 have q:BZ 6 Ht=some false:=A8
 have m:BZ 6 II=some false:=A8
 have n:BZ 6 He=some false:=A8
 have s:BZ 6 JK=some false:=A8
 have u:BZ 6 Jf=some false:=A8
 have z:BZ 6 Iy=some true:=A8
 have I:BZ 6 JZ=some true:=A8
 have J:BZ 6 JG=some false:=A8
 refine frame (M:=96) (kp:=96) (br:=false) rfl rfl rfl rfl q m n s u z I J JV (fun h=>GX) (fun h h'=>GX) fun j=>?_;unfold Ii at j;simp only[Ld,Ir,KT,FC,Bv]at j;obtain⟨⟨⟨⟨⟨L,Z⟩,e2⟩,O⟩,S⟩,U⟩:=j;have Y:J9 96 6 0 c=(F9 (U9 6 c) (TB c.iq)):=NT
 rw[Y];unfold Jl;rw[DW (text0 L BP),DW (show KW 6 c.N=some 0 from rfl),DW (Qo n O),DW (OC S),show((6:Int)==4)=false from rfl,BK,OU U];have m:=f.deny;rw[qO];exact JJ (aoi f) (afe AA f.denies)
def afu {c:Bf} (m:IJ c):Bh (IZ 7 c) (Gw 7 c):=by
 have n:BZ 7 Ht=some true:=A8
 have q:BZ 7 II=some false:=A8
 have j:BZ 7 He=some false:=A8
 have s:BZ 7 JK=some false:=A8
 have u:BZ 7 Jf=some false:=A8
 have z:BZ 7 Iy=some false:=A8
 have I:BZ 7 JZ=some false:=A8
 have J:BZ 7 JG=some false:=A8
 refine frame (M:=1) (kp:=0) (br:=true) rfl rfl rfl rfl n q j s u z I J JV (fun h=>rfl) (fun h h'=>WI) fun f=>?_;unfold Ii at f;simp only[Ld,Ir,KT,FC,Bv]at f;obtain⟨⟨⟨⟨⟨⟨e1,e2⟩,L⟩,O⟩,S⟩,U⟩,Y⟩:=f;have Z:J9 1 7 0 c=(F9 (Ny 7 c) (some 0)):=NT
 rw[Z];unfold Jl;rw[DW (show KW 7 c.N=some 0 from rfl),DW (Qo j L),DW (OC O),show((7:Int)==4)=false from rfl,BK,DW (H9 S),DW (H9 U),OU Y];exact JJ (X9 m) (.ret _)
def ajf (c:Bf):Bh (L8 8 c) (KW 8 c.N):=by
 show Bh ((bif decide (c.N<0)then some true else some (decide (c.N>1000000000))).bind fun f=>(bif f then some 2 else some 0)) ((bif decide (c.N≥0)then some (decide (c.N≤1000000000))else some false).bind fun h=>(bif (!h)then some 2 else some 0));rw[eu,nI];cases decide (c.N<0)<;>cases decide (c.N>1000000000)<;>exact .ret _
def alk {c:Bf} (hc:IJ c):Bh (IZ 8 c) (Gw 8 c):=by
 have m:BZ 8 Ht=some false:=A8
 have n:BZ 8 II=some true:=A8
 have j:BZ 8 He=some false:=A8
 have q:BZ 8 JK=some false:=A8
 have s:BZ 8 Jf=some false:=A8
 have u:BZ 8 Iy=some false:=A8
 have z:BZ 8 JZ=some false:=A8
 have I:BZ 8 JG=some false:=A8
 refine frame (M:=2) (kp:=0) (br:=true) rfl rfl rfl rfl m n j q s u z I JV (fun h=>rfl) (fun h h'=>WI) fun f=>?_;unfold Ii at f;simp only[Ld,Ir,KT,FC,Bv]at f;obtain⟨⟨⟨⟨⟨⟨J,e2⟩,L⟩,O⟩,S⟩,U⟩,Y⟩:=f;have Z:J9 2 8 0 c=(F9 (L8 8 c) (some 0)):=NT
 rw[Z];unfold Jl;rw[DW (text0 J BP),DW (Qo j L),DW (OC O),show((8:Int)==4)=false from rfl,BK,DW (H9 S),DW (H9 U),OU Y];exact JJ (ajf c) (.ret _)
def ag9 (c:Bf):Bh (L8 9 c) (KW 9 c.N):=by
 show Bh ((bif (c.N==1)then some true else some (c.N==2)).bind fun f=>(bif f then some true else some (c.N==6)).bind fun h=>(bif h then some 0 else some 2)) ((bif (c.N==1)then some true else some (c.N==2)).bind fun j=>(bif j then some true else some (c.N==6)).bind fun m=>(bif (!m)then some 2 else some 0));cases c.N==1<;>cases c.N==2<;>cases c.N==6<;>exact .ret _
def asG {c:Bf} (m:IJ c):Bh (IZ 9 c) (Gw 9 c):=by
 have n:BZ 9 Ht=some true:=A8
 have q:BZ 9 II=some true:=A8
 have j:BZ 9 He=some false:=A8
 have s:BZ 9 JK=some false:=A8
 have u:BZ 9 Jf=some false:=A8
 have z:BZ 9 Iy=some false:=A8
 have I:BZ 9 JZ=some false:=A8
 have J:BZ 9 JG=some false:=A8
 refine frame (M:=3) (kp:=0) (br:=true) rfl rfl rfl rfl n q j s u z I J JV (fun h=>rfl) (fun h h'=>WI) fun f=>?_;unfold Ii at f;simp only[Ld,Ir,KT,FC,Bv]at f;obtain⟨⟨⟨⟨⟨e2,L⟩,O⟩,S⟩,U⟩,Y⟩:=f;have Z:J9 3 9 0 c=(F9 (Ny 9 c) (F9 (L8 9 c) (some 0))):=NT
 rw[Z];unfold Jl;rw[DW (Qo j L),DW (OC O),show((9:Int)==4)=false from rfl,BK,DW (H9 S),DW (H9 U),OU Y];exact JJ (X9 m) (JJ (ag9 c) (.ret _))
def ajx (c:Bf):Bh (L8 10 c) (KW 10 c.N):=by
 show Bh ((bif decide (c.N<1)then some true else some (decide (c.N>10000))).bind fun f=>(bif f then some 2 else some 0)) ((bif decide (c.N≥1)then some (decide (c.N≤10000))else some false).bind fun h=>(bif (!h)then some 2 else some 0));rw[eu,nI];cases decide (c.N<1)<;>cases decide (c.N>10000)<;>exact .ret _
def apn {c:Bf} (hc:IJ c):Bh (IZ 10 c) (Gw 10 c):=by
 have m:BZ 10 Ht=some false:=A8
 have n:BZ 10 II=some true:=A8
 have j:BZ 10 He=some false:=A8
 have q:BZ 10 JK=some false:=A8
 have s:BZ 10 Jf=some false:=A8
 have u:BZ 10 Iy=some false:=A8
 have z:BZ 10 JZ=some false:=A8
 have I:BZ 10 JG=some false:=A8
 refine frame (M:=2) (kp:=0) (br:=true) rfl rfl rfl rfl m n j q s u z I JV (fun h=>rfl) (fun h h'=>WI) fun f=>?_;unfold Ii at f;simp only[Ld,Ir,KT,FC,Bv]at f;obtain⟨⟨⟨⟨⟨⟨J,e2⟩,L⟩,O⟩,S⟩,U⟩,Y⟩:=f;have Z:J9 2 10 0 c=(F9 (L8 10 c) (some 0)):=NT
 rw[Z];unfold Jl;rw[DW (text0 J BP),DW (Qo j L),DW (OC O),show((10:Int)==4)=false from rfl,BK,DW (H9 S),DW (H9 U),OU Y];exact JJ (ajx c) (.ret _)
def ajI {c:Bf} (m:IJ c):Bh (IZ 11 c) (Gw 11 c):=by
 have n:BZ 11 Ht=some true:=A8
 have q:BZ 11 II=some false:=A8
 have j:BZ 11 He=some true:=A8
 have s:BZ 11 JK=some true:=A8
 have u:BZ 11 Jf=some false:=A8
 have z:BZ 11 Iy=some false:=A8
 have I:BZ 11 JZ=some false:=A8
 have J:BZ 11 JG=some false:=A8
 refine frame (M:=13) (kp:=0) (br:=true) rfl rfl rfl rfl n q j s u z I J JV (fun h=>rfl) (fun h h'=>WI) fun f=>?_;unfold Ii at f;simp only[Ld,Ir,KT,FC,Bv]at f;obtain⟨⟨⟨⟨Z,L⟩,O⟩,S⟩,U⟩:=f;have Y:J9 13 11 0 c=(F9 (Ny 11 c) (F9 (Ot 11 c) (F9 (Vy 11 c) (some 0)))):=NT
 rw[Y];unfold Jl;rw[DW (show KW 11 c.N=some 0 from rfl),DW (OC L),show((11:Int)==4)=false from rfl,BK,DW (H9 O),DW (H9 S),OU U];rw[qO,qO];exact JJ (X9 m) (ase j)
def apN {c:Bf} (m:IJ c):Bh (IZ 12 c) (Gw 12 c):=by
 have n:BZ 12 Ht=some true:=A8
 have q:BZ 12 II=some false:=A8
 have j:BZ 12 He=some true:=A8
 have s:BZ 12 JK=some false:=A8
 have u:BZ 12 Jf=some false:=A8
 have z:BZ 12 Iy=some false:=A8
 have I:BZ 12 JZ=some false:=A8
 have J:BZ 12 JG=some false:=A8
 refine frame (M:=5) (kp:=0) (br:=true) rfl rfl rfl rfl n q j s u z I J JV (fun h=>rfl) (fun h h'=>WI) fun f=>?_;unfold Ii at f;simp only[Ld,Ir,KT,FC,Bv]at f;obtain⟨⟨⟨⟨⟨e1,L⟩,O⟩,S⟩,U⟩,Y⟩:=f;have Z:J9 5 12 0 c=(F9 (Ny 12 c) (F9 (Ot 12 c) (some 0))):=NT
 rw[Z];unfold Jl;rw[DW (show KW 12 c.N=some 0 from rfl),DW (OC O),show((12:Int)==4)=false from rfl,BK,DW (H9 S),DW (H9 U),OU Y];exact JJ (X9 m) (JJ (aEV j L) (.ret _))
def aoo {c:Bf} (m:IJ c):Bh (IZ 13 c) (Gw 13 c):=by
 have n:BZ 13 Ht=some true:=A8
 have q:BZ 13 II=some false:=A8
 have j:BZ 13 He=some true:=A8
 have s:BZ 13 JK=some false:=A8
 have u:BZ 13 Jf=some false:=A8
 have z:BZ 13 Iy=some false:=A8
 have I:BZ 13 JZ=some false:=A8
 have J:BZ 13 JG=some false:=A8
 refine frame (M:=5) (kp:=0) (br:=true) rfl rfl rfl rfl n q j s u z I J JV (fun h=>rfl) (fun h h'=>WI) fun f=>?_;unfold Ii at f;simp only[Ld,Ir,KT,FC,Bv]at f;obtain⟨⟨⟨⟨⟨e1,L⟩,O⟩,S⟩,U⟩,Y⟩:=f;have Z:J9 5 13 0 c=(F9 (Ny 13 c) (F9 (Ot 13 c) (some 0))):=NT
 rw[Z];unfold Jl;rw[DW (show KW 13 c.N=some 0 from rfl),DW (OC O),show((13:Int)==4)=false from rfl,BK,DW (H9 S),DW (H9 U),OU Y];exact JJ (X9 m) (JJ (aEV j L) (.ret _))
def al7 {c:Bf} (m:IJ c):Bh (IZ 14 c) (Gw 14 c):=by
 have n:BZ 14 Ht=some true:=A8
 have q:BZ 14 II=some false:=A8
 have j:BZ 14 He=some true:=A8
 have s:BZ 14 JK=some false:=A8
 have u:BZ 14 Jf=some false:=A8
 have z:BZ 14 Iy=some false:=A8
 have I:BZ 14 JZ=some false:=A8
 have J:BZ 14 JG=some false:=A8
 refine frame (M:=5) (kp:=4) (br:=false) rfl rfl rfl rfl n q j s u z I J JV (fun h=>GX) (fun h h'=>GX) fun f=>?_;unfold Ii at f;simp only[Ld,Ir,KT,FC,Bv]at f;obtain⟨⟨⟨⟨⟨e1,L⟩,O⟩,S⟩,U⟩,Y⟩:=f;have Z:J9 5 14 0 c=(F9 (Ny 14 c) (F9 (Ot 14 c) (some 0))):=NT
 rw[Z];unfold Jl;rw[DW (show KW 14 c.N=some 0 from rfl),DW (OC O),show((14:Int)==4)=false from rfl,BK,DW (H9 S),DW (H9 U),OU Y];exact JJ (X9 m) (JJ (aEV j L) (.ret _))
def ao5 (k:Int) {c:Bf} (h:IJ c):Bh (IZ k c) (Gw k c):=by
 cases j:decide (k≥1)&&decide (k≤14)with
 |false=>
  obtain⟨m,k2⟩:=xR k;rw[j]at m k2
  have f:∀n:Int,1≤n→n≤14→(k==n)=false:=fun n q s=>by
   rw[Wx];rintro rfl;rw[I4 (show k≥1 from q),I4 s]at j;cases j
  have u:YS k=some 0:=by
   unfold YS kL kn;rw[f 2 BP BP,f 3 BP BP,f 4 BP BP,f 5 BP BP,f 8 BP BP,f 10 BP BP,f 6 BP BP,f 7 BP BP,f 9 BP BP,f 11 BP BP,f 12 BP BP,f 13 BP BP,f 14 BP BP];rfl
  unfold IZ Gw;rw[u,m,k2];exact .ret _
 |true=>
  simp only[Bv,FI]at j;have :k=1∨k=2∨k=3∨k=4∨k=5∨k=6∨k=7∨k=8∨k=9∨k=10∨k=11∨k=12∨k=13∨k=14:=AA
  rcases this with rfl|rfl|rfl|rfl|rfl|rfl|rfl|rfl|rfl|rfl|rfl|rfl|rfl|rfl
  ·exact aqU h
  ·exact ajy h
  ·exact ajP h
  ·exact asY h
  ·exact al5 h
  ·exact ar8 h
  ·exact afu h
  ·exact alk h
  ·exact asG h
  ·exact apn h
  ·exact ajI h
  ·exact apN h
  ·exact aoo h
  exact al7 h
def KX {α:Type} (p:α→α→Bool) (a b:List α):Bool:=((a.length:Int)==(b.length:Int))&& !((a.zip b).any fun x=> !p x.1 x.2)
def YL {α R:Type} {body:(Int→Option R)→Int→Option R} (p:α→α→Bool) (a b:List α) (ha:a.length≤1000) (j:a.length=b.length) (bad:R) (rest:Option R)
 (m:∀k (i:Nat) (h:i<a.length) (h':i<b.length),body k (i:Int)=bif !p a[i] b[i]then some bad else k (BD ((i:Int)+1))) (n:∀k,body k (a.length:Int)=rest):bF body Ar 0=bif (a.zip b).any fun x=> !p x.1 x.2 then some bad else rest:=by
 have f:(a.zip b).length=a.length:=Dp
 refine I5 (a.zip b) (by rw[f];exact nO AA) (fun x=> !p x.1 x.2) bad rest (fun k i h=>?_) (fun k=>by rw[f];exact n k);have q:i<a.length:=AA
 have s:i<b.length:=AA
 rw[m k i q s,List.getElem_zip]
def len_eq {α:Type} {a b:List α} (h:((a.length:Int)==(b.length:Int))=true):a.length=b.length:=by have :=eq_of_beq h;omega
def SX (x y:ByteArray):Bool:=x.toList==y.toList
def TW (x y:G7):Bool:=x.User.toList==y.User.toList&&x.N==y.N
def RV (x y:Gm):Bool:=x.Kind==y.Kind&&x.N==y.N
def uO {a b:List ByteArray} (ha:a.length≤1000):fQ a b=some (KX SX a b)∧Uu a b=some (KX SX a b):=by
 unfold fQ Uu KX;simp only[bne];cases h:((a.length:Int)==(b.length:Int))with
 |false=>exact⟨rfl,rfl⟩
 |true=>
  have f:=len_eq h;simp only[EF,BK,FC];unfold aHF aB0
  rw[YL SX a b ha f false (some true) (fun k i h h'=>by simp only[aB4,dec_lt h,Ba,D9 h,D9 h',Aa];rfl) (fun k=>by simp only[aB4,EG,BK]),
   YL SX a b ha f false (some true) (fun k i h h'=>by simp only[dL,dec_lt h,Ba,D9 h,D9 h',Aa];rfl) (fun k=>by simp only[dL,EG,BK])]
  cases(a.zip b).any fun x=> !SX x.1 x.2<;>exact⟨rfl,rfl⟩
def ajp {a b:List G7} (ha:a.length≤1000):aA3 a b=some (KX TW a b):=by
 unfold aA3 KX;simp only[bne];cases h:((a.length:Int)==(b.length:Int))with
 |false=>rfl
 |true=>
  have f:=len_eq h;simp only[EF,BK,FC];unfold afE;rw[YL TW a b ha f false (some true) (fun k i h h'=>by simp only[aGJ,dec_lt h,Ba,D9 h,D9 h',Aa,qP,TW,KT]) (fun k=>by simp only[aGJ,EG,BK])];cases(a.zip b).any fun x=> !TW x.1 x.2<;>rfl
def ao0 {a b:List Gm} (ha:a.length≤1000):zY a b=some (KX RV a b):=by
 unfold zY KX;simp only[bne];cases h:((a.length:Int)==(b.length:Int))with
 |false=>rfl
 |true=>
  have f:=len_eq h;simp only[EF,BK,FC];unfold aHE;rw[YL RV a b ha f false (some true) (fun k i h h'=>by simp only[aDK,dec_lt h,Ba,D9 h,D9 h',Aa,aAP,RV,KT]) (fun k=>by simp only[aDK,EG,BK])];cases(a.zip b).any fun x=> !RV x.1 x.2<;>rfl
def xJ (a b:CP):Bool:=(a.User==b.User)&&(a.Message==b.Message)&&(a.State==b.State)&&(a.fP==b.fP)&&(a.jU==b.jU)&&(a.nH==b.nH)&&(a.gZ==b.gZ)
def wO (a b:CP):Bool:=KX TW a.Users b.Users&&(KX RV a.Kinds b.Kinds&&xJ a b)
def aof {a b:CP} (f:a.Users.length≤1000) (j:a.Kinds.length≤1000):bQ a b=some (wO a b):=by
 unfold bQ wO KX;simp only[bne];cases m:((a.Users.length:Int)==(b.Users.length:Int))with
 |false=>rfl
 |true=>
  cases n:((a.Kinds.length:Int)==(b.Kinds.length:Int))with
  |false=>simp
  |true=>
   have q:=len_eq m;have ek:=len_eq n
   have s:Zx a b 0=bif (a.Kinds.zip b.Kinds).any fun x=> !RV x.1 x.2 then some false else some (xJ a b):=by
    unfold Zx;refine YL RV a.Kinds b.Kinds j ek false (some (xJ a b)) (fun k i h h'=>?_) (fun k=>?_)
    ·simp only[Src,dec_lt h,Ba,D9 h,D9 h',Aa,aBn,RV,bne];cases a.Kinds[i].Kind==b.Kinds[i].Kind<;>cases a.Kinds[i].N==b.Kinds[i].N<;>rfl
    simp only[Src,EG,BK,J6,Aa,Ur];rfl
   simp only[EF,BK,Aa,FC];unfold aAI
   rw[YL TW a.Users b.Users f q false (Zx a b 0) (fun k i h h'=>by
    simp only[yF,dec_lt h,Ba,D9 h,D9 h',Aa,aGZ,TW,bne]
    cases a.Users[i].User.toList==b.Users[i].User.toList<;>cases a.Users[i].N==b.Users[i].N<;>rfl) (fun k=>by simp only[yF,EG,BK]),s]
   cases(a.Users.zip b.Users).any fun x=> !TW x.1 x.2<;>cases(a.Kinds.zip b.Kinds).any fun x=> !RV x.1 x.2<;>rfl
def oM (a b:Bf):Bool:=(a.Text.toList==b.Text.toList)&&(a.N==b.N)&&(a.Target==b.Target)&&(a.Thread==b.Thread)&&(a.Via.toList==b.Via.toList)&&KX SX a.Allow b.Allow&&KX SX a.iq b.iq&&wO a.Levels b.Levels
def anS {a:Bf} (b:Bf) (ha:PD a):YD a b=some (oM a b):=by
 have f:=ha.allow;have h:=ha.deny;have j:=ha.users;have m:=ha.kinds;unfold YD oM;rw[(uO (a:=a.Allow) AA).2,(uO (a:=a.iq) AA).2,aof (a:=a.Levels) AA AA];simp only[J6,Aa,Ur]
def anP {a:Bf} (b:Bf) (ha:PD a):oN a b=some (oM a b):=by
 have u:=ha.allow;have z:=ha.deny;have I:=ha.users;have J:=ha.kinds;unfold oN oM wO xJ;rw[(uO (a:=a.Allow) AA).1,(uO (a:=a.iq) AA).1,ajp (a:=a.Levels.Users) AA,ao0 (a:=a.Levels.Kinds) AA];simp only[J6,Aa,Ur,dV,bne];generalize(a.Text.toList==b.Text.toList)=f;generalize(a.N==b.N)=h;generalize(a.Target==b.Target)=j;generalize(a.Thread==b.Thread)=m;generalize(a.Via.toList==b.Via.toList)=n;generalize KX SX a.Allow b.Allow=q;generalize KX SX a.iq b.iq=s;generalize KX TW a.Levels.Users b.Levels.Users=L;generalize KX RV a.Levels.Kinds b.Levels.Kinds=M;cases f<;>cases h<;>cases j<;>cases m<;>cases n<;>cases q<;>cases s<;>first|rfl|(simp only[EF,Bool.or_self,BK,FC,Bool.and_self,Bool.and_assoc])
def arS {e:AO} (f:QF e) (v:Bool):Bh (VF e v) ((QN e v).bind fun h=>(bif (h != 0)then some h else(Gw e.Kind e.Content).bind fun n=>some n)):=by
 have U:=f.room;have Y:=f.sender;have Z:=f.key;have h4:=f.prev;have h5:=f.auth;unfold VF QN;rw[arF f,(nX (s:=e.Room) AA).2,(Ve (s:=e.bg) AA).2,aIc AA];cases v with
 |true=>exact .ret _
 |false=>
  simp only[BK,Aa,bne,J6,dV];generalize(SC e.Room==0)=a;generalize(Nw e.bg==0)=b;generalize SI e.Kind e.Key=u;cases a with
  |false=>exact .ret _
  |true=>
   cases b with
   |false=>exact .ret _
   |true=>
    cases u with
    |false=>exact .ret _
    |true=>
     simp only[EF,Bool.or_self,Bool.and_self,BK,tu];refine Bh.bif (fun _=>.ret _) fun _=>Bh.bif (fun _=>.ret _) fun hlen=>?_;simp only[iw,VG]at hlen;obtain⟨z,I,J⟩:=aaX (l:=e.bY) AA;obtain⟨L,M,O⟩:=aaX (l:=e.dh) AA;rw[I,M,J,O];simp only[Aa,J6,dV,tu];cases z with
     |false=>exact .ret _
     |true=>
     cases L with
     |false=>exact .ret _
     |true=>
     simp only[EF,BK]
     have S:decide ((BD ((e.bY.length:Int)+(e.dh.length:Int)))>0)=(decide ((e.bY.length:Int)>0)||decide ((e.dh.length:Int)>0)):=by
      rw[Nl AA AA];by_cases j:(e.bY.length:Int)>0
      ·rw[I4 j,I4 AA];rfl
      by_cases m:(e.dh.length:Int)>0
      ·rw[I4 m,I4 AA,Ld]
      rw[HY j,HY m,HY AA];rfl
     rw[S];generalize(bif ((e.bY.length:Int)==0)then !e.Kind==1 else false)=p;generalize(bif (e.Kind==1)then(decide ((e.bY.length:Int)>0)||decide ((e.dh.length:Int)>0))else false)=q;cases p with
     |true=>exact .ret _
     |false=>
      cases q with
      |true=>exact .ret _
      |false=>exact Bh.bind (ao5 e.Kind f.content) fun x=>.ret _
def anR {e:AO} (h:QF e):Bh (vK e) (iI e):=by
 have f:=arS h;unfold vK iI aDX;rw[show YB e.Kind=Z9 e.Kind from rfl];simp only[tu,bne,J6,Aa];refine Bh.bif (fun _=>f _) fun _=>Bh.bif (fun _=>f _) fun _=>?_;have j:∃b,Z9 e.Kind=some b:=by unfold Z9;cases decide (e.Kind≥1)<;>cases decide (e.Kind≤10)<;>exact⟨_,rfl⟩
 obtain⟨b,m⟩:=j;rw[m];simp only[Aa,tu];refine Bh.bif (fun _=>f _) fun _=>Bh.bif (fun _=>?_) fun _=>f _;cases e.Kind==2 with
 |true=>exact f _
 |false=>exact f _
def adu {e:AO} (f:PW e):ZV e=some (iM e==e.Hash)∧aEv e=some (iM e==e.Hash):=by
 unfold ZV aEv;rw[(aaJ f).1,(aaJ f).2];exact⟨rfl,rfl⟩
def afp {e:AO} (f:PW e) (v:Bool):Bh (Wu e v) (jw e v):=by
 have q:e.bg.size≤2000:=f.sender;unfold Wu jw;obtain⟨h,j⟩:=aeG f;obtain⟨m,n⟩:=Rch (s:=e.bg) AA;rw[h,j,m,n];refine Bh.bif (fun _=>.ret _) fun _=>?_;simp only[Aa];refine Bh.bif (fun _=>.ret _) fun _=>?_;unfold aFN wV;show Bh (bif !((e.pX.Server.toList==(splitB e.bg (J7 e.bg)).2.1.toList)&&((e.pX.Sum==e.Id)&&true))then some 12 else some 0) _;simp only[bne];cases(e.pX.Server.toList==(splitB e.bg (J7 e.bg)).2.1.toList)<;>cases(e.pX.Sum==e.Id)<;>exact .ret _
def Gu {a:Int} {c:Bool} {X:Option Int} (h:(bif c then some a else X)=some 0) (ha:a≠0):c=false∧X=some 0:=by
 cases c with
 |true=>exact absurd (Bl h) ha
 |false=>exact⟨rfl,h⟩
def QA {a:Int} {x:Option Int} (h:(bif a != 0 then some a else x)=some 0):a=0∧x=some 0:=by
 by_cases ha:a=0
 ·subst ha;exact⟨rfl,h⟩
 rw[show(a != 0)=true from by simpa using ha]at h;exact absurd (Bl h) ha
def firsts {α R:Type} {body:(Int→Option R)→Int→Option R} {ok:R} (l:List α) (L:l.length≤9223372036854775807) (P:Nat→Prop)
 (u:∀k (i:Nat),i<l.length→body k (i:Int)=some ok→P i∧k ((i+1:Nat):Int)=some ok) (q:Nat) (h:bF body Ar (q:Int)=some ok):∀i,q≤i→i<l.length→P i:=by
 have key:∀n (i:Nat) m,i+n=l.length→n<m→bF body m (i:Int)=some ok→∀j,i≤j→j<l.length→P j:=by
  intro n
  induction n with
  |zero=>intro i m hi _ _ j f s;omega
  |succ n z=>
   intro i m hi M I j f s;obtain⟨m,rfl⟩:∃J,m=J+1:=⟨m-1,AA⟩
   obtain⟨a,b⟩:=u (bF body m) i AA I;rcases aBq f with rfl|f
   ·exact a
   exact z (i+1) m AA AA b j f s
 intro i f s;have O:Ar=9223372036854775808:=rfl;exact key (l.length-q) q Ar AA AA h i f s
def jW {α:Type} {l:List α} {Q:α→Prop} (h:∀i,0≤i→i<l.length→∀x,l[i]? =some x→Q x):∀x∈l,Q x:=fun x f=>by
 obtain⟨i,hi,rfl⟩:=Gv f;exact h i (Dx _) hi _ (DX hi)
def ajN (s:ByteArray) (a b:Nat) (f:b≤s.size):(s.extract a b).size=b-a:=by rw[aCV];omega
def acD {l:List Int} {p:Int→Bool} (h:NY l p=true):l.length≤32:=(aeX h).2
def nS {s:ByteArray} {m:Int} (h:F7 s m=true):s.size≤100:=by
 unfold F7 PZ at h;simp only[Bv,FI]at h;have n:=h.2.1.1;have f:=acD h.2.1.2
 have j:(BR (Oo s)).length≤32:=by
  have :=h.2.2;unfold Un at this;simp only[Bv]at this;exact acD this.1.1
 rw[Fh]at f j;unfold Qe at f;unfold Oo at j;rw[ajN _ _ _ AA]at f j;omega
def aHl {s:ByteArray} (j:s.size≤9223372036854775807) (h:Xw s=some 0):s.size≤100∧F7 s 64=true:=by
 rw[(Ve j).2]at h;have h:=Bl h;unfold Nw at h;cases f:F7 s 64 with
 |true=>exact⟨nS f,rfl⟩
 |false=>rw[f]at h;cases h
def aln {s:ByteArray} (j:s.size≤9223372036854775807) (h:iF s=some 0):s.size≤100∧F7 s 33=true:=by
 rw[(nX j).2]at h;have h:=Bl h;unfold SC at h;cases f:F7 s 33 with
 |true=>exact⟨nS f,rfl⟩
 |false=>rw[f]at h;cases h
def acy {s:ByteArray} (f:s.size≤9223372036854775807) (h:lS s=some 0):s.size≤100:=by
 rw[(aDx f).2]at h;have h:=Bl h;unfold sI at h;split at h
 ·omega
 split at h
 ·cases h
 omega
def afl {l:List ByteArray} (m:l.length≤9223372036854775807) (n:∀s∈l,s.size≤9223372036854775807) (h:Pv l=some 0):l.length≤100∧∀s∈l,s.size≤100:=by
 unfold Pv at h;obtain⟨q,h⟩:=Gu h BP;refine⟨by have :=IK q;omega,jW (firsts l m (fun i=>∀x,l[i]? =some x→x.size≤100) (fun k i hi f=>?_) 0 h)⟩;unfold kZ at f;rw[D5 hi]at f;obtain⟨x,u,f⟩:=CZ f;obtain⟨e,f⟩:=QA f;subst e;rw[wrap_succ i AA]at f;exact⟨fun y j=>by rw[DX hi]at j;obtain rfl:=Bl j;exact acy (n _ (EU hi)) u,f⟩
def am5 {c:Bf} (q:c.Allow.length≤9223372036854775807) (u:∀s∈c.Allow,s.size≤9223372036854775807) (h:YZ c=some 0):c.Allow.length≤100∧∀s∈c.Allow,s.size≤100:=by
 unfold YZ at h;obtain⟨x,_,h⟩:=CZ h;obtain⟨_,h⟩:=Gu h BP;obtain⟨I,h⟩:=Gu h BP;refine⟨by have :=IK I;omega,jW (firsts c.Allow q (fun i=>∀x,c.Allow[i]? =some x→x.size≤100) (fun k i hi f=>?_) 0 h)⟩;unfold qI oL at f;rw[D5 hi]at f;obtain⟨x,J,f⟩:=CZ f;obtain⟨e,f⟩:=Gu f BP;have j:x=0:=SY
 subst j;refine⟨fun y m=>by rw[DX hi]at m;obtain rfl:=Bl m;exact(aln (u _ (EU hi)) J).1,?_⟩;cases n:decide ((i:Int)>0)with
 |true=>
  rw[n,Ba]at f;obtain⟨y,_,f⟩:=CZ f;obtain⟨z,_,f⟩:=CZ f;obtain⟨_,f⟩:=Gu f BP
  rwa [wrap_succ i AA]at f
 |false=>
  rw[n,BK,BK]at f
  rwa [wrap_succ i AA]at f
def aj6 {l:List G7} (J:l.length≤9223372036854775807) (L:∀u∈l,u.User.size≤9223372036854775807) (h:XA l=some 0):l.length≤100∧∀u∈l,u.User.size≤100:=by
 unfold XA at h;obtain⟨M,h⟩:=Gu h BP;refine⟨by have :=IK M;omega,jW (firsts l J (fun i=>∀x,l[i]? =some x→x.User.size≤100) (fun k i hi j=>?_) 0 h)⟩
 have n:∀v,mQ l (i:Int) k v=some 0→k ((i+1:Nat):Int)=some 0:=fun v f=>by
  unfold mQ at f;obtain⟨_,f⟩:=Gu f BP;obtain⟨y,_,f⟩:=CZ f;obtain⟨z,_,f⟩:=CZ f;obtain⟨_,f⟩:=Gu f BP
  rwa [wrap_succ i AA]at f
 unfold jS at j;rw[D5 hi]at j;obtain⟨x,q,O⟩:=CZ j;obtain⟨e,hd⟩:=Gu O BP;have m:x=0:=SY
 rw[m]at q;refine⟨fun y s=>by rw[DX hi]at s;obtain rfl:=Bl s;exact(aHl (L _ (EU hi)) q).1,?_⟩;cases I:decide ((i:Int)>0)with
 |true=>
  rw[I,Ba]at hd;obtain⟨y,_,S⟩:=CZ hd;obtain⟨z,_,U⟩:=CZ S;exact n _ U
 |false=>
  rw[I,BK]at hd;exact n _ hd
def agb {l:List Gm} (h:Xi l=some 0):l.length≤100:=by
 unfold Xi at h;obtain⟨f,_⟩:=Gu h BP;have :=IK f;omega
def empty_of {s:ByteArray} (h:(s.toList==BL.toList)=true):s.size≤100:=by rw[vV]at h;have :=eq_of_beq h;omega
def adV {l:CP} (h:KI l=true):l.Users=[]∧l.Kinds=[]:=by
 unfold KI at h;simp only[Bv]at h;exact⟨PS h.1.1.1.1.1.1.1.1,PS h.1.1.1.1.1.1.1.2⟩
def at7 {k:Int} {c:Bf} (q:IJ c) (h:Gw k c=some 0):PD c:=by
 unfold Gw at h;rw[(xR k).2,Aa]at h;obtain⟨x2,J,h⟩:=CZ h;obtain⟨e2,h⟩:=Gu h BP;subst e2
 have n:Zv k c=some true:=by
  cases hk:(decide (k≥1)&&decide (k≤14))with
  |false=>rw[hk]at J;cases J
  |true=>
   rw[hk]at J;obtain⟨y,L,I⟩:=CZ (show(Zv k c).bind (fun x4=>some (!x4))=some false from J);have I:=Bl I;cases y with
   |true=>exact L
   |false=>cases I
 obtain⟨x6,_,h⟩:=CZ h;obtain⟨x7,M,h⟩:=CZ h;cases x7 with
 |true=>
  have I:ZN (c.Text.toList==BL.toList) (c.N==0) (c.Target==0) (!c.Thread) (c.Via.toList==BL.toList) ((c.Allow.length:Int)==0) ((c.iq.length:Int)==0) (KI c.Levels)=true:=by
   cases x6 with
   |false=>cases M
   |true=>rw[aIy]at M;exact Bl M
  unfold ZN at I;simp only[Bv]at I;obtain⟨⟨⟨⟨⟨⟨⟨t1,_⟩,_⟩,_⟩,t5⟩,t6⟩,t7⟩,t8⟩:=I;have p:=adV t8;have q1:=empty_of t1;have q2:=empty_of t5;have Y:=PS t6;have Z:=PS t7;refine⟨?_,?_,?_,?_,AA,AA,?_,?_,?_⟩<;>first|rw[Y]|rw[Z]|rw[p.1]|rw[p.2]
  all_goals first|exact Dx _|exact fun x hx=>absurd hx FH
 |false=>
  rw[BK]at h;obtain⟨x11,f,h⟩:=CZ h;obtain⟨e,h⟩:=QA h;subst e;obtain⟨x13,_,h⟩:=CZ h;obtain⟨_,h⟩:=QA h;obtain⟨x15,_,h⟩:=CZ h;obtain⟨_,h⟩:=QA h;obtain⟨x17,m,h⟩:=CZ h;obtain⟨e,h⟩:=QA h;subst e
  have ht:c.Text.size≤2000:=by
   unfold X5 at f;cases h9:k==9 with
   |true=>
    rw[h9,Ba]at f;cases S:(c.Text.toList==BL.toList)with
    |true=>have :=empty_of S;omega
    |false=>
     rw[S,BK]at f;obtain⟨y,L,f⟩:=CZ f;obtain rfl:=Bl f;have :=acy q.text L;omega
   |false=>
    rw[h9,BK]at f;obtain⟨y,_,f⟩:=CZ f;obtain⟨_,f⟩:=Gu f BP;obtain⟨z,I,f⟩:=CZ f;obtain⟨e,_⟩:=Gu f BP;subst e;cases hd:decide ((c.Text.size:Int)>400)with
    |true=>rw[hd]at I;cases I
    |false=>have :=IK hd;omega
  have hv:c.Via.size≤2000:=by
   unfold XB at m;cases S:(c.Via.toList==BL.toList)with
   |true=>have :=empty_of S;omega
   |false=>
    rw[S,BK]at m;obtain⟨_,m⟩:=Gu m BP;obtain⟨y,L,m⟩:=CZ m;obtain rfl:=Bl m;have :=(aHl q.via L).1;omega
  have O:∀{l:List ByteArray},(∀s∈l,s.size≤100)→∀s∈l,s.size≤2000:=fun h s hs=>E5 (h s hs) AA;cases h4:k==4 with
  |true=>
   have e4:=eq_of_beq h4;subst e4;rw[Ws,Ba]at h;obtain⟨y,L,h⟩:=CZ h;obtain rfl:=Bl h;obtain⟨r1,r2⟩:=am5 q.allow q.allows L;rw[ael (K:=4) (c:=c) (show _=some false by kernel_rfl) (show _=some true by kernel_rfl) (show _=some false by kernel_rfl) (show _=some false by kernel_rfl) (show _=some false by kernel_rfl) (show _=some true by kernel_rfl) (show _=some false by kernel_rfl) (show _=some false by kernel_rfl)]at n;have U:=Bl n;unfold Ii at U;simp only[Bv,Ir]at U;have d:=PS U.1.2;have p:=adV U.2;refine⟨r1,?_,?_,?_,ht,hv,O r2,?_,?_⟩<;>first|rw[d]|rw[p.1]|rw[p.2]
   all_goals first|exact Dx _|exact fun x hx=>absurd hx FH
  |false=>
   rw[h4,BK]at h;obtain⟨y1,hy1,h⟩:=CZ h;obtain⟨e,h⟩:=QA h;subst e;obtain⟨y2,hy2,h⟩:=CZ h;obtain⟨e,h⟩:=QA h;subst e;obtain⟨y3,j,h⟩:=CZ h;obtain rfl:=Bl h;unfold Wv at j;obtain⟨z1,hz1,j⟩:=CZ j;obtain⟨e,j⟩:=QA j;subst e;obtain⟨z2,hz2,j⟩:=CZ j;obtain⟨e,j⟩:=QA j;subst e;obtain⟨Y,Z⟩:=afl q.allow q.allows hy1;obtain⟨d1,d2⟩:=afl q.deny q.denies hy2;obtain⟨u1,u2⟩:=aj6 q.users q.names hz1;exact⟨Y,d1,u1,agb hz2,ht,hv,O Z,O d2,fun u hu=>E5 (u2 u hu) AA⟩
structure dw (e:AO):Prop where
 kind:1≤e.Kind∧e.Kind≤14
 state:e.State=Gn e.Kind
 keyed:e.Key=BL∨e.Kind=2∨e.Kind=9
 room:F7 e.Room 33=true
 sender:F7 e.bg 64=true
 key:SI e.Kind e.Key=true
 time:0≤e.Time∧e.Time≤1000000000
 depth:1≤e.Depth∧e.Depth≤100000
 prev:e.bY.length≤10∧Inc e.bY∧∀x∈e.bY,0≤x
 auth:e.dh.length≤8∧Inc e.dh∧∀x∈e.dh,0≤x
 short:e.bY=[]→e.Kind=1
 form:e.Kind=1→e.bY=[]∧e.dh=[]
 content:Gw e.Kind e.Content=some 0
 small:PW e
def aeS {l:List Int} (S:l.length≤9223372036854775807) (h:ay l=some true):Inc l∧∀x∈l,0≤x:=by
 unfold ay aCD at h
 have m:=firsts l S (fun i=>∀x,l[i]? =some x→0≤x∧∀y,0<i→l[i-1]? =some y→y<x) (fun k i hi f=>by
  have s:∀v,ah k (i:Int) v=some true→v=false∧k ((i+1:Nat):Int)=some true:=fun v u=>by
   unfold ah at u;cases v with
   |true=>cases u
   |false=>rw[BK,wrap_succ i AA]at u;exact⟨rfl,u⟩
  unfold zT at f;rw[D5 hi]at f;cases I:decide (l[i]<0)with
  |true=>rw[I,Ba]at f;cases(s _ f).1
  |false=>
   have U:=IK I;rw[I,BK]at f;cases z:decide ((i:Int)>0)with
   |false=>
    have Y:=IK z;rw[z,BK]at f;refine⟨fun x n=>?_,(s _ f).2⟩;rw[DX hi]at n;obtain rfl:=Bl n;exact⟨AA,fun y U J=>AA⟩
   |true=>
    rw[z,Ba,D9 hi,Aa,kX hi S z,Aa]at f;obtain⟨L,M⟩:=s _ f;refine⟨fun x n=>?_,M⟩;rw[DX hi]at n;obtain rfl:=Bl n;refine⟨AA,fun y U J=>?_⟩;rw[DX AA]at J;obtain rfl:=Bl J
    have :=IK L;omega) 0 h
 have q:∀i,(hi:i+1<l.length)→l[i]<l[i+1]:=fun i hi=>(m (i+1) AA hi _ (DX hi)).2 _ AA (DX AA);refine⟨?_,fun x n=>?_⟩
 ·rw[Inc,Jt];intro i j hi s O
  induction j with
  |zero=>omega
  |succ j Z=>
   have L:=q j s;rcases aBq (Nat.le_of_lt_succ O)with rfl|M
   ·exact L
   have :=Z AA M;omega
 obtain⟨i,hi,rfl⟩:=Gv n;exact(m i (Dx _) hi _ (DX hi)).1
def nJ {c:Bool} {X:Option Bool} {f:Bool→Option Int} {v:Int} (j:f true≠some v) (h:((bif c then some true else X).bind f)=some v):c=false∧X.bind f=some v:=by
 cases c with
 |true=>exact absurd h j
 |false=>exact⟨rfl,h⟩
def aqm {e:AO} (J:QF e) (h:iI e=some 0):dw e:=by
 unfold iI at h;obtain⟨x1,f,h⟩:=CZ h;obtain⟨e1,h⟩:=QA h;subst e1;obtain⟨x3,h3,h⟩:=CZ h;obtain rfl:=Bl h;have z:=at7 J.content h3
 have L:∀v,QN e v=some 0→v=false:=fun v hv=>by
  cases v with
  |true=>cases hv
  |false=>rfl
 have U:QN e false=some 0∧(1≤e.Kind∧e.Kind≤14)∧e.State=Gn e.Kind∧(e.Key=BL∨e.Kind=2∨e.Kind=9):=by
  unfold aDX at f;cases S:decide (e.Kind<1)with
  |true=>rw[S,Ba]at f;cases L _ f
  |false=>
   cases Y:decide (e.Kind>14)with
   |true=>rw[S,Y,BK,Ba]at f;cases L _ f
   |false=>
    rw[S,Y,BK,BK,agU,Aa]at f;have k1:=IK S;have k2:=IK Y;cases Z:(e.State==Gn e.Kind)with
    |false=>rw[Z,Jg,Ba]at f;cases L _ f
    |true=>
     rw[Z,EF,BK]at f;refine⟨?_,⟨AA,AA⟩,eq_of_beq Z,?_⟩
     all_goals cases c4:(e.Key.toList==BL.toList)with
     |true=>rw[c4,EF,BK]at f;first|exact f|exact .inl (toList_inj (eq_of_beq c4))
     |false=>
      rw[c4,Jg,Ba]at f;cases c5:(e.Kind != 2)with
      |false=>rw[c5,BK]at f;first|exact f|exact .inr (.inl (by simpa using c5))
      |true=>
       rw[c5,Ba]at f;have :=L _ f;rw[this]at f
       first|exact f|exact .inr (.inr (by simpa using this))
 clear f L;obtain⟨f,hk,hst,M⟩:=U;unfold QN at f;rw[BK,(nX (s:=e.Room) J.room).2,(Ve (s:=e.bg) J.sender).2,aIc J.key]at f;simp only[Aa]at f
 have m:F7 e.Room 33=true:=by
  cases I:F7 e.Room 33 with
  |true=>rfl
  |false=>unfold SC at f;rw[I]at f;cases f
 have r0:SC e.Room=0:=by unfold SC;rw[m];rfl
 rw[r0,lU,BK,Aa]at f
 have n:F7 e.bg 64=true:=by
  cases I:F7 e.bg 64 with
  |true=>rfl
  |false=>unfold Nw at f;rw[I]at f;cases f
 have u0:Nw e.bg=0:=by unfold Nw;rw[n];rfl
 rw[u0,lU,BK,Aa]at f
 have j:SI e.Kind e.Key=true:=by
  cases I:SI e.Kind e.Key with
  |true=>rfl
  |false=>rw[I]at f;cases f
 rw[j,EF,BK]at f;obtain⟨t1,f⟩:=nJ jX f;rw[Aa]at f;obtain⟨t2,f⟩:=nJ jX f;rw[Aa]at f;obtain⟨t3,f⟩:=nJ jX f;rw[Aa]at f;obtain⟨t4,f⟩:=Gu f BP;obtain⟨t5,f⟩:=nJ jX f;rw[Aa]at f;obtain⟨t6,f⟩:=Gu f BP;obtain⟨x21,h21,f⟩:=CZ f;obtain⟨t7,f⟩:=nJ jX f;rw[Option.bind_assoc]at f;obtain⟨x24,h24,f⟩:=CZ f;rw[Aa]at f;obtain⟨t8,f⟩:=Gu f BP;obtain⟨x26,O,f⟩:=CZ f;obtain⟨t9,f⟩:=Gu f BP;obtain⟨x29,u,f⟩:=CZ f;obtain⟨t10,_⟩:=Gu f BP;have e21:x21=true:=by simpa using t7
 have e24:x24=true:=by simpa using t8
 subst e21 e24 t9 t10;have p1:=IK t5;have p2:=IK t6;have r1:=aeS J.prev h21;have r2:=aeS J.auth h24;have d1:=IK t1;have d2:=IK t2;have d3:=IK t3;have d4:=IK t4
 have hkz:e.Key.size≤2000:=by
  rcases M with h|h|h
  ·rw[h];exact Dx _
  ·unfold SI at j;rw[CG h]at j;have :Nw e.Key=0:=NI
   unfold Nw at this;cases I:F7 e.Key 64 with
   |true=>have :=nS I;omega
   |false=>rw[I]at this;cases this
  unfold SI at j;rw[CV AA,CG h]at j;unfold eA at j;simp only[Bv,FI]at j;have :=j.1.2;omega
 have z1:=nS m;have z2:=nS n;refine⟨hk,hst,M,m,n,j,⟨AA,AA⟩,⟨AA,AA⟩,⟨AA,r1⟩,⟨AA,r2⟩,fun hp=>?_,fun hk1=>?_,h3,⟨?_,?_,z.allow,z.deny,z.users,z.kinds,?_,?_,hkz,z.text,z.via,Dx _,z.allows,z.denies,z.names⟩⟩
 ·rw[hp]at O;have :=Bl O;simpa using this
 ·rw[hk1]at u;have u:((bif decide ((e.bY.length:Int)>0)then some true else some (decide ((e.dh.length:Int)>0))).bind fun x31=>some x31)=some false:=u;cases q:decide ((e.bY.length:Int)>0)with
  |true=>rw[q]at u;cases u
  |false=>
   rw[q]at u;have q2:=Bl u;have :=IK q;have :=IK q2;exact⟨Fj AA,Fj AA⟩
 ·show e.bY.length≤40;omega
 ·show e.dh.length≤40;omega
 ·show e.Room.size≤2000;omega
 show e.bg.size≤2000;omega
def aHb {e:AO} (I:QF e):∃c,aA7 e=some c∧aCs e=some c∧(c=0→dw e∧H8 e):=by
 obtain⟨x,u,m⟩:=anR I;unfold aA7 aCs;rw[u,m,Aa,Aa];cases n:x != 0 with
 |true=>exact⟨x,rfl,rfl,fun h=>by subst h;cases n⟩
 |false=>
  obtain rfl:x=0:=NQ
  have J:=aqm I m;have f:=J.small;have z:e.bg.size≤2000:=f.sender;rw[BK,BK,(adu f).1,(adu f).2,acI _ f.content,aHh];simp only[Aa];rw[anP _ f.content,anS _ f.content];simp only[Aa]
  have key:∀v,∃c,Wu e v=some c∧jw e v=some c∧(c=0→dw e∧H8 e):=fun v=>by
   obtain⟨c,j,M⟩:=afp f v;refine⟨c,j,M,fun O=>⟨J,?_⟩⟩;subst O;unfold Wu at j;obtain⟨_,j⟩:=Gu j BP;rw[(aeG f).1,Aa]at j;obtain⟨_,j⟩:=Gu j BP;rw[(Rch (s:=e.bg) AA).1,Aa]at j;obtain⟨L,_⟩:=Gu (show(bif !((e.pX.Server.toList==(splitB e.bg (J7 e.bg)).2.1.toList)&&((e.pX.Sum==e.Id)&&true))then some 12 else some 0)=some (0:Int)from j) BP
   have S:e.pX.Server=(splitB e.bg (J7 e.bg)).2.1:=by
    cases q:(e.pX.Server.toList==(splitB e.bg (J7 e.bg)).2.1.toList)with
    |true=>exact toList_inj (eq_of_beq q)
    |false=>rw[q]at L;cases L
   have U:=(ao9 e.bg z).2.2;exact⟨f.prev,f.auth,f.allow,f.deny,f.users,f.kinds,f.room,f.sender,f.key,f.text,f.via,by rw[S];exact U,f.allows,f.denies,f.names⟩
  cases(!(iM e==e.Hash))with
  |true=>rw[Ba,Ba];exact key _
  |false=>rw[BK,BK];exact key _
def aGg {f g:(Int→Option Int)→Int→Option Int} (N lo:Nat) (s:∀k k' (i:Nat),lo≤i→i<N→Bh (k ((i+1:Nat):Int)) (k' ((i+1:Nat):Int))→Bh (f k (i:Int)) (g k' (i:Int))) (u:∀k k',Bh (f k (N:Int)) (g k' (N:Int))):
 ∀n (i:Nat),lo≤i→i+n=N→∀m h,n<m→n<h→Bh (bF f m (i:Int)) (bF g h (i:Int)):=by
 intro n
 induction n with
 |zero=>
  intro i j hi m h z I;obtain⟨m,rfl⟩:∃q,m=q+1:=⟨m-1,AA⟩
  obtain⟨h,rfl⟩:∃q,h=q+1:=⟨h-1,AA⟩
  have :i=N:=AA
  subst this;exact u _ _
 |succ n J=>
  intro i j hi m h z I;obtain⟨m,rfl⟩:∃q,m=q+1:=⟨m-1,AA⟩
  obtain⟨h,rfl⟩:∃q,h=q+1:=⟨h-1,AA⟩
  exact s _ _ i j AA (J (i+1) AA AA m h AA AA)
def lasts {R:Type} {body:(Int→Option R)→Int→Option R} {ok:R} (N:Nat) (M:N≤9223372036854775807) (P:Nat→Prop)
 (I:∀k (i:Nat),i<N→body k (i:Int)=some ok→P i∧k ((i+1:Nat):Int)=some ok) (f:Nat) (O:f≤N) (h:bF body Ar (f:Int)=some ok):(∀i,f≤i→i<N→P i)∧∃k,body k (N:Int)=some ok:=by
 have key:∀n (i:Nat) m,i+n=N→n<m→bF body m (i:Int)=some ok→(∀j,i≤j→j<N→P j)∧∃k,body k (N:Int)=some ok:=by
  intro n
  induction n with
  |zero=>
   intro i m hi J s;obtain⟨m,rfl⟩:∃u,m=u+1:=⟨m-1,AA⟩
   have :i=N:=AA
   subst this;exact⟨fun j q z=>AA,_,s⟩
  |succ n L=>
   intro i m hi J s;obtain⟨m,rfl⟩:∃u,m=u+1:=⟨m-1,AA⟩
   obtain⟨a,b⟩:=I (bF body m) i AA s;obtain⟨c,d⟩:=L (i+1) m AA AA b;refine⟨fun j q z=>?_,d⟩;rcases aBq q with rfl|q
   ·exact a
   exact c j q z
 have S:Ar=9223372036854775808:=rfl;exact key (N-f) f Ar AA AA h
def aI6 {α:Type} {l:List α} {i:Nat} (h:i+1<l.length) (f:l.length≤1000000):BF l (BD (((i+1:Nat):Int)-1))=some l[i]:=by
 rw[show BD (((i+1:Nat):Int)-1)=(i:Int) by rw[bf];omega,D9 AA]
def arE {l:List AO} (s:∀e∈l,QF e) (S:l.length≤1000):Bh (Om l) (aBZ l):=by
 by_cases n:l=[]
 ·subst n;exact⟨0,A8,A8⟩
 have f:0<l.length:=xO.2 n;have u:Ar=9223372036854775807+1:=rfl
 have z:Bh (vF l 1) (aCY l 1):=by
  unfold vF aCY;refine aGg l.length 1 (fun k k' i m hi h=>?_) (fun k k'=>?_) (l.length-1) 1 (Dn _) AA Ar Ar AA AA
  ·obtain⟨i,rfl⟩:∃j,i=j+1:=⟨i-1,AA⟩
   unfold rO aBA;rw[D5 hi,dec_lt hi,Ba,aI6 hi AA,Aa,Aa,D9 hi,Aa,wrap_succ (i+1) AA];show Bh (bif decide (l[i+1].Id≤l[i].Id)then some 8 else k _) (bif decide (l[i].Id≥l[i+1].Id)then some 8 else k' _);exact Bh.bif (fun _=>.ret _) fun _=>h
  unfold rO aBA;rw[EG];exact .ret _
 have q:BF l 0=some l[0]:=D9 (i:=0) f
 have I:Bh (jk l 0) (aBW l 1):=by
  have J:∀k,VN l k 0=k 1:=fun k=>by
   unfold VN;rw[show decide ((0:Int)<(l.length:Int))=true by simpa using f,Ba,q,Aa,Aa,Ws];rfl
  have L:jk l 0=bF (VN l) 9223372036854775807 1:=by
   unfold jk;rw[u];exact J _
  rw[L];unfold aBW;refine aGg l.length 1 (fun k k' i m hi h=>?_) (fun k k'=>?_) (l.length-1) 1 (Dn _) AA _ Ar AA AA
  ·unfold VN aDC;rw[D5 hi,D5 hi,q,Aa,Aa,wrap_succ i AA];exact Bh.bif (fun _=>.ret _) fun _=>h
  unfold VN aDC;rw[EG];exact z
 unfold Om aBZ;rw[HY (show ¬(l.length:Int)>2000 by omega),BK,BK];unfold aEC aaz;refine aGg l.length 0 (fun k k' i _ hi h=>?_) (fun k k'=>?_) l.length 0 (Dn _) AA Ar Ar AA AA
 ·unfold gy aDN;obtain⟨c,M,O,_⟩:=aHb (s _ (EU hi));rw[D5 hi,D5 hi,M,O,Aa,Aa,wrap_succ i AA];exact Bh.bif (fun _=>.ret _) fun _=>h
 unfold gy aDN;rw[EG];exact I
structure cV (l:List AO):Prop where
 ev:∀e∈l,dw e∧H8 e
 room:∀x∈l,∀y∈l,x.Room=y.Room
 inc:Inc (l.map (·.Id))
def aoT {f:Nat→Int}:∀(n i j:Nat),(∀k,i≤k→k<j→f k<f (k+1))→i+n=j→0<n→f i<f j:=by
 intro n
 induction n with
 |zero=>intro i j _ _ h;omega
 |succ n s=>
  intro i j h m _;rcases Xr n with q|q
  ·subst q;rw[←m];exact h i (Dn _) AA
  have a:=h i (Dn _) AA;have b:=s (i+1) j (fun k z u=>h k AA u) AA q;omega
def akh {l:List AO} (U:∀e∈l,QF e) (hl:l.length≤1000) (h:Om l=some 0):cV l:=by
 unfold Om at h;rw[HY (show ¬(l.length:Int)>2000 by omega),BK]at h;unfold aEC at h
 obtain⟨Y,k1,h⟩:=lasts l.length AA (fun i=>∀x,l[i]? =some x→dw x∧H8 x) (fun k i hi m=>by
  unfold gy at m;obtain⟨c,Z,_,c3⟩:=aHb (U _ (EU hi));rw[D5 hi,Z,Aa,wrap_succ i AA]at m;obtain⟨e,m⟩:=QA m
  exact⟨fun x n=>by rw[DX hi]at n;obtain rfl:=Bl n;exact c3 e,m⟩) 0 (Dx _) h
 unfold gy at h;rw[EG,BK]at h;unfold jk at h
 obtain⟨p2,k2,h⟩:=lasts l.length AA (fun i=>∀x y,l[i]? =some x→l[0]? =some y→x.Room=y.Room) (fun k i hi m=>by
  unfold VN at m;have g0:BF l 0=some l[0]:=D9 (i:=0) AA;rw[D5 hi,g0,Aa,wrap_succ i AA]at m;obtain⟨e,m⟩:=Gu m BP;refine⟨fun x y n s=>?_,m⟩;rw[DX hi]at n;rw[DX AA]at s;obtain rfl:=Bl n;obtain rfl:=Bl s
  exact toList_inj SY) 0 (Dx _) h
 unfold VN at h;rw[EG,BK]at h;refine⟨jW Y,fun x n y s=>?_,?_⟩
 ·have key:∀x∈l,∀y,l[0]? =some y→x.Room=y.Room:=jW fun i hi I x n y s=>p2 i hi I x y n s;have h0:0<l.length:=List.length_pos_of_mem n;have M:l[0]? =some l[0]:=DX h0;rw[key x n _ M,key y s _ M]
 by_cases O:l=[]
 ·subst O;exact .nil
 have u:0<l.length:=xO.2 O;unfold vF at h
 obtain⟨p3,_⟩:=lasts l.length AA (fun i=>∀j x y,i=j+1→l[i]? =some x→l[j]? =some y→y.Id<x.Id) (fun k i hi m=>by
  unfold rO at m;rw[D5 hi]at m;obtain⟨z,S,m⟩:=CZ m;obtain⟨e,m⟩:=Gu m BP;rw[wrap_succ i AA]at m;refine⟨fun j x y J n s=>?_,m⟩;subst J;rw[aI6 hi AA]at S;rw[DX hi]at n;rw[DX AA]at s;obtain rfl:=Bl n;obtain rfl:=Bl s;obtain rfl:=Bl S
  have :=IK e;omega) 1 u h
 rw[Inc,List.pairwise_map,Jt];intro i j hi J hij
 have :=aoT (f:=fun q=>(l.getD q FK).Id) (j-i) i j (fun k h1 h2=>by
  have L:k+1<l.length:=AA
  have :=p3 (k+1) AA L k l[k+1] l[k] rfl (DX L) (DX AA)
  simpa[List.getD,DX L,DX (show k<l.length by omega)]using this) AA AA
 simpa[List.getD,DX hi,DX J]using this
def cV.ok {l:List AO} (h:cV l) (j:l.length≤100):MC l:=⟨j,fun e f=>(h.ev e f).2,YO h.inc,fun e f=>(h.ev e f).1.depth⟩
def ahl {l:List AO} (f:∀e∈l,QF e) (n:l.length≤100):∃c,Om l=some c∧aBZ l=some c∧(c=0→cV l):=by
 obtain⟨c,j,m⟩:=arE f AA;exact⟨c,j,m,fun h=>akh f AA (by rw[j,h])⟩
def aHm :lZ=some true:=A8
def WC (t:List Di) (x:Int):List Ak×Int:=match Eo t x with
 |some y=>(y.before,bif y.err != 0 then 2 else 4)
 |none=>([],0)
def eF (t:List Di) (x:Int):Int:=match Eo t x with
 |some y=>y.err
 |none=>5
section
variable {l : List AO} {c : Int}
def aiE (m:Om l=some c) (h:c=0→MC l) (id:Int):XH l id=some (WC (L6 l c) id):=by
 unfold XH;refine gW.eq ((run_eq l m h).bind fun o n=>?_);rcases n with⟨f,rfl⟩|⟨f,_,T,rfl,j⟩
 ·rw[f];exact .ret rfl
 rw[f];simp only[Pn];unfold XI oV WC;rw[j.r,j.b];cases Eo (FP l) id with
 |none=>exact .ret rfl
 |some y=>
  show gW ((bif y.err != 0 then some 2 else some 4).bind fun q=>some (y.before,q)) (fun r=>r=(y.before,bif y.err != 0 then 2 else 4));cases y.err != 0<;>exact .ret rfl
def ak8 (m:Om l=some c) (h:c=0→MC l) (id:Int):Yv l id=some (KO (L6 l c) id):=by
 unfold Yv;refine gW.eq ((run_eq l m h).bind fun o n=>?_);rcases n with⟨f,rfl⟩|⟨f,_,T,rfl,j⟩
 ·rw[f];exact .ret rfl
 rw[f];simp only[Pn];unfold XI KO;rw[j.r,j.a];cases Eo (FP l) id<;>exact .ret rfl
def aq4 (j:Om l=some c) (h:c=0→MC l) (id:Int):XV l id=some (eF (L6 l c) id):=by
 unfold XV;refine gW.eq ((run_eq l j h).bind fun o m=>?_);rcases m with⟨f,rfl⟩|⟨f,_,T,rfl,n⟩
 ·rw[f];exact .ret rfl
 rw[f];simp only[Pn];unfold XI eF;rw[n.r];cases Eo (FP l) id<;>exact .ret rfl
end
def ar2 {l:List AO} {t:List Di} (h:Jj l t) {x:Int} {y:Di} (f:Eo t x=some y):G8 l y.before∧G8 l y.after:=h y (PO f)
def am1 {l:List AO} {X:Option Bool} (h:l.length≤14→X=some true):((wY l).bind fun f=>(bif (!f)then(lZ).bind fun j=>some j else X))=some true:=by
 unfold wY;rw[aHm,Aa];by_cases m:l.length≤14
 ·rw[I4 (show(l.length:Int)≤14 by omega)];exact h m
 rw[HY (show ¬(l.length:Int)≤14 by omega)];rfl
def abv (x:Int):(x != x)=false:=lU x
def aCS {l:List AO} (j:cV l) (U:l.length≤14) (m:∀id,XV l id=some (eF (FP l) id)) {s:List Ak} (f:G8 l s) (ha:MZ (FP l) s):Qv l s=some true:=by
 have n:=f.length;unfold Qv acg;refine gW.eq (ae7 s.length (fuel_lt AA) (fun i=>True) trivial (fun i k hi _ q=>?_) fun k _=>?_)
 ·unfold aE6 WO;obtain⟨u,k2,z,I⟩:=f.named _ (EU hi);obtain⟨y,J,L⟩:=YJ.1 (ha _ (EU hi));obtain⟨h,M⟩:=N8 u;have hst:=(j.ev _ (Ll h)).1.state;rw[D5 hi,amZ l _ AA,Aa];have O:IB l s[i].Id=(ev l s[i].Id,true):=by unfold ev IB;rw[h]
  have S:eF (FP l) s[i].Id=0:=by unfold eF;rw[J];exact L
  rw[O];simp only[D9 hi,Aa,hst,z,k2,I,M,m,S,EF,BK,abv,Ws,wrap_succ i (show i<9223372036854775807 by omega)];exact q trivial
 unfold aE6;rw[EG];exact .ret rfl
def aDA (l:List AO):Qv l []=some true:=rfl
def aib {l:List AO} (hw:∀e∈l,QF e):uz l=some true:=by
 unfold uz;refine am1 fun O=>?_;obtain⟨c,J,c2,c3⟩:=ahl hw AA;have j:c=0→MC l:=fun S=>(c3 S).ok AA;have hA:=aiE J j;have hB:=ak8 J j;have q:=aq4 J j;have hC:=alv J j
 have s:(∀x∈l,Qv l (WC (L6 l c) x.Id).1=some true∧Qv l (KO (L6 l c) x.Id)=some true∧((WC (L6 l c) x.Id).2=4→((ak l (WC (L6 l c) x.Id).1).bind fun U=>VO x U)=some 0))∧Qv l (Xd l (L6 l c))=some true:=by
  have f:=ama j;unfold L6 at q f ⊢;cases m:(c==0&&MK l==0)with
  |false=>
   rw[BK,aF1];exact⟨fun x _=>⟨aDA l,aDA l,fun h=>absurd (show(0:Int)=4 from h) BP⟩,aDA l⟩
  |true=>
   rw[m,Ba]at f;simp only[m,Ba]at q;rw[Bv]at m;rw[Ba];have Y:=c3 (eq_of_beq m.1);have n:=j (eq_of_beq m.1);have hd:MK l=0:=eq_of_beq m.2;have ht:=aeI n hd;refine⟨fun x Z=>?_,aCS Y O q f (KL.current n hd)⟩;obtain⟨y,L⟩:=acW (vU.2 (FM.2 ⟨x,Z,rfl⟩));have hm:=PO L;obtain⟨p1,p2⟩:=ar2 (tY n) L;have q1:=p1.length;unfold WC KO;rw[L];refine⟨aCS Y O q p1 (ht.st y hm).1,aCS Y O q p2 (ht.st y hm).2,fun M=>?_⟩
   have S:y.err=0:=by
    cases he:y.err != 0 with
    |true=>simp only[he,Ba]at M;exact absurd M BP
    |false=>simpa using he
   have h5:=asC y hm S;rw[aHw L,aan n.nodup Z]at h5;have h2:=aCt l y.before;rw[aJq l y.before AA AA,Aa,wI x (Lc l y.before) AA (aef n.small _) (n.small x Z),h5]
 obtain⟨key,u⟩:=s;unfold aID;refine gW.eq (ae7 l.length (fuel_lt AA) (fun i=>True) trivial (fun i k hi _ I=>?_) fun k _=>?_)
 ·unfold aDV qF;obtain⟨k1,k2,k3⟩:=key l[i] (EU hi);rw[D5 hi,hA,Aa,k1,Aa,D9 hi,Aa,hB,Aa,k2];have I:=I trivial;rw[←wrap_succ i AA]at I;cases M:(WC (L6 l c) l[i].Id).2==4 with
  |false=>
   simp only[EF,BK,Aa];exact I
  |true=>
   obtain⟨z,z1,z2⟩:=CZ (k3 (eq_of_beq M));simp only[EF,BK,Ba,Aa,z1,z2,abv];exact I
 unfold aDV;rw[EG,BK,hC,Aa,u,aHm];exact .ret rfl
end Go.Proofs.YtolgdkhlelfpoaaGreat
end
