/- Part 6 of the laws' proofs (short forms by wip/shrink2.py). -/
import Derived.Test.YteiakhlfaaifnaaGreatTb5
set_option linter.defProp false
set_option linter.unnecessarySimpa false
set_option linter.unusedSectionVars false
set_option linter.unusedVariables false
set_option linter.unusedSimpArgs false
namespace Go.Proofs.YteiakhlfaaifnaaGreat
open Go.RowKit Go.Proofs.Tryz
def aP6 (l:AA Int)(h:l.length<=1099511627776):((O8 l).bind λx=>(UY x).bind λy=>some y)=some (FN l):=by
 unfold O8 UY;have h2:(Rf l).length<=1099511627776:=by rw[(X6 l).length_eq];exact h
 simp[h,a6M,a8e]
def aNL (s:AA BN):s.foldl (λr x=>r++[x.Id]) []=Vr s:=by
 rw[foldl_append (λx:BN=>[x.Id])];unfold Vr;rw[Ij]
 induction s with
 |nil=>rfl
 |cons x s j=>rw[MJ,j];rfl
def aZ3 (l:AA Ad)(s:AA BN)(hl:l.length<=1000)(ha:RS l)(hs:s.length<=100):a5Y l s=some (Hd l s):=by
 unfold a5Y
 have hm:J4 8 (0:Int) 0 (s.length:Int)=some []:=by
  unfold J4;rw[Dw a4p];rfl
 rw[hm];simp only[Af];unfold aTy;rw[Ig s AL (λr x=>r++[x.Id]) (λi r=>r.length<=i) (λr=>(bJ l r).bind λI=>(CZ 8 r I).bind λJ=>(O8 J).bind λj=>(UY j).bind λq=>some q) Bf]
 ·have h1:=dN l (Vr s);have h2:=aH1 s;rw[aNL,aHK l _ hl ha AL];simp only[Af];rw[Dz AL];simp only[Af];rw[aP6 _ MO];unfold Hd;rw[a0K]
 ·intro k a i h L;refine⟨aBC,?_⟩;unfold aHM;rw[Ce h,Dz Gm];rfl
 intro k a L;unfold aHM;rw[EX]
def aZQ (l:AA Ad)(s:AA BN)(hl:l.length<=1000)(ha:RS l)(hs:s.length<=100):a7Q l s=some (Hd l s):=by
 unfold a7Q aQN;rw[Ig s AL (λr x=>r++[x.Id]) (λi r=>r.length<=i) (λr=>(jG l r).bind λj=>(Yt r j).bind λq=>some q) Bf]
 ·have h1:=dN l (Vr s);have h2:=aH1 s;rw[aNL,aGf l _ hl ha AL];simp only[Af];rw[aBk _ _ AL AL];rfl
 ·intro k a i h I;refine⟨aBC,?_⟩;unfold aJu;rw[dec_lt h,CX h];simp only[Bd,Af];rw[Dz Gm];rfl
 intro k a I;unfold aJu;rw[DY];rfl
def stepM (m:AA (Int×Int))(x:Int):AA (Int×Int):=FU m x (Ar (((DT m x).getD 0)+1))
structure Np (m:List (Int×Int)) (f:Int->Nat):Prop where
 nodup:(m.map (·.1)).Nodup
 find:∀x,DT m x=if f x=0 then none else some (f x:Int)
variable {k v:Int}{m:AA (Int×Int)}
def aiQ {y:Int}:y∈(FU m k v).map (·.1)↔y=k\/y∈m.map (·.1):=by
 induction m with
 |nil=>simp[FU]
 |cons p m j=>
  unfold FU;cases h:k==p.1 with
  |true=>
   have h1:k=p.1:=LZ
   simp only[Bd,JE,G7];rw[h1];simp
  |false=>
   simp only[BO,JE,G7,j];exact⟨λh=>h.elim (λe=>.inr (.inl e)) λh=>h.elim .inl λh=>.inr (.inr h),λh=>h.elim (λe=>.inr (.inl e)) λh=>h.elim .inl λh=>.inr (.inr h)⟩
def acH (h:(m.map (·.1)).Nodup):((FU m k v).map (·.1)).Nodup:=by
 induction m with
 |nil=>simp[FU]
 |cons p m q=>
  have h':=RX.1 h;unfold FU;cases j:k==p.1 with
  |true=>
   have h1:k=p.1:=WW
   simp only[Bd,JE];rw[h1];exact h
  |false=>
   have h1:k≠p.1:=WW
   simp only[BO,JE];refine RX.2 ⟨λhm=>?_,q h'.2⟩;rcases aiQ.1 hm with e|hm
   ·exact h1 e.symm
   exact h'.1 hm
def akW (m:AA (Int×Int))(k v:Int):(FU m k v).length<=m.length+1:=by
 induction m with
 |nil=>simp[FU]
 |cons p m j=>
  unfold FU;cases k==p.1 with
  |true=>simp
  |false=>simp only[BO,H8];omega
variable {f:Int->Nat}
def Np.step (h:Np m f)(x:Int)(I:f x<=1000000):Np (stepM m x) (λy=>f y+if y=x then 1 else 0):=by
 refine⟨acH h.nodup,λy=>?_⟩;unfold stepM;rw[UJ,h.find x]
 have e:Ar (((if f x=0 then none else some (f x:Int)).getD 0)+1)=((f x+1:Nat):Int):=by
  by_cases j:f x=0
  ·rw[Dw j,j];rfl
  rw[EC j];show Ar ((f x:Int)+1)=_;exact wrap_succ _ AL
 by_cases q:y=x
 ·subst q;simp only[SE,Bd,Jy];rw[e,EC AL]
 have :(y==x)=false:=WU
 rw[this];simp only[BO,EC q,QI];exact h.find y
def Np.fold:∀(c:AA Int) {m:AA (Int×Int)} {f:Int->Nat},c.Nodup->Np m f->(∀x,f x<=1000)->Np (c.foldl stepM m) (λy=>f y+if y∈c then 1 else 0)
 | [],m,f,_,h,_=>by
   refine⟨h.nodup,λx=>?_⟩;simp only[List.foldl_nil,H9,Ky,QI];exact h.find x
 |x::c,m,f,q,h,M=>by
  have j:=RX.1 q
  have key:∀(c:AA Int) (m:AA (Int×Int)) (g:Int->Nat),c.Nodup->Np m g->(∀x∈c,g x<=1000)->Np (c.foldl stepM m) (λy=>g y+if y∈c then 1 else 0):=by
   intro c
   induction c with
   |nil=>intro m g _ h _;refine⟨h.nodup,λx=>?_⟩;simp only[List.foldl_nil,H9,Ky,QI];exact h.find x
   |cons z c O=>
    intro m g q h J;have j:=RX.1 q
    have h1:=O (stepM m z) (λy=>g y+if y=z then 1 else 0) j.2 (h.step z (by have :=J z (Iu ..);omega)) λy L=>by
     have I:y≠z:=λe=>j.1 (e▸L);simp only[EC I,QI];exact J y (JX _ L)
    refine⟨h1.nodup,λy=>?_⟩;rw[Hy,h1.find y]
    have :(g y+if y=z then 1 else 0)+(if y∈c then 1 else 0)=g y+if y∈z::c then 1 else 0:=by
     by_cases e:y=z
     ·subst e;simp[j.1]
     simp[e]
    simp only[this]
  exact key (x::c) m f q h λy _=>M y
def aCE :∀(c:AA Int) (m:AA (Int×Int)),(c.foldl stepM m).length<=m.length+c.length
 | [],m=>Bf
 |x::c,m=>by
  have h1:=aCE c (stepM m x);have h2:=akW m x (Ar (((DT m x).getD 0)+1));rw[Hy,H8];unfold stepM at h1 ⊢;omega
variable {l:AA Int}
def bK (h:Inc l):l.Nodup:=h.imp λh=>AL
variable {n:Int}
def Np.mem (h:Np m f){x:Int}:(x,n)∈m↔f x≠0/\n=f x:=by
 have key:∀m:AA (Int×Int),(m.map (·.1)).Nodup->((x,n)∈m↔DT m x=some n):=by
  intro m
  induction m with
  |nil=>intro _;simp[DT]
  |cons p m J=>
   intro L;have j:=RX.1 L;unfold DT;rw[G7];cases I:x==p.1 with
   |true=>
    have h1:x=p.1:=Q9
    simp only[Bd,Nw];constructor
    ·rintro(e|hm)
     ·rw[←e]
     exact absurd (GH.2 ⟨_,hm,h1⟩) j.1
    intro e;left;rw[h1,←e]
   |false=>
    have h1:x≠p.1:=Q9
    simp only[BO];rw[←J j.2];exact⟨λh=>h.elim (λe=>absurd (by rw[←e]) h1) id,.inr⟩
 rw[key m h.nodup,h.find x];by_cases q:f x=0
 ·simp[q]
 rw[EC q];simp only[Nw,ne_eq,q,not_false_eq_true,true_and];exact eq_comm
def aOq (h:l.Nodup):Rf l=FN l:=by
 refine FD ?_ (NR l) λx=>by rw[OJ];exact(X6 l).mem_iff
 have h1:=a5y l;have h2:(Rf l).Nodup:=(X6 l).nodup_iff.2 h;exact(h1.and h2).imp λh=>AL
def aGC (n:Int):∀(m:AA (Int×Int)) (r:AA Int) (bF:AA (AA BN)),(bF.length:Int)=n->r.length+m.length<=1000000->List.foldlM (XM bF) r m=some (r++(m.filter λp=>p.2<n).map (·.1))
 | [],r,bF,_,_=>Bf
 |p::m,r,bF,hs,q=>by
  simp only[H8]at q;have e:XM bF r p=(cond (p.2<n) ((CZ 8 r [p.1]).bind λj=>some j) (some r)):=by unfold XM;rw[hs]
  rw[W9,e];cases hd:decide (p.2<n)with
  |true=>
   simp only[Bd];rw[Dz Gm];simp only[Af];show List.foldlM (XM bF) (r++[p.1]) m=_;rw[aGC n m (r++[p.1]) bF hs Ri,V5,Dw hd];simp
  |false=>
   simp only[BO];show List.foldlM (XM bF) r m=_;rw[aGC n m r bF hs AL,V5,EC (by simp[hd])]
def aOF (l:AA Ad)(bF:AA (AA BN))(x:Int):LP l bF x<=bF.length:=List.countP_le_length
def Np.of_eq {g:Int->Nat}(h:Np m f)(e:∀x,f x=g x):Np m g:=⟨h.nodup,λx=>by rw[h.find,e]⟩
def apg (l:AA Ad)(bF:AA (AA BN))(hl:l.length<=1000)(ha:RS l)(hs:PK bF):xO l bF=some (Uy l bF):=by
 unfold xO aXu;have hsl:=hs.len;rw[a2K (a0:=[]) bF AL (λm s=>(Hd l s).foldl stepM m) (λi m=>Np m (LP l (bF.take i))/\m.length<=1100*i) (λv2=>(J4 8 (0:Int) 0 (v2.length:Int)).bind λL=>(List.foldlM (XM bF) L v2).bind lg) ⟨⟨iZ,λx=>rfl⟩,F6 _⟩]
 ·obtain⟨J,hlen⟩:Np (bF.foldl (λm s=>(Hd l s).foldl stepM m) []) (LP l bF)/\(bF.foldl (λm s=>(Hd l s).foldl stepM m) []).length<=1100*bF.length:=by
   have key:∀(b a:AA (AA BN)) (m:AA (Int×Int)),(∀s∈b,s.length<=100)->a.length+b.length<=100->Np m (LP l a)->m.length<=1100*a.length->Np (b.foldl (λm s=>(Hd l s).foldl stepM m) m) (LP l (a++b))/\(b.foldl (λm s=>(Hd l s).foldl stepM m) m).length<=1100*(a.length+b.length):=by
    intro b
    induction b with
    |nil=>intro a m _ _ h1 h2;simpa using⟨h1,h2⟩
    |cons s b ih=>
     intro a m hb M h1 h2;rw[Hy,List.append_cons];have hc:=a2E l s;have q:=hb s (Iu ..);have h3:=aCE (Hd l s) m;simp only[H8]at M ⊢;have :=ih (a++[s]) ((Hd l s).foldl stepM m) (λt ht=>hb t (JX _ ht)) Ri ?_ Ri
     ·simpa[UZ,Vy 1]using this
     refine(Np.fold (Hd l s) (bK (aUT l s)) h1 λx=>by have :=aOF l a x;omega).of_eq λx=>?_;unfold LP;rw[List.countP_append,List.countP_singleton];by_cases I:x∈Hd l s
     ·rw[Dw I,Dw (Me.2 I)]
     rw[EC I,EC (by rw[QV.2 I];simp)]
   have :=key bF [] [] (λs h=>(hs.each s h).1) (by simpa using hs.len) ⟨iZ,λx=>rfl⟩ (F6 _);simpa using this
  generalize bF.foldl (λm s=>(Hd l s).foldl stepM m) []=m at J hlen
  have hm:J4 8 (0:Int) 0 (m.length:Int)=some []:=by
   unfold J4;rw[Dw a4p];rfl
  rw[hm];simp only[Af];rw[aGC (bF.length:Int) m [] bF rfl Uk];simp only[Af,Ij];have O:((m.filter λp=>p.2<(bF.length:Int)).map (·.1)).Nodup:=J.nodup.sublist (V8.map _);have hle:((m.filter λp=>p.2<(bF.length:Int)).map (·.1)).length<=m.length:=by rw[DK];exact I9 _ _
  unfold lg O8;rw[Dw AL];simp only[Af];congr 1;rw[aOq O];refine FD (NR _) (anG _ _) λx=>?_;rw[OJ,GH];unfold Uy;rw[He,afq];constructor
  ·rintro⟨⟨y,n⟩,hp,rfl⟩;rw[He]at hp;obtain⟨h1,h2⟩:=J.mem.1 hp.1;have h3:n<(bF.length:Int):=by simpa using hp.2
   subst h2;refine⟨?_,Eh⟩;have :0<LP l bF y:=AL
   obtain⟨s,U,Y⟩:=List.countP_pos_iff.1 this;exact⟨s,U,Me.1 Y⟩
  rintro⟨⟨s,h1,h2⟩,h3⟩;have h4:0<LP l bF x:=List.countP_pos_iff.2 ⟨s,h1,Me.2 h2⟩;refine⟨(x,(LP l bF x:Int)),He.2 ⟨J.mem.2 ⟨AL,rfl⟩,?_⟩,rfl⟩;have h5:LP l bF x<bF.length:=Wy
  simp;omega
 ·intro k m i h Z;have hc:=a2E l bF[i];have q:=(hs.each bF[i] (Eu h)).1;refine⟨⟨?_,?_⟩,?_⟩
  ·refine(Np.fold (Hd l bF[i]) (bK (aUT l bF[i])) Z.1 λx=>by have :=aOF l (bF.take i) x;rw[HY]at this;omega).of_eq λx=>?_;rw[SI h];unfold LP;rw[List.countP_append,List.countP_singleton];by_cases I:x∈Hd l bF[i]
   ·rw[Dw I,Dw (Me.2 I)]
   rw[EC I,EC (by rw[QV.2 I];simp)]
  ·have :=aCE (Hd l bF[i]) m;have :=Z.2;omega
  unfold a7D;rw[Ce h,aZ3 l _ hl ha q];simp only[Af];unfold aNz;rw[a2K (Hd l bF[i]) AL stepM (λ_ _=>True) (λv8=>k (Ar ((i:Int)+1)) v8) trivial]
  ·intro k2 a j hj _;refine⟨trivial,?_⟩;unfold a9m;rw[Ce hj];rfl
  intro k2 a _;unfold a9m;rw[EX]
 intro k m Z;unfold a7D;rw[EX]
variable {A B α:Type}
def aiJ {R:Type}{body:(A->B->Int->AB R)->A->B->Int->AB R}(l:AA α)(hl:l.length<=1099511627776)(f:A->B->α->A)(g:A->B->α->B)(I:Nat->A->B->Prop)(j:A->B->AB R){Q:R->Prop}{a0:A}{q:B}(J:I 0 a0 q)(L:∀k a b (i:Nat) (h:i<l.length),I i a b->I (i+1) (f a b l[i]) (g a b l[i])/\body k a b (i:Int)=k (f a b l[i]) (g a b l[i]) (Ar ((i:Int)+1)))(M:∀k a b,I l.length a b->body k a b (l.length:Int)=j a b)(O:∀a b,I l.length a b->dQ (j a b) Q):dQ (iM body Aw a0 q 0) Q:=by
 refine Ux (body:=body) (Q:=Q) (λm a b c=>∃i:Nat,c=i/\i+m=l.length/\I i a b) ?_ Aw l.length a0 q 0 (fuel_lt hl) ⟨0,rfl,AL,J⟩;rintro m a b c k ⟨i,rfl,hm,hi⟩ U;by_cases e:i<l.length
 ·obtain⟨h1,h2⟩:=L k a b i e hi;rw[h2,wrap_succ i AL];exact U (m-1) _ _ _ AL ⟨i+1,rfl,AL,h1⟩
 have :i=l.length:=AL
 subst this;rw[M _ _ _ hi];exact O a b hi
def aFk (x:Int):∀(cs:AA (AA Int)) (n:Nat),n+cs.length<=1000000->cs.foldl (λ(n:Int) c=>bif Dv c x then Ar (n+1)else n) (n:Int)=((n+cs.countP (λc=>Dv c x):Nat):Int)
 | [],n,_=>Bf
 |c::cs,n,h=>by
  rw[H8]at h;rw[Hy,List.countP_cons];cases j:Dv c x with
  |true=>
   simp only[Bd,Jy];rw[wrap_succ n AL,aFk x cs (n+1) AL];congr 1;omega
  |false=>
   simp only[BO,Ru,Ky,QI];exact aFk x cs n AL
def aoN (l:AA Ad)(bF:AA (AA BN))(hl:l.length<=1000)(ha:RS l)(hs:PK bF):a9p l bF=some (Uy l bF):=by
 refine dQ.eq ?_;unfold a9p aVw;have hsl:=hs.len
 have J:∀i,(allOf l (bF.take i)).length<=1100*i:=by
  intro i;have h1:=a7B l (bF.take i) [] λs h=>(hs.each s (rH h)).1;rw[HY,La]at h1;have h2:min i bF.length*(100+l.length)<=i*1100:=yI (aId _ _) AL;unfold allOf;omega
 refine aiJ bF AL (λa _ s=>a++[Hd l s]) (λ_ b s=>J3 b (Hd l s)) (λi a b=>a=(bF.take i).map (Hd l)/\b=allOf l (bF.take i)) (λa b=>aFx b a [] 0) ⟨rfl,rfl⟩ ?_ ?_ ?_
 ·rintro k a b i h ⟨rfl,rfl⟩;have U:=a2E l bF[i];have q:=(hs.each bF[i] (Eu h)).1;have I:bF.take (i+1)=bF.take i++[bF[i]]:=SI h;refine⟨⟨by rw[I,Jh];rfl,by rw[I];unfold allOf;rw[X5];rfl⟩,?_⟩;unfold aEB;rw[dec_lt h,CX h];simp only[Bd,Af];rw[aZQ l _ hl ha q];simp only[Af];rw[Dz (by simp only[DK,HY,Oh];omega)];simp only[Af];have :=J i;rw[aBk _ _ AL AL];rfl
 ·rintro k a b ⟨rfl,rfl⟩;unfold aEB;rw[DY];rfl
 rintro a b ⟨rfl,rfl⟩;rw[Ho];refine dQ.of ?_;have Y:=J bF.length;rw[Ho]at Y;unfold aFx;rw[Ig (allOf l bF) AL (λr x=>bif LP l bF x<bF.length then r++[x]else r) (λi r=>r.length<=i) (λr=>some r) (Eo _)]
 ·congr 1;unfold Uy
  have key:∀(S r:AA Int),S.foldl (λr x=>bif LP l bF x<bF.length then r++[x]else r) r=r++S.filter (λx=>LP l bF x<bF.length):=by
   intro S
   induction S with
   |nil=>intro r;simp
   |cons x S Z=>
    intro r;rw[Hy,Z,V5];cases decide (LP l bF x<bF.length)<;>simp
  simpa using key (allOf l bF) []
 ·intro k r i h hI;refine⟨?_,?_⟩
  ·cases decide (LP l bF (allOf l bF)[i]<bF.length)with
   |false=>show r.length<=i+1;omega
   |true=>show(r++[(allOf l bF)[i]]).length<=i+1;simp;omega
  unfold aLC;rw[dec_lt h];simp only[Bd];unfold aXZ
  rw[Ig (bF.map (Hd l)) RF (λ(n:Int) c=>bif Dv c (allOf l bF)[i]then Ar (n+1)else n) (λ_ _=>True)
   (λn=>bif n<((bF.map (Hd l)).length:Int) then k (r++[(allOf l bF)[i]]) (Ar ((i:Int)+1))else k r (Ar ((i:Int)+1))) trivial]
  ·have L:=aFk (allOf l bF)[i] (bF.map (Hd l)) 0 RF;rw[show((0:Nat):Int)=0 from rfl]at L;rw[L,List.countP_map,DK,KW]
   have e:decide (((bF.countP ((λc=>Dv c (allOf l bF)[i])∘Hd l):Nat):Int)<(bF.length:Int))=decide (LP l bF (allOf l bF)[i]<bF.length):=by
    unfold LP;rw[zB];exact Int.ofNat_lt
   rw[e];cases decide (LP l bF (allOf l bF)[i]<bF.length)<;>rfl
  ·intro k2 n j M _;refine⟨trivial,?_⟩;have O:j<bF.length:=by rw[DK]at M;exact M
   have U:=a2E l bF[j];have q:=(hs.each bF[j] (Eu O)).1;unfold aFg;rw[dec_lt M,CX M,CX h];simp only[Bd,Af];rw[Qj _ _ (by rw[Pn];omega)];simp only[Af];cases Dv (bF.map (Hd l))[j] (allOf l bF)[i]<;>rfl
  intro k2 n _;unfold aFg;rw[DY];simp only[BO];rw[CX h];simp only[Af];rw[Dz Gm];cases decide (n<((bF.map (Hd l)).length:Int))<;>rfl
 intro k r _;unfold aLC;rw[DY];rfl
def ab1 (l:AA Ad)(bF:AA (AA BN))(hl:l.length<=1000)(ha:RS l)(hs:PK bF):a6e l bF=some (N9 l bF):=by
 have h1:=a3z hs;have h2:=ML (UE bF);have h3:=aX4 hs hl;unfold a6e;rw[aW5 bF hs,apg l bF hl ha hs];simp only[Af];rw[Dz AL];simp only[Af];rw[aP6 _ MO];unfold N9;rw[a0K]
def aYp (l:AA Ad)(bF:AA (AA BN))(hl:l.length<=1000)(ha:RS l)(hs:PK bF):a2S l bF=some (N9 l bF):=by
 have h1:=a3z hs;have h2:=ML (UE bF);have h3:=aX4 hs hl;unfold a2S;rw[aNt bF hs,aoN l bF hl ha hs];simp only[Af];rw[aBk _ _ AL AL];rfl
def EZ (l:AA Ad):Prop:=∀e∈l,Fp e
variable {l:AA Ad}
def EZ.apk (h:EZ l):RS l:=λe j=>(h e j).auth
def aKb {R:Type}{body:(A->Int->AB R)->A->Int->AB R}(l:AA α)(hl:l.length<Aw)(p:α->Ac)(g:Nat->AB R)(rest:AB R)(a0:A)(I:∀k (i:Nat) (h:i<l.length),body k a0 (i:Int)=bif p l[i]then g i else k a0 (Ar ((i:Int)+1)))(J:∀k,body k a0 (l.length:Int)=rest):
 aS body Aw a0 0=if l.findIdx p<l.length then g (l.findIdx p)else rest:=by
 have M:Aw=9223372036854775808:=rfl
 have key:∀n (i:Nat),i+n=l.length->∀m,n<m->aS body m a0 (i:Int)=if(l.drop i).findIdx p+i<l.length then g ((l.drop i).findIdx p+i)else rest:=by
  intro n
  induction n with
  |zero=>
   intro i hi m hm;obtain⟨m,rfl⟩:∃q,m=q+1:=⟨m-1,AL⟩
   have :i=l.length:=AL
   subst this;show body (aS body m) _ _=_;rw[J,PU,EC Bf]
  |succ n L=>
   intro i hi m hm;obtain⟨m,rfl⟩:∃q,m=q+1:=⟨m-1,AL⟩
   have j:i<l.length:=AL
   show body (aS body m) _ _=_;rw[I _ i j,wrap_succ i AL,L (i+1) AL m AL,Ns j,WE];cases p l[i]with
   |true=>
    grind
   |false=>
    simp only[BO];rw[show(l.drop (i+1)).findIdx p+(i+1)=(l.drop (i+1)).findIdx p+1+i by omega]
 grind
variable {key:BH}{s:AA BN}
def Wn {id:Int}{x:BN}(h:x∈Gu s k key id):x=⟨k,key,id⟩\/x∈s:=by
 unfold Gu at h
 grind
def zL (s:AA BN):Prop:=∀x∈s,x.Id=0
def gJ (h:zL s):zL (Gu s k key 0):=λx j=>by
 rcases Wn j with rfl|j
 ·rfl
 exact h x j
def a1M (l:AA BN)(k:Int)(key:BH)(j:Int):AB BX:=
 (cond (j<(l.length:Int)) ((Aq l j).bind λq=>some (q.Kind==k)) (some false)).bind λI=>(cond I ((Aq l j).bind λJ=>some (J.Key.toList==key.toList)) (some false)).bind λL=>(cond L (some l) ((Gx l 0 j).bind λM=>(CZ 32 [] M).bind λO=>(CZ 32 O [(⟨k,key,0⟩:BN)]).bind λU=>(Gx l j ((l).length)).bind λY=>(CZ 32 U Y).bind λZ=>some Z))
def a1u (s:AA BN)(k:Int)(key:BH)(hs:s.length<=1000000)(I:zL s):XR s k key=some (Gu s k key 0):=by
 unfold XR aUh
 have j:a1M s k key ((Fj s ⟨k,key,0⟩:Nat):Int)=some (Gu s k key 0):=by
  have hp:=a01 s ⟨k,key,0⟩;unfold a1M Gu
  have q:((Gx s 0 ((Fj s ⟨k,key,0⟩:Nat):Int)).bind λJ=>(CZ 32 [] J).bind λL=>(CZ 32 L [(⟨k,key,0⟩:BN)]).bind λM=>(Gx s ((Fj s ⟨k,key,0⟩:Nat):Int) ((s).length)).bind λO=>(CZ 32 M O).bind λU=>some U)=some (s.take (Fj s ⟨k,key,0⟩)++⟨k,key,0⟩::s.drop (Fj s ⟨k,key,0⟩)):=by
   rw[a0w hp];simp only[Af];rw[Dz Eh];simp only[Af,Ij];rw[Dz Eh];simp only[Af];rw[WC hp];simp only[Af];rw[Dz Eh];simp
  rw[q];by_cases hl:Fj s ⟨k,key,0⟩<s.length
  ·rw[dec_lt hl,CX hl];simp only[Bd,Af]
   have Y:LQ s ⟨k,key,0⟩=(s[Fj s ⟨k,key,0⟩].Kind==k&&(s[Fj s ⟨k,key,0⟩].Key=key)):=by
    unfold LQ;rw[EJ hl];rfl
   rw[Y,JC];cases hk:s[Fj s ⟨k,key,0⟩].Kind==k with
   |false=>rfl
   |true=>
    simp only[Bd,Af,Gf];cases hd:decide (s[Fj s ⟨k,key,0⟩].Key=key)with
    |true=>
     simp only[Bd];have h1:s[Fj s ⟨k,key,0⟩].Kind=k:=aUe
     have h2:s[Fj s ⟨k,key,0⟩].Key=key:=by simpa using hd
     have h3:=I _ (Eu hl)
     have h4:(⟨k,key,0⟩:BN)=s[Fj s ⟨k,key,0⟩]:=by
      have :∀(y:BN),y.Kind=k->y.Key=key->y.Id=0->(⟨k,key,0⟩:BN)=y:=λy a b c=>by cases y;simp only at a b c;rw[a,b,c]
      exact this _ h1 h2 h3
     congr 1
     conv=>rhs;arg 2;arg 1;rw[h4]
     rw[←Ns hl,YC]
    |false=>rfl
  have I:Fj s ⟨k,key,0⟩=s.length:=AL
  have Y:LQ s ⟨k,key,0⟩=false:=by unfold LQ;rw[I,Lu (Eo _)]
  rw[Y,I,DY];rfl
 rw[JG s (fuel_lt AL) (λx=> !GU x ⟨k,key,0⟩) (λi=>a1M s k key (i:Int)) (a1M s k key (s.length:Int))]
 ·split
  ·exact j
  rename_i h;have I:Fj s ⟨k,key,0⟩=s.length:=aSY
  rw[I]at j;exact j
 ·intro k2 i h;unfold aDA
  have e:(cond ((i:Int)<(s.length:Int)) ((Aq s (i:Int)).bind λx5=>(cond (x5.Kind<k) (some true) ((Aq s (i:Int)).bind λx8=>(cond (x8.Kind==k) ((Aq s (i:Int)).bind λZ=>some (Op.bytesLess (Z.Key.toList) (key.toList))) (some false)).bind λx9=>some x9)).bind λx6=>some x6) (some false))=some (GU s[i] ⟨k,key,0⟩):=by
   rw[dec_lt h,CX h];simp only[Bd,Af];unfold GU;cases decide (s[i].Kind<k)<;>cases s[i].Kind==k<;>rfl
  rw[e];simp only[Af];cases GU s[i] ⟨k,key,0⟩<;>rfl
 intro k2;unfold aDA;rw[DY];simp only[BO,Af];unfold a1M;rw[DY];rfl
def NZ (e:Ad):AA BN:=Gu (Gu (Gu [] 1 CS 0) 3 CS 0) 2 e.bG 0
def keysOf (e:Ad):AA BN:=
 bif e.Kind==1 then[]else bif e.Kind==2 then(cond (e.Content.N==3||e.Content.N==1||e.Content.N==2) (Gu (Gu (NZ e) 2 e.Key 0) 4 CS 0) (Gu (NZ e) 2 e.Key 0))else NZ e
def aH7 (e:Ad):(NZ e).length<=3:=by
 have h1:=Qi [] 1 CS 0;have h2:=Qi (Gu [] 1 CS 0) 3 CS 0;have h3:=Qi (Gu (Gu [] 1 CS 0) 3 CS 0) 2 e.bG 0;unfold NZ;simp only[La]at h1;omega
def aWU (e:Ad):zL (NZ e):=gJ (gJ (gJ λx j=>absurd j H9))
def Y2 (e:Ad):(keysOf e).length<=5:=by
 have h1:=aH7 e;have h2:=Qi (NZ e) 2 e.Key 0;have h3:=Qi (Gu (NZ e) 2 e.Key 0) 4 CS 0;unfold keysOf
 grind
def aLQ (e:Ad):xQ e=some (keysOf e):=by
 have h1:=aH7 e;have h2:=Qi (NZ e) 2 e.Key 0;have j:=Qi [] 1 CS 0;have q:=Qi (Gu [] 1 CS 0) 3 CS 0;simp only[La]at j;unfold xQ keysOf;rw[Zn [] 1 CS 0 Bf];simp only[Af];rw[Zn _ 3 CS 0 AL];simp only[Af];rw[Zn _ 2 e.bG 0 AL];simp only[Af];show(cond (e.Kind==1) (some []) (cond (e.Kind==2) ((Tv (NZ e) 2 e.Key 0).bind _) (ni (NZ e))))=_;rw[Zn (NZ e) 2 e.Key 0 AL];simp only[Af];rw[Zn _ 4 CS 0 AL];unfold ni;cases e.Kind==1<;>cases e.Kind==2<;>cases e.Content.N==3<;>cases e.Content.N==1<;>cases e.Content.N==2<;>rfl
def aFi (e:Ad):pK e=some (keysOf e):=by
 have h1:=aH7 e;have h2:=Qi (NZ e) 2 e.Key 0;have q:=Qi [] 1 CS 0;have J:=Qi (Gu [] 1 CS 0) 3 CS 0;have z0:zL []:=λx I=>absurd I H9;simp only[La]at q;unfold pK keysOf;rw[a1u [] 1 CS Bf z0];simp only[Af];rw[a1u _ 3 CS AL (gJ z0)];simp only[Af];rw[a1u _ 2 e.bG AL (gJ (gJ z0))];simp only[Af];show(cond (e.Kind==1) (some []) (cond (e.Kind != 2) (some (NZ e)) ((XR (NZ e) 2 e.Key).bind _)))=_;rw[a1u (NZ e) 2 e.Key AL (aWU e)];simp only[Af];rw[a1u _ 4 CS AL (gJ (aWU e))];unfold aBX;have j:(e.Kind != 2)= !(e.Kind==2):=rfl;rw[j];cases e.Kind==1<;>cases e.Kind==2<;>cases e.Content.N==3<;>cases e.Content.N==1<;>cases e.Content.N==2<;>rfl
def Fb (k:BN)(x:Ad):Ac:=x.Kind==k.Kind&&(x.Key=k.Key)
def Xd (l:AA Ad)(e:Ad):AA Ad:=(keysOf e).flatMap λk=>((ofIds l e.bQ).find? (Fb k)).toList
def flat_length {α β:Type}{f:α->AA β}{n:Nat}(h:∀x,(f x).length<=n):∀l:AA α,(l.flatMap f).length<=n*l.length
 | []=>Bf
 |x::l=>by
  have h1:=h x;have h2:=flat_length h l;rw[MJ,Em,H8,Nat.mul_succ];omega
def a7L (l:AA Ad)(e:Ad):(Xd l e).length<=5:=by
 have h1:=flat_length (f:=λk=>((ofIds l e.bQ).find? (Fb k)).toList) (n:=1) (λk=>toList_le _) (keysOf e);have h2:=Y2 e;unfold Xd;omega
def aIq {ids:AA Int}{x:Ad}(h:x∈ofIds l ids):x∈l:=by
 obtain⟨i,_,h⟩:=iT.1 h;exact PN h
variable {e:Ad}
def aiE {x:Ad}(h:x∈Xd l e):x∈l:=by
 obtain⟨k,_,h⟩:=XQ.1 h;have :(ofIds l e.bQ).find? (Fb k)=some x:=LZ
 exact aIq (YD this)
def KN (x:BN):RN:=⟨x.Kind,x.Key⟩
def aUc (e:Ad):sB e=some ((keysOf e).map KN):=by
 unfold sB;rw[aLQ];simp only[Af];have j:=Y2 e;unfold aMn;rw[Ig (keysOf e) AL (λr x=>r++[KN x]) (λi r=>r.length<=i) (λr=>some r) (Eo _)]
 ·rw[foldl_append (λx=>[KN x]),Ij];congr 1
  induction keysOf e with
  |nil=>
   rfl
  |cons x s q=>
   grind
 ·intro k r i h I;refine⟨aBC,?_⟩;unfold aEc;rw[Ce h,Dz Gm];rfl
 intro k r _;unfold aEc;rw[EX]
def aS2 (l:AA Ad)(p:Ad->Ac):∀ids:AA Int,(ofIds l ids).find? p=(ids.find? λi=>match Ea l i with |some x=>p x|none=>false).bind (Ea l)
 | []=>
  rfl
 |i::ids=>by
  have j:=aS2 l p ids;unfold ofIds at j ⊢
  grind
def aXe (l:AA Ad)(e:Ad)(hl:l.length<=1000)(L:e.bQ.length<=40):vk l e=some (Xd l e):=by
 unfold vk;rw[aUc];simp only[Af];have M:=Y2 e;unfold aRR;rw[Ig (a0:=[]) ((keysOf e).map KN) RF (λr k=>r++((ofIds l e.bQ).find? λx=>x.Kind==k.abB&&(x.Key=k.abC)).toList) (λi r=>r.length<=i) (λr=>some r) (Eo _)]
 ·congr 1;rw[foldl_append (λk:RN=>((ofIds l e.bQ).find? λx=>x.Kind==k.abB&&(x.Key=k.abC)).toList),Ij,aFE];rfl
 ·intro k r i h O;have U:=toList_le ((ofIds l e.bQ).find? λx=>x.Kind==((keysOf e).map KN)[i].abB&&(x.Key=((keysOf e).map KN)[i].abC));refine⟨MO,?_⟩;have hi:i<5:=by rw[DK]at h;omega
  unfold aDP;rw[Ce h];generalize((keysOf e).map KN)[i]=K;unfold aR4
  rw[aKb e.bQ (fuel_lt AL) (λid=>match Ea l id with |some x=>x.Kind==K.abB&&(x.Key=K.abC)|none=>false)
   (λj=>vO k (i:Int) (r++(match e.bQ[j]? with |some id=>(Ea l id).toList|none=>[]))) (vO k (i:Int) r)]
  ·rw[aS2,Jz];by_cases q:e.bQ.findIdx (λid=>match Ea l id with |some x=>x.Kind==K.abB&&(x.Key=K.abC)|none=>false)<e.bQ.length
   ·rw[Dw q,EJ q];rfl
   rw[EC q,Lu AL];simp only[aAR,Option.toList_none,MH];rfl
  ·intro k2 j I;unfold aK2;rw[Ce I,Ld l _ AL,EJ I];simp only[Af];cases J:Ea l e.bQ[j]with
   |none=>rw[U1 J];rfl
   |some x=>
    rw[Ll J];simp only[Bd,Td];unfold Y0;rw[JC];rw[Dz Gm];cases x.Kind==K.abB<;>cases decide (x.Key=K.abC)<;>rfl
  intro k2;unfold aK2;rw[EX]
 intro k r _;unfold aDP;rw[EX]
def aWL (l:AA Ad)(e:Ad)(hl:l.length<=1000)(he:e.bQ.length<=40):a0q l e=some (Xd l e):=by
 unfold a0q;rw[aFi,a8y l _ hl AL];simp only[Af];have hk:=Y2 e;have U:=gV l e.bQ;unfold aR3;rw[Ig (a0:=[]) (keysOf e) AL (λr k=>r++((ofIds l e.bQ).find? (Fb k)).toList) (λi r=>r.length<=i) (λr=>some r) (Eo _)]
 ·rw[foldl_append (λk:BN=>((ofIds l e.bQ).find? (Fb k)).toList),Ij];rfl
 ·intro k r i h hI;have Y:=toList_le ((ofIds l e.bQ).find? (Fb (keysOf e)[i]));refine⟨MO,?_⟩;have hi:i<5:=AL
  unfold aG4;rw[dec_lt h];simp only[Bd];generalize ofIds l e.bQ=O at U Y;unfold aNu
  have I:∀m (a:AA Ad) (j:Int),0<m->iM (Rz O (keysOf e) (i:Int) k) m a true j=k a (Ar ((i:Int)+1)):=by
   intro m a j hm;obtain⟨m,rfl⟩:∃L,m=L+1:=⟨m-1,AL⟩
   show Rz O (keysOf e) (i:Int) k (iM (Rz O (keysOf e) (i:Int) k) m) a true j=_;unfold Rz
   grind
  have key:∀n (j:Nat),j+n=O.length->∀m,n+1<m->iM (Rz O (keysOf e) (i:Int) k) m r false (j:Int)=k (r++((O.drop j).find? (Fb (keysOf e)[i])).toList) (Ar ((i:Int)+1)):=by
   intro n
   induction n with
   |zero=>
    intro j Z m hm;obtain⟨m,rfl⟩:∃L,m=L+1:=⟨m-1,AL⟩
    have :j=O.length:=AL
    subst this;show Rz O (keysOf e) (i:Int) k (iM (Rz O (keysOf e) (i:Int) k) m) r false _=_;unfold Rz;rw[DY,PU];simp
   |succ n ih=>
    intro j Z m hm;obtain⟨m,rfl⟩:∃L,m=L+1:=⟨m-1,AL⟩
    have J:j<O.length:=AL
    have M:=ih (j+1) AL m AL;show Rz O (keysOf e) (i:Int) k (iM (Rz O (keysOf e) (i:Int) k) m) r false _=_;have q:=I m;generalize iM (Rz O (keysOf e) (i:Int) k) m=K at M q;unfold Rz aAC a92;rw[dec_lt J,CX J,CX h];simp only[Bd,JV,Af];rw[JC,wrap_succ j AL,Ns J,zU,M];rw[Dz Gm];simp only[Af];rw[q _ _ AL];unfold Fb;cases O[j].Kind==(keysOf e)[i].Kind<;>cases decide (O[j].Key=(keysOf e)[i].Key)<;>rfl
  have :=key O.length 0 AL Aw qc;exact this
 intro k r _;unfold aG4;rw[DY];rfl
def Xx (c:BH):Ci:=bif !(c.toList==CS.toList)then{ Xm with Users:=[⟨c,100⟩] }else Xm
def dL (l:AA Ad):BH:=match l.find? λx=>x.Kind==1 with |some x=>x.bG|none=>CS
def Fe (l:AA Ad):Ci:=match l.find? λx=>x.Kind==3 with |some x=>x.Content.Levels|none=>Xx (dL l)
def aaP (c:BH):a0J c=some (Xx c):=by
 unfold a0J Xx a3f
 grind
def agM (c:BH):aBy c=some (Xx c):=by
 unfold aBy Xx aAM;cases c.toList==CS.toList<;>rfl
def aTt (l:AA Ad)(k:Int)(hl:l.length<=1000):zA l k=some (if l.findIdx (λe=>e.Kind==k)<l.length then((l.findIdx (λe=>e.Kind==k):Nat):Int)else -1):=by
 unfold zA;rw[aEZ l AL (λa0=>a9q a0 k) (λe=>e.Kind==k) λ_=>rfl];rfl
def a8Y (l:AA Ad)(hl:l.length<=1000)(hs:EZ l):jV l=some (Fe l,dL l):=by
 have q:∀c,og l c=some (match l.find? λx=>x.Kind==3 with |some x=>x.Content.Levels|none=>Xx c,c):=by
  intro c;unfold og;rw[aTt l 3 hl,Jz];simp only[Af];by_cases h:l.findIdx (λe=>e.Kind==3)<l.length
  ·rw[Dw h,show decide (((l.findIdx (λe=>e.Kind==3):Nat):Int)>=0)=true by simp,CX h,EJ h];simp only[Bd,Af];have I:=hs _ (Eu h);have h1:=I.users;have h2:=I.kinds;unfold a3o a7l;rw[Dz Uk,Dz Uk];rfl
  rw[EC h,Lu AL,aaP];rfl
 unfold jV;rw[aTt l 1 hl];simp only[Af];by_cases h:l.findIdx (λe=>e.Kind==1)<l.length
 ·have j:dL l=l[l.findIdx (λe=>e.Kind==1)].bG:=by unfold dL;rw[Jz,EJ h]
  rw[Dw h,show decide (((l.findIdx (λe=>e.Kind==1):Nat):Int)>=0)=true by simp,CX h];simp only[Bd,Af];rw[q,←j];rfl
 have j:dL l=CS:=by unfold dL;rw[Jz,Lu AL]
 rw[EC h];show og l CS=_;rw[q,←j];rfl
def a6D (l:AA Ad)(hl:l.length<=1000):jg l=some (Fe l,dL l):=by
 have L:∀c,a7Z l c 0 LD=some (match l.find? λx=>x.Kind==3 with |some x=>x.Content.Levels|none=>Xx c,c):=by
  intro c;unfold a7Z
  have Y:∀{R:Type} {body:(Int->Ci->AB R)->Int->Ci->AB R} (p:Ad->Ac) (g:Nat->AB R) (rest:AB R) (a0:Ci)
   (hb:∀k (i:Nat) (h:i<l.length),body k (i:Int) a0=bif p l[i]then g i else k (Ar ((i:Int)+1)) a0) (he:∀k,body k (l.length:Int) a0=rest),
   aS body Aw 0 a0=if l.findIdx p<l.length then g (l.findIdx p)else rest:=by
   intro R body p g rest a0 hb he;have hf:Aw=9223372036854775808:=rfl
   have key:∀n (i:Nat),i+n=l.length->∀m,n<m->aS body m (i:Int) a0=if(l.drop i).findIdx p+i<l.length then g ((l.drop i).findIdx p+i)else rest:=by
    intro n
    induction n with
    |zero=>
     intro i hi m hm;obtain⟨m,rfl⟩:∃J,m=J+1:=⟨m-1,AL⟩
     have :i=l.length:=AL
     subst this;show body (aS body m) _ _=_;rw[he,PU,EC Bf]
    |succ n Z=>
     intro i hi m hm;obtain⟨m,rfl⟩:∃J,m=J+1:=⟨m-1,AL⟩
     have q:i<l.length:=AL
     show body (aS body m) _ _=_;rw[hb _ i q,wrap_succ i AL,Z (i+1) AL m AL,Ns q,WE];cases p l[i]with
     |true=>simp only[Bd,KW];rw[Dw q]
     |false=>
      simp only[BO];rw[show(l.drop (i+1)).findIdx p+(i+1)=(l.drop (i+1)).findIdx p+1+i by omega]
   have :=key l.length 0 AL Aw AL;simpa using this
  rw[Y (λx=>x.Kind==3) (λi=>some ((match l[i]? with |some x=>x.Content.Levels|none=>LD),c)) (some (Xx c,c))]
  ·rw[Jz];by_cases h:l.findIdx (λe=>e.Kind==3)<l.length
   ·rw[Dw h,EJ h]
   rw[EC h,Lu AL]
  ·intro k i h;unfold aCI;rw[Ce h,CX h,EJ h];rfl
  intro k;unfold aCI;rw[EX,agM];rfl
 unfold jg aWj;obtain⟨F,U⟩:∃F:BH->AB (Ci×BH),∀c,a7Z l c 0 LD=F c:=⟨_,λ_=>rfl⟩
 simp only[U]at L
 have M:∀m (c:BH) (j:Int),0<m->iM (S9 l) m c true j=F c:=by
  intro m c j hm;obtain⟨m,rfl⟩:∃J,m=J+1:=⟨m-1,AL⟩
  show S9 l (iM (S9 l) m) c true j=_;unfold S9;simp only[U];cases decide (j<(l.length:Int))<;>rfl
 have key:∀n (j:Nat),j+n=l.length->∀m,n+1<m->iM (S9 l) m CS false (j:Int)=F (match(l.drop j).find? λx=>x.Kind==1 with |some x=>x.bG|none=>CS):=by
  intro n
  induction n with
  |zero=>
   intro j hj m hm;obtain⟨m,rfl⟩:∃J,m=J+1:=⟨m-1,AL⟩
   have :j=l.length:=AL
   subst this;show S9 l (iM (S9 l) m) CS false _=_;unfold S9;simp only[U];rw[DY,PU];rfl
  |succ n Z=>
   intro j hj m hm;obtain⟨m,rfl⟩:∃J,m=J+1:=⟨m-1,AL⟩
   have q:j<l.length:=AL
   have O:=Z (j+1) AL m AL;show S9 l (iM (S9 l) m) CS false _=_;have I:=M m;generalize iM (S9 l) m=K at O I;unfold S9 aA1;simp only[U];rw[dec_lt q,CX q];simp only[Bd,JV,Af];rw[wrap_succ j AL,Ns q,zU,O,I _ _ AL];cases l[j].Kind==1<;>rfl
 have :=key l.length 0 AL Aw qc;rw[show((0:Nat):Int)=0 from rfl]at this;rw[this,L];rfl
def Ey (v:Ci)(u:BH):Int:=match v.Users.find? λx=>decide (x.User=u)with |some x=>x.N|none=>v.User
def ZN (v:Ci)(u:BH)(h:v.Users.length<=1000):SA v u=some (Ey v u):=by
 unfold SA aNw Ey;rw[JG v.Users (fuel_lt AL) (λx=>x.User=u) (λi=>some (match v.Users[i]? with |some x=>x.N|none=>0)) (some v.User)]
 ·rw[Jz]
  grind
 ·intro k i h;unfold aIp;rw[Ce h,JC,EJ h]
 intro k;unfold aIp;rw[EX]
def XJ (v:Ci)(u:BH)(h:v.Users.length<=1000):Rl v u=some (Ey v u):=by
 unfold Rl aSc Ey;rw[JG v.Users (fuel_lt AL) (λx=>x.User=u) (λi=>some (match v.Users[i]? with |some x=>x.N|none=>0)) (some v.User)]
 ·rw[Jz]
  grind
 ·intro k i h;unfold aHT;rw[Ce h,JC,EJ h,CX h];rfl
 intro k;unfold aHT;rw[EX]
def sV (h:EZ l):(Fe l).Users.length<=100/\(Fe l).Kinds.length<=100:=by
 unfold Fe;cases j:l.find? λx=>x.Kind==3 with
 |some x=>
  have :=h x (YD j);exact⟨this.users,this.kinds⟩
 |none=>
  simp only;unfold Xx;cases(dL l).toList==CS.toList with
  |true=>
   show Xm.Users.length<=100/\Xm.Kinds.length<=100;exact⟨Ba,Ba⟩
  |false=>
   show 1<=100/\Xm.Kinds.length<=100;exact⟨Ba,Ba⟩
def aKD (l:AA Ad)(e:Ad):Int:=Ey (Fe (Xd l e)) e.bG
def EZ.from (h:EZ l)(e:Ad):EZ (Xd l e):=λx j=>h x (aiE j)
def akr (l:AA Ad)(e:Ad)(hl:l.length<=1000)(hs:EZ l)(j:e.bQ.length<=40):a4g l e=some (aKD l e):=by
 have h1:=a7L l e;have h2:=(sV (hs.from e)).1;unfold a4g;rw[aXe l e hl j];simp only[Af];rw[a8Y _ AL (hs.from e)];simp only[Af];rw[ZN _ _ AL];rfl
def aU6 (l:AA Ad)(e:Ad)(hl:l.length<=1000)(hs:EZ l)(j:e.bQ.length<=40):zS l e=some (aKD l e):=by
 have h1:=a7L l e;have h2:=(sV (hs.from e)).1;unfold zS;rw[aWL l e hl j];simp only[Af];rw[a6D _ AL];simp only[Af];rw[XJ _ _ AL];rfl
def UG (e:Ad):Ac:=bif e.Kind==2 then(e.Content.N==0||e.Content.N==4)&& !(decide (e.Key=e.bG))else e.Kind==3||e.Kind==4
def ani (e:Ad):aAT e=some (UG e):=by
 unfold aAT aAv UG;rw[JC];by_cases h2:e.Kind=2
 ·simp[h2]
  grind
 grind
def aeM (e:Ad):a9J e=some (UG e):=by
 unfold a9J UG;rw[JC]
 grind
def aUK (l:AA Int)(x:Int)(h:l.length<=1099511627776):uo l x=some (if l.findIdx (· ==x)<l.length then((l.findIdx (· ==x):Nat):Int)else -1):=by
 unfold uo aLR;rw[JG l (fuel_lt h) (· ==x) (λi=>some (i:Int)) (some (-1))]
 ·split<;>rfl
 ·intro k i hi;unfold aJ2;rw[Ce hi]
  grind
 intro k;unfold aJ2;rw[EX]
def aXa (l:AA Int)(x:Int):decide (l.findIdx (· ==x)<l.length)=Dv l x:=by
 rw[TU,Me,Ik,xE]
 grind
def VX (l:AA Int)(x:Int)(h:l.length<=1099511627776):V7 l x=some (Dv l x):=by
 unfold V7;rw[aUK l x h,←aXa];by_cases hl:l.findIdx (· ==x)<l.length
 ·rw[Dw hl,L8 hl];simp
 rw[EC hl,Iq hl];rfl
def aF2 (l:AA Int)(x:Int)(h:l.length<=1099511627776):dW l x=some (Dv l x):=by
 unfold dW;rw[VX l x h];rfl
def ev (l:AA Ad)(id:Int):Ad:=(Fv l id).1
def aP (l:AA Ad)(id:Int):Ac:=dR l id&&UG (ev l id)
def SP (l:AA Ad)(full:AA Int):AA Int:=full.filter (aP l)
def Zf (l:AA Ad)(full:AA Int):AA Int:=FN (SP l full++full.filter (Dv (chainOf l (SP l full))))
def aJO {full:AA Int}{x:Int}:x∈Zf l full↔x∈full/\(aP l x=true\/P7 l (SP l full) x):=by
 unfold Zf;rw[OJ,KG,He,Me,aEJ];unfold SP
 grind
def aSl (l:AA Ad)(full:AA Int):Inc (Zf l full):=NR _
def aFy (p:Int->Ac):∀(S r:AA Int),S.foldl (λr x=>bif p x then r++[x]else r) r=r++S.filter p
 | [],r=>Bf
 |x::S,r=>by
  rw[Hy,aFy p S,V5];cases p x<;>simp
def ahz (l:AA Ad)(full:AA Int)(hl:l.length<=1000)(hs:EZ l)(L:full.length<=120000)(j:(SP l full).length<=100000):aAL l full=some (Zf l full):=by
 unfold aAL aUE;rw[Ig (a0:=[]) full AL (λr x=>bif aP l x then r++[x]else r) (λi r=>r.length<=i) (λr=>(bJ l r).bind λq=>aCN full q r 0) (Eo _)]
 ·have J:full.foldl (λr x=>bif aP l x then r++[x]else r) []=SP l full:=by rw[aFy];rfl
  have M:=dN l (SP l full);rw[J,aHK l _ hl hs.apk j];simp only[Af];unfold aCN;rw[Ig full AL (λr x=>bif Dv (chainOf l (SP l full)) x then r++[x]else r) (λi r=>r.length<=(SP l full).length+i) (λr=>some (FN r)) (Eo _)]
  ·rw[aFy];rfl
  ·intro k r i h I;refine⟨?_,?_⟩
   ·cases Dv (chainOf l (SP l full)) full[i]with
    |false=>
     grind
    |true=>
     show(r++[full[i]]).length<=(SP l full).length+(i+1);simp;omega
   unfold aHl aAq;rw[Ce h,aF2 _ _ AL];simp only[Af];rw[Dz Gm]
   grind
  intro k r I;unfold aHl;rw[EX,mV _ AL];rfl
 ·intro k r i h I;refine⟨?_,?_⟩
  ·cases aP l full[i]with
   |false=>
    grind
   |true=>
    show(r++[full[i]]).length<=i+1;simp;omega
  unfold aKZ aB6;rw[Ce h,Ld l _ AL];simp only[Af];rw[Dz Gm];unfold aP dR ev;rw[ani,NT];cases(Ea l full[i]).isSome<;>cases UG (Fv l full[i]).1<;>rfl
 intro k r _;unfold aKZ;rw[EX]
def P7.aNq {ids:AA Int}{i x:Int}(hi:i∈ids)(h:P7 l [i] x):P7 l ids x:=by
 induction h with
 |one h j q=>rw[QC.1 h]at j;exact .one hi j q
 |more h j q I=>exact .more I j q
def P7.split {ids:AA Int}{x:Int}:P7 l ids x↔∃i∈ids,P7 l [i] x:=by
 constructor
 ·intro h
  induction h with
  |one h j q=>exact⟨_,h,.one (QC.2 rfl) j q⟩
  |more h j q I=>obtain⟨i,h1,h2⟩:=I;exact⟨i,h1,.more h2 j q⟩
 rintro⟨i,h1,h2⟩;exact .aNq h1 h2
def P7.dR {ids:AA Int}{x:Int}(h:P7 l ids x):dR l x=true:=by cases h<;>assumption
def iD (h r:AA Int)(y:Int):AA Int:=bif Dv h y then put r y else r
def a5b (h:AA Int):∀(c r:AA Int),Inc r->Inc (c.foldl (iD h) r)/\∀x,x∈c.foldl (iD h) r↔x∈r\/x∈c/\x∈h
 | [],r,j=>⟨j,λx=>Bf⟩
 |y::c,r,j=>by
  rw[Hy];unfold iD;cases I:Dv h y with
  |true=>
   obtain⟨h1,h2⟩:=a5b h c (put r y) (Tf j);refine⟨h1,λx=>(h2 x).trans ?_⟩;rw[YP,G7];constructor
   ·rintro((h3|rfl)|h3)
    ·exact .inl h3
    ·exact .inr ⟨.inl rfl,Me.1 I⟩
    exact .inr ⟨.inr h3.1,h3.2⟩
   rintro(h3|⟨rfl|h3,q⟩)
   ·exact .inl (.inl h3)
   ·exact .inl (.inr rfl)
   exact .inr ⟨h3,q⟩
  |false=>
   obtain⟨h1,h2⟩:=a5b h c r j;refine⟨h1,λx=>(h2 x).trans ⟨λh3=>h3.imp id λh3=>⟨JX _ h3.1,h3.2⟩,λh3=>h3.imp id λh3=>⟨?_,h3.2⟩⟩⟩;rcases G7.1 h3.1 with rfl|q
   ·exact absurd h3.2 (QV.1 I)
   exact q
def kF (l:AA Ad)(h r:AA Int)(x:Int):AA Int:=bif UG (ev l x)then(chainOf l [x]).foldl (iD h) (put r x)else r
def aI4 (l:AA Ad)(h:AA Int):∀(c r:AA Int),Inc r->Inc (c.foldl (kF l h) r)/\∀x,x∈c.foldl (kF l h) r↔x∈r\/∃i∈c,UG (ev l i)=true/\(x=i\/P7 l [i] x/\x∈h)
 | [],r,I=>⟨I,λx=>Bf⟩
 |y::c,r,I=>by
  rw[Hy];unfold kF;cases J:UG (ev l y)with
  |true=>
   obtain⟨L,M⟩:=a5b h (chainOf l [y]) (put r y) (Tf I);obtain⟨h1,h2⟩:=aI4 l h c _ L;refine⟨h1,λx=>(h2 x).trans ?_⟩;rw[M x,YP,aEJ];constructor
   ·rintro(((h3|rfl)|h3)|⟨i,h3,q⟩)
    ·exact .inl h3
    ·exact .inr ⟨x,Iu ..,J,.inl rfl⟩
    ·exact .inr ⟨y,Iu ..,J,.inr h3⟩
    exact .inr ⟨i,JX _ h3,q⟩
   rintro(h3|⟨i,h3,q,j⟩)
   ·exact .inl (.inl (.inl h3))
   rcases G7.1 h3 with rfl|h3
   ·rcases j with rfl|j
    ·exact .inl (.inl (.inr rfl))
    exact .inl (.inr j)
   exact .inr ⟨i,h3,q,j⟩
  |false=>
   obtain⟨h1,h2⟩:=aI4 l h c r I;refine⟨h1,λx=>(h2 x).trans ⟨λh3=>h3.imp id λ⟨i,q,j⟩=>⟨i,JX _ q,j⟩,λh3=>h3.imp id λ⟨i,q,j,O⟩=>⟨i,?_,j,O⟩⟩⟩;rcases G7.1 q with rfl|q
   ·rw[J]at j;cases j
   exact q
def ag1 (l:AA Ad)(full:AA Int):(FX l full).foldl (kF l (FX l full)) []=Zf l full:=by
 obtain⟨h1,h2⟩:=aI4 l (FX l full) (FX l full) [] .nil;refine FD h1 (aSl _ _) λx=>(h2 x).trans ?_;rw[aJO,Le,P7.split];unfold SP aP;constructor
 ·rintro(h3|⟨i,h3,j,q⟩)
  ·grind
  have I:=Le.1 h3
  grind
 rintro⟨h3,j|⟨i,j,q⟩⟩
 ·rw[Dx]at j;exact .inr ⟨x,Le.2 ⟨h3,j.1⟩,j.2,.inl rfl⟩
 rw[He,Dx]at j;exact .inr ⟨i,Le.2 ⟨j.1,j.2.1⟩,j.2.2,.inr ⟨q,h3,q.dR⟩⟩
def adw (l:AA Ad)(full:AA Int)(hl:l.length<=1000)(hs:EZ l)(O:full.length<=100000):a4I l full=some (Zf l full):=by
 unfold a4I;rw[aWo l full hl O];simp only[Af];have U:(FX l full).length<=l.length:=jX (Yb l full) λx q=>(Le.1 q).2;unfold aSi;rw[Ig (a0:=[]) (FX l full) AL (kF l (FX l full)) (λ_ r=>Inc r/\∀x∈r,dR l x=true) (λr=>some r) ⟨.nil,λx q=>absurd q H9⟩]
 ·rw[ag1]
 ·intro k r i h I;have J:dR l (FX l full)[i]=true:=(Le.1 (Eu h)).2;have Y:=jX I.1 I.2;have g:=a5b (FX l full) (chainOf l [(FX l full)[i]]) (put r (FX l full)[i]) (Tf I.1);refine⟨?_,?_⟩
  ·unfold kF;cases UG (ev l (FX l full)[i])with
   |false=>exact I
   |true=>
    refine⟨g.1,λx q=>?_⟩;rcases(g.2 x).1 q with h3|h3
    ·rcases YP.1 h3 with h3|rfl
     ·exact I.2 x h3
     exact J
    exact(Le.1 h3.2).2
  unfold aE8 xI;rw[Ce h,J6 l _ AL];simp only[Af];rw[aeM,CX h];simp only[Af];rw[oU _ _ AL];simp only[Af];rw[aGf l _ hl hs.apk Bf];simp only[Af];unfold kF;show(cond (UG (ev l (FX l full)[i])) _ _)=_;cases UG (ev l (FX l full)[i])with
  |false=>rfl
  |true=>
   simp only[Bd];have hc:=dN l [(FX l full)[i]];unfold aVD
   rw[Ig (chainOf l [(FX l full)[i]]) AL (iD (FX l full)) (λ_ r=>Inc r/\∀x∈r,dR l x=true) (λr=>k r (Ar ((i:Int)+1))) ⟨Tf I.1,λx q=>by
    rcases YP.1 q with h3|rfl
    ·exact I.2 x h3
    exact J⟩]
   ·intro k2 Z j M L;have hr2:=jX L.1 L.2;refine⟨?_,?_⟩
    ·unfold iD;cases hh:Dv (FX l full) (chainOf l [(FX l full)[i]])[j]with
     |false=>exact L
     |true=>
      refine⟨Tf L.1,λx q=>?_⟩;rcases YP.1 q with h3|rfl
      ·exact L.2 x h3
      exact(Le.1 (Me.1 hh)).2
    unfold aF5 a8v;rw[Ce M,Qj _ _ AL,CX M];simp only[Af];rw[oU _ _ AL];unfold iD;cases Dv (FX l full) (chainOf l [(FX l full)[i]])[j]<;>rfl
   intro k2 Z _;unfold aF5 xI;rw[EX]
 intro k r _;unfold aE8;rw[EX]
def a6n (l:AA Ad)(full:AA Int):(Zf l full).length<=l.length:=
 jX (aSl l full) λx j=>by
  rcases(aJO.1 j).2 with h|h
  ·unfold aP at h;rw[Dx]at h;exact h.1
  exact h.dR
def Gv (l:AA Ad)(id:Int):Rx:=⟨id,aKD l (ev l id),(ev l id).Time,chainOf l [id]⟩
def qy (l:AA Ad)(left:AA Int)(x:Int):Ac:= !left.any λy=>Dv (chainOf l [x]) y
def jw (a b:Rx):Ac:=bif a.Um != b.Um then decide (a.Um>b.Um)else decide (a.Df<b.Df)
def Jo (l:AA Ad)(left:AA Int)(b:AB Int)(x:Int):AB Int:=bif qy l left x&&(match b with |none=>true|some y=>jw (Gv l x) (Gv l y))then some x else b
def WB (l:AA Ad)(left:AA Int):AB Int:=left.foldl (Jo l left) none
def PE (l:AA Ad):Nat->AA Int->AA Int
 |0,_=>[]
 |n+1,left=>match WB l left with
  |none=>[]
  |some b=>b::PE l n (left.filter (· != b))
def aTJ (l:AA Ad):∀ids:AA Int,ids.flatMap (λid=>bif dR l id then[Gv l id]else[])=(ids.filter (dR l)).map (Gv l)
 | []=>
  rfl
 |i::ids=>by
  rw[MJ,aTJ l ids,V5]
  grind
def aag (l:AA Ad)(ids:AA Int)(hl:l.length<=1000)(hs:EZ l)(hi:ids.length<=100000):a6v l ids=some ((FX l ids).map (Gv l)):=by
 unfold a6v;rw[mV ids AL];simp only[Af];have hsl:=ML ids;unfold aY3;rw[Ig (a0:=[]) (FN ids) AL (λr id=>r++bif dR l id then[Gv l id]else[]) (λi r=>r.length<=i) (λr=>some r) (Eo _)]
 ·rw[foldl_append (λid=>bif dR l id then[Gv l id]else[]),Ij,aTJ];rfl
 ·intro k r i h J;refine⟨?_,?_⟩
  ·grind
  unfold aFs a7y;rw[Ce h,Ld l _ AL];simp only[Af];unfold dR;cases j:Ea l (FN ids)[i]with
  |none=>
   rw[U1 j];simp
  |some e=>
   have I:=hs e (PN j);have q:ev l (FN ids)[i]=e:=by unfold ev;rw[Ll j]
   rw[Ll j];simp only[Bd,Option.isSome_some];rw[akr l e hl hs I.auth,aHK l _ hl hs.apk Bf];simp only[Af];rw[Dz Gm];unfold Gv;rw[q];rfl
 intro k r _;unfold aFs;rw[EX]
def aVP (l:AA Ad)(left:AA Int):∀(c:AA Int) (b:AB Int) {x:Int},c.foldl (Jo l left) b=some x->b=some x\/x∈c
 | [],b,x,h=>.inl h
 |y::c,b,x,h=>by
  rw[Hy]at h;rcases aVP l left c _ h with h1|h1
  ·have key:∀c:Ac,(cond c (some y) b)=some x->b=some x\/x=y:=λc j=>by
    grind
   rcases key _ h1 with h2|h2
   ·exact .inl h2
   grind
  grind
variable {left:AA Int}
def al7 {x:Int}(h:WB l left=some x):x∈left:=by
 rcases aVP l left left none h with h|h
 ·cases h
 exact h
variable {j:Nat}
def aN7 (I:left.Nodup)(J:j<left.length):left.take j++left.drop (j+1)=left.filter (· != left[j]):=by
 have e:left=left.take j++left[j]::left.drop (j+1):=by rw[←Ns J,YC]
 have q:(left.take j++left[j]::left.drop (j+1)).Nodup:=by rw[←e];exact I
 have h1:=aAu.1 q;have h2:=RX.1 h1.2.1
 have M:(left.take j).filter (· != left[j])=left.take j:=UW.2 λx L=>by
  grind
 have O:(left.drop (j+1)).filter (· != left[j])=left.drop (j+1):=UW.2 λx L=>by
  grind
 grind
def aS8 (q:left.Nodup){b:Int}(I:b∈left):(left.filter (· != b)).length+1=left.length:=by
 obtain⟨j,J,rfl⟩:=I8 I;rw[←aN7 q J,Em,HY,NV];omega
def aiY (h:Inc left)(b:Int):QH left [b]=left.filter (· != b):=by
 unfold QH;rw[af5 h];congr 1;funext x;by_cases e:x=b
 ·subst e;simp[Dv]
 simp[Dv,e]
def ajC (l:AA Ad)(hl:l.length<=1000):∀(m:Nat) (left acc:AA Int) (N:Nat),left.length=m->Inc left->(∀x∈left,dR l x=true)->acc.length+left.length<=1000000->m<N->aS ZP N (left.map (Gv l)) acc=some (acc++PE l m left):=by
 intro m
 induction m with
 |zero=>
  intro left acc N hm hi hk hacc hN;obtain⟨N,rfl⟩:∃N',N=N'+1:=⟨N-1,AL⟩
  have :left=[]:=I4 hm;subst this;show ZP _ _ _=_;unfold ZP PE;simp
 |succ m ih=>
  intro left acc N hm hi hk hacc hN;obtain⟨N,rfl⟩:∃N',N=N'+1:=⟨N-1,AL⟩
  have hll:=jX hi hk;refine dQ.eq ?_;show dQ (ZP (aS ZP N) _ _) _;have ih':=λleft' acc' h1 h2 h3 h4=>ih left' acc' N h1 h2 h3 h4 AL;generalize aS ZP N=K at ih';unfold ZP;rw[show decide (((left.map (Gv l)).length:Int)>0)=true by rw[DK];simp;omega];simp only[Bd];unfold aUi;refine Ux (body:=aCG (left.map (Gv l)) K) (λm2 a b c=>∃i:Nat,b=i/\i+m2=left.length/\c=acc/\((a= -1/\(left.take i).foldl (Jo l left) none=none)\/∃(j:Nat) (J:j<left.length),a=(j:Int)/\(left.take i).foldl (Jo l left) none=some left[j])) ?_ Aw left.length (-1) 0 acc (fuel_lt AL) ⟨0,rfl,AL,rfl,.inl ⟨rfl,rfl⟩⟩;rintro m2 a b c k ⟨i,rfl,hm2,rfl,hI⟩ M;unfold aCG;by_cases O:i<left.length
  ·have Y:i<(left.map (Gv l)).length:=by rw[DK];exact O
   rw[dec_lt Y,CX Y,Pn];simp only[Bd,Af]
   have hst:(left.take (i+1)).foldl (Jo l left) none=Jo l left ((left.take i).foldl (Jo l left) none) left[i]:=by
    rw[SI O,X5];rfl
   unfold aVu;have hc:=dN l [left[i]]
   have hin:∀(k2:Int->Int->AA Int->AB (AA Int)),aS (bD (left.map (Gv l)) (Gv l left[i]) k2 (i:Int) a) Aw 0 c=bif qy l left left[i]then(cond (a<0) (Yr k2 (i:Int) a true c) ((Aq (left.map (Gv l)) a).bind λx27=>(gU (Gv l left[i]) x27).bind λx28=>Yr k2 (i:Int) a x28 c))else gB k2 (i:Int) a c:=by
    intro k2
    have key:∀n (j:Nat),j+n=left.length->∀m,n<m->aS (bD (left.map (Gv l)) (Gv l left[i]) k2 (i:Int) a) m (j:Int) c=bif !(left.drop j).any (λy=>Dv (chainOf l [left[i]]) y)then(cond (a<0) (Yr k2 (i:Int) a true c) ((Aq (left.map (Gv l)) a).bind λx27=>(gU (Gv l left[i]) x27).bind λx28=>Yr k2 (i:Int) a x28 c))else gB k2 (i:Int) a c:=by
     intro n
     induction n with
     |zero=>
      intro j J m hm;obtain⟨m,rfl⟩:∃m',m=m'+1:=⟨m-1,AL⟩
      have :j=left.length:=AL
      subst this;show bD _ _ _ _ _ _ _ _=_;unfold bD;rw[show decide ((left.length:Int)<((left.map (Gv l)).length:Int))=false by rw[DK];exact DY _,PU];rfl
     |succ n ihn=>
      intro j J m hm;obtain⟨m,rfl⟩:∃m',m=m'+1:=⟨m-1,AL⟩
      have hjl:j<left.length:=AL
      have aPU:j<(left.map (Gv l)).length:=by rw[DK];exact hjl
      have Z:=ihn (j+1) AL m AL;show bD _ _ _ _ _ (aS _ m) _ _=_;generalize aS (bD (left.map (Gv l)) (Gv l left[i]) k2 (i:Int) a) m=L at Z;unfold bD;rw[Ce aPU,Pn];show((dW (chainOf l [left[i]]) left[j]).bind _)=_;rw[aF2 _ _ AL,wrap_succ j AL,Ns hjl,List.any_cons];simp only[Af];cases Dv (chainOf l [left[i]]) left[j]with
      |true=>
       rfl
      |false=>
       simp only[BO,Ny];exact Z
    exact key left.length 0 AL Aw (fuel_lt AL)
   rw[hin];have hw:=wrap_succ i AL;unfold Yr gB;rw[hw];cases U:qy l left left[i]with
   |false=>
    simp only[BO];refine M (m2-1) _ _ _ AL ⟨i+1,rfl,AL,rfl,?_⟩;have e:Jo l left ((left.take i).foldl (Jo l left) none) left[i]=(left.take i).foldl (Jo l left) none:=by unfold Jo;rw[U];rfl
    rw[hst,e];exact hI
   |true=>
    simp only[Bd];rcases hI with⟨rfl,h0⟩|⟨j,J,rfl,h0⟩
    ·rw[show decide ((-1:Int)<0)=true by decide];simp only[Bd];refine M (m2-1) _ _ _ AL ⟨i+1,rfl,AL,rfl,.inr ⟨i,O,rfl,?_⟩⟩;rw[hst,h0];unfold Jo;rw[U];rfl
    have q:j<(left.map (Gv l)).length:=by rw[DK];exact J
    rw[show decide ((j:Int)<0)=false by simp,CX q,Pn];simp only[BO,Af]
    have e1:gU (Gv l left[i]) (Gv l left[j])=some (jw (Gv l left[i]) (Gv l left[j])):=by
     unfold gU jw
     grind
    rw[e1];simp only[Af];cases ha:jw (Gv l left[i]) (Gv l left[j])with
    |true=>
     simp only[Bd];refine M (m2-1) _ _ _ AL ⟨i+1,rfl,AL,rfl,.inr ⟨i,O,rfl,?_⟩⟩;rw[hst,h0];unfold Jo;rw[U];simp only[ha];rfl
    |false=>
     simp only[BO];refine M (m2-1) _ _ _ AL ⟨i+1,rfl,AL,rfl,.inr ⟨j,J,rfl,?_⟩⟩;rw[hst,h0];unfold Jo;rw[U];simp only[ha];rfl
  have hie:i=left.length:=AL
  subst hie;rw[show decide ((left.length:Int)<((left.map (Gv l)).length:Int))=false by rw[DK];exact DY _];simp only[BO];rw[Ho]at hI;have I:PE l (m+1) left=match WB l left with |none=>[]|some b=>b::PE l m (left.filter (· != b)):=rfl
  rcases hI with⟨rfl,h0⟩|⟨j,J,rfl,h0⟩
  ·rw[show decide ((-1:Int)<0)=true by decide];refine .ret ?_;have h1:WB l left=none:=h0;rw[I,h1];simp
  have q:j<(left.map (Gv l)).length:=by rw[DK];exact J
  rw[show decide ((j:Int)<0)=false by simp,CX q,Pn];simp only[BO,Af];have h1:WB l left=some left[j]:=h0;rw[Dz Gm];simp only[Af];rw[a0w (Nat.le_of_lt q),wrap_succ j AL,WC q];simp only[Af];rw[Dz (by rw[HY,NV,DK];omega)];simp only[Af]
  have e2:(left.map (Gv l)).take j++(left.map (Gv l)).drop (j+1)=(left.filter (· != left[j])).map (Gv l):=by
   rw[←aN7 (bK hi) J,Jh,bZ,jM]
  rw[e2];have hwl:=aS8 (bK hi) (Eu J);rw[ih' (left.filter (· != left[j])) (c++[(Gv l left[j]).ny]) AL (hi.sublist V8) (λx hx=>hk x ((He.1 hx).1)) Ri];refine .ret ?_;rw[I,h1,JI];rfl
def abf (l:AA Ad)(ids:AA Int)(hl:l.length<=1000)(hs:EZ l)(hi:ids.length<=100000):a8k l ids=some (PE l (FX l ids).length (FX l ids)):=by
 have q:(FX l ids).length<=l.length:=jX (Yb l ids) λx j=>(Le.1 j).2;unfold a8k;rw[aag l ids hl hs hi];simp only[Af];unfold aTa;rw[ajC l hl _ (FX l ids) [] Aw rfl (Yb l ids) (λx j=>(Le.1 j).2) Uk (fuel_lt AL)];rfl
def aeA (l:AA Ad)(left:AA Int)(x:Int)(hl:l.length<=1000)(hs:EZ l)(j:left.length<=100000):aB4 l left x=some (qy l left x):=by
 unfold aB4;rw[aGf l _ hl hs.apk Bf];simp only[Af];have q:=dN l [x];unfold aVs;rw[Hw (chainOf l [x]) (fuel_lt AL) (λy=>Dv left y) false (some true)]
 ·unfold qy
  have e:(chainOf l [x]).any (λy=>Dv left y)=left.any λy=>Dv (chainOf l [x]) y:=by
   rw[TU,KE,KE];simp only[Me];exact⟨λ⟨y,a,b⟩=>⟨y,b,a⟩,λ⟨y,a,b⟩=>⟨y,b,a⟩⟩
  rw[e];cases left.any λy=>Dv (chainOf l [x]) y<;>rfl
 ·intro k i h;unfold aKA;rw[Ce h,Qj _ _ AL];simp only[Af]
 intro k;unfold aKA;rw[EX]
def aKS {R A B C D:Type}{Q:R->Prop}{body:(A->B->C->D->AB R)->A->B->C->D->AB R}(I:Nat->A->B->C->D->Prop)(hs:∀m a b c d k,I m a b c d->(∀j a' q J L,j<m->I j a' q J L->dQ (k a' q J L) Q)->dQ (body k a b c d) Q):
 ∀n m a b c d,m<n->I m a b c d->dQ (X8 body n a b c d) Q
 |0,m,_,_,_,_,h,_=>AL
 |n+1,m,a,b,c,d,h,hi=>hs m a b c d _ hi λj a' q J L h' M=>aKS I hs n j a' q J L AL M
def Om {x:Int}(h:dR l x=true):Ea l x=some (ev l x)/\(ev l x).Id=x:=by
 unfold dR at h;obtain⟨e,j⟩:=Ro.1 h;have :ev l x=e:=by unfold ev;rw[Ll j]
 rw[this];exact⟨j,aON j⟩
def alg (l:AA Ad)(x y:Int)(hl:l.length<=1000)(hs:EZ l)(j:dR l x=true)(q:dR l y=true)(I:y<x):a6c l (ev l x) (ev l y)=some (jw (Gv l x) (Gv l y)):=by
 obtain⟨J,M⟩:=Om j;obtain⟨L,O⟩:=Om q;unfold a6c;rw[aU6 l _ hl hs (hs _ (PN J)).auth,aU6 l _ hl hs (hs _ (PN L)).auth];simp only[Af];unfold jw Gv
 grind
def ahr (l:AA Ad)(hl:l.length<=1000)(hs:EZ l):∀(m:Nat) (left acc:AA Int) (N:Nat),left.length=m->Inc left->(∀x∈left,dR l x=true)->acc.length+left.length<=1000000->m<N->aS (ZE l) N left acc=some (acc++PE l m left):=by
 intro m
 induction m with
 |zero=>
  intro left acc N hm hi Z hacc hN;obtain⟨N,rfl⟩:∃N',N=N'+1:=⟨N-1,AL⟩
  have :left=[]:=I4 hm;subst this;show ZE _ _ _ _=_;unfold ZE PE;simp
 |succ m ih=>
  intro left acc N hm hi Z hacc hN;obtain⟨N,rfl⟩:∃N',N=N'+1:=⟨N-1,AL⟩
  have hll:=jX hi Z;refine dQ.eq ?_;show dQ (ZE l (aS (ZE l) N) _ _) _;have ih':=λU acc' h1 h2 h3 h4=>ih U acc' N h1 h2 h3 h4 AL;generalize aS (ZE l) N=K at ih';unfold ZE;rw[show decide ((left.length:Int)>0)=true by simp;omega];simp only[Bd];unfold aXC;refine aKS (body:=aKY left l K) (λm2 a b c d=>∃i:Nat,b=i/\i+m2=left.length/\c=acc/\((a=false/\(left.take i).foldl (Jo l left) none=none)\/∃(j:Nat) (L:j<left.length),j<i/\a=true/\d=ev l left[j]/\(left.take i).foldl (Jo l left) none=some left[j])) ?_ Aw left.length false 0 acc EI (fuel_lt AL) ⟨0,rfl,AL,rfl,.inl ⟨rfl,rfl⟩⟩;rintro m2 a b c d k ⟨i,rfl,hm2,rfl,hI⟩ M;unfold aKY;by_cases q:i<left.length
  ·rw[dec_lt q,CX q];simp only[Bd,Af];rw[J6 l _ AL];simp only[Af];rw[aeA l left _ hl hs AL];simp only[Af]
   have hst:(left.take (i+1)).foldl (Jo l left) none=Jo l left ((left.take i).foldl (Jo l left) none) left[i]:=by
    rw[SI q,X5];rfl
   unfold aBE;rw[wrap_succ i AL];cases O:qy l left left[i]with
   |false=>
    simp only[BO,Af];refine M (m2-1) _ _ _ _ AL ⟨i+1,rfl,AL,rfl,?_⟩;have e:Jo l left ((left.take i).foldl (Jo l left) none) left[i]=(left.take i).foldl (Jo l left) none:=by unfold Jo;rw[O];rfl
    rw[hst,e];rcases hI with I|⟨j,L,Y,I⟩
    ·exact .inl I
    exact .inr ⟨j,L,AL,I⟩
   |true=>
    simp only[Bd];rcases hI with⟨rfl,I⟩|⟨j,L,Y,rfl,rfl,I⟩
    ·simp only[JV,Bd,Af];refine M (m2-1) _ _ _ _ AL ⟨i+1,rfl,AL,rfl,.inr ⟨i,q,AL,rfl,rfl,?_⟩⟩;rw[hst,I];unfold Jo;rw[O];rfl
    simp only[FK,BO];have hlt2:left[j]<left[i]:=Jq.1 hi j i L q Y;have e1:=alg l left[i] left[j] hl hs (Z _ (Eu q)) (Z _ (Eu L)) hlt2;rw[show(Fv l left[i]).1=ev l left[i]from rfl,e1];simp only[Af];cases ha:jw (Gv l left[i]) (Gv l left[j])with
    |true=>
     simp only[Bd];refine M (m2-1) _ _ _ _ AL ⟨i+1,rfl,AL,rfl,.inr ⟨i,q,AL,rfl,rfl,?_⟩⟩;rw[hst,I];unfold Jo;rw[O];simp only[ha];rfl
    |false=>
     simp only[BO];refine M (m2-1) _ _ _ _ AL ⟨i+1,rfl,AL,rfl,.inr ⟨j,L,AL,rfl,rfl,?_⟩⟩;rw[hst,I];unfold Jo;rw[O];simp only[ha];rfl
  have hie:i=left.length:=AL
  subst hie;rw[DY];simp only[BO];rw[Ho]at hI;have J:PE l (m+1) left=match WB l left with |none=>[]|some b=>b::PE l m (left.filter (· != b)):=rfl
  rcases hI with⟨rfl,I⟩|⟨j,L,Y,rfl,rfl,I⟩
  ·refine .ret ?_;have h1:WB l left=none:=I;rw[J,h1];simp
  simp only[FK,BO];have h1:WB l left=some left[j]:=I;have hid:=(Om (Z _ (Eu L))).2;rw[hid,Dz Gm];simp only[Af];rw[a7t _ _ AL Bf,aiY hi];simp only[Af];have hwl:=aS8 (bK hi) (Eu L);rw[ih' (left.filter (· != left[j])) (c++[left[j]]) AL (hi.sublist V8) (λx hx=>Z x ((He.1 hx).1)) Ri];refine .ret ?_;rw[J,h1,JI];rfl
def aqX (l:AA Ad)(ids:AA Int)(hl:l.length<=1000)(hs:EZ l)(hi:ids.length<=100000):aAB l ids=some (PE l (FX l ids).length (FX l ids)):=by
 have q:(FX l ids).length<=l.length:=jX (Yb l ids) λx j=>(Le.1 j).2;unfold aAB;rw[aWo l ids hl hi];simp only[Af];unfold aLZ;rw[ahr l hl hs _ (FX l ids) [] Aw rfl (Yb l ids) (λx j=>(Le.1 j).2) Uk (fuel_lt AL)];rfl
def aSC (l:AA Ad):∀(n:Nat) (left:AA Int) {x:Int},x∈PE l n left->x∈left
 |0,_,_,h=>absurd h H9
 |n+1,left,x,h=>by
  unfold PE at h;cases j:WB l left with
  |none=>
   grind
  |some b=>
   rw[j]at h;rcases G7.1 h with rfl|h
   ·exact al7 j
   exact(He.1 (aSC l n _ h)).1
def aTv (l:AA Ad):∀(n:Nat) (left:AA Int),(PE l n left).length<=n
 |0,_=>Eo _
 |n+1,left=>by
  unfold PE;cases WB l left with
  |none=>exact F6 _
  |some b=>have :=aTv l n (left.filter (· != b));simp only[H8];omega
def U8 (l:AA Ad)(e:Ad):Option Int:=e.bQ.find? λid=>dR l id&&(ev l id).Kind==3
def kJ (l:AA Ad)(e:Ad):Int×Ac:=match U8 l e with |some x=>(x,true)|none=>(0,false)
def aU7 (l:AA Ad)(e:Ad)(hl:l.length<=1000)(j:e.bQ.length<=40):xG l e=some (kJ l e):=by
 unfold xG aMg;rw[JG e.bQ (fuel_lt AL) (λid=>dR l id&&(ev l id).Kind==3) (λi=>some (match e.bQ[i]? with |some x=>(x,true)|none=>(0,false))) (some (0,false))]
 ·unfold kJ U8;rw[Jz];by_cases h:e.bQ.findIdx (λid=>dR l id&&(ev l id).Kind==3)<e.bQ.length
  ·rw[Dw h]
  rw[EC h,Lu AL]
 ·intro k i h;unfold aLE;rw[Ce h,Ld l _ AL,EJ h];simp only[Af];unfold dR ev;rw[NT];cases(Ea l e.bQ[i]).isSome<;>rfl
 intro k;unfold aLE;rw[EX]
def acI (l:AA Ad)(e:Ad)(hl:l.length<=1000)(j:e.bQ.length<=40):aBT l e=some (kJ l e):=by
 unfold aBT aPv;rw[JG e.bQ (fuel_lt AL) (λid=>dR l id&&(ev l id).Kind==3) (λi=>some (match e.bQ[i]? with |some x=>(x,true)|none=>(0,false))) (some (0,false))]
 ·unfold kJ U8;rw[Jz];by_cases h:e.bQ.findIdx (λid=>dR l id&&(ev l id).Kind==3)<e.bQ.length
  ·rw[Dw h]
  rw[EC h,Lu AL]
 ·intro k i h;unfold aKU;rw[Ce h,J6 l _ AL,EJ h,CX h];simp only[Af];unfold dR ev;rw[NT];cases(Ea l e.bQ[i]).isSome<;>rfl
 intro k;unfold aKU;rw[EX]
def Pe (l:AA Ad):Nat->AA Int->Int->AA Int
 |0,seen,_=>seen
 |n+1,seen,id=>bif Dv seen id|| !dR l id then seen else match U8 l (ev l id)with
  |none=>seen++[id]
  |some x=>Pe l n (seen++[id]) x
def nK (l:AA Ad)(id:Int):AA Int:=Pe l l.length [] id
structure WG (l:List Ad) (seen:List Int):Prop where
 nodup:seen.Nodup
 known:∀x∈seen,dR l x=true
variable {seen:AA Int}
def WG.length (h:WG l seen):seen.length<=l.length:=by
 rw[←(X6 seen).length_eq,aOq h.nodup];exact jX (NR _) λx j=>h.known x (OJ.1 j)
def WG.snoc (h:WG l seen){id:Int}(h1:id∉seen)(h2:dR l id=true):WG l (seen++[id]):=by
 refine⟨aAu.2 ⟨h.nodup,Bf,λa ha b q=>?_⟩,λx j=>?_⟩
 ·grind
 rcases KG.1 j with j|j
 ·exact h.known x j
 grind
def aW8 (l:AA Ad):∀(n:Nat) (seen:AA Int) (id:Int),WG l seen->WG l (Pe l n seen id)
 |0,_,_,h=>h
 |n+1,seen,id,h=>by
  unfold Pe;cases j:Dv seen id|| !dR l id with
  |true=>exact h
  |false=>
   rw[tu,QV]at j;have h2:=h.snoc j.1 (by simpa using j.2);simp only[BO];cases U8 l (ev l id)with
   |none=>exact h2
   |some x=>exact aW8 l n _ x h2
def aTH (l:AA Ad):∀(n:Nat) (seen:AA Int) (id:Int),∃t,Pe l n seen id=seen++t
 |0,seen,_=>⟨[],by simp[Pe]⟩
 |n+1,seen,id=>by
  unfold Pe;cases Dv seen id|| !dR l id with
  |true=>exact⟨[],Bf⟩
  |false=>
   simp only[BO];cases U8 l (ev l id)with
   |none=>exact⟨[id],rfl⟩
   |some x=>
    obtain⟨t,j⟩:=aTH l n (seen++[id]) x;exact⟨id::t,by simp only[j,JI];rfl⟩
def aVi (l:AA Ad)(id:Int):(nK l id).length<=l.length:=(aW8 l _ [] id ⟨iZ,λx j=>absurd j H9⟩).length
def amL (l:AA Ad)(hl:l.length<=1000)(hs:EZ l)(v8 v9:AA Int):∀(m:Nat) (seen:AA Int) (id:Int) (N:Nat),seen.length+m=l.length->WG l seen->m<N->zN Yk N seen seen v8 v9 id l=some (Pe l m seen id):=by
 intro m
 induction m with
 |zero=>
  intro seen id N hm I hN;obtain⟨N,rfl⟩:∃N',N=N'+1:=⟨N-1,AL⟩
  have L:=I.length;show Yk _ _ _ _ _ _ _=_;unfold Yk;rw[VX _ _ AL,Ld l _ AL];simp only[Af];rw[NT];cases M:Dv seen id with
  |true=>rfl
  |false=>
   cases q:(Ea l id).isSome with
   |false=>rfl
   |true=>
    have h2:=(I.snoc (QV.1 M) q).length;simp only[Em,Oh]at h2;omega
 |succ m ih=>
  intro seen id N hm I hN;obtain⟨N,rfl⟩:∃N',N=N'+1:=⟨N-1,AL⟩
  have L:=I.length;show Yk (zN Yk N) _ _ _ _ _ _=_;have J:=λj O h1 h2=>ih j O N h1 h2 AL;generalize zN Yk N=K at J;unfold Yk Pe;rw[VX _ _ AL,Ld l _ AL];simp only[Af];rw[NT];cases M:Dv seen id with
  |true=>rfl
  |false=>
   cases q:(Ea l id).isSome with
   |false=>rw[show dR l id=false from q];rfl
   |true=>
    obtain⟨e,Z⟩:=Ro.1 q;rw[show dR l id=true from q];simp only[JV,FK,Nc,Bd,BO];rw[Dz Gm];simp only[Af];unfold a4J;simp only[BO];rw[Dz Gm];simp only[Af];have U:(Fv l id).1=ev l id:=rfl
    have Y:(ev l id).bQ.length<=40:=by
     have :ev l id=e:=by unfold ev;rw[Ll Z]
     rw[this];exact(hs e (PN Z)).auth
    rw[U,aU7 l _ hl Y];simp only[Af];unfold kJ;cases U8 l (ev l id)with
    |none=>rfl
    |some x=>exact J (seen++[id]) x Ri (I.snoc (QV.1 M) q)
def afi (l:AA Ad)(id:Int)(hl:l.length<=1000)(hs:EZ l):a6F l id=some (nK l id):=by
 unfold a6F wE aUM;exact amL l hl hs [] [] l.length [] id Aw Bf ⟨iZ,λx j=>absurd j H9⟩ (fuel_lt AL)
def amX (l:AA Ad)(hl:l.length<=1000)(hs:EZ l):∀(m:Nat) (seen:AA Int) (id:Int) (i N:Nat),i+m=l.length->seen.length<=i->m<N->iM (bn l) N seen id (i:Int)=some (Pe l m seen id):=by
 intro m
 induction m with
 |zero=>
  intro seen id i N hm U Y;obtain⟨N,rfl⟩:∃N',N=N'+1:=⟨N-1,AL⟩
  have :i=l.length:=AL
  subst this;show bn _ _ _ _ _=_;unfold bn;rw[DY];rfl
 |succ m Z=>
  intro seen id i N hm U Y;obtain⟨N,rfl⟩:∃N',N=N'+1:=⟨N-1,AL⟩
  show bn _ (iM (bn l) N) _ _ _=_;have q:=λj I i' h1 h2=>Z j I i' N h1 h2 AL;generalize iM (bn l) N=K at q;unfold bn Pe;rw[dec_lt AL,J6 l _ AL,Qj _ _ AL];simp only[Bd,Af];rw[NT];cases J:(Ea l id).isSome with
  |false=>rw[show dR l id=false from J];cases Dv seen id<;>rfl
  |true=>
   rw[show dR l id=true from J];cases hh:Dv seen id with
   |true=>rfl
   |false=>
    obtain⟨e,O⟩:=Ro.1 J;simp only[FK,Nc,BO,Af];rw[Dz Gm];simp only[Af];have L:(Fv l id).1=ev l id:=rfl
    have M:(ev l id).bQ.length<=40:=by
     have :ev l id=e:=by unfold ev;rw[Ll O]
     rw[this];exact(hs e (PN O)).auth
    rw[L,acI l _ hl M,wrap_succ i AL];simp only[Af];unfold kJ;cases U8 l (ev l id)with
    |none=>rfl
    |some x=>exact q (seen++[id]) x (i+1) AL Ri
def aTc (l:AA Ad)(id:Int)(hl:l.length<=1000)(hs:EZ l):a0U l id=some (nK l id):=by
 unfold a0U aSQ;exact amX l hl hs l.length [] id 0 Aw Bf (Eo _) (fuel_lt AL)
def jA (j way:AA Int):Int:=match way.find? (Dv j)with |some x=>((j.findIdx (· ==x):Nat):Int)|none=>(j.length:Int)
def Ti (l:AA Ad)(j:AA Int)(id:Int):Int:=jA j (nK l id)
def aj9 (l:AA Ad)(j:AA Int)(hl:l.length<=1000)(hs:EZ l)(hm:j.length<=100000):∀(m:Nat) (seen:AA Int) (z id:Int) (N:Nat),seen.length+m=l.length->WG l seen->seen.find? (Dv j)=none->m<N->DW dB N seen j z id l=some (jA j (Pe l m seen id)):=by
 have q:∀seen:AA Int,seen.find? (Dv j)=none->jA j seen=(j.length:Int):=λseen h=>by unfold jA;rw[h]
 intro m
 induction m with
 |zero=>
  intro seen z id N hm O U hN;obtain⟨N,rfl⟩:∃N',N=N'+1:=⟨N-1,AL⟩
  have hwl:=O.length;show dB _ _ _ _ _ _=_;unfold dB;rw[VX _ _ AL,Ld l _ AL];simp only[Af];rw[NT];have he:jA j (Pe l 0 seen id)=(j.length:Int):=q seen U;rw[he];cases Y:Dv seen id with
  |true=>
   rfl
  |false=>
   cases M:(Ea l id).isSome with
   |false=>
    rfl
   |true=>
    have h2:=(O.snoc (QV.1 Y) M).length;simp only[Em,Oh]at h2;omega
 |succ m ih=>
  intro seen z id N hm O U hN;obtain⟨N,rfl⟩:∃N',N=N'+1:=⟨N-1,AL⟩
  have hwl:=O.length;show dB (DW dB N) _ _ _ _ _=_;have Z:=λL z' id' h1 h2 h3=>ih L z' id' N h1 h2 h3 AL;generalize DW dB N=K at Z;unfold dB uy;rw[VX _ _ AL,Ld l _ AL,aUK _ _ AL];simp only[Af];rw[NT];have hun:Pe l (m+1) seen id=bif Dv seen id|| !dR l id then seen else match U8 l (ev l id)with |none=>seen++[id]|some x=>Pe l m (seen++[id]) x:=rfl
  cases Y:Dv seen id with
  |true=>
   grind
  |false=>
   cases M:(Ea l id).isSome with
   |false=>
    rw[hun,Y,show dR l id=false from M];simp only[Ny,JV,Bd];rw[q seen U]
   |true=>
    obtain⟨e,he⟩:=Ro.1 M;rw[hun,Y,show dR l id=true from M];simp only[JV,FK,Nc,Bd,BO];have I:=aXa j id;by_cases J:j.findIdx (· ==id)<j.length
    ·rw[Dw J,show decide (((j.findIdx (· ==id):Nat):Int)>=0)=true by simp];simp only[Bd];rw[L8 J]at I
     have hex:∃t,(match U8 l (ev l id)with |none=>seen++[id]|some x=>Pe l m (seen++[id]) x)=seen++[id]++t:=by
      cases U8 l (ev l id)with
      |none=>
       exact⟨[],Bf⟩
      |some x=>
       exact aTH l m (seen++[id]) x
     obtain⟨t,ht⟩:=hex;rw[ht];unfold jA;rw[aL4,aL4,U];simp[←I]
    rw[EC J,show decide ((-1:Int)>=0)=false by decide];simp only[BO];rw[Iq J]at I;rw[Dz Gm];simp only[Af];have hev:(Fv l id).1=ev l id:=rfl
    have hea:(ev l id).bQ.length<=40:=by
     have :ev l id=e:=by unfold ev;rw[Ll he]
     rw[this];exact(hs e (PN he)).auth
    have hf2:(seen++[id]).find? (Dv j)=none:=by rw[aL4,U];simp[←I]
    rw[hev,aU7 l _ hl hea];simp only[Af];unfold kJ;cases U8 l (ev l id)with
    |none=>
     grind
    |some x=>
     exact Z (seen++[id]) z x Ri (O.snoc (QV.1 Y) M) hf2
def amb (l:AA Ad)(j:AA Int)(id:Int)(hl:l.length<=1000)(hs:EZ l)(hm:j.length<=100000):a3J l j id=some (Ti l j id):=by
 unfold a3J wE aMv;exact aj9 l j hl hs hm l.length [] 0 id Aw Bf ⟨iZ,λx q=>absurd q H9⟩ rfl (fuel_lt AL)
def aYk (l:AA Int)(x:Int)(h:l.length<=100000):a2q l x=some ((l.findIdx (· ==x):Nat):Int):=by
 unfold a2q aT4;rw[JG l (fuel_lt AL) (· ==x) (λi=>some (i:Int)) (some (l.length:Int))]
 ·grind
 ·intro k i hi;unfold aEY;rw[Ce hi]
 intro k;unfold aEY;rw[EX]
def aRu (l:AA Ad)(j:AA Int)(id:Int)(hl:l.length<=1000)(hs:EZ l)(hm:j.length<=100000):wG l j id=some (Ti l j id):=by
 unfold wG;rw[aTc l id hl hs];simp only[Af];have q:=aVi l id;unfold aUv Ti jA;generalize nK l id=W at q;rw[JG W (fuel_lt AL) (Dv j) (λi=>some (match W[i]? with |some x=>((j.findIdx (· ==x):Nat):Int)|none=>0)) (some (j.length:Int))]
 ·rw[Jz]
  grind
 ·intro k i h;unfold aEk;rw[Ce h,Qj _ _ AL,CX h,EJ h];simp only[Af];rw[aYk _ _ hm];rfl
 intro k;unfold aEk;rw[EX]
def Fa (l:AA Ad)(j:AA Int)(id:Int):MF:=⟨id,Ti l j id,(ev l id).Time⟩
def a1h (x:MF):Int×Int×Int:=(x.ny,x.Ae,x.Df)
def Ip (x y:MF):Ac:=Ls (a1h x) (a1h y)
def Vw (l:AA Ad)(j ids:AA Int):AA Int:=(Oz Ip ((ids.filter (dR l)).map (Fa l j))).map (·.ny)
def aM3 (l:AA Ad)(j:AA Int):∀ids:AA Int,ids.flatMap (λid=>bif dR l id then[Fa l j id]else[])=(ids.filter (dR l)).map (Fa l j)
 | []=>
  rfl
 |i::ids=>by
  rw[MJ,aM3 l j ids,V5]
  grind
def aZs (s:AA MF)(hs:s.length<=1000000)(J:(s.map (·.ny)).Nodup):nZ s=some s:=by
 unfold nZ;by_cases h2:s.length<2
 ·rw[show decide ((s.length:Int)<2)=true by simp;omega];rfl
 rw[show decide ((s.length:Int)<2)=false by simp;omega];simp only[BO];unfold aVm;refine dQ.eq ?_;refine Yu (body:=a5R) (λm a b=>∃i:Nat,a=i/\i+m=s.length/\0<i/\b=s) ?_ Aw (s.length-1) 1 s (fuel_lt AL) ⟨1,rfl,AL,AL,rfl⟩;rintro m a b k ⟨i,rfl,hm,hi,rfl⟩ L;unfold a5R;by_cases j:i<b.length
 ·rw[dec_lt j,CX j];simp only[Bd,Af];have w:Ar ((i:Int)-1)=((i-1:Nat):Int):=NG
  have q:i-1<b.length:=AL
  rw[w,CX q];simp only[Af]
  have I:b[i].ny≠b[i-1].ny:=by
   have :=Jq.1 J (i-1) i RF RF AL;simp only[Pn]at this;exact λe=>this e.symm
  have M:xJ b[i] b[i-1]=false:=by
   unfold xJ;rw[show(b[i].ny==b[i-1].ny)=false by simpa using I];rfl
  rw[M,wrap_succ i AL];exact L (m-1) _ _ AL ⟨i+1,rfl,AL,AL,rfl⟩
 have :i=b.length:=AL
 subst this;rw[DY];exact .ret rfl
def aCw (l:AA Ad)(j:AA Int)(ids:AA Int):(ids.map (Fa l j)).map (·.ny)=ids:=by
 rw[Y1];exact List.map_id' ids
def aZV (l:AA Ad)(j ids:AA Int)(hl:l.length<=1000)(hs:EZ l)(hm:j.length<=100000)(hi:ids.length<=100000)(Y:ids.Nodup):a9r l j ids=some (Vw l j ids):=by
 unfold a9r aTb;rw[Ig (a0:=[]) ids AL (λr id=>r++bif dR l id then[Fa l j id]else[]) (λi r=>r.length<=i) (λM=>(aBU M).bind λI=>(nZ I).bind λJ=>aHf J [] 0) (Eo _)]
 ·rw[foldl_append (λid=>bif dR l id then[Fa l j id]else[]),Ij,aM3];have O:=I9 (dR l) ids;have L:((ids.filter (dR l)).map (Fa l j)).length<=100000:=RF
  unfold aBU a9Q;rw[Dw AL];simp only[Af];have e:(Oz (λx y:MF=>Ls (x.ny,x.Ae,x.Df) (y.ny,y.Ae,y.Df)) ((ids.filter (dR l)).map (Fa l j)))=Oz Ip ((ids.filter (dR l)).map (Fa l j)):=rfl;rw[e];unfold Vw;have hp:=Xi Ip ((ids.filter (dR l)).map (Fa l j))
  have q:((Oz Ip ((ids.filter (dR l)).map (Fa l j))).map (·.ny)).Nodup:=by
   rw[(hp.map (·.ny)).nodup_iff,aCw]
   grind
  have hsl:(Oz Ip ((ids.filter (dR l)).map (Fa l j))).length<=100000:=by rw[hp.length_eq];exact L
  generalize Oz Ip ((ids.filter (dR l)).map (Fa l j))=S at q hsl;rw[aZs S AL q];simp only[Af];unfold aHf;rw[Ig (a0:=[]) S AL (λr x=>r++[x.ny]) (λi r=>r.length<=i) (λr=>some r) (Eo _)]
  ·rw[foldl_append (λx:MF=>[x.ny]),Ij];congr 1;clear q hsl
   induction S with
   |nil=>
    rfl
   |cons x S Z=>
    grind
  ·intro k r i h U;refine⟨aBC,?_⟩;unfold aHN;rw[Ce h,Dz Gm];rfl
  intro k r _;unfold aHN;rw[EX]
 ·intro k r i h U;refine⟨?_,?_⟩
  ·grind
  unfold aJc a6p;rw[Ce h,Ld l _ AL];simp only[Af];rw[NT,amb l j _ hl hs hm];simp only[Af];rw[Dz Gm];unfold dR;cases(Ea l ids[i]).isSome with
  |true=>
   rfl
  |false=>
   simp
 intro k r _;unfold aJc;rw[EX]
def alz (l:AA Ad)(j:AA Int)(a b:Int)(hl:l.length<=1000)(hs:EZ l)(hm:j.length<=100000):a2l l j a b=some (!Ip (Fa l j b) (Fa l j a)):=by
 unfold a2l;rw[aRu l j a hl hs hm,aRu l j b hl hs hm,J6 l a AL,J6 l b AL];simp only[Af]
 have q:(!Ip (Fa l j b) (Fa l j a))=decide (Ti l j b<Ti l j a\/Ti l j a=Ti l j b/\((ev l a).Time<(ev l b).Time\/(ev l a).Time=(ev l b).Time/\a<b)):=by
  rw[TU,RU,Ik];exact aSf (a1h (Fa l j b)) (a1h (Fa l j a))
 rw[q];show(cond (Ti l j a != Ti l j b) (some (decide (Ti l j a>Ti l j b))) (cond ((ev l a).Time != (ev l b).Time) (some (decide ((ev l a).Time<(ev l b).Time))) (some (decide (a<b)))))=_
 grind
def aHz (x y z:MF)(h:Ip x y=true)(k:Ip y z=true):Ip x z=true:=aDL _ _ _ h k
def aOZ (x y:MF)(h:Ip x y=false):Ip y x=true:=aU9 _ _ h
def aZA (x y:MF)(h:Ip x y=true)(k:Ip y x=true):x=y:=by
 have :=aUL _ _ h k;unfold a1h at this;cases x;cases y
 grind
def aA (l:AA Ad)(j:AA Int)(q:AA Int)(x:Int):AA Int:=q.take (q.findIdx λa=>Ip (Fa l j x) (Fa l j a))++x::q.drop (q.findIdx λa=>Ip (Fa l j x) (Fa l j a))
def aMP (l:AA Ad)(j q:AA Int)(x:Int):(aA l j q x).Perm (x::q):=by
 unfold aA;refine a8M.trans ?_;rw[YC]
def adR (l:AA Ad)(j q:AA Int)(x:Int)(h:q.Pairwise λa b=>Ip (Fa l j a) (Fa l j b)=true):(aA l j q x).Pairwise λa b=>Ip (Fa l j a) (Fa l j b)=true:=by
 unfold aA
 have L:∀a∈q.take (q.findIdx λa=>Ip (Fa l j x) (Fa l j a)),Ip (Fa l j a) (Fa l j x)=true:=by
  intro a ha;obtain⟨i,hi,rfl⟩:=I8 ha;have J:i<q.findIdx λa=>Ip (Fa l j x) (Fa l j a):=by simp at hi;omega
  have :=aIs J;rw[a3H];exact aOZ _ _ aBM
 have ha:∀d∈q.drop (q.findIdx λa=>Ip (Fa l j x) (Fa l j a)),Ip (Fa l j x) (Fa l j d)=true:=by
  intro d hd;obtain⟨i,hi,rfl⟩:=I8 hd;rw[NV]at hi;have I:(q.findIdx λa=>Ip (Fa l j x) (Fa l j a))<q.length:=AL
  have M:=a1L (w:=I);rw[List.getElem_drop];rcases bH i with rfl|hp
  ·simpa using M
  exact aHz _ _ _ M (Jq.1 h _ _ I AL AL)
 refine Sim.2 ⟨h.sublist (List.take_sublist _ _),OE.2 ⟨ha,h.sublist (List.drop_sublist _ _)⟩,λa h1 b h2=>?_⟩;rcases G7.1 h2 with rfl|h2
 ·exact L a h1
 exact aHz _ _ _ (L a h1) (ha b h2)
def cO (l:AA Ad)(j:AA Int)(q:AA Int)(x:Int):AA Int:=bif dR l x then aA l j q x else q
def apO (l:AA Ad)(j ids:AA Int):ids.foldl (cO l j) []=Vw l j ids:=by
 have key:∀(ids q:AA Int),q.Pairwise (λa b=>Ip (Fa l j a) (Fa l j b)=true)->(ids.foldl (cO l j) q).Pairwise (λa b=>Ip (Fa l j a) (Fa l j b)=true)/\(ids.foldl (cO l j) q).Perm (ids.filter (dR l)++q):=by
  intro ids
  induction ids with
  |nil=>
   grind
  |cons x ids I=>
   intro q h;rw[Hy,V5];unfold cO;cases dR l x with
   |false=>
    exact I q h
   |true=>
    obtain⟨h1,h2⟩:=I (aA l j q x) (adR l j q x h);refine⟨h1,h2.trans ?_⟩;simp only[Jy,XW];exact((aMP l j q x).append_left _).trans a8M
 obtain⟨h1,h2⟩:=key ids [] .nil;rw[MH]at h2;unfold Vw
 have h3:(ids.foldl (cO l j) []).map (Fa l j)=Oz Ip ((ids.filter (dR l)).map (Fa l j)):=
  aOf aHz aOZ aZA (h2.map _) (jR.2 h1)
 rw[←h3,aCw]
def akH (l:AA Ad)(q ids:AA Int)(hl:l.length<=1000)(hs:EZ l)(hm:q.length<=100000)(hi:ids.length<=100000)(Y:ids.Nodup):aAk l q ids=some (Vw l q ids):=by
 unfold aAk aYI;rw[Ig (a0:=[]) ids AL (cO l q) (λi r=>r.length<=i/\∀x∈r,x∈ids.take i) (λr=>some r) ⟨Eo _,λx L=>absurd L H9⟩]
 ·rw[apO]
 ·intro k r i h ⟨Z,M⟩;have I:ids.take (i+1)=ids.take i++[ids[i]]:=SI h
  have U:Dv r ids[i]=false:=QV.2 λhm=>by
   obtain⟨j,J,e⟩:=I8 (M _ hm);rw[a3H]at e;rw[HY]at J;exact Jq.1 Y j i AL h AL e
  refine⟨?_,?_⟩
  ·unfold cO;cases dR l ids[i]with
   |false=>
    grind
   |true=>
    have hp:=aMP l q r ids[i];refine⟨?_,λx L=>?_⟩
    ·show(aA l q r ids[i]).length<=i+1;rw[hp.length_eq,H8];omega
    rw[I];rcases G7.1 (hp.mem_iff.1 L)with rfl|L
    ·exact a7N _ (QC.2 rfl)
    exact a1j _ (M x L)
  unfold aFh zK;rw[Ce h,J6 l _ AL,CX h];simp only[Af];rw[Qj _ _ AL,U,NT];unfold cO dR;cases(Ea l ids[i]).isSome with
  |false=>
   rfl
  |true=>
   simp only[FK,BO,Af,Bd];unfold aS1
   have O:∀(k2:Int->AB (AA Int)) (j:Nat),j<=r.length->Fin k2 (j:Int) r ids (i:Int) k false=k (r.take j++ids[i]::r.drop j) (Ar ((i:Int)+1)):=by
    intro k2 j J;unfold Fin zK;simp only[BO];rw[WC J];simp only[Af];rw[Dz Eh];simp only[Af,Ij];rw[a0w J,CX h];simp only[Af];rw[Dz Eh];simp only[Af];rw[Dz Eh];simp
   rw[JG r (fuel_lt AL) (λa=>Ip (Fa l q ids[i]) (Fa l q a)) (λj=>k (r.take j++ids[i]::r.drop j) (Ar ((i:Int)+1))) (k (r.take r.length++ids[i]::r.drop r.length) (Ar ((i:Int)+1)))]
   ·unfold aA;split
    ·rfl
    rename_i h2
    have :(r.findIdx λa=>Ip (Fa l q ids[i]) (Fa l q a))=r.length:=by
     grind
    rw[this]
   ·intro k2 j J;unfold aJx;rw[dec_lt J,CX J,CX h];simp only[Bd,Af];rw[alz l q _ _ hl hs hm];simp only[Af];cases Ip (Fa l q ids[i]) (Fa l q r[j])with
    |true=>
     grind
    |false=>
     rfl
   intro k2;unfold aJx;rw[DY];simp only[BO];rw[O k2 r.length (Eo _)]
 intro k r _;unfold aFh;rw[EX]
def apC {j ids:AA Int}{x:Int}:x∈Vw l j ids↔x∈ids/\dR l x=true:=by
 unfold Vw;rw[((Xi Ip ((ids.filter (dR l)).map (Fa l j))).map (·.ny)).mem_iff,aCw,He]
def aiH (l:AA Ad)(j ids:AA Int):(Vw l j ids).length<=ids.length:=by
 unfold Vw;rw[DK,(Xi _ _).length_eq,DK]
 grind
def P9 (c:Int):Ac:=(decide (c>=97)&&(c<=122))||(decide (c>=48)&&(c<=57))
def aRc (c:Int):rQ c=some (P9 c):=by
 unfold rQ P9
 grind
def aFD (c:Int):dY c=some (P9 c):=by
 unfold dY P9
 grind
def Sm (l:AA Int)(p:Int->Ac):Ac:=decide ((l.length:Int)>=1)&&((l.length:Int)<=32)&&l.all λc=>P9 c||p c
def isLocal (c:Int):Ac:=c==95||c==46||c==45||c==61
def Yc (c:Int):Ac:=c==46||c==45
def XK (l:AA Int):Ac:=Sm l isLocal
def ZM (l:AA Int):Ac:=Sm l Yc&&P9 (l.getD 0 0)&&P9 (l.getD (l.length-1) 0)
def aCx {n:Nat}(h:n<=9223372036854775807):n<Aw:=qc
variable {s:BH}
def aXH (hs:s.size<=9223372036854775807)(f:Int->AB Ac)(p:Int->Ac)(j:∀c,f c=some (p c)):fH s f=some (Sm (DI s) p):=by
 have hl:aLH s f 0=some ((DI s).all λc=>P9 c||p c):=by
  unfold aLH;rw[Hw (DI s) ZL (λc=> !(P9 c||p c)) false (some true) ?_ ?_,MV,aCK]
  ·intro k i h;have h':i<s.size:=Xw
   simp only[aHi,dec_lt h',Bd,VU h,aRc,j,Af]
   grind
  intro k;simp only[aHi,J5,DY,BO]
 unfold fH Sm;rw[hl,J5]
 grind
def apP (hs:s.size<=9223372036854775807):fH s (λa0=>a03 a0)=some (Sm (DI s) isLocal):=aXH hs _ isLocal (λc=>by unfold a03 isLocal;cases c==95<;>cases c==46<;>cases c==45<;>cases c==61<;>rfl)
def aq1 (hs:s.size<=9223372036854775807):fH s (λa0=>a0M a0)=some (Sm (DI s) Yc):=aXH hs _ Yc (λc=>by unfold a0M Yc;cases c==46<;>cases c==45<;>rfl)
def aeP (hs:s.size<=9223372036854775807):a5A s=some (XK (DI s)):=by
 unfold a5A XK;rw[apP hs];rfl
def a8h (h:0<s.size):IZ s 0=some ((DI s).getD 0 0):=by
 have h':0<(DI s).length:=a8V
 rw[ahN h'];simp[List.getD,h']
def aMQ (h:0<s.size)(hs:s.size<=9223372036854775807):IZ s (Ar ((s.size:Int)-1))=some ((DI s).getD ((DI s).length-1) 0):=by
 have h':s.size-1<(DI s).length:=by rw[J5];omega
 rw[RQ AL AL,show(s.size:Int)-1=((s.size-1:Nat):Int) by omega,VU h'];have h2:(DI s).length-1=s.size-1:=by rw[J5]
 rw[h2];simp[List.getD,h']
def aN9 {l:AA Int}{p:Int->Ac}(h:Sm l p=true):0<l.length/\l.length<=32:=by
 unfold Sm at h
 grind
def aa9 (hs:s.size<=9223372036854775807):a2u s=some (ZM (DI s)):=by
 unfold a2u ZM;rw[aq1 hs];simp only[Af];cases j:Sm (DI s) Yc with
 |false=>rfl
 |true=>
  have hp:0<s.size:=by have :=(aN9 j).1;rwa [J5]at this
  simp only[Bd,a8h hp,aMQ hp hs,aRc,Af];cases P9 ((DI s).getD 0 0)<;>simp
def apI (hs:s.size<=9223372036854775807):a7S s=some (cond (ZM (DI s)) 0 3):=by
 have hl:aI6 s 0=some (bif (DI s).all λc=>P9 c||Yc c then 0 else 3):=by
  unfold aI6;rw[Hw (DI s) ZL (λc=> !(P9 c||Yc c)) 3 (some 0) ?_ ?_,MV,←aCK]
  ·grind
  ·intro k i h;have h':i<s.size:=Xw
   simp only[aC6,dec_lt h',Bd,VU h,aFD,Af,Yc,bne]
   grind
  intro k;simp only[aC6,J5,DY,BO]
 have j:decide ((s.size:Int)>=1)= !decide ((s.size:Int)<1):=by by_cases h:(s.size:Int)<1<;>simp[h]<;>omega
 have q:decide ((s.size:Int)<=32)= !decide ((s.size:Int)>32):=by by_cases h:(s.size:Int)>32<;>simp[h]<;>omega
 unfold a7S ZM Sm;rw[hl];rw[show((DI s).length:Int)=(s.size:Int) by rw[J5],j,q];by_cases h1:(s.size:Int)<1
 ·simp[h1]
 have hp:0<s.size:=AL
 simp only[a8h hp,aMQ hp hs,aFD,Af];cases decide ((s.size:Int)<1)<;>cases decide ((s.size:Int)>32)<;>cases P9 ((DI s).getD 0 0)<;>cases P9 ((DI s).getD ((DI s).length-1) 0)<;>cases((DI s).all λc=>P9 c||Yc c)<;>rfl
def ai0 (hs:s.size<=9223372036854775807):a4K s=some (XK (DI s)):=by
 unfold a4K aPn;rw[Hw (DI s) ZL (λc=> !(P9 c||isLocal c)) false (some (decide ((s.size:Int)>=1)&&((s.size:Int)<=32))) ?_ ?_]
 ·unfold XK Sm;rw[←aCK,J5]
  grind
 ·intro k i h;have h':i<s.size:=Xw
  simp only[aJ7,dec_lt h',Bd,VU h,aFD,Af,isLocal,bne]
  grind
 intro k;simp only[aJ7,J5,DY,BO]
 grind
def aSb (s:BH):(DI s).length=s.data.toList.length:=by simp[DI]
def H7 (s:BH):Nat:=(DI s).findIdx (· ==58)
def aFZ (s:BH):H7 s<=s.size:=by unfold H7;rw[←J5];exact List.findIdx_le_length
def aM9 (hs:s.size<=9223372036854775807):a1N s=some (H7 s:Int):=by
 unfold a1N aSM;rw[JG (DI s) ZL (· ==58) (λi=>some (i:Int)) (some (s.size:Int)) ?_ ?_]
 ·have :=aFZ s;by_cases h:(DI s).findIdx (· ==58)<(DI s).length
  ·rw[Dw h];rfl
  rw[EC h];congr 2;unfold H7 at this ⊢;rw[J5]at h;omega
 ·intro k i h;have h':i<s.size:=Xw
  simp only[aIf,dec_lt h',Bd,VU h,Af,bne]
  grind
 intro k;simp only[aIf,J5,DY,BO,Af]
def WX (s:BH):BH:=s.extract 1 (H7 s)
def U4 (s:BH):BH:=s.extract (H7 s+1) s.size
def Vt (s:BH):Ac:=decide (H7 s<s.size)&&XK (DI (WX s))&&ZM (DI (U4 s))
def IG (s:BH)(m:Int):Ac:=decide (0<s.size)&&(DI s).getD 0 0==m&&Vt s
def extract_size (s:BH)(a b:Nat):(s.extract a b).size<=s.size:=by rw[aF9];omega
def aTX (h:0<s.size)(hm:(DI s).getD 0 0≠58):1<=H7 s:=by
 unfold H7;have hl:0<(DI s).length:=a8V
 grind
def a6u (hs:s.size<=9223372036854775807){m:Int}(hm:m≠58):fB s m=some (IG s m):=by
 unfold fB IG;by_cases j:0<s.size
 ·rw[show decide ((s.size:Int)<1)=false from by simp;omega,show decide (0<s.size)=true by simpa using j];simp only[BO,a8h j,Af,bne];cases I:(DI s).getD 0 0==m with
  |false=>rfl
  |true=>
   have q:(DI s).getD 0 0=m:=Q9
   have h1:=aTX j (by rw[q];exact hm);have h2:=aFZ s;simp only[FK,BO,aM9 hs,Af,Gf];unfold Vt;by_cases h3:H7 s<s.size
   ·have J:Oy s 1 (H7 s:Int)=some (WX s):=nX (lo:=1) h1 h2
    have L:Oy s (Ar ((H7 s:Int)+1)) (s.size:Int)=some (U4 s):=by
     rw[RQ AL AL,show(H7 s:Int)+1=((H7 s+1:Nat):Int) by omega];exact nX AL (Eo _)
    rw[show decide ((H7 s:Int)<(s.size:Int))=true from by simpa using h3,show decide (H7 s<s.size)=true by simpa using h3];have M:(WX s).size<=9223372036854775807:=FQ (extract_size _ _ _) hs;have O:(U4 s).size<=9223372036854775807:=FQ (extract_size _ _ _) hs;simp only[Bd,J,L,ai0 M,apI O,Af];cases XK (DI (WX s))<;>cases ZM (DI (U4 s))<;>rfl
   rw[show decide ((H7 s:Int)<(s.size:Int))=false from by simpa using h3,show decide (H7 s<s.size)=false by simpa using h3];rfl
 rw[show decide ((s.size:Int)<1)=true from by simp;omega,show decide (0<s.size)=false by simpa using j];rfl
def splitB (s:BH)(b:Ac):BH×BH×Ac:=bif b then(WX s,U4 s,true)else(CS,CS,false)
def aeG (b c:UInt8):(b==c)=(((b.toNat:Nat):Int)==((c.toNat:Nat):Int)):=by
 by_cases h:b=c
 ·subst h;simp
 have :¬b.toNat=c.toNat:=λe=>h (UInt8.toNat_inj.1 e)
 grind
def aYM (s:BH)(c:UInt8):s.data.toList.findIdx (· ==c)=(DI s).findIdx (· ==((c.toNat:Nat):Int)):=by
 unfold DI;rw[List.findIdx_map];congr 1;funext b;exact aeG b c
def agx (s:BH):∀x∈DI s,0<=x/\x<256:=by
 intro x j;unfold DI at j;rw[GH]at j;obtain⟨c,_,rfl⟩:=j;have :=c.toNat_lt;omega
def getD_mem (h:0<s.size):(DI s).getD 0 0∈DI s:=by
 have hl:0<(DI s).length:=a8V
 have e:(DI s).getD 0 0=(DI s)[0]:=by simp[List.getD,hl]
 grind
variable {c:Int}
def aol (marks:BH)(j:0<=c)(h1:c<256):decide (Lib.indexByte marks.data.toList c.toNat.toUInt8<0)= !(DI marks).contains c:=by
 have e:(((c.toNat.toUInt8).toNat:Nat):Int)=c:=by
  rw[Nat.toUInt8,UInt8.toNat_ofNat'];omega
 rw[aHP,aYM,e,←aSb marks]
 grind
def aXs (s:BH)(a b:Nat):(s.extract 1 s.size).extract a b=s.extract (1+a) (min (1+b) s.size):=by
 refine bytes_inj ?_;simp only[aYL];have :(DI s).take s.size=DI s:=Un (by rw[J5];omega);rw[this,List.take_drop,aG2]
 grind
def abN (h:0<s.size)(hm:(DI s).getD 0 0≠58):(DI (s.extract 1 s.size)).findIdx (· ==58)+1=H7 s:=by
 unfold H7;rw[aYL];have :(DI s).take s.size=DI s:=Un (by rw[J5];omega);rw[this];have hl:0<(DI s).length:=a8V
 match j:DI s with
 | []=>rw[j]at hl;simp at hl
 |c::l=>
  rw[j]at hm;simp only[List.getD_cons_zero]at hm;rw[WE,show(c==58)=false from by simpa using hm];rfl
def adl (hs:s.size<=9223372036854775807)(h:0<s.size)(hm:(DI s).getD 0 0≠58):∃a b,strings_Cut (s.extract 1 s.size) zo=some (a,b,decide (H7 s<s.size))/\(H7 s<s.size->a=WX s/\b=U4 s):=by
 have h1:=aTX h hm;have h2:=aFZ s;have L:=abN h hm;have j:(s.extract 1 s.size).size=s.size-1:=by rw[aF9];omega
 have q:a8f (s.extract 1 s.size) zo=some (if H7 s<s.size then((H7 s-1:Nat):Int)else -1):=by
  show some (Lib.indexByte (s.extract 1 s.size).data.toList 58)=_;rw[aHP,aYM,←aSb (s.extract 1 s.size)];show some (if(DI (s.extract 1 s.size)).findIdx (· ==58)<_ then(((DI (s.extract 1 s.size)).findIdx (· ==58):Nat):Int)else -1)=_;rw[J5,j]
  grind
 unfold strings_Cut aHv;rw[q,Af];by_cases h3:H7 s<s.size
 ·rw[Dw h3,show decide (((H7 s-1:Nat):Int)>=0)=true from by simp,show decide (H7 s<s.size)=true by simpa using h3];have I:Oy (s.extract 1 s.size) 0 ((H7 s-1:Nat):Int)=some ((s.extract 1 s.size).extract 0 (H7 s-1)):=nX (lo:=0) AL AL
  have J:Oy (s.extract 1 s.size) (Ar (((H7 s-1:Nat):Int)+(zo.size:Int))) ((s.extract 1 s.size).size:Int)=some ((s.extract 1 s.size).extract (H7 s) (s.size-1)):=by
   rw[show(zo.size:Int)=1 from rfl,RQ AL AL,show((H7 s-1:Nat):Int)+1=((H7 s:Nat):Int) by omega,j];exact nX AL AL
  simp only[Bd,I,J,Af];refine⟨_,_,rfl,λ_=>⟨?_,?_⟩⟩
  ·rw[aXs];unfold WX;congr 1;omega
  rw[aXs];unfold U4;rw[Vy 1 (H7 s)];congr 1;omega
 rw[EC h3,show decide ((-1:Int)>=0)=false from rfl,show decide (H7 s<s.size)=false by simpa using h3];exact⟨_,_,rfl,λh=>absurd h h3⟩
def aEA (hs:s.size<=9223372036854775807){marks:BH}(I:∀m∈DI marks,m≠58):sS s marks=some (splitB s ((DI marks).any λm=>IG s m)):=by
 unfold sS;by_cases q:0<s.size
 ·have J:(s.toList==CS.toList)=false:=by
   rw[JC];simp only[qR];intro e;rw[e]at q;exact absurd q Ba
  have L:=agx s _ (getD_mem q)
  have j:((DI marks).any λm=>IG s m)=((DI marks).contains ((DI s).getD 0 0)&&Vt s):=by
   unfold IG
   grind
  rw[J,j];simp only[BO,a8h q,Af,strings_IndexByte,aol marks L.1 L.2];cases M:(DI marks).contains ((DI s).getD 0 0)with
  |false=>
   rfl
  |true=>
   have hm:(DI s).getD 0 0≠58:=I _ oI;obtain⟨a,b,O,U⟩:=adl hs q hm;have Y:Oy s 1 (s.size:Int)=some (s.extract 1 s.size):=nX (lo:=1) AL (Eo _);simp only[FK,BO,Y,O,Af,Gf];unfold Vt;cases h3:decide (H7 s<s.size)with
   |false=>
    rfl
   |true=>
    obtain⟨rfl,rfl⟩:=U (LW h3);have Z:(WX s).size<=9223372036854775807:=FQ (extract_size _ _ _) hs;have g2:(U4 s).size<=9223372036854775807:=FQ (extract_size _ _ _) hs;simp only[FK,BO,aeP Z,aa9 g2,Af];cases XK (DI (WX s))<;>cases ZM (DI (U4 s))<;>rfl
 have hz:s.size=0:=AL
 have he:s=CS:=bytes_inj (by
  have h1:DI s=[]:=I4 (by rw[J5];exact hz)
  rw[h1];rfl)
 have j:((DI marks).any λm=>IG s m)=false:=by
  rw[aBZ];intro m _;unfold IG;rw[show decide (0<s.size)=false by simpa using q];simp
 rw[j,he,show(CS.toList==CS.toList)=true from by simp];rfl
def LM (s:BH):Ac:=IG s 64||(IG s 33||false)
def aae (hs:s.size<=9223372036854775807):sS s a2O=some (splitB s (LM s)):=
 aEA hs (marks:=a2O) (by rw[show DI a2O=[64,33]from rfl];intro m hm;simp only[G7,H9,or_false]at hm;omega)
def aLU (h:Vt s=true):H7 s<s.size:=by unfold Vt at h;simp only[Dx,Ik]at h;exact h.1.1
def oL (hs:s.size<=9223372036854775807):gK s=some (splitB s (LM s)).2.1/\qL s=some (splitB s (LM s)).2.1:=by
 have J:H7 s<s.size->Oy s (Ar ((H7 s:Int)+1)) (s.size:Int)=some (U4 s):=λh3=>by
  rw[RQ AL AL,show(H7 s:Int)+1=((H7 s+1:Nat):Int) by omega];exact nX AL (Eo _)
 unfold gK qL;rw[aae hs,a6u hs Ba,a6u hs Ba,aM9 hs];refine⟨rfl,?_⟩;unfold LM;cases j:IG s 64 with
 |true=>
  have I:=aLU (s:=s) (by unfold IG at j;simp only[Dx]at j;exact j.2);simp only[Af,FK,BO,J I,a3a];rfl
 |false=>
  cases q:IG s 33 with
  |true=>
   have I:=aLU (s:=s) (by unfold IG at q;simp only[Dx]at q;exact q.2);simp only[Af,FK,JV,BO,Bd,J I,Ny,a3a];rfl
  |false=>rfl
def aGh {R:Type}{body:(Int->A->AB R)->Int->A->AB R}(l:AA α)(hl:l.length<Aw)(p:α->Ac)(g:Nat->AB R)(rest:AB R)(a0:A)(I:∀k (i:Nat) (h:i<l.length),body k (i:Int) a0=bif p l[i]then g i else k (Ar ((i:Int)+1)) a0)(J:∀k,body k (l.length:Int) a0=rest):
 aS body Aw 0 a0=if l.findIdx p<l.length then g (l.findIdx p)else rest:=by
 have M:Aw=9223372036854775808:=rfl
 have key:∀n (i:Nat),i+n=l.length->∀m,n<m->aS body m (i:Int) a0=if(l.drop i).findIdx p+i<l.length then g ((l.drop i).findIdx p+i)else rest:=by
  intro n
  induction n with
  |zero=>
   intro i hi m hm;obtain⟨m,rfl⟩:∃q,m=q+1:=⟨m-1,AL⟩
   have :i=l.length:=AL
   subst this;show body (aS body m) _ _=_;rw[J,PU,EC Bf]
  |succ n L=>
   intro i hi m hm;obtain⟨m,rfl⟩:∃q,m=q+1:=⟨m-1,AL⟩
   have j:i<l.length:=AL
   show body (aS body m) _ _=_;rw[I _ i j,wrap_succ i AL,L (i+1) AL m AL,Ns j,WE];cases p l[i]with
   |true=>
    grind
   |false=>
    simp only[BO];rw[show(l.drop (i+1)).findIdx p+(i+1)=(l.drop (i+1)).findIdx p+1+i by omega]
 grind
def LV (l:AA Ad):Ad×Ac:=match l.find? λx=>x.Kind==1 with |some x=>(x,true)|none=>(EI,false)
def aH5 (l:AA Ad)(p:Ad->Ac):(if l.findIdx p<l.length then(some (match l[l.findIdx p]? with |some x=>(x,true)|none=>(EI,false)))else some (EI,false))=some (match l.find? p with |some x=>(x,true)|none=>(EI,false)):=by
 rw[Jz]
 grind
def aWV (l:AA Ad)(hl:l.length<=1000):Fn1 l=some (LV l):=by
 unfold Fn1 aRh;rw[aGh l (fuel_lt AL) (λx=>x.Kind==1) (λi=>some (match l[i]? with |some x=>(x,true)|none=>(EI,false))) (some (EI,false))]
 ·exact aH5 l _
 ·intro k i h;unfold aFV;rw[Ce h,EJ h]
 intro k;unfold aFV;rw[EX]
def aVG (l:AA Ad)(hl:l.length<=1000):zJ l=some (LV l):=by
 unfold zJ aWW;rw[aGh l (fuel_lt AL) (λx=>x.Kind==1) (λi=>some (match l[i]? with |some x=>(x,true)|none=>(EI,false))) (some (EI,false))]
 ·exact aH5 l _
 ·intro k i h;unfold aEI;rw[Ce h,CX h,EJ h];rfl
 intro k;unfold aEI;rw[EX]
def Nv (u:BH)(x:Ad):Ac:=x.Kind==2&&(x.Key=u)
def Hq (l:AA Ad)(u:BH):Int:=match l.find? (Nv u)with |some x=>x.Content.N|none=>0
def a0H (u:BH)(x:Ad):(cond (x.Kind==2) (some (x.Key.toList==u.toList)) (some false))=some (Nv u x):=by
 unfold Nv;rw[JC];cases x.Kind==2<;>rfl
def aHC (l:AA Ad)(u:BH)(hl:l.length<=1000):ng l u=some (Hq l u):=by
 unfold ng aLc Hq;rw[JG l (fuel_lt AL) (Nv u) (λi=>some (match l[i]? with |some x=>x.Content.N|none=>0)) (some 0)]
 ·rw[Jz]
  grind
 ·intro k i h;unfold aCd;rw[Ce h,CX h,EJ h];simp only[Af];rw[a0H];rfl
 intro k;unfold aCd;rw[EX]
def a9e (l:AA Ad)(u:BH)(hl:l.length<=1000):fM l u=some (Hq l u):=by
 unfold fM aRJ Hq;rw[JG l (fuel_lt AL) (Nv u) (λi=>some (match l[i]? with |some x=>x.Content.N|none=>0)) (some 0)]
 ·rw[Jz]
  grind
 ·intro k i h;unfold aJz;rw[Ce h,CX h,EJ h];simp only[Af];rw[a0H];rfl
 intro k;unfold aJz;rw[EX]
def qJ (e:Ad)(l:AA Ad):Ac:=
 (LV l).2&&(e.bP.length==1&&(e.bP.getD 0 0==(LV l).1.Id&&(decide (e.bG=(LV l).1.bG)&&(decide (e.Key=(LV l).1.bG)&&(e.Content.N==3&& !l.any (Nv e.Key))))))
def amx (e:Ad)(l:AA Ad)(hl:l.length<=1000):a9a e l=some (qJ e l):=by
 have I:aDh l e 0=some (!l.any (Nv e.Key)):=by
  unfold aDh;rw[Hw l (fuel_lt AL) (Nv e.Key) false (some true)]
  ·grind
  ·intro k i h;unfold aBz;rw[Ce h,a0H];rfl
  intro k;unfold aBz;rw[EX]
 unfold a9a qJ ZC;rw[aWV l hl];simp only[Af];rw[I,JC,JC];cases(LV l).2 with
 |false=>
  rfl
 |true=>
  by_cases hp:e.bP.length=1
  ·have J:0<e.bP.length:=AL
   have j:((e.bP.length:Int) != 1)=false:=by rw[hp];rfl
   have q:(e.bP.length==1)=true:=aAI
   have L:Aq e.bP 0=some (e.bP.getD 0 0):=by
    have :Aq e.bP ((0:Nat):Int)=some e.bP[0]:=CX J
    grind
   rw[j,q,L];simp only[Af,bne];cases e.bP.getD 0 0==(LV l).1.Id<;>cases decide (e.bG=(LV l).1.bG)<;>cases decide (e.Key=(LV l).1.bG)<;>cases e.Content.N==3<;>rfl
  have j:((e.bP.length:Int) != 1)=true:=Eh
  have q:(e.bP.length==1)=false:=aAI
  rw[j,q];rfl
def aZx (e:Ad)(l:AA Ad)(hl:l.length<=1000):aAg e l=some (qJ e l):=by
 have I:a3i l e.Key=some (l.any (Nv e.Key)):=by
  unfold a3i aUz;rw[Hw l (fuel_lt AL) (Nv e.Key) true (some false)]
  ·grind
  ·intro k i h;unfold aKT;rw[Ce h,CX h];simp only[Af];rw[a0H];rfl
  intro k;unfold aKT;rw[EX]
 unfold aAg qJ YZ;rw[aVG l hl];simp only[Af];rw[I,JC,JC];cases(LV l).2 with
 |false=>
  rfl
 |true=>
  by_cases hp:e.bP.length=1
  ·have J:0<e.bP.length:=AL
   have j:((e.bP.length:Int)==1)=true:=by rw[hp];rfl
   have q:(e.bP.length==1)=true:=aAI
   have L:Aq e.bP 0=some (e.bP.getD 0 0):=by
    have :Aq e.bP ((0:Nat):Int)=some e.bP[0]:=CX J
    grind
   rw[j,q,L];simp only[Af];cases e.bP.getD 0 0==(LV l).1.Id<;>cases decide (e.bG=(LV l).1.bG)<;>cases decide (e.Key=(LV l).1.bG)<;>cases e.Content.N==3<;>rfl
  have j:((e.bP.length:Int)==1)=false:=Eh
  have q:(e.bP.length==1)=false:=aAI
  rw[j,q];rfl
def moveB (f t:Int)(s:Ac):Ac:=
 bif decide (f<0)||decide (f>4)then false else bif t==3 then s&&f != 4 else bif t==0 then f==1||f==2||f==3||(f==4&& !s)else bif t==2 then s&&(f==0||f==2)else bif t==1 then !s&&(f==0||f==2||f==1)else bif t==4 then !s else false
def aXG (f t:Int)(s:Ac):Xh f t s=some (moveB f t s):=by
 unfold Xh moveB;simp only[MV,Af,jZ,WI]
def ajA (f t:Int)(s:Ac):iI f t s=some (moveB f t s):=by
 rw[←aXG];by_cases j:f<0
 ·unfold iI Xh
  grind
 by_cases q:f>4
 ·unfold iI Xh
  grind
 by_cases I:t<0
 ·unfold iI Xh;rw[L8 I,Iq j,Iq q,show(t==3)=false by simp;omega,show(t==0)=false by simp;omega,show(t==2)=false by simp;omega,show(t==1)=false by simp;omega,show(t==4)=false by simp;omega];rfl
 by_cases J:t>4
 ·unfold iI Xh;rw[L8 J,Iq I,Iq j,Iq q,show(t==3)=false by simp;omega,show(t==0)=false by simp;omega,show(t==2)=false by simp;omega,show(t==1)=false by simp;omega,show(t==4)=false by simp;omega];rfl
 have L:f=0\/f=1\/f=2\/f=3\/f=4:=AL
 have M:t=0\/t=1\/t=2\/t=3\/t=4:=AL
 rcases L with rfl|rfl|rfl|rfl|rfl<;>rcases M with rfl|rfl|rfl|rfl|rfl<;>cases s<;>decide
def s0 (l:AA Ad):Int×AA BH:=match l.find? λx=>x.Kind==4 with |some x=>(x.Content.N,x.Content.Allow)|none=>(0,[])
def aZJ (l:AA Ad)(hl:l.length<=1000)(hs:EZ l):a9Y l=some (s0 l):=by
 unfold a9Y aOY s0;rw[JG l (fuel_lt AL) (λx=>x.Kind==4) (λi=>some (match l[i]? with |some x=>(x.Content.N,x.Content.Allow)|none=>(0,[]))) (some (0,[]))]
 ·rw[Jz]
  grind
 ·intro k i h;have ha:=(hs _ (Eu h)).allow;unfold aIO;rw[Ce h,EJ h,Dz Uk];rfl
 intro k;unfold aIO;rw[EX]
def ahh (l:AA Ad)(hl:l.length<=1000)(hs:EZ l):aAD l=some (s0 l):=by
 unfold aAD aVl s0;rw[JG l (fuel_lt AL) (λx=>x.Kind==4) (λi=>some (match l[i]? with |some x=>(x.Content.N,x.Content.Allow)|none=>(0,[]))) (some (0,[]))]
 ·rw[Jz]
  grind
 ·intro k i h;have ha:=(hs _ (Eu h)).allow;unfold aHV;rw[Ce h,CX h,EJ h];simp only[Af];rw[Dz Uk];rfl
 intro k;unfold aHV;rw[EX]
def wV (j now:Int):Int:=bif now==3||j==1 then 0 else bif now==1&&(j==0||j==2||j==3)then 0 else 21
def xY (j now:Int):Int:=bif j==2&&(now==0||now==2)then 0 else 21
def aj2 (r n:Int):a9x r n=some (wV r n):=by
 unfold a9x a1b a8x wV;cases n==3<;>cases r==1<;>cases r==2<;>cases r==3<;>cases r==0<;>cases n==1<;>rfl
def aos (r n:Int):a8W r n=some (wV r n):=by
 unfold a8W wV;cases n==3<;>cases r==1<;>cases r==2<;>cases r==3<;>cases r==0<;>cases n==1<;>rfl
def aZo (r n:Int):aBf r n=some (xY r n):=by
 unfold aBf a5N xY bne
 grind
def aa5 (r n:Int):aAZ r n=some (xY r n):=by
 unfold aAZ xY
 grind
def wU (m now:Int)(l:AA Ad):Int:=bif m==3 then wV (s0 l).1 now else bif m==2 then xY (s0 l).1 now else 0
def aj0 (m now:Int)(l:AA Ad)(hl:l.length<=1000)(hs:EZ l):aAs m now l=some (wU m now l):=by
 unfold aAs wU;rw[aZJ l hl hs];simp only[Af];rw[aj2,aZo]
 grind
def ado (e:Ad)(now:Int)(l:AA Ad)(hl:l.length<=1000)(hs:EZ l):a2h e l now=some (wU e.Content.N now l):=by
 unfold a2h wU;rw[ahh l hl hs];simp only[Af];rw[aos,aa5]
 grind
def JJ (k:Int):Ac:=decide (k>=1)&&(k<=10)
def aLO (k:Int):ZR k=some (JJ k):=by
 unfold ZR JJ;cases decide (k>=1)<;>rfl
def aBD (k:Int):Ug k=some (JJ k):=by
 unfold Ug JJ;cases decide (k>=1)<;>rfl
def YQ (v:Ci)(k:Int):Int:=match v.Kinds.find? λx=>x.Kind==k with |some x=>x.N|none=>bif JJ k then v.State else v.Message
def aDu (v:Ci)(k:Int)(h:v.Kinds.length<=1000):nU v k=some (YQ v k):=by
 unfold nU aMJ YQ;rw[JG v.Kinds (fuel_lt AL) (λx=>x.Kind==k) (λi=>some (match v.Kinds[i]? with |some x=>x.N|none=>0)) (some (cond (JJ k) v.State v.Message))]
 ·rw[Jz]
  grind
 ·intro k2 i h;unfold aDV;rw[Ce h,EJ h]
 intro k2;unfold aDV;rw[EX,aLO];cases JJ k<;>rfl
def a0T (v:Ci)(k:Int)(h:v.Kinds.length<=1000):qw v k=some (YQ v k):=by
 unfold qw aNT YQ;rw[JG v.Kinds (fuel_lt AL) (λx=>x.Kind==k) (λi=>some (match v.Kinds[i]? with |some x=>x.N|none=>0)) (some (cond (JJ k) v.State v.Message))]
 ·rw[Jz]
  grind
 ·intro k2 i h;unfold aIc;rw[Ce h,CX h,EJ h];rfl
 intro k2;unfold aIc;rw[EX,aBD];cases JJ k<;>rfl
def XF (own j q:Int):Ac:=j==q||(decide (j<=own)&&(q<=own))
def numsOf (v:Ci):AA Int:=[v.User,v.Message,v.State,v.iJ,v.kT,v.oq,v.gy]
def uY (own:Int)(p:Int×Int):Ac:= !XF own p.1 p.2
def Vu (own:Int)(j q:Ci)(x:Kw):Ac:= !XF own (YQ j x.Kind) (YQ q x.Kind)
def Je (own:Int)(j q:Ci)(I:BH)(x:Ih):Ac:= !(XF own (Ey j x.User) (Ey q x.User)&&(Ey j x.User==Ey q x.User||(x.User=I)||(Ey j x.User<own)))
def Fn2 (j I:Ci)(q:BH):Int:=
 bif ((numsOf j).zip (numsOf I)).any (uY (Ey j q))then 20 else bif (j.Kinds++I.Kinds).any (Vu (Ey j q) j I)then 20 else bif (j.Users++I.Users).any (Je (Ey j q) j I q)then 20 else 0
def aF6 (own j q:Int):Y3 j q own=some (!XF own j q):=by
 unfold Y3 XF;have h1:(j != q)= !(j==q):=rfl;have h2:decide (j>own)= !decide (j<=own):=by by_cases h:j<=own<;>simp[h]<;>omega
 have h3:decide (q>own)= !decide (q<=own):=by by_cases h:q<=own<;>simp[h]<;>omega
 rw[h1,h2,h3]
 grind
def a3j (own j q:Int):qE j q own=some (XF own j q):=by
 unfold qE XF
 grind
structure aj (v:Ci):Prop where
 users:v.Users.length<=100
 kinds:v.Kinds.length<=100
def UpR (a b:Ci):((numsOf a).zip (numsOf b)).length=7:=rfl
def apm (q I:Ci)(J:BH)(ho:aj q)(hn:aj I):a2A q I J=some (Fn2 q I J):=by
 have o1:=ho.users;have o2:=ho.kinds;have n1:=hn.users;have n2:=hn.kinds;unfold a2A;rw[ZN q J AL];unfold aAp;simp only[Af];unfold Fn2;generalize hown:Ey q J=own
 have hU:a3k q I own J false 0=some (cond ((q.Users++I.Users).any (Je own q I J)) 20 0):=by
  unfold a3k;rw[aKb ([q.Users,I.Users]:AA (AA Ih)) (fuel_lt Bf) (λus=>us.any (Je own q I J)) (λ_=>some 20) (some 0) false]
  ·have e:(q.Users++I.Users).any (Je own q I J)=([q.Users,I.Users]:AA (AA Ih)).any (λus=>us.any (Je own q I J)):=Bf
   rw[e]
   have hf:∀L:AA (AA Ih),(if L.findIdx (λus=>us.any (Je own q I J))<L.length then some (20:Int)else some 0)=some (bif L.any (λus=>us.any (Je own q I J))then 20 else 0):=λL=>by
    by_cases h:L.findIdx (λus=>us.any (Je own q I J))<L.length
    ·rw[Dw h];have :L.any (λus=>us.any (Je own q I J))=true:=KE.2 ((xE).1 h);rw[this];rfl
    rw[EC h]
    have :L.any (λus=>us.any (Je own q I J))=false:=by
     rw[Bool.eq_false_iff];exact λk=>h (xE.2 (KE.1 k))
    rw[this];rfl
   exact hf _
  ·intro k i h
   have U:([q.Users,I.Users]:AA (AA Ih))[i].length<=100:=by
    have :([q.Users,I.Users]:AA (AA Ih))[i]∈[q.Users,I.Users]:=Eu h;simp only[G7,H9,or_false]at this;rcases this with e|e<;>rw[e]<;>assumption
   unfold aAQ;rw[show decide ((i:Int)<2)=true by simp only[H8,La]at h;simp;omega,CX h];simp only[Bd,Af];generalize([q.Users,I.Users]:AA (AA Ih))[i]=us at U;unfold aUu;rw[aKb us (fuel_lt AL) (Je own q I J) (λ_=>some 20) (k false (Ar ((i:Int)+1))) false]
   ·by_cases h2:us.findIdx (Je own q I J)<us.length
    ·rw[Dw h2];have :us.any (Je own q I J)=true:=KE.2 ((xE).1 h2);rw[this];rfl
    rw[EC h2]
    have :us.any (Je own q I J)=false:=by
     rw[Bool.eq_false_iff];exact λk=>h2 (xE.2 (KE.1 k))
    rw[this];rfl
   ·intro k2 j Y;unfold a90 lI;rw[Ce Y,ZN q _ AL,ZN I _ AL];simp only[Af];rw[aF6,JC];unfold Je;have h2:decide (Ey q us[j].User>=own)= !decide (Ey q us[j].User<own):=by by_cases h:Ey q us[j].User<own<;>simp[h]<;>omega
    have h3:(Ey q us[j].User != Ey I us[j].User)= !(Ey q us[j].User==Ey I us[j].User):=rfl;simp only[Af];rw[h2,h3];cases XF own (Ey q us[j].User) (Ey I us[j].User)<;>cases Ey q us[j].User==Ey I us[j].User<;>cases decide (us[j].User=J)<;>cases decide (Ey q us[j].User<own)<;>rfl
   intro k2;unfold a90;rw[EX]
  intro k;unfold aAQ lI;rw[show decide (((([q.Users,I.Users]:AA (AA Ih)).length:Nat):Int)<2)=false from rfl];rfl
 have hK:a7V q I own J 0=some (cond ((q.Kinds++I.Kinds).any (Vu own q I)) 20 (cond ((q.Users++I.Users).any (Je own q I J)) 20 0)):=by
  unfold a7V;rw[Hw ([q.Kinds,I.Kinds]:AA (AA Kw)) (fuel_lt Bf) (λM=>M.any (Vu own q I)) 20 (a3k q I own J false 0)]
  ·rw[hU];have e:(q.Kinds++I.Kinds).any (Vu own q I)=([q.Kinds,I.Kinds]:AA (AA Kw)).any (λM=>M.any (Vu own q I)):=Bf
   rw[e];cases([q.Kinds,I.Kinds]:AA (AA Kw)).any (λM=>M.any (Vu own q I))<;>rfl
  ·intro k i h
   have Z:([q.Kinds,I.Kinds]:AA (AA Kw))[i].length<=100:=by
    have :([q.Kinds,I.Kinds]:AA (AA Kw))[i]∈[q.Kinds,I.Kinds]:=Eu h;simp only[G7,H9,or_false]at this;rcases this with e|e<;>rw[e]<;>assumption
   unfold a8m;rw[show decide ((i:Int)<2)=true by simp only[H8,La]at h;simp;omega,CX h];simp only[Bd,Af];generalize([q.Kinds,I.Kinds]:AA (AA Kw))[i]=M at Z;unfold aUD;rw[Hw M (fuel_lt AL) (Vu own q I) 20 (k (Ar ((i:Int)+1)))]
   ·intro k2 j Y;unfold a8c;rw[Ce Y,aDu q _ AL,aDu I _ AL];simp only[Af];rw[aF6];rfl
   intro k2;unfold a8c;rw[EX]
  intro k;unfold a8m;rw[show decide (((([q.Kinds,I.Kinds]:AA (AA Kw)).length:Nat):Int)<2)=false from rfl];rfl
 unfold aLy;rw[Hw ((numsOf q).zip (numsOf I)) aNd (uY own) 20 (a7V q I own J 0)]
 ·rw[hK];cases((numsOf q).zip (numsOf I)).any (uY own)<;>rfl
 ·intro k i h;have O:i<7:=by rw[UpR]at h;exact h
  have e1:Aq [q.User,q.Message,q.State,q.iJ,q.kT,q.oq,q.gy] (i:Int)=some ((numsOf q)[i]'(O)):=CX (l:=numsOf q) O;have e2:Aq [I.User,I.Message,I.State,I.iJ,I.kT,I.oq,I.gy] (i:Int)=some ((numsOf I)[i]'(O)):=CX (l:=numsOf I) O;unfold a3l;rw[show decide ((i:Int)<7)=true by simp;omega,e1,e2];simp only[Bd,Af];rw[aF6,aF0];rfl
 intro k;unfold a3l;rw[UpR,show decide (((7:Nat):Int)<7)=false from rfl];rfl
def ajy (j I:Ci)(u q:BH)(J:aj j)(L:aj I):sZ j I u q=some (XF (Ey j q) (Ey j u) (Ey I u)&&(Ey j u==Ey I u||(u=q)||(Ey j u<Ey j q))):=by
 have o1:=J.users;have M:=L.users;unfold sZ;rw[XJ j q AL,XJ j u AL,XJ I u AL];simp only[Af];rw[a3j,JC]
 grind
def akn (j q:Ci)(I:BH)(M:aj j)(O:aj q):a7u j q I=some (Fn2 j q I):=by
 have o1:=M.users;have o2:=M.kinds;have n1:=O.users;have n2:=O.kinds;unfold a7u;rw[XJ j I AL];unfold a6w;simp only[Af];unfold Fn2
 have J:∀x:Ih,(sZ j q x.User I)=some (!Je (Ey j I) j q I x):=λx=>by
  rw[ajy j q _ _ M O];unfold Je;rw[a0i]
 generalize Y:Ey j I=own at J
 have U:aD7 q j I 0=some (cond (q.Users.any (Je own j q I)) 20 0):=by
  unfold aD7;rw[Hw q.Users (fuel_lt AL) (Je own j q I) 20 (some 0)]
  ·cases q.Users.any (Je own j q I)<;>rfl
  ·intro k i h;unfold aCM;rw[Ce h,J];simp only[Af,a0i]
  intro k;unfold aCM;rw[EX]
 have hU:aCy j q I 0=some (cond ((j.Users++q.Users).any (Je own j q I)) 20 0):=by
  unfold aCy;rw[Hw j.Users (fuel_lt AL) (Je own j q I) 20 (some (cond (q.Users.any (Je own j q I)) 20 0))]
  ·rw[aDx];cases j.Users.any (Je own j q I)<;>rfl
  ·intro k i h;unfold aIb;rw[Ce h,J];simp only[Af,a0i]
  intro k;unfold aIb;rw[EX,U]
 have hK:a5l j q own I 0=some (cond ((j.Kinds++q.Kinds).any (Vu own j q)) 20 (cond ((j.Users++q.Users).any (Je own j q I)) 20 0)):=by
  unfold a5l;have Z:Ar ((j.Kinds.length:Int)+(q.Kinds.length:Int))=(((j.Kinds++q.Kinds).length:Nat):Int):=by rw[Em,Vo];omega
  rw[Hw (j.Kinds++q.Kinds) (fuel_lt MO) (Vu own j q) 20 (some (cond ((j.Users++q.Users).any (Je own j q I)) 20 0))]
  ·cases(j.Kinds++q.Kinds).any (Vu own j q)<;>rfl
  ·intro k i h;unfold aL0 a3Z;rw[Z,dec_lt h];simp only[Bd];by_cases hi:i<j.Kinds.length
   ·rw[dec_lt hi,CX hi];simp only[Bd,Af];rw[a0T j _ AL,a0T q _ AL];simp only[Af];rw[a3j,List.getElem_append_left hi];rfl
   have hj:i-j.Kinds.length<q.Kinds.length:=by rw[Em]at h;omega
   have w:Ar ((i:Int)-(j.Kinds.length:Int))=((i-j.Kinds.length:Nat):Int):=by rw[Em]at h;rw[Vo];omega
   rw[show decide ((i:Int)<(j.Kinds.length:Int))=false by simp;omega,w,CX hj];simp only[BO,Af];rw[a0T j _ AL,a0T q _ AL];simp only[Af];rw[a3j,List.getElem_append_right AL];rfl
  intro k;unfold aL0;rw[Z,DY,hU];rfl
 unfold aM4;rw[Hw ((numsOf j).zip (numsOf q)) aNd (uY own) 20 (a5l j q own I 0)]
 ·rw[hK];cases((numsOf j).zip (numsOf q)).any (uY own)<;>rfl
 ·intro k i h;have L:i<7:=by rw[UpR]at h;exact h
  have e1:Aq [j.User,j.Message,j.State,j.iJ,j.kT,j.oq,j.gy] (i:Int)=some ((numsOf j)[i]'(L)):=CX (l:=numsOf j) L;have e2:Aq [q.User,q.Message,q.State,q.iJ,q.kT,q.oq,q.gy] (i:Int)=some ((numsOf q)[i]'(L)):=CX (l:=numsOf q) L;unfold aGN;rw[show decide ((i:Int)<(([j.User,j.Message,j.State,j.iJ,j.kT,j.oq,j.gy]:AA Int).length:Int))=true from dec_lt (n:=7) L,e1,e2];simp only[Bd,Af];rw[a3j,aF0];rfl
 intro k;unfold aGN;rw[UpR];rfl
def a1k (e:Ad)(l:AA Ad)(now:Int):Int:=
 bif !(Hq l e.bG==3)then 18 else
 bif e.Content.N==1&&decide (Ey (Fe l) e.bG<(Fe l).iJ)then 20 else
 bif e.Content.N==0&&((now==4&&(Ey (Fe l) e.bG<(Fe l).oq))||(Ey (Fe l) e.bG<(Fe l).kT)||(Ey (Fe l) e.Key>=Ey (Fe l) e.bG))then 20 else
 bif e.Content.N==4&&(decide (Ey (Fe l) e.bG<(Fe l).oq)||(Ey (Fe l) e.Key>=Ey (Fe l) e.bG))then 20 else 0
def a0b (e:Ad)(l:AA Ad):Int:=
 bif qJ e l then 0 else
 bif decide (e.Key=e.bG)&&Hq l e.Key==4 then 19 else
 bif !moveB (Hq l e.Key) e.Content.N (decide (e.Key=e.bG))then 18 else
 bif e.Key=e.bG then wU e.Content.N (Hq l e.Key) l else a1k e l (Hq l e.Key)
def yN (e:Ad)(l:AA Ad):Int:=
 bif Ey (Fe l) e.bG<YQ (Fe l) e.Kind then 20 else bif e.Kind==3 then Fn2 (Fe l) e.Content.Levels e.bG else 0
def aQ4 (s:BH):BH:=(splitB s (LM s)).2.1
def UD (e:Ad)(l:AA Ad):Int:=
 bif e.Kind==1 then(cond (!(LV l).2&&(aQ4 e.bG).toList==(aQ4 e.Room).toList) 0 17)else
 bif !(LV l).2 then 17 else bif e.Kind==2 then a0b e l else bif !(Hq l e.bG==3)then 18 else yN e l
def a9b (h:EZ l):aj (Fe l):=⟨(sV h).1,(sV h).2⟩
def Fp.levels (h:Fp e):aj e.Content.Levels:=⟨h.users,h.kinds⟩
def am5 (e:Ad)(l:AA Ad)(hl:l.length<=1000)(hs:EZ l)(q:Fp e):a5v e l=some (yN e l):=by
 have j:=a9b hs;have h1:=j.users;have h2:=j.kinds;unfold a5v yN;rw[a8Y l hl hs];simp only[Af];rw[ZN _ _ AL,aDu _ _ AL];simp only[Af];rw[apm _ _ _ j q.levels];cases decide (Ey (Fe l) e.bG<YQ (Fe l) e.Kind)<;>cases e.Kind==3<;>rfl
def ah4 (e:Ad)(l:AA Ad)(hl:l.length<=1000)(hs:EZ l)(q:Fp e):a5o e l=some (yN e l):=by
 have j:=a9b hs;have h1:=j.users;have h2:=j.kinds;unfold a5o yN;rw[a6D l hl];simp only[Af];rw[XJ _ _ AL,a0T _ _ AL];simp only[Af];rw[akn _ _ _ j q.levels];cases decide (Ey (Fe l) e.bG<YQ (Fe l) e.Kind)<;>cases e.Kind==3<;>rfl
def o8 (x:Int):Except BJ Unit:=.error (.iface 287 (.agg #[.int .i64 x]))
def aYQ (x:Int):jC x=some (o8 x):=rfl
def aCe (b:Ac)(x:Int):Rn b x=some (cond b (.ok ()) (o8 x)):=by cases b<;>rfl
def aJT (b:Ac)(x:Int)(f:Unit->AB (Except BJ Unit)):NM (cond b (.ok ()) (o8 x)) f=bif b then f ()else some (o8 x):=by cases b<;>rfl
def aXg (x:Int)(f:Unit->AB (Except BJ Unit)):NM (o8 x) f=some (o8 x):=rfl
def aYU (a b:Int):decide (a>=b)= !decide (a<b):=by by_cases h:a<b<;>simp[h]<;>omega
def adU (e:Ad)(l:AA Ad)(now:Int)(hl:l.length<=1000)(hs:EZ l):(sO l e now).bind Ue=some (a1k e l now):=by
 have h1:=(sV hs).1;unfold sO a1k;rw[aHC l _ hl,a8Y l hl hs];simp only[Af];rw[ZN _ _ AL,ZN _ _ AL];simp only[aCe,Af,aJT,aYU]
 have h2:decide (Ey (Fe l) e.Key<Ey (Fe l) e.bG)= !decide (Ey (Fe l) e.bG<=Ey (Fe l) e.Key):=by
  by_cases h:Ey (Fe l) e.Key<Ey (Fe l) e.bG<;>simp[h]<;>omega
 have h3:(now != 4)= !(now==4):=rfl;rw[h3];generalize decide (Ey (Fe l) e.Key<Ey (Fe l) e.bG)=t;generalize decide (Ey (Fe l) e.bG<(Fe l).iJ)=i;generalize decide (Ey (Fe l) e.bG<(Fe l).oq)=b;generalize decide (Ey (Fe l) e.bG<(Fe l).kT)=k;generalize(now==4)=n;cases Hq l e.bG==3 with
 |false=>rfl
 |true=>
  by_cases j:e.Content.N=1
  ·rw[j];cases i<;>rfl
  rw[show(e.Content.N==1)=false by simpa using j];by_cases q:e.Content.N=0
  ·rw[q];cases n<;>cases b<;>cases k<;>cases t<;>rfl
  rw[show(e.Content.N==0)=false by simpa using q];cases e.Content.N==4<;>cases b<;>cases t<;>rfl
def aa8 (e:Ad)(l:AA Ad)(now:Int)(hl:l.length<=1000)(hs:EZ l):aB2 e l now=some (a1k e l now):=by
 have h1:=(sV hs).1;unfold aB2 a1k;rw[a9e l _ hl,a6D l hl];simp only[Af];rw[XJ _ _ AL,XJ _ _ AL];simp only[Af,MV,jZ,WI,bne]
def alG (e:Ad)(l:AA Ad)(hl:l.length<=1000)(hs:EZ l):a4y e l=some (a0b e l):=by
 unfold a4y a0b;rw[amx e l hl];simp only[Af];cases qJ e l with
 |true=>rfl
 |false=>
  simp only[BO]
  have q:∀o:AB (Except BJ Unit),(o.bind λI=>(Ue I).bind λL=>some L)=o.bind Ue:=λo=>by
   cases o with
   |none=>rfl
   |some x=>cases h:Ue x<;>simp[h]
  rw[q];have j:=adU e l (Hq l e.Key) hl hs;unfold aDq;rw[aHC l _ hl,JC];simp only[Af];rw[ajA,aj0 _ _ _ hl hs];simp only[Af,aCe,aYQ,aJT,aXg,MV];have h3:(Hq l e.Key != 4)= !(Hq l e.Key==4):=rfl;rw[h3];generalize sO l e (Hq l e.Key)=J at j;generalize decide (e.Key=e.bG)=s;cases s with
  |true=>
   cases Hq l e.Key==4 with
   |true=>rfl
   |false=>cases moveB (Hq l e.Key) e.Content.N true<;>rfl
  |false=>
   cases moveB (Hq l e.Key) e.Content.N false with
   |false=>rfl
   |true=>exact j
def amQ (e:Ad)(l:AA Ad)(hl:l.length<=1000)(hs:EZ l):a6y e l=some (a0b e l):=by
 unfold a6y a0b;rw[aZx e l hl,a9e l _ hl];simp only[Af];rw[aXG,ado e _ l hl hs,aa8 e l _ hl hs,JC];simp only[Af,MV,WI]
def aEw (e:Ad)(l:AA Ad)(hl:l.length<=1000)(hs:EZ l)(j:Fp e):Y7 e l=some (UD e l):=by
 have h1:=j.sender;have h2:=j.room;unfold Y7 UD
 have q:∀o:AB (Except BJ Unit),(o.bind λI=>(Ue I).bind λJ=>some J)=o.bind Ue:=λo=>by
  cases o with
  |none=>rfl
  |some x=>cases h:Ue x<;>simp[h]
 rw[q];unfold aCR a5q a7m a4v;rw[aWV l hl,(oL (s:=e.bG) AL).1,(oL (s:=e.Room) AL).1,aHC l _ hl,am5 e l hl hs j,alG e l hl hs];simp only[Af,aCe,aYQ,aJT,aXg];show _=some (cond (e.Kind==1) (cond (!(LV l).2&&(splitB e.bG (LM e.bG)).2.1.toList==(splitB e.Room (LM e.Room)).2.1.toList) 0 17) _);cases e.Kind==1 with
 |true=>
  cases(LV l).2 with
  |true=>rfl
  |false=>cases(splitB e.bG (LM e.bG)).2.1.toList==(splitB e.Room (LM e.Room)).2.1.toList<;>rfl
 |false=>
  cases(LV l).2 with
  |false=>rfl
  |true=>
   cases e.Kind==2 with
   |true=>rfl
   |false=>cases Hq l e.bG==3<;>rfl
def aEf (e:Ad)(l:AA Ad)(hl:l.length<=1000)(hs:EZ l)(j:Fp e):rG e l=some (UD e l):=by
 have h1:=j.sender;have h2:=j.room;unfold rG a3Y UD;rw[aVG l hl,(oL (s:=e.bG) AL).2,(oL (s:=e.Room) AL).2,a9e l _ hl,ah4 e l hl hs j,amQ e l hl hs];simp only[Af];show _=some (cond (e.Kind==1) (cond (!(LV l).2&&(splitB e.bG (LM e.bG)).2.1.toList==(splitB e.Room (LM e.Room)).2.1.toList) 0 17) _);cases e.Kind==1 with
 |true=>
  cases(LV l).2 with
  |true=>rfl
  |false=>cases(splitB e.bG (LM e.bG)).2.1.toList==(splitB e.Room (LM e.Room)).2.1.toList<;>rfl
 |false=>
  cases(LV l).2 with
  |false=>rfl
  |true=>
   cases e.Kind==2 with
   |true=>rfl
   |false=>unfold bne;cases Hq l e.bG==3<;>rfl
def sG (named:AA Ad)(k:BN):Ad×Ac:=match named.find? (Fb k)with |some x=>(x,true)|none=>(EI,false)
def oK (l:AA Ad)(s:AA BN)(e:Ad)(k:BN):Ad×Ac:=bif (Hz s k.Kind k.Key).2 then Fv l (Hz s k.Kind k.Key).1 else sG (ofIds l e.bQ) k
def Ui (l:AA Ad)(s:AA BN)(e:Ad)(k:BN):AA Ad:=bif (oK l s e k).2 then[(oK l s e k).1]else[]
def YW (l:AA Ad)(s:AA BN)(e:Ad):AA Ad:=(keysOf e).flatMap (Ui l s e)
def aL2 (l:AA Ad)(s:AA BN)(e:Ad)(k:BN):(Ui l s e k).length<=1:=by
 unfold Ui;cases(oK l s e k).2<;>simp
def aWt (l:AA Ad)(s:AA BN)(e:Ad):(YW l s e).length<=5:=by
 have h1:=flat_length (f:=Ui l s e) (n:=1) (aL2 l s e) (keysOf e);have h2:=Y2 e;unfold YW;omega
variable {s:AA BN}
def an1 {x:Ad}(h:x∈YW l s e):x∈l:=by
 obtain⟨k,_,h⟩:=XQ.1 h;unfold Ui oK sG at h;cases q:(Hz s k.Kind k.Key).2 with
 |true=>
  rw[q]at h;simp only[Bd]at h;cases hp:Ea l (Hz s k.Kind k.Key).1 with
  |none=>rw[U1 hp]at h;exact absurd h H9
  |some y=>rw[Ll hp]at h;rw[QC.1 h];exact PN hp
 |false=>
  rw[q]at h;simp only[BO]at h;cases j:(ofIds l e.bQ).find? (Fb k)with
  |none=>rw[j]at h;exact absurd h H9
  |some y=>rw[j]at h;rw[QC.1 h];exact aIq (YD j)
def EZ.base (h:EZ l)(s:AA BN)(e:Ad):EZ (YW l s e):=λx j=>h x (an1 j)
def ake (named:AA Ad)(k:BN)(j:named.length<=1000):a4S named k=some (sG named k):=by
 unfold a4S;rw[aEZ named AL (λa0=>a2I a0 k) (Fb k) λe=>by unfold a2I Fb;rw[JC];cases e.Kind==k.Kind<;>rfl];exact found_eq named (Fb k) rfl
def apL (named:AA Ad)(k:BN)(j:named.length<=1000):a5W named k.Kind k.Key=some (sG named k):=by
 unfold a5W aY8;rw[aGh named (fuel_lt AL) (Fb k) (λi=>some (match named[i]? with |some x=>(x,true)|none=>(EI,false))) (some (EI,false))]
 ·exact aH5 named _
 ·intro k2 i h;unfold aEj;rw[Ce h,CX h,EJ h];simp only[Af];rw[JC];unfold Fb;cases named[i].Kind==k.Kind<;>cases decide (named[i].Key=k.Key)<;>rfl
 intro k2;unfold aEj;rw[EX]
def afv (l:AA Ad)(s:AA BN)(e:Ad)(hl:l.length<=1000)(j:e.bQ.length<=40)(hs:Ku s)(hsl:s.length<=1000000):a3N l s e=some (YW l s e):=by
 unfold a3N;have q:=gV l e.bQ;have I:=Y2 e;have hm:J4 376 EI 0 5=some []:=by unfold J4;rw[Dw a4p];rfl
 rw[ajb l _ hl AL,hm,aLQ];simp only[Af];unfold aW4;rw[Ig (keysOf e) AL (λr k=>r++Ui l s e k) (λi r=>r.length<=i) (λr=>some r) (Eo _)]
 ·rw[foldl_append (Ui l s e),Ij];rfl
 ·intro k r i h J;have hp:=aL2 l s e (keysOf e)[i];refine⟨MO,?_⟩;unfold aJ8 a2j a4U;rw[Ce h,ake _ _ AL,aAr s _ _ hsl hs];simp only[Af];rw[Ld l _ AL,Dz Gm];simp only[Af];rw[Dz Gm];unfold Ui oK;cases(Hz s (keysOf e)[i].Kind (keysOf e)[i].Key).2 with
  |true=>
   simp only[Bd];cases(Fv l (Hz s (keysOf e)[i].Kind (keysOf e)[i].Key).1).2 with
   |true=>rfl
   |false=>simp
  |false=>
   simp only[BO];cases(sG (ofIds l e.bQ) (keysOf e)[i]).2 with
   |true=>rfl
   |false=>simp
 intro k r _;unfold aJ8;rw[EX]
def adg (l:AA Ad)(s:AA BN)(e:Ad)(hl:l.length<=1000)(j:e.bQ.length<=40)(hsl:s.length<=1000000):a96 l s e=some (YW l s e):=by
 unfold a96;have q:=gV l e.bQ;have I:=Y2 e;rw[aFi,a8y l _ hl AL];simp only[Af];unfold aQh;rw[Ig (a0:=[]) (keysOf e) AL (λr k=>r++Ui l s e k) (λi r=>r.length<=i) (λr=>some r) (Eo _)]
 ·rw[foldl_append (Ui l s e),Ij];rfl
 ·intro k r i h J;have hp:=aL2 l s e (keysOf e)[i];refine⟨MO,?_⟩;unfold aFa a3V a5P;rw[dec_lt h,CX h];simp only[Bd,Af];rw[apL _ _ AL,a9i s _ _ hsl];simp only[Af];rw[J6 l _ AL,Dz Gm];simp only[Af];rw[Dz Gm];unfold Ui oK;cases(Hz s (keysOf e)[i].Kind (keysOf e)[i].Key).2 with
  |true=>
   simp only[Bd];cases(Fv l (Hz s (keysOf e)[i].Kind (keysOf e)[i].Key).1).2 with
   |true=>rfl
   |false=>simp
  |false=>
   simp only[BO];cases(sG (ofIds l e.bQ) (keysOf e)[i]).2 with
   |true=>rfl
   |false=>simp
 intro k r _;unfold aFa;rw[DY];rfl
def Yd (l:AA Ad)(s:AA BN)(id:Int):Ac:=dR l id&&(JJ (ev l id).Kind&&UD (ev l id) (YW l s (ev l id))==0)
def Tq (l:AA Ad)(s:AA BN)(id:Int):AA BN:=bif Yd l s id then Gu s (ev l id).Kind (ev l id).Key (ev l id).Id else s
def TJ (l:AA Ad)(s:AA BN)(ids:AA Int):AA BN:=ids.foldl (Tq l) s
def aYG (h:Ku s)(id:Int):Ku (Tq l s id):=by
 unfold Tq;cases Yd l s id with
 |true=>exact Xb h _ _ _
 |false=>exact h
def aKd {l:AA Ad}:∀{ids:AA Int} {s:AA BN},Ku s->Ku (TJ l s ids)
 | [],_,h=>h
 |id::ids,s,h=>aKd (ids:=ids) (aYG h id)
def aLM (l:AA Ad)(s:AA BN)(id:Int):(Tq l s id).length<=s.length+1:=by
 unfold Tq;cases Yd l s id with
 |true=>exact Qi _ _ _ _
 |false=>exact Nat.le_succ _
def a8n (l:AA Ad):∀(ids:AA Int) (s:AA BN),(TJ l s ids).length<=s.length+ids.length
 | [],s=>Eo _
 |id::ids,s=>by
  have h1:=a8n l ids (Tq l s id);have h2:=aLM l s id;show(TJ l (Tq l s id) ids).length<=_;rw[H8];omega
def aTz (hs:EZ l){id:Int}(h:dR l id=true):Fp (ev l id):=hs _ (PN (Om h).1)
def aZC (l:AA Ad)(s:AA BN)(id:Int)(hl:l.length<=1000)(hs:EZ l)(I:Ku s)(hsl:s.length<=1000000):a7h l s id=some (Tq l s id):=by
 unfold a7h aD4 a1p Tq Yd;have j:a9S s (.error (.iface 385 (.agg #[])):Except BJ (AA BN))=some s:=rfl;rw[Ld l _ AL];simp only[Af];rw[NT];cases L:(Ea l id).isSome with
 |false=>rw[show dR l id=false from L];exact j
 |true=>
  have q:dR l id=true:=L;have M:=aTz hs q;have J:(Fv l id).1=ev l id:=rfl;rw[q,J,aLO];simp only[Af,FK,BO,Gf];cases JJ (ev l id).Kind with
  |false=>exact j
  |true=>
   have O:=aWt l s (ev l id);rw[afv l s _ hl M.auth I hsl];simp only[Af,FK,BO,Gf];rw[aEw _ _ AL (hs.base s _) M];simp only[Af];rw[Zn s _ _ _ hsl];unfold bne;cases UD (ev l id) (YW l s (ev l id))==0 with
   |true=>rfl
   |false=>exact j
def aTB (l:AA Ad)(s:AA BN)(ids:AA Int)(hl:l.length<=1000)(hs:EZ l)(j:Ku s)(hsl:s.length+ids.length<=1000000):dV l s ids=some (TJ l s ids):=by
 unfold dV a5e;rw[Dz Uk];simp only[Af,Ij];unfold aRn;rw[Ig ids AL (Tq l) (λi r=>Ku r/\r.length<=s.length+i) (λr=>some r) ⟨j,Eo _⟩]
 ·rfl
 ·intro k r i h q;have h1:=aLM l r ids[i];refine⟨⟨aYG q.1 _,AL⟩,?_⟩;unfold aFO;rw[Ce h,aZC l r _ hl hs q.1 AL];rfl
 intro k r _;unfold aFO;rw[EX]
def aQb (l:AA Ad)(s:AA BN)(ids:AA Int)(hl:l.length<=1000)(hs:EZ l)(hsl:s.length+ids.length<=1000000):fA l s ids=some (TJ l s ids):=by
 unfold fA;rw[Dz Uk];simp only[Af,Ij];unfold aXp;rw[Ig ids AL (Tq l) (λi r=>r.length<=s.length+i) (λr=>some r) (Eo _)]
 ·rfl
 ·intro k r i h L;have h1:=aLM l r ids[i];refine⟨AL,?_⟩;unfold aD1 a0h aAt Tq Yd;rw[Ce h,J6 l _ AL];simp only[Af];rw[NT];cases I:(Ea l ids[i]).isSome with
  |false=>rw[show dR l ids[i]=false from I];rfl
  |true=>
   have j:dR l ids[i]=true:=I;have J:=aTz hs j;have q:(Fv l ids[i]).1=ev l ids[i]:=rfl;rw[j,q,aBD];simp only[Af,Bd,Gf];cases JJ (ev l ids[i]).Kind with
   |false=>rfl
   |true=>
    have M:=aWt l r (ev l ids[i]);rw[adg l r _ hl J.auth AL];simp only[Af,Bd,Gf];rw[aEf _ _ AL (hs.base r _) J];simp only[Af];rw[aC9 r _ _ _ AL];cases UD (ev l ids[i]) (YW l r (ev l ids[i]))==0<;>rfl
 intro k r _;unfold aD1;rw[EX]
def Oi (l:AA Ad)(bF:AA (AA BN)):AA Int:=Zf l (N9 l bF)
def Pm (l:AA Ad)(bF:AA (AA BN)):AA Int:=PE l (FX l (Oi l bF)).length (FX l (Oi l bF))
def Jr (l:AA Ad)(bF:AA (AA BN)):AA BN:=TJ l (J7 bF) (Pm l bF)
def Yq (l:AA Ad)(bF:AA (AA BN)):AA Int:=bif (Hz (Jr l bF) 3 CS).2 then nK l (Hz (Jr l bF) 3 CS).1 else[]
def Og (l:AA Ad)(bF:AA (AA BN)):AA Int:=Vw l (Yq l bF) (QH (N9 l bF) (Oi l bF))
def wX (s a:AA BN):AA BN:=a.foldl (λs x=>Gu s x.Kind x.Key x.Id) s
def lastOf (l:AA Ad)(bF:AA (AA BN)):AA BN:=wX (TJ l (Jr l bF) (Og l bF)) (J7 bF)
structure OY (l:List Ad) (bF:List (List BN)):Prop where
 len:l.length<=100
 small:EZ l
 states:PK bF
variable {bF:AA (AA BN)}
def tY (h:OY l bF):(N9 l bF).length<=40000:=by
 have j:=h.len;have q:=a3z h.states;have I:=ML (UE bF);have h1:=a7B l bF [] λs hs=>(h.states.2 s hs).1;have h2:=h.states.1;have h3:=I9 (λx=>LP l bF x<bF.length) (allOf l bF);have J:bF.length*(100+l.length)<=100*200:=yI h2 AL;have L:=aDR (FN (UE bF)) (Uy l bF)
 have M:(Uy l bF).length<=20000:=by
  unfold Uy;unfold allOf at h3 ⊢;simp only[La]at h1;omega
 unfold N9;omega
def alC (h:OY l bF):(SP l (N9 l bF)).length<=40000:=FQ (I9 _ _) (tY h)
def aKB (h:OY l bF):(Pm l bF).length<=100:=by
 have h1:=aTv l (FX l (Oi l bF)).length (FX l (Oi l bF));have h2:(FX l (Oi l bF)).length<=l.length:=jX (Yb _ _) λx j=>(Le.1 j).2;have h3:=h.len;unfold Pm;omega
def a5K (h:OY l bF):(Jr l bF).length<=200:=by
 have h1:=a8n l (Pm l bF) (J7 bF);have h2:=aKB h;have h3:=eH h.states;unfold Jr;omega
def aHt (h:OY l bF):Ku (Jr l bF):=aKd (aWi h.states)
def aNc (h:OY l bF):(Yq l bF).length<=100:=by
 have h1:=aVi l (Hz (Jr l bF) 3 CS).1;have h2:=h.len;unfold Yq;cases(Hz (Jr l bF) 3 CS).2 with
 |true=>simp only[Bd];omega
 |false=>exact F6 _
def aW1 (h:OY l bF):(Og l bF).length<=40000:=by
 have h1:=aiH l (Yq l bF) (QH (N9 l bF) (Oi l bF));have h2:=aGR (N9 l bF) (Oi l bF);have h3:=tY h;unfold Og;omega
def aik (h:OY l bF):Mem (N9 l bF) (Oi l bF) l (Jr l bF,Pm l bF) (J7 bF,FN (UE bF)) (Yq l bF)=some ⟨lastOf l bF,Pm l bF,Og l bF⟩:=by
 have I:=h.len;have h1:=tY h;have h2:=a6n l (N9 l bF);have h3:=aNc h;have J:=aGR (N9 l bF) (Oi l bF);have L:=a5K h;have M:=aW1 h;have O:=eH h.states;unfold Mem aJa aGm;rw[anv _ _ AL (by unfold Oi;omega)];simp only[Af];rw[aZV l _ _ AL h.small AL AL (bK (aJZ _ _))];simp only[Af];show((dV l (Jr l bF) (Og l bF)).bind _).bind _=_;rw[aTB l _ _ AL h.small (aHt h) AL];simp only[Af];unfold aWD;have U:=a8n l (Og l bF) (Jr l bF);show aS _ Aw 0 (⟨TJ l (Jr l bF) (Og l bF),Pm l bF,Og l bF⟩:Po)=_;rw[a2K (J7 bF) AL (λv x=>({ v with Jf:=Gu v.Jf x.Kind x.Key x.Id }:Po)) (λi v=>v.Jf.length<=(TJ l (Jr l bF) (Og l bF)).length+i) (λv=>some v) (Eo _)]
 ·congr 1;unfold lastOf wX
  have key:∀(a:AA BN) (v:Po),a.foldl (λv x=>({ v with Jf:=Gu v.Jf x.Kind x.Key x.Id }:Po)) v=⟨a.foldl (λs x=>Gu s x.Kind x.Key x.Id) v.Jf,v.apb,v.azB⟩:=by
   intro a
   induction a with
   |nil=>intro v;rfl
   |cons x a j=>intro v;rw[Hy,j];rfl
  rw[key]
 ·intro k v i hi Y;have q:=Qi v.Jf (J7 bF)[i].Kind (J7 bF)[i].Key (J7 bF)[i].Id;refine⟨by show(Gu _ _ _ _).length<=_;omega,?_⟩;unfold aKl;rw[Ce hi,Zn _ _ _ _ AL];rfl
 intro k v _;unfold aKl;rw[EX]
def aaO (h:OY l bF):a5T l bF=some ⟨lastOf l bF,Pm l bF,Og l bF⟩:=by
 have I:=h.len;have h1:=tY h;have h2:=a6n l (N9 l bF);have h3:=alC h;have J:=a5K h;have L:=aKB h;have M:=eH h.states;have j:=aik h;unfold a5T;rw[aW5 bF h.states,ab1 l bF AL h.small.apk h.states];simp only[Af];rw[ahz l _ AL h.small AL AL];simp only[Af];unfold aKr aCp;rw[abf l _ AL h.small AL];simp only[Af];have ha:dV l (J7 bF) (Pm l bF)=some (Jr l bF):=aTB l _ _ AL h.small (aWi h.states) AL;unfold Pm Oi at ha;rw[ha];simp only[Af];rw[aAr _ _ _ AL (aHt h)];simp only[Af];rw[afi l _ AL h.small];unfold Yq at j;cases q:(Hz (Jr l bF) 3 CS).2 with
 |true=>rw[q]at j;exact j
 |false=>rw[q]at j;exact j
def ags (h:OY l bF):a09 (N9 l bF) (Oi l bF) l (J7 bF,FN (UE bF)) (Pm l bF) (Jr l bF) (Yq l bF)=some ⟨J7 bF,Pm l bF,Jr l bF,Og l bF,lastOf l bF⟩:=by
 have J:=h.len;have h1:=tY h;have h2:=a6n l (N9 l bF);have h3:=aNc h;have L:=aGR (N9 l bF) (Oi l bF);have M:=a5K h;have O:=aW1 h;have U:=eH h.states;unfold a09;rw[a7t _ _ AL (by unfold Oi;omega)];simp only[Af];rw[akH l _ _ AL h.small AL AL (bK (aJZ _ _))];simp only[Af];show(fA l (Jr l bF) (Og l bF)).bind _=_;rw[aQb l _ _ AL h.small AL];simp only[Af];unfold aOj;have Y:=a8n l (Og l bF) (Jr l bF);show aS _ Aw 0 (⟨J7 bF,Pm l bF,Jr l bF,Og l bF,TJ l (Jr l bF) (Og l bF)⟩:Q5)=_;rw[a2K (J7 bF) AL (λv x=>({ v with Last:=Gu v.Last x.Kind x.Key x.Id }:Q5)) (λi v=>v.Same=J7 bF/\v.Last.length<=(TJ l (Jr l bF) (Og l bF)).length+i) (λv=>some v) ⟨rfl,Eo _⟩]
 ·congr 1;unfold lastOf wX
  have key:∀(a:AA BN) (v:Q5),a.foldl (λv x=>({ v with Last:=Gu v.Last x.Kind x.Key x.Id }:Q5)) v=⟨v.Same,v.Power,v.First,v.Others,a.foldl (λs x=>Gu s x.Kind x.Key x.Id) v.Last⟩:=by
   intro a
   induction a with
   |nil=>intro v;rfl
   |cons x a q=>intro v;rw[Hy,q];rfl
  rw[key]
 ·intro k v i hi j;have I:=Qi v.Last (J7 bF)[i].Kind (J7 bF)[i].Key (J7 bF)[i].Id;refine⟨⟨j.1,by show(Gu _ _ _ _).length<=_;omega⟩,?_⟩;unfold aGe;rw[j.1,dec_lt hi,CX hi];simp only[Bd,Af];rw[aC9 _ _ _ _ AL];rfl
 intro k v j;unfold aGe;rw[j.1,DY];rfl
def anE (h:OY l bF):a7r l bF=some ⟨J7 bF,Pm l bF,Jr l bF,Og l bF,lastOf l bF⟩:=by
 have I:=h.len;have h1:=tY h;have h2:=a6n l (N9 l bF);have J:=a5K h;have L:=aKB h;have M:=eH h.states;have j:=ags h;unfold a7r;rw[aNt bF h.states,aYp l bF AL h.small.apk h.states];simp only[Af];rw[adw l _ AL h.small AL];simp only[Af];rw[aqX l _ AL h.small AL];simp only[Af];have ha:fA l (J7 bF) (Pm l bF)=some (Jr l bF):=aQb l _ _ AL h.small AL;unfold Pm Oi at ha;rw[ha];simp only[Af];rw[a9i _ _ _ AL];simp only[Af];rw[aTc l _ AL h.small];unfold Yq at j;cases q:(Hz (Jr l bF) 3 CS).2 with
 |true=>rw[q]at j;exact j
 |false=>rw[q]at j;exact j
def vG (l:AA Ad)(bF:AA (AA BN)):AA BN:=match bF with
 | []=>[]
 | [s]=>s
 |_=>lastOf l bF
def al4 (h:OY l bF):oQ l bF=some (vG l bF):=by
 match bF,h with
 | [],_=>rfl
 | [s],h=>
   have hs:=(h.states.2 s (Iu ..)).1;have j:Aq [s] 0=some s:=rfl;show((Aq [s] 0).bind λq=>(CZ 32 [] q).bind λI=>some I)=some s;rw[j];simp only[Af];rw[Dz Uk];rfl
 |s::t::bF,h=>
  unfold oQ;have j:(((s::t::bF).length:Int)==0)=false:=aAV
  have J:(((s::t::bF).length:Int)==1)=false:=aAV
  rw[j,J,aaO h];rfl
def aXN (h:OY l bF):yX l bF=some (vG l bF):=by
 match bF,h with
 | [],_=>rfl
 | [s],_=>rfl
 |s::t::bF,h=>
  unfold yX;have j:(((s::t::bF).length:Int)==0)=false:=aAV
  have q:(((s::t::bF).length:Int)==1)=false:=aAV
  rw[j,q,anE h];rfl
def aXR {x:BN}:∀(a s:AA BN),x∈wX s a->x∈a\/x∈s
 | [],_,h=>.inr h
 |y::a,s,h=>by
  rcases aXR a _ h with h|h
  ·grind
  rcases Wn h with h|h
  ·left;rw[h];cases y;exact Iu ..
  exact .inr h
def aSN (l:AA Ad)(ids:AA Int)(x:BN):Prop:=∃id∈ids,dR l id=true/\JJ (ev l id).Kind=true/\x=⟨(ev l id).Kind,(ev l id).Key,(ev l id).Id⟩
def aKi {l:AA Ad}{x:BN}:∀(ids:AA Int) (s:AA BN),x∈TJ l s ids->x∈s\/aSN l ids x
 | [],_,h=>.inl h
 |id::ids,s,h=>by
  rcases aKi ids _ h with h|⟨j,q,h⟩
  ·have h2:x∈bif Yd l s id then Gu s (ev l id).Kind (ev l id).Key (ev l id).Id else s:=h
   cases hm:Yd l s id with
   |false=>
    grind
   |true=>
    rw[hm]at h2;rcases Wn h2 with h2|h2
    ·unfold Yd at hm;simp only[Dx]at hm;exact .inr ⟨id,Iu ..,hm.1,hm.2.1,h2⟩
    exact .inl h2
  exact .inr ⟨j,JX _ q,h⟩
def aZZ {x:Int}(h:x∈Oi l bF):x∈N9 l bF:=(aJO.1 h).1
def abA {x:BN}(h:x∈lastOf l bF):x∈J7 bF\/aSN l (N9 l bF) x:=by
 unfold lastOf at h;rcases aXR _ _ h with h|h
 ·exact .inl h
 rcases aKi _ _ h with h|⟨j,q,h⟩
 ·unfold Jr at h;rcases aKi _ _ h with h|⟨j,q,h⟩
  ·exact .inl h
  exact .inr ⟨j,aZZ (Le.1 (aSC _ _ _ q)).1,h⟩
 exact .inr ⟨j,(aTl.1 (apC.1 q).1).1,h⟩
def aSo :∀(a s:AA BN),Ku s->Ku (wX s a)
 | [],_,h=>h
 |x::a,s,h=>aSo a _ (Xb h x.Kind x.Key x.Id)
def alD (h:OY l bF):Ku (lastOf l bF):=aSo _ _ (aKd (aHt h))
structure JH (l:List Ad) (s:List BN):Prop where
 sorted:Ku s
 named:∀x∈s,dR l x.Id=true/\JJ x.Kind=true/\(ev l x.Id).Kind=x.Kind/\(ev l x.Id).Key=x.Key
def JH.nil (l:AA Ad):JH l []:=⟨List.Pairwise.nil,λ_ h=>absurd h H9⟩
def JH.nodup (h:JH l s):(s.map (·.Id)).Nodup:=by
 rw[nN,jR];refine List.Pairwise.imp_of_mem ?_ h.sorted;intro a b ha j hp e;obtain⟨_,_,q,k2⟩:=h.named a ha;obtain⟨_,_,k3,I⟩:=h.named b j;have J:a.Kind=b.Kind:=by rw[←q,←k3,e]
 have L:a.Key=b.Key:=by rw[←k2,←I,e]
 rw[zH (Xf.2 ⟨J,L⟩)]at hp;cases hp
def JH.length {l:AA Ad}{s:AA BN}(h:JH l s):s.length<=l.length:=by
 have :WG l (s.map (·.Id)):=⟨h.nodup,λx j=>by
  obtain⟨y,q,rfl⟩:=GH.1 j
  exact(h.named y q).1⟩
 have :=this.length
 grind
def JH.okay (hl:l.length<=100)(hs:EZ l)(j:bF.length<=100)(h:∀s∈bF,JH l s):OY l bF:=
 ⟨hl,hs,j,λs hm=>⟨FQ (h s hm).length hl,(h s hm).sorted⟩⟩
def JH.resolve (j:OY l bF)(h:∀s∈bF,JH l s):JH l (vG l bF):=by
 match bF,j,h with
 | [],_,_=>exact .nil l
 | [s],_,h=>exact h s (Iu ..)
 |s::t::bF,j,h=>
  refine⟨alD j,λx L=>?_⟩;rcases abA L with hm|⟨id,_,J,hst,q⟩
  ·exact(h s (Iu ..)).named x ((ahQ j.states (List.cons_ne_nil _ _)).1 hm s (Iu ..))
  have I:=Om J;have M:x.Id=id:=by rw[q];exact I.2
  rw[M];exact⟨J,by rw[q];exact hst,by rw[q],by rw[q]⟩
def JH.set (h:JH l s)(I:dR l e.Id=true)(q:ev l e.Id=e)(hst:JJ e.Kind=true):JH l (Gu s e.Kind e.Key e.Id):=
 ⟨Xb h.sorted _ _ _,λx j=>by
  rcases Wn j with rfl|j
  ·exact⟨I,hst,by rw[q],by rw[q]⟩
  exact h.named x j⟩
def QO (l:AA Ad)(e:Ad):Ac:=e.bP.all (dR l)&&e.bQ.all (dR l)
def ZX (l:AA Ad):Ac:=l.all (QO l)
variable {p:α->Ac}
def pS {l:AA α}{x:α}(h:x∈l)(j:p x=false):l.all p=false:=by
 grind
def all_good {l:AA α}(h:∀j,(hj:j<l.length)->p l[j]=true):l.all p=true:=GK.2 (aL3 h)
def aUP (refs:AA Int)(l:AA Ad)(m:AA (Int×Int))(h:Yx l m)(j:refs.length<=1000):Rch refs m=some (refs.all (dR l)):=by
 unfold Rch aWC;rw[Hw refs (fuel_lt AL) (λx=> !dR l x) false (some true)]
 ·grind
 ·intro k i hi;unfold aKW;rw[Ce hi,h.isSome]
 intro k;unfold aKW;rw[EX]
def agR (l:AA Ad)(hl:l.length<=100)(hs:EZ l):a3X l=some (ZX l):=by
 refine dQ.eq ?_;unfold a3X;refine(a4A l AL).bind λm hm=>?_;unfold aPW;refine Yu (body:=aIk l) (Q:=λb=>b=ZX l) (λn a b=>∃i:Nat,a=i/\i+n=l.length/\b=m/\∀j,(q:j<i)->(hl:j<l.length)->QO l l[j]=true) ?_ Aw l.length 0 m (fuel_lt AL) ⟨0,rfl,AL,rfl,λj q=>AL⟩;rintro n a b k ⟨i,rfl,O,rfl,J⟩ M;unfold aIk;by_cases hi:i<l.length
 ·have L:=hs l[i] (Eu hi);have h1:=L.prev;have h2:=L.auth;rw[Ce hi,aUP _ l b hm AL,Af,CX hi,Af,aUP _ l b hm AL];cases hp:l[i].bP.all (dR l)with
  |false=>exact .ret (pS (Eu hi) (by unfold QO;rw[hp];rfl)).symm
  |true=>
   cases ha:l[i].bQ.all (dR l)with
   |false=>exact .ret (pS (Eu hi) (by unfold QO;rw[hp,ha];rfl)).symm
   |true=>
    refine M (n-1) _ _ AL ⟨i+1,wrap_succ i AL,AL,rfl,λj q I=>?_⟩;by_cases e:j=i
    ·subst e;unfold QO;rw[hp,ha];rfl
    exact J j AL I
 have :i=l.length:=AL
 subst this;rw[EX];exact .ret (all_good λj q=>J j q q).symm
def jl (l:AA Ad):AA Int:=l.foldl (λr e=>e.bQ.foldl put (e.bP.foldl put r)) []
variable {i:Nat}
def aoK (hi:i<l.length)(k3:AA Int->Int->AB (AA Int))(v:AA Int)(J:Inc v)(hl:v.length<=900000)(ha:l[i].bQ.length<=40):
 a6N l (i:Int) k3 v 0=k3 (l[i].bQ.foldl put v) (Ar ((i:Int)+1)):=by
 unfold a6N;rw[Ig l[i].bQ AL put (λj a=>Inc a/\a.length<=v.length+j) (λa=>k3 a (Ar ((i:Int)+1))) ⟨J,AL⟩]
 ·intro k a j q I;have hp:=qH a l[i].bQ[j];refine⟨⟨Tf I.1,AL⟩,?_⟩;unfold aFe;rw[CX hi,Af,dec_lt q,Bd,Af,CX q,Af,a6b a _ I.1 AL,Af]
 intro k a _;unfold aFe;rw[CX hi,Af,DY];rfl
def ajV (hi:i<l.length)(k3:AA Int->Int->AB (AA Int))(v:AA Int)(q:Inc v)(hl:v.length<=800000)(hp:l[i].bP.length<=40)(ha:l[i].bQ.length<=40):
 aI2 l (i:Int) k3 v 0=k3 (l[i].bQ.foldl put (l[i].bP.foldl put v)) (Ar ((i:Int)+1)):=by
 unfold aI2;rw[Ig l[i].bP AL put (λj a=>Inc a/\a.length<=v.length+j) (λa=>a6N l (i:Int) k3 a 0) ⟨q,AL⟩]
 ·have h:=lN l[i].bP v;exact aoK hi k3 _ (a6q q) AL ha
 ·intro k a j I J;have hp:=qH a l[i].bP[j];refine⟨⟨Tf J.1,AL⟩,?_⟩;unfold aIv;rw[CX hi,Af,dec_lt I,Bd,Af,CX I,Af,a6b a _ J.1 AL,Af]
 intro k a _;unfold aIv;rw[CX hi,Af,DY];rfl
def a9R :∀(l:AA Ad) (r:AA Int),Inc r->(∀e∈l,e.bP.length<=40/\e.bQ.length<=40)->
 Inc (l.foldl (λr e=>e.bQ.foldl put (e.bP.foldl put r)) r)/\(l.foldl (λr e=>e.bQ.foldl put (e.bP.foldl put r)) r).length<=r.length+l.length*80/\
 ∀x,x∈l.foldl (λr e=>e.bQ.foldl put (e.bP.foldl put r)) r↔x∈r\/∃e∈l,x∈e.bP\/x∈e.bQ
 | [],r,h,_=>⟨h,Bf,λx=>Bf⟩
 |e::l,r,h,hs=>by
  have q:=hs e (Iu ..);obtain⟨h1,h2,h3⟩:=a9R l (e.bQ.foldl put (e.bP.foldl put r)) (a6q (a6q h)) λx j=>hs x (JX _ j);have I:=lN e.bP r;have J:=lN e.bQ (e.bP.foldl put r);rw[Hy];refine⟨h1,by rw[H8];omega,λx=>(h3 x).trans ?_⟩;rw[aDZ,aDZ]
  grind
def EZ.lists (hs:EZ l):∀e∈l,e.bP.length<=40/\e.bQ.length<=40:=λe j=>⟨(hs e j).prev,(hs e j).auth⟩
def adC (h:i<l.length):(l.take (i+1)).foldl (λr e=>e.bQ.foldl put (e.bP.foldl put r)) ([]:AA Int)=l[i].bQ.foldl put (l[i].bP.foldl put ((l.take i).foldl (λr e=>e.bQ.foldl put (e.bP.foldl put r)) [])):=by
 rw[WY,EJ h,Td,X5];rfl
def ab9 (l:AA Ad)(hl:l.length<=1000)(hs:EZ l):aBj l=some (jl l):=by
 unfold aBj aOB;refine dQ.eq (KA l.length (fuel_lt AL) (λi a=>a=(l.take i).foldl (λr e=>e.bQ.foldl put (e.bP.foldl put r)) []) rfl (λi a k hi ha j=>?_) λa k ha=>?_)
 ·subst ha;obtain⟨h1,h2,_⟩:=a9R (l.take i) [] .nil λe q=>hs.lists e (rH q);have hp:=hs.lists l[i] (Eu hi);unfold aKI;rw[dec_lt hi,Bd,ajV hi k _ h1 (by rw[HY]at h2;simp only[La]at h2;omega) hp.1 hp.2,wrap_succ i AL];exact j _ (adC hi).symm
 unfold aKI;rw[DY];refine .ret ?_;rw[ha,Ho];rfl
def aqS (hs:EZ l):(jl l).length<=l.length*80:=by
 have :=(a9R l [] .nil hs.lists).2.1;unfold jl;simpa using this
def aYB (hs:EZ l){x:Int}:x∈jl l↔∃e∈l,x∈e.bP\/x∈e.bQ:=by
 have :=(a9R l [] .nil hs.lists).2.2 x;unfold jl;rw[this];simp
def adv:ZX l=true↔∀e∈l,(∀x∈e.bP,dR l x=true)/\∀x∈e.bQ,dR l x=true:=by
 unfold ZX QO
 grind
def al5 (l:AA Ad)(hl:l.length<=1000)(hs:EZ l):a9V l=some (ZX l):=by
 have h1:=aqS hs;unfold a9V;rw[ab9 l hl hs,Af,uz l _ hl AL,Af];refine BM some ?_;rw[TU,adv];constructor
 ·intro h e I;have j:Uo l (jl l)=[]:=I4 aGn
  have key:∀x,x∈e.bP\/x∈e.bQ->dR l x=true:=λx q=>by
   cases J:dR l x with
   |true=>
    rfl
   |false=>
    have :=a0O.2 ⟨(aYB hs).2 ⟨e,I,q⟩,J⟩;rw[j]at this;cases this
  grind
 intro h
 have j:Uo l (jl l)=[]:=aJo.2 λx q=>by
  obtain⟨h3,L⟩:=a0O.1 q;obtain⟨e,I,M⟩:=(aYB hs).1 h3
  grind
 rw[j];rfl
def qp (l:AA Ad):Prop:=∀e∈l,1<=e.Depth/\e.Depth<=100000
def IK (l:AA Ad)(x:Int):Int:=(Fv l x).1.Depth
def Wp (l:AA Ad)(e:Ad):Ac:=e.bQ.all (λx=>IK l x<e.Depth)&&bif (e.bP.length:Int)==0 then e.Depth==1 else e.bP.all (λx=>IK l x<e.Depth)&&e.bP.any λx=>IK l x==e.Depth-1
def OX (l:AA Ad):Int:=bif ZX l then bif l.all (Wp l)then 0 else 15 else 14
def aVF (h:qp l)(x:Int):0<=IK l x/\IK l x<=100000:=by
 unfold IK Fv;cases j:Ea l x with
 |none=>exact⟨a9w 0,Ba⟩
 |some e=>have :=h e (PN j);exact⟨by show 0<=e.Depth;omega,this.2⟩
def a6d (a b:Int):decide (a>=b)= !decide (a<b):=by by_cases h:a<b<;>simp[h];omega
def mM (l:AA α)(p:α->Ac):l.any (λx=> !p x)= !l.all p:=by rw[List.all_eq_not_any_not,a0i]
def af6 (l:AA Ad)(e:Ad)(hl:l.length<=1000)(U:Fp e)(hd:qp l)(Y:1<=e.Depth/\e.Depth<=100000):a0G l e=some (Wp l e):=by
 have h1:=U.prev;have h2:=U.auth;have w:Ar (e.Depth-1)=e.Depth-1:=RQ AL AL
 have J:a4j e l ((e.bP.length:Int)==0) 0=some (cond ((e.bP.length:Int)==0) true (e.bP.all (λx=>IK l x<e.Depth)&&e.bP.any λx=>IK l x==e.Depth-1)):=by
  unfold a4j;refine dQ.eq (KA e.bP.length (fuel_lt AL) (λi a=>(∀j,(I:j<i)->(hl:j<e.bP.length)->decide (IK l e.bP[j]<e.Depth)=true)/\a=(((e.bP.length:Int)==0)||(e.bP.take i).any λx=>IK l x==e.Depth-1)) ⟨λj I=>AL,Bf⟩ (λi a k hi ha Z=>?_) λa k ha=>?_)
  ·have hz:((e.bP.length:Int)==0)=false:=by simp;intro hn;rw[hn]at hi;simp at hi
   unfold aA5;rw[Ce hi,J6 l _ AL,Af,a6d];refine dQ.bif (λq=>.ret ?_) λq=>?_
   ·have q:decide (IK l e.bP[i]<e.Depth)=false:=by unfold IK;simpa using q
    rw[hz,pS (Eu hi) q];rfl
   have q:decide (IK l e.bP[i]<e.Depth)=true:=by unfold IK;simpa using q
   rw[show(cond a (some true) (some ((Fv l e.bP[i]).1.Depth==Ar (e.Depth-1))))=some (a||(IK l e.bP[i]==e.Depth-1)) by rw[w];cases a<;>rfl,Af,wrap_succ i AL];refine Z _ ⟨λj I L=>?_,?_⟩
   ·by_cases ej:j=i
    ·subst ej;exact q
    exact ha.1 j AL L
   rw[ha.2,WY,EJ hi,Td,aDx,Bool.or_assoc];simp
  unfold aA5;rw[EX];refine .ret ?_;rw[ha.2,Ho,all_good λj I=>ha.1 j I I];cases((e.bP.length:Int)==0)<;>simp
 unfold a0G
 have M:aHO e l 0=some (e.bQ.all (λx=>IK l x<e.Depth)&&(cond ((e.bP.length:Int)==0) true (e.bP.all (λx=>IK l x<e.Depth)&&e.bP.any λx=>IK l x==e.Depth-1))):=by
  unfold aHO;rw[Hw e.bQ (fuel_lt AL) (λx=> !decide (IK l x<e.Depth)) false (a4j e l ((e.bP.length:Int)==0) 0)]
  ·rw[J,mM];cases e.bQ.all (λx=>IK l x<e.Depth)<;>rfl
  ·intro k i hi;unfold a8u;rw[Ce hi,J6 l _ AL,Af,a6d];rfl
  intro k;unfold a8u;rw[EX]
 rw[M];unfold Wp;have O:(e.Depth != 1)= !(e.Depth==1):=rfl;rw[O];cases((e.bP.length:Int)==0)<;>cases(e.Depth==1)<;>cases e.bQ.all (λx=>IK l x<e.Depth)<;>rfl
def aDl (h:Yx l m){x:Int}(j:dR l x=true):∃e,Aq l ((DT m x).getD 0)=some e/\e.Depth=IK l x:=⟨_,h.get (Om j).1,rfl⟩
def akO (p:AA Int)(f:Int->Int)(d a:Int)(j:∃y∈p,f y=a)(ha:∀y∈p,f y<=a):(p.all (λx=>f x<d)&&p.any λx=>f x==d-1)=bif d>a then d-a==1 else false:=by
 grind
def aZk (l:AA Ad)(m:AA (Int×Int))(e:Ad)(hm:Yx l m)(Y:Fp e)(J:QO l e=true)(hd:qp l)(Z:1<=e.Depth/\e.Depth<=100000):a3T l m e=some (Wp l e,m):=by
 have h1:=Y.prev;have h2:=Y.auth;unfold QO at J;simp only[Dx,GK]at J;unfold a3T aR1;rw[Hw e.bQ (fuel_lt AL) (λx=> !decide (IK l x<e.Depth)) (false,m) (some ((cond ((e.bP.length:Int)==0) (e.Depth==1) (e.bP.all (λx=>IK l x<e.Depth)&&e.bP.any λx=>IK l x==e.Depth-1)),m))]
 ·rw[mM];unfold Wp;cases e.bQ.all (λx=>IK l x<e.Depth)<;>rfl
 ·intro k i hi;unfold aGw;obtain⟨x,U,q⟩:=aDl hm (J.2 _ (Eu hi));rw[Ce hi,U,Af,a6d,q]
 intro k;unfold aGw;rw[EX];cases L:((e.bP.length:Int)==0)with
 |true=>
  rfl
 |false=>
  have hp:0<e.bP.length:=by
   grind
  obtain⟨x,U,q⟩:=aDl hm (J.1 _ (Eu hp));have g0:Aq e.bP 0=some e.bP[0]:=CX (i:=0) hp;rw[BO,BO,g0,Af,U,Af,q];unfold aPu;refine dQ.eq (KA e.bP.length (fuel_lt AL) (λi a=>(0<=a/\a<=100000)/\(∃y∈e.bP,IK l y=a)/\∀y∈e.bP.take i,IK l y<=a) ⟨aVF hd _,⟨_,Eu hp,rfl⟩,λy M=>by simp at M⟩ (λi a k2 hi ha hk=>?_) λa k2 ha=>?_)
  ·unfold aCA;obtain⟨y,M,I⟩:=aDl hm (J.1 _ (Eu hi));have hb:=aVF hd e.bP[i];rw[Ce hi,M,Af,wrap_succ i AL,I]
   have O:EL a (IK l e.bP[i])=a/\IK l e.bP[i]<=a\/EL a (IK l e.bP[i])=IK l e.bP[i]/\a<=IK l e.bP[i]:=by
    unfold EL;by_cases h:IK l e.bP[i]>a
    ·grind
    rw[Iq h];exact .inl ⟨rfl,AL⟩
   refine hk _ ⟨AL,?_,λz L=>?_⟩
   ·rcases O with h|h
    ·rw[h.1];exact ha.2.1
    rw[h.1];exact⟨_,Eu hi,rfl⟩
   rw[WY,EJ hi,Td,KG,QC]at L;rcases L with L|rfl
   ·have :=ha.2.2 z L;omega
   omega
  obtain⟨hb,⟨y,M,I⟩,j⟩:=ha;rw[Ho]at j;unfold aCA;rw[EX,RQ AL AL,akO e.bP (IK l) e.Depth a ⟨y,M,I⟩ j];cases decide (e.Depth>a)<;>exact .ret rfl
def an4 (l:AA Ad)(hl:l.length<=100)(hs:EZ l)(hd:qp l):a1t l=some (OX l):=by
 unfold a1t OX;rw[agR l hl hs,Af];cases O:ZX l with
 |false=>rfl
 |true=>
  have U:∀e∈l,QO l e=true:=GK.1 O;refine dQ.eq ((a4A l AL).bind λm hm=>?_);unfold aT8;refine Yu (body:=aHy l) (Q:=λb=>b=bif l.all (Wp l)then 0 else 15) (λn a b=>∃i:Nat,a=i/\i+n=l.length/\b=m/\∀j,(I:j<i)->(hl:j<l.length)->Wp l l[j]=true) ?_ Aw l.length 0 m (fuel_lt AL) ⟨0,rfl,AL,rfl,λj I=>AL⟩;rintro n a b k ⟨i,rfl,Z,rfl,L⟩ Y;unfold aHy;by_cases hi:i<l.length
  ·have q:=Eu hi;rw[Ce hi,aZk l b l[i] hm (hs _ q) (U _ q) hd (hd _ q),Af];cases M:Wp l l[i]with
   |false=>exact .ret (by rw[pS q M];rfl)
   |true=>
    refine Y (n-1) _ _ AL ⟨i+1,wrap_succ i AL,AL,rfl,λj I J=>?_⟩;by_cases e:j=i
    ·subst e;exact M
    exact L j AL J
  have :i=l.length:=AL
  subst this;rw[EX];exact .ret (by rw[all_good λj I=>L j I I];rfl)
def aMZ (l:AA Ad)(hl:l.length<=100)(hs:EZ l)(hd:qp l):a05 l=some (OX l):=by
 unfold a05 OX;rw[al5 l AL hs,Af];cases U:ZX l with
 |false=>rfl
 |true=>
  show aJn l 0=_;unfold aJn;refine dQ.eq (dZ l.length (fuel_lt AL) (λi=>∀j,(I:j<i)->(hl:j<l.length)->Wp l l[j]=true) (λj I=>AL) (λi k hi J O=>?_) λk J=>?_)
  ·have q:=Eu hi;unfold aGK;rw[Ce hi,af6 l l[i] AL (hs _ q) hd (hd _ q),Af,wrap_succ i AL];cases M:Wp l l[i]with
   |false=>exact .ret (by rw[pS q M];rfl)
   |true=>
    refine O λj I L=>?_;by_cases e:j=i
    ·subst e;exact M
    exact J j AL L
  unfold aGK;rw[DY];exact .ret (by rw[all_good λj I=>J j I I];rfl)
variable {β:Type}
section
variable {R:Type}{lt:α->α->Ac}
def MN (lt:α->α->Ac)(A:AA α)(x:α):AA α:=(A.reverse.dropWhile (lt x)).reverse++x::(A.reverse.takeWhile (lt x)).reverse
def agP {A:AA α}{a x:α}(h:lt x a=true):MN lt (A++[a]) x=MN lt A x++[a]:=by
 unfold MN;rw[a7b,aI5,aBS,aXK h,List.takeWhile_cons_of_pos h,List.reverse_cons,JI];rfl
def agd {A:AA α}{a x:α}(h:lt x a=false):MN lt (A++[a]) x=A++a::[x]:=by
 have h':¬lt x a=true:=by rw[h];simp
 unfold MN;rw[a7b,aI5,aBS,aQr h',List.takeWhile_cons_of_neg h'];simp
def adL (A:AA α)(x:α):(MN lt A x).length=A.length+1:=by
 unfold MN;have :=BM List.length (uM (p:=lt x) (l:=A.reverse));simp only[Em,vS,H8]at this ⊢;omega
def agf (A:AA α)(x:α):(MN lt A x).Perm (x::A):=by
 unfold MN;refine a8M.trans (List.Perm.cons x ?_);rw[←a7b,uM,List.reverse_reverse]
def am7 {lt':β->β->Ac}{f:α->β}(h:∀x a,lt x a=lt' (f x) (f a))(A:AA α)(x:α):(MN lt A x).map f=MN lt' (A.map f) (f x):=by
 have e:lt x=lt' (f x)∘f:=funext λa=>h x a;unfold MN;have h1:(A.map f).reverse=A.reverse.map f:=aEm.symm;rw[h1,List.dropWhile_map,List.takeWhile_map,Jh,JE,aEm,aEm,e]
def aRY {lt':β->β->Ac}{f:α->β}(h:∀x a,lt x a=lt' (f x) (f a)):∀(l A:AA α),(l.foldl (MN lt) A).map f=(l.map f).foldl (MN lt') (A.map f)
 | [],A=>rfl
 |x::l,A=>by rw[Hy,aRY h l,JE,Hy,am7 h]
def a6T :∀(l A:AA α),(l.foldl (MN lt) A).length=A.length+l.length
 | [],A=>rfl
 |x::l,A=>by rw[Hy,a6T l,adL,H8];omega
def aPh :∀(l A:AA α),(l.foldl (MN lt) A).Perm (A++l)
 | [],A=>by rw[MH];exact .refl _
 |x::l,A=>by
  rw[Hy];exact(aPh l (MN lt A x)).trans (((agf A x).append_right l).trans (a8M (l₁:=A) (l₂:=l) (a:=x)).symm)
def a2g (A:AA α)(x:α)(B:AA α):Aq (A++x::B) (A.length:Int)=some x:=by rw[a2R];simp
def aGW (A:AA α)(a x:α)(B:AA α):Aq (A++a::x::B) ((A.length+1:Nat):Int)=some x:=by rw[a2R];simp
def set_mid (A:AA α)(x y:α)(B:AA α):(A++x::B).set A.length y=A++y::B:=Bf
def aPz (A:AA α)(a x y:α)(B:AA α):(A++a::x::B).set (A.length+1) y=A++a::y::B:=by
 have :=set_mid (A++[a]) x y B;simpa using this
def bubble {body:(Int->AA α->AB R)->Int->AA α->AB R}(j:AA α->AB R)(N:Nat)(Z:∀k x B,(x::B).length=N->body k 0 (x::B)=j (x::B))(hs:∀k A a x B,(A++a::x::B).length=N->body k ((A.length+1:Nat):Int) (A++a::x::B)=bif lt x a then k (A.length:Int) (A++x::a::B)else j (A++a::x::B)):
 ∀n (A:AA α) (x:α) (B:AA α),A.length=n->(A++x::B).length=N->∀m,n<m->aS body m (A.length:Int) (A++x::B)=j (MN lt A x++B):=by
 intro n
 induction n with
 |zero=>
  intro A x B L M m hm;obtain⟨m,rfl⟩:∃O,m=O+1:=⟨m-1,AL⟩
  obtain rfl:=I4 L;exact Z _ x B M
 |succ n ih=>
  intro A x B L M m hm;obtain⟨m,rfl⟩:∃O,m=O+1:=⟨m-1,AL⟩
  have q:A≠[]:=λe=>by subst e;cases L
  obtain⟨A',a,rfl⟩:∃A' a,A=A'++[a]:=⟨A.dropLast,A.getLast q,(List.dropLast_concat_getLast q).symm⟩
  have U:A'.length=n:=kS
  have Y:A'++[a]++x::B=A'++a::x::B:=Bf
  have I:(A'++a::x::B).length=N:=by rw[←Y];exact M
  have e2:(A'++[a]).length=A'.length+1:=Bf
  rw[Y,e2];show body (aS body m) _ _=_;rw[hs _ A' a x B I];cases J:lt x a with
  |true=>
   rw[Bd,ih A' x (a::B) U (by simp at I ⊢;omega) m AL,agP J];simp
  |false=>rw[BO,agd J];simp
end
def Zc (a b:Ad):Ac:=decide (a.Depth<b.Depth)||((a.Depth==b.Depth)&&(a.Id<b.Id))
def VQ (l:AA Ad):AA Ad:=l.foldl (MN Zc) []
def QA (l:AA Ad):AA Int:=(VQ l).map (·.Id)
def vw (l:AA Ad):(VQ l).length=l.length:=by unfold VQ;rw[a6T];simp
def a8A (l:AA Ad):(VQ l).Perm l:=by have :=aPh (lt:=Zc) l [];rwa [Ij]at this
def ahI (a b:Ad):a4b a b=some (Zc a b):=by
 unfold a4b Zc
 grind
variable {l:AA α}
def aXt {f:β->α->β}{b:β}(h:i<l.length):(l.take (i+1)).foldl f b=f ((l.take i).foldl f b) l[i]:=by
 rw[WY,EJ h,Td,X5];rfl
def map_take {f:α->β}(h:i<l.length):(l.take (i+1)).map f=(l.take i).map f++[f l[i]]:=by
 rw[WY,EJ h,Td,Jh];rfl
def aj6 (l:AA Ad)(hl:l.length<=1000000):jd l=some (l.map (·.Id)):=by
 unfold jd aJC;refine dQ.eq (KA l.length (fuel_lt AL) (λi a=>a=(l.take i).map (·.Id)) rfl (λi a k hi ha j=>?_) λa k ha=>?_)
 ·unfold pz;have hlen:a.length<=i:=oW
  rw[Ce hi,Dz Gm,Af,wrap_succ i AL];exact j _ a8w
 unfold pz;rw[EX];exact .ret fE
def aTd (l:AA Ad)(hl:l.length<=1000):zy l=some (QA l):=by
 unfold zy aUa;refine dQ.eq (KA l.length (fuel_lt AL) (λi a=>a=(l.take i).foldl (MN Zc) []) rfl (λi a k hi ha I=>?_) λa k ha=>?_)
 ·have hlen:a.length=i:=by rw[ha,a6T,HY];simp;omega
  unfold aJ1;rw[Ce hi,Dz Gm,Af];unfold aM2;have j:=bubble (lt:=Zc) (body:=a7d k (i:Int)) (λv=>k v ((i+1:Nat):Int)) (i+1) (λk2 x B q=>?_) (λk2 A b x B q=>?_) i a l[i] [] hlen Eh Aw (fuel_lt AL)
  ·rw[hlen]at j;rw[j,MH];exact I _ (by rw[aXt hi,ha])
  ·unfold a7d a0A;rw[wrap_succ i AL];rfl
  have hA:A.length+2<=i+1:=by rw[←q];simp
  have J:Ar (((A.length+1:Nat):Int)-1)=(A.length:Int):=NG
  unfold a7d a0A;rw[L8 (show((A.length+1:Nat):Int)>0 by omega),Bd,aGW,Af,J,a2g,Af,ahI,Af,wrap_succ i AL];cases Zc x b with
  |false=>rfl
  |true=>
   simp only[Bd,Af,bU];rw[aPz,a2g,Af,set_mid]
 unfold aJ1;rw[DY,BO];have e:a=VQ l:=by rw[ha,Ho];rfl
 rw[e,aj6 _ (by rw[vw];omega)];exact .ret rfl
def zF (e:Ad):Tt:=⟨e.Depth,e.Id⟩
def oM (a b:Tt):Ac:=decide (a.oN<b.oN)||((a.oN==b.oN)&&(a.ny<b.ny))
def afU (a x:Tt):(cond (a.oN<x.oN) (some true) ((cond (a.oN==x.oN) (some (decide (a.ny<=x.ny))) (some false)).bind λj=>some j))=some (!oM x a):=by
 unfold oM;by_cases h1:a.oN<x.oN
 ·rw[L8 h1,Bd,Iq AL,show(x.oN==a.oN)=false by simp;omega];rfl
 rw[Iq h1,BO];by_cases h2:a.oN=x.oN
 ·rw[h2,Iq (show ¬x.oN<x.oN by omega)];simp only[SE,Bd,Af,Ny,Gf];by_cases h3:a.ny<=x.ny
  ·grind
  grind
 rw[show(a.oN==x.oN)=false by simpa using h2,L8 (show x.oN<a.oN by omega)];rfl
def acP (l:AA Ad)(hl:l.length<=1000):a1e l=some (QA l):=by
 have L:J4 16 a3K 0 (l.length:Int)=some []:=by unfold J4;rw[Dw ⟨a9w _,AL,AL⟩];rfl
 unfold a1e;rw[L,Af];unfold aRA;refine dQ.eq (KA l.length (fuel_lt AL) (λi a=>a=((l.take i).map zF).foldl (MN oM) []) rfl (λi a k hi ha M=>?_) λa k ha=>?_)
 ·have hlen:a.length=i:=by rw[ha,a6T,DK,HY];simp;omega
  unfold aCv;rw[Ce hi,CX hi,Af,Dz Gm,Af];unfold aTh;have O:Ar (((a++[(⟨l[i].Depth,l[i].Id⟩:Tt)]).length:Int)-1)=(a.length:Int):=aHG
  rw[O];have U:=bubble (lt:=oM) (body:=xR k (i:Int)) (λv=>k v ((i+1:Nat):Int)) (i+1) (λk2 x B I=>?_) (λk2 A b x B I=>?_) i a (zF l[i]) [] hlen Eh Aw (fuel_lt AL)
  ·show dQ (aS (xR k (i:Int)) Aw (a.length:Int) (a++[zF l[i]])) _;rw[U,MH];exact M _ (by rw[map_take hi,X5,ha];rfl)
  ·unfold xR wK;rw[wrap_succ i AL];rfl
  have hA:A.length+2<=i+1:=by rw[←I];simp
  have Y:Ar (((A.length+1:Nat):Int)-1)=(A.length:Int):=NG
  unfold xR wK;rw[L8 (show((A.length+1:Nat):Int)>0 by omega),Bd,Y,a2g,Af,aGW,Af,afU,Af,wrap_succ i AL];cases oM x b with
  |false=>rfl
  |true=>
   simp only[FK,BO,Bd,Af,bU];rw[set_mid,aGW,Af,aPz]
 unfold aCv;rw[EX];have e:a=(VQ l).map zF:=by rw[ha,Ho];exact(aRY (lt:=Zc) (lt':=oM) (f:=zF) (λ_ _=>rfl) l []).symm
 have Z:a.length=l.length:=by rw[e,DK,vw]
 have e1:J4 8 0 (a.length:Int) (a.length:Int)=some (List.replicate a.length (0:Int)):=by unfold J4;rw[Dw ⟨AL,a9w _,AL⟩];simp
 have e2:QA l=a.map (·.ny):=by rw[e,Y1];rfl
 rw[e1,Af,e2];unfold aTk;refine Ux (body:=aE3 a) (Q:=λr=>r=a.map (·.ny)) (λn (x:Int) (o:AA Int) (p:AA Tt)=>∃i:Nat,x=i/\i+n=a.length/\o=(a.take i).map (·.ny)++List.replicate (a.length-i) 0/\p=a) ?_ Aw a.length 0 (List.replicate a.length 0) a (fuel_lt AL) ⟨0,rfl,AL,Bf,rfl⟩;rintro n x o p k2 ⟨i,rfl,hn,J,rfl⟩ q;unfold aE3;by_cases hi:i<p.length
 ·have hm:((p.take i).map (·.ny)).length=i:=by rw[DK,HY];omega
  obtain⟨z,hz⟩:∃z,p.length-i=z+1:=⟨p.length-i-1,AL⟩
  have j:o=(p.take i).map (·.ny)++0::List.replicate z 0:=by rw[J,hz,List.replicate_succ]
  have g2:Aq o (i:Int)=some 0:=by have :=a2g ((p.take i).map (·.ny)) 0 (List.replicate z 0);rw[hm]at this;rw[j];exact this
  have s2:o.set i p[i].ny=(p.take i).map (·.ny)++p[i].ny::List.replicate z 0:=by have :=set_mid ((p.take i).map (·.ny)) 0 p[i].ny (List.replicate z 0);rw[hm]at this;rw[j];exact this
  rw[Ce hi,g2,Af];refine q (n-1) _ _ _ AL ⟨i+1,wrap_succ i AL,AL,?_,rfl⟩;rw[bU,s2,map_take hi,show p.length-(i+1)=z by omega];simp
 have :i=p.length:=AL
 subst this;rw[EX];exact .ret (by rw[J];simp)
def Pq (l:AA Ad)(x y:Int):Ac:=dR l y&&(y != x&&Dv (ev l y).bP x)
def Xp (l:AA Ad)(ids:AA Int):AA Int:=(FN ids).filter λx=> !ids.any (Pq l x)
variable {a:AA α}
def agj {b:AA α}(p:α->Ac)(h:∀x,x∈a↔x∈b):a.any p=b.any p:=by
 grind
def aSZ (l:AA Ad)(ids:AA Int):(Xp l ids).length<=ids.length:=FQ (I9 _ _) (ML ids)
def oh (h:i<l.length):(l.take (i+1)).filter p=(l.take i).filter p++bif p l[i]then[l[i]]else[]:=by
 rw[WY,EJ h,Td,Ql]
 grind
def a1X (h:i<l.length):(l.take (i+1)).any p=((l.take i).any p||p l[i]):=by
 rw[WY,EJ h,Td,aDx];simp
def adW {l:AA Int}(h:Inc l)(hi:i<l.length)(q:j<l.length)(e:l[i]=l[j]):i=j:=by
 rcases SPr i j with h1|h1|h1
 ·have :=Jq.1 h i j hi q h1;omega
 ·exact h1
 have :=Jq.1 h j i q hi h1;omega
def aXJ (l:AA Ad)(ids:AA Int)(hl:l.length<=1000)(hs:EZ l)(hi0:ids.length<=1000):a8p l ids=some (Xp l ids):=by
 have L:=NR ids;have hlen:=ML ids;have M:∀x,(FN ids).any (Pq l x)=ids.any (Pq l x):=λx=>agj _ λ_=>OJ;unfold a8p Xp;rw[aKX _ AL,Af];have q:(λx=> !ids.any (Pq l x))=λx=> !(FN ids).any (Pq l x):=funext λx=>by rw[M]
 rw[q];generalize FN ids=S at L hlen;clear M q;unfold aUC;refine dQ.eq (KA S.length (fuel_lt AL) (λi a=>a=(S.take i).filter λx=> !S.any (Pq l x)) rfl (λi a k hi ha hk=>?_) λa k ha=>?_)
 ·have hal:a.length<=i:=by rw[ha];exact FQ (I9 _ _) wF
  have hf:=oh (p:=λx=> !S.any (Pq l x)) hi;unfold aGk;rw[dec_lt hi,Bd];unfold aQs;refine Ux (body:=aK9 S l (i:Int) k) (Q:=_) (λn b x c=>∃j:Nat,x=j/\j+n=S.length/\c=a/\b= !(S.take j).any (Pq l S[i])) ?_ Aw S.length true 0 a (fuel_lt AL) ⟨0,rfl,AL,rfl,Bf⟩;rintro n b x c k2 ⟨j,rfl,hn,rfl,U⟩ Y;unfold aK9;by_cases Z:j<S.length
  ·have I:∀b',b'=(!((S.take j).any (Pq l S[i])||Pq l S[i] S[j]))->dQ (a4O k2 (j:Int) b' c) (λx=>x=(S.filter λx=> !S.any (Pq l x))):=λb' h'=>Y (n-1) _ _ _ AL ⟨j+1,wrap_succ j AL,AL,rfl,by rw[a1X Z];exact h'⟩;rw[Ce Z,J6 l _ AL,Af,NT]
   have hne:(((j:Int) != (i:Int)))=(S[j] != S[i]):=by
    rw[TU];simp only[bne_iff_ne,ne_eq];constructor
    ·intro h e;exact h (by rw[adW L Z hi e])
    intro h e;have :j=i:=AL
    subst this;exact h rfl
   rw[hne];cases J:(Ea l S[j]).isSome with
   |false=>
    unfold gZ;exact I b (by rw[U];unfold Pq dR;rw[J];simp)
   |true=>
    cases hq:S[j] != S[i]with
    |false=>
     unfold gZ;exact I b (by rw[U];unfold Pq;rw[hq];simp)
    |true=>
     simp only[Bd]
     have hpl:(Fv l S[j]).1.bP.length<=40:=by
      obtain⟨e,he⟩:=Ro.1 J;rw[Ll he];exact(hs e (PN he)).prev
     rw[CX hi,Af,Qj _ _ AL,Af];unfold gZ;cases hh:Dv (Fv l S[j]).1.bP S[i]with
     |true=>exact I false (by unfold Pq dR ev;rw[J,hq,hh];simp)
     |false=>exact I b (by rw[U];unfold Pq dR ev;rw[J,hq,hh];simp)
  have :j=S.length:=AL
  subst this;rw[EX,U,Ho];unfold a3R;rw[wrap_succ i AL];cases O:S.any (Pq l S[i])with
  |true=>exact hk _ (by rw[hf,ha,O];simp)
  |false=>
   simp only[JV,Bd];rw[CX hi,Af,Dz Gm,Af];exact hk _ (by rw[hf,ha,O];rfl)
 unfold aGk;rw[DY];exact .ret fE
def mZ (x y:Ad):Ac:=y.Kind==x.Kind&&(y.Key=x.Key)
def MX (q:AA BN):AA Ad->AA Ad->Ac
 |_,[]=>true
 |j,x::xs=>(q.any λk=>Fb k x)&& !j.any (mZ x)&&MX q (j++[x]) xs
def Rj (x:Ad):Ac:=x.Kind==1&&(x.Key=CS)
def X3 (l:AA Ad)(e:Ad):Int:=
 bif !e.bQ.all (dR l)then 14 else bif !(ofIds l e.bQ).all (λx=>x.Room=e.Room)then 13
 else bif MX (keysOf e) [] (ofIds l e.bQ)&&(e.Kind==1||(ofIds l e.bQ).any Rj)then 0 else 16
def jv {k:BN}{x:Ad}:Fb k x=true↔x.Kind=k.Kind/\x.Key=k.Key:=by unfold Fb;simp
def aUf {x y:Ad}:mZ x y=true↔y.Kind=x.Kind/\y.Key=x.Key:=by unfold mZ;simp
variable {j:AA BN}
def aT2 {X:AA Ad}(h:i<X.length):MX j (X.take i) (X.drop i)=((j.any λk=>Fb k X[i])&& !(X.take i).any (mZ X[i])&&MX j (X.take (i+1)) (X.drop (i+1))):=by
 rw[Ns h,WY,EJ h];rfl
def aXP (X:AA Ad):MX j (X.take X.length) (X.drop X.length)=true:=by rw[PU];rfl
def aTm (X:AA Ad)(k:Int)(key:BH)(h:X.length<=1000):ZK (X.map λx=>(⟨x.Kind,x.Key,0⟩:BN)) k key=some (X.any λy=>y.Kind==k&&(y.Key=key)):=by
 unfold ZK aCz;rw[Hw (X.map λx=>(⟨x.Kind,x.Key,0⟩:BN)) (fuel_lt RF) (λy=>y.Kind==k&&(y.Key=key)) true (some false)]
 ·rw[List.any_map];show(bif X.any (λy=>y.Kind==k&&(y.Key=key))then some true else some false)=_;cases X.any (λy=>y.Kind==k&&(y.Key=key))<;>rfl
 ·intro q i hi;unfold a1i;rw[Ce hi,CX hi,Af,JC];cases((X.map λx=>(⟨x.Kind,x.Key,0⟩:BN))[i].Kind==k)<;>rfl
 intro q;unfold a1i;rw[DY];rfl
def aqG (j:AA BN)(x:Ad)(h:j.length<=1000):ZK j x.Kind x.Key=some (j.any λk=>Fb k x):=by
 unfold ZK aCz;rw[Hw j (fuel_lt AL) (λk=>Fb k x) true (some false)]
 ·grind
 ·intro q i hi;unfold a1i;rw[Ce hi,CX hi,Af,JC];have I:(j[i].Kind==x.Kind)=(x.Kind==j[i].Kind):=by rw[TU,OC,OC];exact eq_comm
  have J:decide (j[i].Key=x.Key)=decide (x.Key=j[i].Key):=zB.2 eq_comm;unfold Fb
  grind
 intro q;unfold a1i;rw[DY];rfl
def abp (X:AA Ad)(e:Ad)(Y:X.length<=40):aHe X (keysOf e) e [] 0=some (cond (MX (keysOf e) [] X&&(e.Kind==1||X.any Rj)) 0 16):=by
 have L:=Y2 e;unfold aHe;refine dQ.eq (KA X.length (fuel_lt AL) (λi a=>a=(X.take i).map (λx=>(⟨x.Kind,x.Key,0⟩:BN))/\MX (keysOf e) [] X=MX (keysOf e) (X.take i) (X.drop i)) ⟨rfl,rfl⟩ (λi a k hi ha M=>?_) λa k ha=>?_)
 ·obtain⟨rfl,j⟩:=ha;unfold aCi;rw[Ce hi,CX hi,Af,aqG _ _ AL,Af];rw[aT2 hi]at j
  have I:∀b,MX (keysOf e) [] X=(!b&&MX (keysOf e) (X.take (i+1)) (X.drop (i+1)))->dQ (a2F X (i:Int) ((X.take i).map λx=>(⟨x.Kind,x.Key,0⟩:BN)) k b) (· =bif MX (keysOf e) [] X&&(e.Kind==1||X.any Rj)then 0 else 16):=λb J=>by
   unfold a2F;cases b with
   |true=>exact .ret a0x
   |false=>
    simp only[BO];rw[CX hi,Af,Af,Dz (by simp only[Oh,DK,HY];omega),Af,wrap_succ i AL];exact M _ ⟨by rw[map_take hi],a0x⟩
  cases hm:(keysOf e).any λk=>Fb k X[i]with
  |false=>
   rw[JV,Bd];exact I true (by rw[j,hm];rfl)
  |true=>
   rw[FK,BO];have O:(λy:Ad=>y.Kind==X[i].Kind&&(y.Key=X[i].Key))=mZ X[i]:=rfl;rw[Af,Af,aTm _ _ _ wF,Af,O];exact I _ (by rw[j,hm,Gf])
 obtain⟨rfl,j⟩:=ha;rw[aXP]at j;unfold aCi;rw[DY,BO,Ho,j,aTm _ _ _ AL];have U:(X.any λy=>y.Kind==1&&(y.Key=CS))=X.any Rj:=rfl;rw[U];have q:(e.Kind != 1)= !(e.Kind==1):=rfl;rw[q];cases e.Kind==1<;>cases X.any Rj<;>exact .ret rfl
def aks (X:AA Ad)(e:Ad)(j:X.length<=40):aK8 X e 0=some (bif !X.all (λx=>x.Room=e.Room)then 13 else bif MX (keysOf e) [] X&&(e.Kind==1||X.any Rj)then 0 else 16):=by
 unfold aK8;rw[Hw X (fuel_lt AL) (λx=> !decide (x.Room=e.Room)) 13 (some (cond (MX (keysOf e) [] X&&(e.Kind==1||X.any Rj)) 0 16))]
 ·rw[mM];cases X.all (λx=>x.Room=e.Room)<;>rfl
 ·intro k i hi;unfold aL9;rw[Ce hi,JC]
 intro k;unfold aL9;rw[EX,aFi,Af,abp X e j]
def amu (l:AA Ad)(e:Ad)(hl:l.length<=100)(j:Fp e):aAO l e=some (X3 l e):=by
 have h1:=j.auth;have q:=gV l e.bQ;unfold aAO aTC X3;rw[Hw e.bQ (fuel_lt AL) (λx=> !dR l x) 14 (some (bif !(ofIds l e.bQ).all (λx=>x.Room=e.Room)then 13 else bif MX (keysOf e) [] (ofIds l e.bQ)&&(e.Kind==1||(ofIds l e.bQ).any Rj)then 0 else 16))]
 ·rw[mM]
  grind
 ·intro k i hi;unfold aJw;rw[Ce hi,J6 l _ AL,Af,NT];rfl
 intro k;unfold aJw;rw[DY,BO,a8y l _ AL AL,Af,aks _ e AL]
def aeY (k:BN)(e:Ad):Y0 (KN k) e=some (Fb k e):=by
 unfold Y0 Fb KN;cases h:(e.Kind==k.Kind)with
 |false=>rfl
 |true=>show some (e.Key.toList==k.Key.toList)=_;rw[JC,Gf]
def aYc (j:AA BN)(x:Ad)(h:j.length<=100):a6j (j.map KN) x=some (if j.findIdx (λk=>Fb k x)<j.length then((j.findIdx (λk=>Fb k x):Nat):Int)else -1):=by
 unfold a6j aP9
 have I:∀k (i:Nat),i<j.length->a6Y (j.map KN) x k (i:Int)=bif Fb (j.getD i ⟨0,CS,0⟩) x then some (i:Int)else k (Ar ((i:Int)+1)):=λk i hi=>by
  unfold a6Y;have q:i<(j.map KN).length:=aHd
  rw[Ce q,Pn];show((Y0 (KN j[i]) x).bind _)=_;rw[aeY,Af];simp[List.getD,hi]
 rw[JG j (fuel_lt AL) (λk=>Fb k x) (λi=>some (i:Int)) (some (-1))]
 ·split<;>rfl
 ·grind
 intro k;unfold a6Y;rw[show((j.map KN).length:Int)=(j.length:Int) by rw[DK],DY];rfl
def aSI {α:Type}{p:α->Ac}:∀l:AA α,l.Pairwise (λa b=>¬(p a=true/\p b=true))->l.findIdx p<l.length->l.filter (λx=> !p x)=l.take (l.findIdx p)++l.drop (l.findIdx p+1)
 | [],_,h=>absurd h (a4a _)
 |a::l,hp,h=>by
  obtain⟨h1,h2⟩:=OE.1 hp;rw[WE]at h ⊢;cases ha:p a with
  |true=>
   rw[aDf (by simp[ha]),UW.2 λb j=>by
    cases q:p b with
    |false=>rfl
    |true=>exact absurd ⟨ha,q⟩ (h1 b j)]
   rfl
  |false=>
   rw[ha]at h;rw[aD5 (by simp[ha]),aSI l h2 LZ];rfl
def ahm:∀l:AA α,decide (l.findIdx p<l.length)=l.any p
 | []=>
  rfl
 |a::l=>by
  grind
def aan (e:Ad):Ku (keysOf e):=by
 have z:Ku (NZ e):=Xb (Xb (Xb List.Pairwise.nil _ _ _) _ _ _) _ _ _;unfold keysOf;cases e.Kind==1<;>cases e.Kind==2<;>cases(e.Content.N==3||e.Content.N==1||e.Content.N==2)<;>simp only[Bd,BO]
 ·exact z
 ·exact z
 ·exact Xb z _ _ _
 ·exact Xb (Xb z _ _ _) _ _ _
 all_goals exact List.Pairwise.nil
def abY {k:BN}(h:k∈keysOf e)(h1:k.Kind=1):k.Key=CS:=by
 have z:∀x∈NZ e,x.Kind=1->x.Key=CS:=λx j q=>by
  unfold NZ at j;rcases Wn j with rfl|j
  ·cases q
  rcases Wn j with rfl|j
  ·cases q
  rcases Wn j with rfl|j
  ·rfl
  cases j
 unfold keysOf at h;cases h2:e.Kind==1 with
 |true=>
  grind
 |false=>
  cases h3:e.Kind==2 with
  |false=>
   grind
  |true=>
   rw[h2,h3]at h;cases I:(e.Content.N==3||e.Content.N==1||e.Content.N==2)with
   |true=>
    rw[I]at h;rcases Wn h with rfl|h
    ·cases h1
    rcases Wn h with rfl|h
    ·cases h1
    exact z k h h1
   |false=>
    rw[I]at h;rcases Wn h with rfl|h
    ·cases h1
    exact z k h h1
def aXS {I:AA BN}:∀(X j:AA Ad),MX I j X=true->∀x∈X,∃k∈I,Fb k x=true
 | [],_,_,_,h=>absurd h H9
 |y::X,j,h,x,q=>by
  unfold MX at h;simp only[Dx]at h;rcases G7.1 q with rfl|q
  ·grind
  exact aXS X _ h.2 x q
def any_congr {q:α->Ac}(h:∀x∈l,p x=q x):l.any p=l.any q:=by
 grind
def aah (l:AA Ad)(e:Ad)(hl:l.length<=100)(he:Fp e):a1z l e=some (X3 l e):=by
 have h1:=he.auth;have hk5:=Y2 e;have hsk:=aan e;unfold a1z aY4;refine dQ.eq (KA e.bQ.length (fuel_lt AL) (λi a=>a=ofIds l (e.bQ.take i)/\∀x∈e.bQ.take i,dR l x=true) ⟨rfl,λx Z=>by simp at Z⟩ (λi a k hi ha M=>?_) λa k ha=>?_)
 ·obtain⟨rfl,I⟩:=ha;have hal:=gV l (e.bQ.take i);rw[HY]at hal;unfold a6I;rw[Ce hi,Ld l _ AL,Af,wrap_succ i AL];cases hg:Ea l e.bQ[i]with
  |none=>
   rw[U1 hg];refine .ret ?_;unfold X3;rw[pS (Eu hi) (show dR l e.bQ[i]=false by unfold dR;rw[hg];rfl)];rfl
  |some x=>
   rw[Ll hg];simp only[FK,BO];rw[Dz Gm,Af];refine M _ ⟨?_,λy L=>?_⟩
   ·unfold ofIds;rw[WY,EJ hi,Td,ou,Vm,hg];rfl
   rw[WY,EJ hi,Td,KG,QC]at L;rcases L with L|rfl
   ·exact I y L
   unfold dR;rw[hg];rfl
 obtain⟨rfl,I⟩:=ha;rw[Ho]at I ⊢;have Z:=gV l e.bQ;have hall:e.bQ.all (dR l)=true:=GK.2 I;unfold a6I;rw[EX];unfold X3;rw[hall];simp only[FK,BO];generalize ofIds l e.bQ=X at Z;unfold aM8;rw[Hw X (fuel_lt AL) (λx=> !decide (x.Room=e.Room)) 13 (some (cond (MX (keysOf e) [] X&&(e.Kind==1||X.any Rj)) 0 16))]
 ·rw[mM];cases X.all (λx=>x.Room=e.Room)<;>exact .ret rfl
 ·intro k2 i hi;unfold aA2;rw[Ce hi,JC]
 intro k2;unfold aA2;rw[EX,aUc,Af];unfold aLb;refine dQ.eq (Ux (body:=a8d X) (Q:=(· =bif MX (keysOf e) [] X&&(e.Kind==1||X.any Rj)then 0 else 16)) (λn b ks x=>∃i:Nat,x=i/\i+n=X.length/\ks=((keysOf e).filter λk=> !(X.take i).any (Fb k)).map KN/\b=(e.Kind==1||(X.take i).any λx=>x.Kind==1)/\MX (keysOf e) [] X=MX (keysOf e) (X.take i) (X.drop i)) ?_ Aw X.length (e.Kind==1) ((keysOf e).map KN) 0 (fuel_lt AL) ⟨0,rfl,AL,by rw[yj];exact BM (List.map KN) (UW.2 λ_ _=>rfl).symm,Bf,rfl⟩);rintro n b ks x k3 ⟨i,rfl,hn,hks,hb,J⟩ hk3;unfold a8d;by_cases hi:i<X.length
 ·rw[aT2 hi]at J;have hlk:((keysOf e).filter λk=> !(X.take i).any (Fb k)).length<=5:=FQ (I9 _ _) hk5;rw[Ce hi,hks,aYc _ _ AL,Af];have O:=ahm (p:=λk=>Fb k X[i]) ((keysOf e).filter λk=> !(X.take i).any (Fb k))
  have U:(((keysOf e).filter λk=> !(X.take i).any (Fb k)).any λk=>Fb k X[i])=((keysOf e).any (λk=>Fb k X[i])&& !(X.take i).any (mZ X[i])):=by
   rw[TU,KE,Dx,KE,RU,←Xq,KE];constructor
   ·rintro⟨k,M,hm⟩;obtain⟨hk1,hk2⟩:=He.1 M;refine⟨⟨k,hk1,hm⟩,?_⟩;rintro⟨y,L,hs⟩;obtain⟨m1,m2⟩:=jv.1 hm;obtain⟨s1,s2⟩:=aUf.1 hs;rw[KE.2 ⟨y,L,jv.2 ⟨s1.trans m1,s2.trans m2⟩⟩]at hk2;cases hk2
   rintro⟨⟨k,M,hm⟩,hno⟩;refine⟨k,He.2 ⟨M,?_⟩,hm⟩;rw[RU,←Xq,KE];rintro⟨y,L,hs⟩;obtain⟨m1,m2⟩:=jv.1 hm;obtain⟨s1,s2⟩:=jv.1 hs;exact hno ⟨y,L,aUf.2 ⟨s1.trans m1.symm,s2.trans m2.symm⟩⟩
  rw[←U,←O]at J;by_cases q:((keysOf e).filter λk=> !(X.take i).any (Fb k)).findIdx (λk=>Fb k X[i])<((keysOf e).filter λk=> !(X.take i).any (Fb k)).length
  ·rw[Dw q,Iq AL,BO];rw[L8 q,Gf]at J;have hlm:(((keysOf e).filter λk=> !(X.take i).any (Fb k)).map KN).length=((keysOf e).filter λk=> !(X.take i).any (Fb k)).length:=DK ..
   have hpw:((keysOf e).filter λk=> !(X.take i).any (Fb k)).Pairwise (λa b=>¬(Fb a X[i]=true/\Fb b X[i]=true)):=by
    refine(List.Pairwise.sublist V8 hsk).imp λ{a b} hab h=>?_;obtain⟨a1,a2⟩:=jv.1 h.1;obtain⟨b1,b2⟩:=jv.1 h.2;rw[zH (Xf.2 ⟨a1.symm.trans b1,a2.symm.trans b2⟩)]at hab;cases hab
   have hd:=aSI _ hpw q
   have Y:((keysOf e).filter λk=> !(X.take i).any (Fb k)).filter (λk=> !Fb k X[i])=(keysOf e).filter λk=> !(X.take (i+1)).any (Fb k):=by
    rw[aCT];refine aHE λk _=>?_;rw[a1X hi];cases(X.take i).any (Fb k)<;>cases Fb k X[i]<;>rfl
   rw[Y]at hd;generalize((keysOf e).filter λk=> !(X.take i).any (Fb k))=K at q hd hlm hlk;generalize K.findIdx (λk=>Fb k X[i])=j at q hd;have s1:Gx (K.map KN) 0 (j:Int)=some (((K.map KN).drop 0).take (j-0)):=dz (lo:=0) (F6 _) AL;have s2:Gx (K.map KN) (Ar ((j:Int)+1)) ((K.map KN).length:Int)=some (((K.map KN).drop (j+1)).take ((K.map KN).length-(j+1))):=by rw[wrap_succ j AL];exact dz AL (Eo _)
   rw[s1,Af,s2,Af,Dz (by simp only[HY,NV];omega),Af];have hb3:(cond b (some true) ((Aq X (i:Int)).bind λx28=>some (x28.Kind==1)))=some (b||X[i].Kind==1):=by rw[CX hi];cases b<;>rfl
   rw[hb3,Af];refine hk3 (n-1) _ _ _ AL ⟨i+1,wrap_succ i AL,AL,?_,?_,J⟩
   ·rw[hd,Jh,bZ,jM,Nat.sub_zero,pU,Un (l:=(K.map KN).drop (j+1)) (by rw[NV];omega)]
   rw[a1X hi,hb,Bool.or_assoc]
  rw[EC q];rw[Iq q,Bool.false_and]at J;exact .ret a0x
 have :i=X.length:=AL
 subst this;rw[aXP]at J;rw[EX,J,hb,Ho,Gf]
 have hc:(X.any λx=>x.Kind==1)=X.any Rj:=any_congr λx Z=>by
  obtain⟨k,M,hm⟩:=aXS X [] J x Z;obtain⟨m1,m2⟩:=jv.1 hm;unfold Rj;cases hq:x.Kind==1 with
  |false=>rfl
  |true=>rw[m2,abY M (by rw[←m1];exact eq_of_beq hq)];simp
 rw[hc];cases(e.Kind==1||X.any Rj)<;>exact .ret rfl
def GI (l:AA Ad)(s:AA BN):AA Ad:=ofIds l (s.map (·.Id))
def jQ (l:AA Ad)(s:AA BN):(GI l s).length<=s.length:=by have :=gV l (s.map (·.Id));rwa [DK]at this
variable {l:AA Ad}
def a2P (hs:EZ l)(ids:AA Int):EZ (ofIds l ids):=λx j=>hs x (aIq j)
def aAh (h:i<s.length):GI l (s.take (i+1))=GI l (s.take i)++(Ea l s[i].Id).toList:=by
 unfold GI ofIds;rw[map_take h,ou,Vm,List.filterMap_nil]
 grind
def aNC (l:AA Ad)(s:AA BN)(hl:l.length<=100)(h:s.length<=1000):Zj l s=some (GI l s):=by
 unfold Zj yG;rw[Af];unfold aMk;refine dQ.eq (aDY (body:=aGD s) (Q:=(· =GI l s)) (λn a b c _ _=>∃i:Nat,b=i/\i+n=s.length/\c=l/\a=GI l (s.take i)) ?_ Aw s.length [] 0 l [] [] (fuel_lt AL) ⟨0,rfl,AL,rfl,rfl⟩);rintro n a b c d f k ⟨i,rfl,J,rfl,ha⟩ I;unfold aGD;by_cases hi:i<s.length
 ·have q:=jQ c (s.take i);rw[HY]at q;rw[Ce hi,Ld c _ AL,Af,wrap_succ i AL];cases j:Ea c s[i].Id with
  |none=>rw[U1 j];exact I (n-1) _ _ _ _ _ AL ⟨i+1,rfl,AL,rfl,by rw[aAh hi,j,ha];simp⟩
  |some x=>
   rw[Ll j];simp only[Bd];rw[Dz (by rw[ha];simp only[Oh];omega),Af];exact I (n-1) _ _ _ _ _ AL ⟨i+1,rfl,AL,rfl,by rw[aAh hi,j,ha];rfl⟩
 have :i=s.length:=AL
 subst this;rw[EX];exact .ret fE
def aWN (l:AA Ad)(s:AA BN)(hl:l.length<=100)(h:s.length<=1000):uQ l s=some (GI l s):=by
 unfold uQ aUk;refine dQ.eq (KA s.length (fuel_lt AL) (λi a=>a=GI l (s.take i)) rfl (λi a k hi ha I=>?_) λa k ha=>?_)
 ·have q:=jQ l (s.take i);rw[HY]at q;unfold aKP a9I;rw[Ce hi,J6 l _ AL,Af,wrap_succ i AL];cases j:Ea l s[i].Id with
  |none=>rw[U1 j];exact I _ (by rw[aAh hi,j,ha];simp)
  |some x=>
   rw[Ll j];simp only[Bd];rw[Dz (by rw[ha];simp only[Oh];omega),Af];exact I _ (by rw[aAh hi,j,ha];rfl)
 unfold aKP;rw[DY];exact .ret fE
structure Ej where
 id:Int
 before:List BN
 after:List BN
 err:Int
def Gs (t:AA Ej)(x:Int):Option Ej:=t.find? λy=>y.id==x
def MC (t:AA Ej)(x:Int):AA BN:=((Gs t x).map (·.after)).getD []
def errOf (t:AA Ej)(x:Int):Int:=((Gs t x).map (·.err)).getD 0
def a2v (l:AA Ad)(e:Ad):Int:=bif X3 l e != 0 then X3 l e else UD e (Xd l e)
def V4 (l:AA Ad)(t:AA Ej)(e:Ad)(s:AA BN):Int:=
 bif a2v l e != 0 then a2v l e else bif e.bQ.any (λx=>errOf t x != 0)then 16 else UD e (GI l s)
def stB (l:AA Ad)(t:AA Ej)(e:Ad):AA BN:=vG l (e.bP.map (MC t))
def jr (e:Ad)(s:AA BN)(r:Int):Ej:=⟨e.Id,s,bif r==0&&JJ e.Kind then Gu s e.Kind e.Key e.Id else s,r⟩
def Ws (l:AA Ad)(t:AA Ej)(e:Ad):Ej:=jr e (stB l t e) (V4 l t e (stB l t e))
def OB (l:AA Ad)(ids:AA Int):AA Ej:=ids.foldl (λt id=>t++[Ws l t (ev l id)]) []
def Gh (l:AA Ad):AA Ej:=OB l (QA l)
def aWw (l:AA Ad){ids:AA Int}(h:i<ids.length):OB l (ids.take (i+1))=OB l (ids.take i)++[Ws l (OB l (ids.take i)) (ev l ids[i])]:=aXt h
variable {t:AA Ej}
def aLx {x:Int}:Gs t x=none↔x∉t.map (·.id):=by
 unfold Gs
 grind
variable {y:Ej}
def aC5 (h:Gs t y.id=none)(x:Int):Gs (t++[y]) x=bif x==y.id then some y else Gs t x:=by
 unfold Gs at h ⊢
 grind
def aCb (l:AA Ad):∀(ids:AA Int) (t:AA Ej),(∀x∈ids,dR l x=true)->(ids.foldl (λt id=>t++[Ws l t (ev l id)]) t).map (·.id)=t.map (·.id)++ids
 | [],t,_=>Bf
 |x::ids,t,h=>by
  have j:(Ws l t (ev l x)).id=x:=(Om (h x (Iu ..))).2;rw[Hy,aCb l ids _ λy q=>h y (JX _ q),Jh,JE,List.map_nil,j,JI];rfl
def Ln (l:AA Ad)(t:AA Ej):Prop:=∀y∈t,JH l y.before/\JH l y.after
def Ln.after (h:Ln l t)(x:Int):JH l (MC t x):=by
 unfold MC;cases hl:Gs t x with
 |none=>exact .nil l
 |some y=>exact(h y (YD hl)).2
def Ln.states (h:Ln l t)(ids:AA Int):∀s∈ids.map (MC t),JH l s:=λs hs=>by
 obtain⟨x,_,rfl⟩:=GH.1 hs;exact h.after x
def Ln.okay {l:AA Ad}{t:AA Ej}(h:Ln l t)(hl:l.length<=100)(hs:EZ l)(ids:AA Int)(hi:ids.length<=100):OY l (ids.map (MC t)):=JH.okay hl hs aHd (h.states ids)
def Ln.stB (h:Ln l t)(hl:l.length<=100)(hs:EZ l)(j:e.bP.length<=40):JH l (stB l t e):=JH.resolve (h.okay hl hs _ AL) (h.states _)
def Ln.line (h:Ln l t)(hl:l.length<=100)(hs:EZ l)(I:e.bP.length<=40)(J:JJ e.Kind=true->dR l e.Id=true/\ev l e.Id=e):Ln l (t++[Ws l t e]):=λy j=>by
 rcases KG.1 j with j|j
 ·exact h y j
 rw[QC.1 j];have hp:=h.stB hl hs I;refine⟨hp,?_⟩;show JH l (cond (V4 l t e (Go.Proofs.YteiakhlfaaifnaaGreat.stB l t e)==0&&JJ e.Kind) (Gu _ e.Kind e.Key e.Id) _);cases q:(V4 l t e (Go.Proofs.YteiakhlfaaifnaaGreat.stB l t e)==0&&JJ e.Kind)with
 |false=>exact hp
 |true=>
  have hst:JJ e.Kind=true:=by rw[Dx]at q;exact q.2
  obtain⟨L,k2⟩:=J hst;exact hp.set L k2 hst
def acA {id:Int}(h:JJ (ev l id).Kind=true):dR l (ev l id).Id=true/\ev l (ev l id).Id=ev l id:=by
 cases j:Ea l id with
 |none=>unfold ev at h;rw[U1 j]at h;exact absurd h Ba
 |some e=>
  have q:dR l id=true:=by unfold dR;rw[j];rfl
  have :=(Om q).2;rw[this];exact⟨q,rfl⟩
def aZi :Fp EI:=⟨F6 _,F6 _,F6 _,F6 _,F6 _,F6 _,F6 _,F6 _,F6 _,F6 _,F6 _,F6 _,λ_ h=>absurd h H9,λ_ h=>absurd h H9,λ_ h=>absurd h H9⟩
def yC (hs:EZ l)(id:Int):Fp (ev l id):=by
 unfold ev Fv;cases h:Ea l id with
 |none=>exact aZi
 |some e=>exact hs e (PN h)
def a7a {l:AA Ad}(hl:l.length<=100)(hs:EZ l):∀(ids:AA Int) (t:AA Ej),Ln l t->Ln l (ids.foldl (λt id=>t++[Ws l t (ev l id)]) t)
 | [],t,h=>h
 |x::ids,t,h=>by rw[Hy];exact a7a hl hs ids _ (h.line hl hs (yC hs x).prev acA)
structure QS (t:List Ej) (m1 m2:List (Int×List BN)) (m3:List (Int×Int)):Prop where
 b:∀x,DT m1 x=(Gs t x).map (·.before)
 a:∀x,DT m2 x=(Gs t x).map (·.after)
 r:∀x,DT m3 x=(Gs t x).map (·.err)
variable {I:AA (Int×Int)}{j q:AA (Int×AA BN)}
def QS.after (h:QS t q j I)(x:Int):(DT j x).getD []=MC t x:=by rw[h.a];rfl
def QS.err {I:AA (Int×AA BN)}{j:AA (Int×Int)}(h:QS t q I j)(x:Int):(DT j x).getD 0=errOf t x:=by rw[h.r];rfl
def anf {I:AA (Int×AA BN)}{J:AA (Int×Int)}(h:QS t q I J)(l:AA Ad)(e:Ad)(s:AA BN)(hl:l.length<=100)(hs:EZ l)(j:Fp e)(hsl:s.length<=100):
 aA6 q I J l e s=some (V4 l t e s):=by
 have h1:=j.auth;have h2:=jQ l s;unfold aA6 V4 a2v;rw[aah l e hl j,Af];cases L:X3 l e != 0 with
 |true=>
  grind
 |false=>
  simp only[BO];rw[aXe l e AL AL,Af,aEw e _ (FQ (a7L l e) AL) (hs.from e) j,Af];cases ha:UD e (Xd l e) != 0 with
  |true=>
   rfl
  |false=>
   simp only[BO];unfold aOD;rw[Hw e.bQ (fuel_lt AL) (λx=>errOf t x != 0) 16 (some (UD e (GI l s)))]
   ·cases e.bQ.any (λx=>errOf t x != 0)<;>rfl
   ·intro k i hi;unfold aCk;rw[Ce hi,h.err]
   intro k;unfold aCk;rw[EX,aNC l s hl AL,Af,aEw e (GI l s) AL (a2P hs _) j];rfl
variable {L:AA (Int×AA BN)}
def QS.snoc {M:AA (Int×AA BN)}{O:AA (Int×Int)}(h:QS t L M O)(J:Gs t y.id=none)(h1:∀x,DT j x=bif x==y.id then some y.before else DT L x)(h2:∀x,DT q x=bif x==y.id then some y.after else DT M x)(h3:∀x,DT I x=bif x==y.id then some y.err else DT O x):QS (t++[y]) j q I:=by
 refine⟨λx=>?_,λx=>?_,λx=>?_⟩
 ·rw[h1,aC5 J,h.b];cases x==y.id<;>rfl
 ·rw[h2,aC5 J,h.a];cases x==y.id<;>rfl
 rw[h3,aC5 J,h.r];cases x==y.id<;>rfl
def add_eq {J:AA (Int×AA BN)}{M:AA (Int×Int)}(h:QS t J L M)(l:AA Ad)(e:Ad)(hl:l.length<=100)(hs:EZ l)(O:Fp e)(U:Ln l t)(Y:Gs t e.Id=none):
 dQ (a6P J L M l e) (λr=>QS (t++[Ws l t e]) r.1 r.2.1 r.2.2):=by
 have h1:=O.prev;unfold a6P aQ0;refine KA e.bP.length (fuel_lt AL) (λi a=>a=(e.bP.take i).map (MC t)) rfl (λi a k hi ha Z=>?_) λa k ha=>?_
 ·have hal:a.length<=i:=oW
  unfold aFA;rw[Ce hi,Dz Gm,Af,wrap_succ i AL,h.after];exact Z _ a8w
 rw[Ho]at ha;subst ha;unfold aFA;have hp:JH l (stB l t e):=U.stB hl hs h1;have hpl:=hp.length;have I:oQ l (e.bP.map (MC t))=some (stB l t e):=al4 (U.okay hl hs _ AL);rw[EX,I,Af,anf h l e _ hl hs O AL,Af];have j:Ws l t e=jr e (stB l t e) (V4 l t e (stB l t e)):=rfl;rw[j];generalize V4 l t e (stB l t e)=r;have q:∀(c d f:Ac) {R:Type} (g:Ac->AB R),((cond c (some d) (some false)).bind λx9=>(cond x9 (some f) (some false)).bind g)=g (c&&(d&&f)):=λc d f R g=>by cases c<;>cases d<;>rfl
 rw[q];show dQ (cond (r==0&&JJ e.Kind) _ _) _;unfold jr;cases hc:(r==0&&JJ e.Kind)with
 |true=>
  simp only[Bd];rw[Zn _ _ _ _ AL,Af];refine .ret (h.snoc Y (λx=>UJ ..) (λx=>?_) λx=>UJ ..);rw[UJ,UJ];cases x==e.Id<;>rfl
 |false=>exact .ret (h.snoc Y (λx=>UJ ..) (λx=>UJ ..) λx=>UJ ..)
def run_go (l:AA Ad)(ids:AA Int)(hl:l.length<=100)(hs:EZ l)(I:∀x∈ids,dR l x=true)(J:ids.Nodup)(M:ids.length<=1000):dQ (aHR ids l 0 [] [] []) (λo=>∃T,o=some T/\QS (OB l ids) T.1 T.2.1 T.2.2):=by
 unfold aHR;refine aKS (body:=aIu ids l) (Q:=λo=>∃T,o=some T/\QS (OB l ids) T.1 T.2.1 T.2.2) (λn a b c d=>∃i:Nat,a=i/\i+n=ids.length/\QS (OB l (ids.take i)) b c d) ?_ Aw ids.length 0 [] [] [] (fuel_lt AL) ⟨0,rfl,AL,⟨λx=>rfl,λx=>rfl,λx=>rfl⟩⟩;rintro n a b c d k ⟨i,rfl,hn,hm⟩ O;unfold aIu;by_cases hi:i<ids.length
 ·have L:=I _ (Eu hi)
  have q:Gs (OB l (ids.take i)) (ev l ids[i]).Id=none:=by
   rw[aLx,(Om L).2];unfold OB;rw[aCb l _ _ λx U=>I x (rH U),List.map_nil,Ij];intro hm;obtain⟨j,Y,e⟩:=I8 hm;rw[HY]at Y;rw[a3H]at e;have :=Jq.1 (nN.1 J) j i AL hi AL;exact this e
  rw[Ce hi,Ld l _ AL,Af];refine(add_eq hm l _ hl hs (yC hs ids[i]) (a7a hl hs _ _ λy Z=>absurd Z H9) q).bind λr hr=>?_;exact O (n-1) _ _ _ _ AL ⟨i+1,wrap_succ i AL,AL,by rw[aWw l hi];exact hr⟩
 have :i=ids.length:=AL
 subst this;rw[EX];exact .ret ⟨_,rfl,by rw[Ho]at hm;exact hm⟩
structure QF (l:List Ad):Prop where
 len:l.length<=100
 small:EZ l
 nodup:(l.map (·.Id)).Nodup
 dep:qp l
def lS {x:Int}:dR l x=true↔x∈l.map (·.Id):=by
 unfold dR Ea
 grind
def aQc (l:AA Ad):(QA l).Perm (l.map (·.Id)):=(a8A l).map _
def aHB {x:Int}:x∈QA l↔dR l x=true:=by rw[(aQc l).mem_iff,lS]
def a5E (l:AA Ad):(QA l).length=l.length:=by unfold QA;rw[DK,vw]
def QF.order (h:QF l):(QA l).Nodup:=(aQc l).nodup_iff.2 h.nodup
def OL (l:AA Ad)(c:Int):AA Ej:=bif c==0&&OX l==0 then Gh l else[]
def run_eq (l:AA Ad)(J:Qb l=some c)(h:c=0->QF l):
 dQ (bY l) (λo=>(OL l c=[]/\o=none)\/(OL l c=Gh l/\QF l/\∃T,o=some T/\QS (Gh l) T.1 T.2.1 T.2.2)):=by
 unfold bY OL;rw[J,Af];by_cases I:c=0
 ·subst I;have j:=h rfl;rw[an4 l j.len j.small j.dep];cases hd:OX l==0 with
  |false=>
   have q:(OX l != 0)=true:=by unfold bne;rw[hd];rfl
   simp only[je,BO,Af,q,Bd];exact .ret (.inl ⟨rfl,rfl⟩)
  |true=>
   have q:(OX l != 0)=false:=by unfold bne;rw[hd];rfl
   simp only[je,BO,Af,q];rw[acP l (by have :=j.len;omega),Af];exact(run_go l (QA l) j.len j.small (λx L=>aHB.1 L) j.order (by rw[a5E];have :=j.len;omega)).mono λo M=>.inr ⟨rfl,j,M⟩
 have O:(c != 0)=true:=Q9
 have U:(c==0)=false:=Q9
 rw[O,U];exact .ret (.inl ⟨rfl,rfl⟩)
def aUU (h:QF l):Ln l (Gh l):=a7a h.len h.small _ _ λy j=>absurd j H9
def aQg (l:AA Ad):(Gh l).map (·.id)=QA l:=by
 have :=aCb l (QA l) [] λx j=>aHB.1 j;simpa[Gh,OB]using this
def aQk {x:Int}(h:dR l x=true):∃y,Gs (Gh l) x=some y:=by
 cases hl:Gs (Gh l) x with
 |some y=>exact⟨y,rfl⟩
 |none=>rw[aLx,aQg]at hl;exact absurd (aHB.2 h) hl
def Iw (t:AA Ej)(x:Int):Ac:=match Gs t x with
 |some y=>y.err==0
 |none=>false
def LG (l:AA Ad)(t:AA Ej):AA Int:=(l.filter λe=>Iw t e.Id).map (·.Id)
def XC (l:AA Ad)(t:AA Ej):AA BN:=vG l ((Xp l (LG l t)).map (MC t))
def aAw (l:AA Ad)(t:AA Ej):(LG l t).length<=l.length:=by unfold LG;rw[DK];exact I9 _ _
def aWv (l:AA Ad):LG l []=[]:=by
 unfold LG;rw[sU.2 λe _=>by unfold Iw Gs;simp];rfl
def ajE (l:AA Ad):XC l []=[]:=by unfold XC;rw[aWv];rfl
def a9j (h:i<l.length):LG (l.take (i+1)) t=LG (l.take i) t++bif Iw t l[i].Id then[l[i].Id]else[]:=by
 unfold LG;rw[oh h,Jh]
 grind
def aXU {x:Int}(h:dR l x=true):Iw (Gh l) x=(errOf (Gh l) x==0):=by
 obtain⟨y,j⟩:=aQk h;unfold Iw errOf;rw[j];rfl
def ac6 (h:QS (Gh l) j q I)(hl:l.length<=100):qm j q I l=some (LG l (Gh l)):=by
 unfold qm
 have hp:a5c l j q I=some (LG l (Gh l)):=by
  unfold a5c aWE;refine dQ.eq (KA l.length (fuel_lt AL) (λi a=>a=LG (l.take i) (Gh l)) rfl (λi a k hi ha J=>?_) λa k ha=>?_)
  ·have M:a.length<=i:=aMO
   unfold aKG aFj aBQ;rw[Ce hi,Af,h.err,←aXU (lS.2 (GH.2 ⟨_,Eu hi,rfl⟩)),wrap_succ i AL];cases L:Iw (Gh l) l[i].Id with
   |true=>
    rw[Bd,CX hi,Af,Dz Gm,Af];exact J _ (by rw[a9j hi,L,ha];rfl)
   |false=>exact J _ (by rw[a9j hi,L,ha];simp)
  unfold aKG;rw[EX];exact .ret fE
 rw[hp];rfl
def abq (h:c=0->QF l):JH l (XC l (OL l c)):=by
 unfold OL;cases q:(c==0&&OX l==0)with
 |false=>rw[BO,ajE];exact .nil l
 |true=>
  rw[Dx]at q;have j:=h (eq_of_beq q.1);have I:=aUU j;have ha:=aAw l (Gh l);have J:=aSZ l (LG l (Gh l));have hl:=j.len;rw[Bd];exact JH.resolve (I.okay hl j.small _ AL) (I.states _)
def aND (q:(l.map (·.Id)).Nodup)(h:e∈l):ev l e.Id=e:=by
 have I:dR l e.Id=true:=lS.2 (GH.2 ⟨e,h,rfl⟩);obtain⟨h1,h2⟩:=Om I;have h3:=PN h1;obtain⟨i,hi,J⟩:=I8 h3;obtain⟨j,L,M⟩:=I8 h;have hp:=Jq.1 (nN.1 q)
 grind
structure aKw (x y:Ad):Prop where
 id:y.Id=x.Id
 room:y.Room=x.Room
 sender:y.bG=x.bG
 kind:y.Kind=x.Kind
 key:y.Key=x.Key
 time:y.Time=x.Time
 depth:y.Depth=x.Depth
 prev:y.bP=x.bP
 auth:y.bQ=x.bQ
 n:x.Kind=2\/x.Kind=4->y.Content.N=x.Content.N
 levels:x.Kind=3->y.Content.Levels=x.Content.Levels
inductive a7c :List Ad->List Ad->Prop
 |nil:a7c [] []
 |cons {x y:Ad} {xs ys:List Ad} (h:aKw x y) (t:a7c xs ys):a7c (x::xs) (y::ys)
structure aWy (l l':List Ad) (S:List Int):Prop where
 nodup:S.Nodup
 mem:∀x∈S,dR l x=true/\dR l' x=true/\aKw (ev l x) (ev l' x)
 prev:∀x∈S,∀a∈(ev l x).bP,a∈S
 auth:∀x∈S,∀a∈(ev l x).bQ,a∈S
section
variable {l l':AA Ad} {S:AA Int} (h:aWy l l' S)
include h
theorem aWy.ids {ids:AA Int}(hi:∀x∈ids,x∈S):a7c (ofIds l ids) (ofIds l' ids):=by
 induction ids with
 |nil=>exact .nil
 |cons x ids j=>
  obtain⟨q,k2,k3⟩:=h.mem x (hi x (Iu ..));unfold ofIds at j ⊢;rw[Vm,Vm,(Om q).1,(Om k2).1];exact .cons k3 (j λy I=>hi y (JX _ I))
end
variable {S:Type}{b c d l:AA Int}{j:Ac}{n s:BH}{u:Nat}
section
def UU (n:Int):Int:=if n<0 then bits .xor .u64 IntKind.u64.max (IntKind.u64.wrap (IntKind.u64.wrap n*2))else IntKind.u64.wrap (IntKind.u64.wrap n*2)
def yK (n:Int):0<=UU n/\UU n<18446744073709551616:=by
 unfold UU;have h2:∀x:Int,0<=IntKind.u64.wrap x/\IntKind.u64.wrap x<18446744073709551616:=λx=>by rw[lU];omega
 split
 ·obtain⟨j,I⟩:=h2 (IntKind.u64.wrap n*2);generalize IntKind.u64.wrap (IntKind.u64.wrap n*2)=y at *;obtain⟨k,rfl⟩:=Int.eq_ofNat_of_zero_le j;have :(IntKind.u64.max:Int)=((18446744073709551615:Nat):Int):=Ba
  rw[this,bits_xor_u64_nat _ _ AL AL];have :18446744073709551615^^^k<2^64:=Nat.xor_lt_two_pow AL AL;constructor
  ·exact aJE _
  have q:(2:Nat)^64=18446744073709551616:=Ba
  omega
 exact h2 _
def Px (u:Nat):AA Int:=if u<128 then[(u:Int)]else((u % 128+128:Nat):Int)::Px (u/128)
termination_by u
decreasing_by omega
def qK (h:u<128):Px u=[(u:Int)]:=by rw[Px,Dw h]
def aDb (h:¬u<128):Px u=((u % 128+128:Nat):Int)::Px (u/128):=by rw[Px,EC h]
def aRV :∀(j u:Nat),u<128^(j+1)->(Px u).length<=j+1
 |0,u,h=>by rw[qK LZ];simp
 |j+1,u,h=>by
  by_cases q:u<128
  ·rw[qK q];simp
  rw[aDb q]
  have :u/128<128^(j+1):=by
   rw[Nat.div_lt_iff_lt_mul AL];rw[Nat.pow_succ]at h;exact h
  have :=aRV j (u/128) this;simp;omega
def enc (n:Int):AA Int:=Px (UU n).toNat
def RJ (n:Int):(enc n).length<=10:=by
 have h:=(yK n).2;refine aRV 9 _ ?_;have :(128:Nat)^10=1180591620717411303424:=Ba
 rw[this];have :=(yK n).1;omega
def afn (k:Nat):bits .or .u8 ((k:Int) % 256) 128=((k % 128+128:Nat):Int):=by
 have h:=u8_or_nat (k % 256) 128 AL AL;rw[show((k:Int) % 256)=((k % 256:Nat):Int)from by omega];have j:(128:Int)=((128:Nat):Int):=rfl;rw[j,h];congr 1;have key:∀x,x<256->x|||128=x % 128+128:=PS
 rw[key _ AL];omega
def a0s (u c:Int):Int:=(IntKind.u64.wrap (bits .xor .u64 u (IntKind.u64.wrap c)*1099511628211)).tmod 4611686018427387904
def aVH (x:Int):bits .and .u64 (IntKind.u64.wrap x) 4611686018427387903=(IntKind.u64.wrap x).tmod 4611686018427387904:=by
 rw[lU];have h:=bits_mask .u64 64 Ba (λn q h1=>by rw[lU];omega) 62 Ba (x % 18446744073709551616) AL AL;have e:((2:Int)^62-1)=4611686018427387903:=Ba
 have j:((2:Int)^62)=4611686018427387904:=Ba
 rw[aUN AL];simpa[e,j]using h
def aes (u c:Int):bits .and .u64 (IntKind.u64.wrap (bits .xor .u64 u (IntKind.u64.wrap c)*1099511628211)) 4611686018427387903=a0s u c:=aVH _
def a3L (op:BinOp)(k:IntKind)(x y:Int)(h:op=.and\/op=.or\/op=.xor):FB op k x y=bits op k x y:=by
 rcases h with rfl|rfl|rfl<;>rfl
def Ol {b:Nat}{l m:AA α}(j:b<=100)(h:(l++m).length<=1099511627776):CZ b l m=some (l++m):=by
 refine Dz ?_;rw[Em]at h;have :(l.length+m.length)*b<=1099511627776*100:=yI h j;omega
def amG (u:Nat):FB .or .u8 (IntKind.u8.wrap (u:Int)) 128=((u % 128+128:Nat):Int):=by
 rw[a3L _ _ _ _ (.inr (.inl rfl)),show IntKind.u8.wrap (u:Int)=(u:Int) % 256 from by rw[qZ],afn]
def aYe (u:Nat):QN .shr .u64 (u:Int) 7=some ((u/128:Nat):Int):=by
 unfold QN;rw[EC AL];show some ((u:Int).fdiv (2^7))=_
 grind
def aNs {n:Nat}(h:u<128^(n+1+1)):u/128<128^(n+1):=by
 grind
def acd :∀(n u:Nat),u<128^(n+1)->∀m b,n<m->(b++Px u).length<=1099511627776->aS XV m b (u:Int)=some (b++Px u):=by
 intro n
 induction n with
 |zero=>
  intro u q m b hm j;obtain⟨m,rfl⟩:∃I,m=I+1:=⟨m-1,AL⟩
  have h:u<128:=WU
  rw[qK h]at j ⊢;show XV (aS XV m) b (u:Int)=_;simp only[XV,show decide ((u:Int)>=128)=false from by simp;omega,BO];rw[show IntKind.u8.wrap (u:Int)=(u:Int)from by rw[qZ];omega,Ol AL j];rfl
 |succ n L=>
  intro u q m b hm j;obtain⟨m,rfl⟩:∃I,m=I+1:=⟨m-1,AL⟩
  show XV (aS XV m) b (u:Int)=_;by_cases h:u<128
  ·rw[qK h]at j ⊢;simp only[XV,show decide ((u:Int)>=128)=false from by simp;omega,BO];rw[show IntKind.u8.wrap (u:Int)=(u:Int)from by rw[qZ];omega,Ol AL j];rfl
  rw[aDb h]at j ⊢;have e:(b++((u % 128+128:Nat):Int)::Px (u/128))=(b++[((u % 128+128:Nat):Int)])++Px (u/128):=Bf
  have J:(b++[((u % 128+128:Nat):Int)]).length<=1099511627776:=by simp only[Em,H8,La]at j ⊢;omega
  simp only[XV,show decide ((u:Int)>=128)=true from by simp;omega,Bd,amG,Ol (show 1<=100 by omega) J,aYe,Af];rw[e];exact L (u/128) (aNs q) m _ AL (by rw[←e];exact j)
def aaK :∀(n u:Nat),u<128^(n+1)->u<18446744073709551616->∀m b,n<m->(b++Px u).length<=1099511627776->aS YX m (u:Int) b=some (b++Px u):=by
 intro n
 induction n with
 |zero=>
  intro u q _ m b hm j;obtain⟨m,rfl⟩:∃I,m=I+1:=⟨m-1,AL⟩
  have h:u<128:=WU
  rw[qK h]at j ⊢;show YX (aS YX m) (u:Int) b=_;simp only[YX,show decide ((u:Int)>=128)=false from by simp;omega,BO];rw[show IntKind.u8.wrap (u:Int)=(u:Int)from by rw[qZ];omega,Ol AL j];rfl
 |succ n L=>
  intro u q M m b hm j;obtain⟨m,rfl⟩:∃I,m=I+1:=⟨m-1,AL⟩
  show YX (aS YX m) (u:Int) b=_;by_cases h:u<128
  ·rw[qK h]at j ⊢;simp only[YX,show decide ((u:Int)>=128)=false from by simp;omega,BO];rw[show IntKind.u8.wrap (u:Int)=(u:Int)from by rw[qZ];omega,Ol AL j];rfl
  rw[aDb h]at j ⊢;have e:(b++((u % 128+128:Nat):Int)::Px (u/128))=(b++[((u % 128+128:Nat):Int)])++Px (u/128):=Bf
  have J:(b++[((u % 128+128:Nat):Int)]).length<=1099511627776:=by simp only[Em,H8,La]at j ⊢;omega
  have O:YR (u:Int) 128=some ((u % 128:Nat):Int):=by unfold YR;rw[EC AL,aUN AL];congr 1
  have U:a0a .u64 (u:Int) 128=some ((u/128:Nat):Int):=by
   unfold a0a;rw[EC AL,Int.tdiv_eq_ediv_of_nonneg AL];congr 1;rw[lU];omega
  have Y:IntKind.u8.wrap (IntKind.u64.wrap (((u % 128:Nat):Int)+128))=((u % 128+128:Nat):Int):=by rw[lU,qZ];omega
  simp only[YX,show decide ((u:Int)>=128)=true from by simp;omega,Bd,O,Y,U,Ol (show 1<=100 by omega) J,Af];rw[e];exact L (u/128) (aNs q) AL m _ AL (by rw[←e];exact j)
def aR0 (x:Int):QN .shl .u64 x 1=some (IntKind.u64.wrap (x*2)):=rfl
def aTw (x:Int):iL .u64 x=bits .xor .u64 IntKind.u64.max x:=rfl
def aLh (n:Int):(UU n).toNat<128^(9+1):=by
 have j:=yK n
 grind
def aOo :9<Aw:=qc
def number_eq {n:Int}(h:(b++enc n).length<=1099511627776):aI b n=some (b++enc n):=by
 have I:=yK n
 have j:aRm b (UU n)=some (b++enc n):=by
  have :=acd 9 (UU n).toNat (aLh n) Aw b aOo h
  rwa [Int.toNat_of_nonneg I.1]at this
 unfold aI;rw[aR0,Af];unfold a6U;unfold UU at j;by_cases q:n<0
 ·rw[Dw q]at j;rw[show decide (n<0)=true by simpa using q,Bd,aTw];exact j
 grind
def abP (n:Int):([]++enc n).length<=1099511627776:=by have :=RJ n;simp only[Ij];omega
def aLs (n:Int):zZ n=some (enc n):=by
 have I:=yK n
 have j:aUW (UU n) []=some (enc n):=by
  have :=aaK 9 (UU n).toNat (aLh n) AL Aw [] aOo (abP n)
  rwa [Int.toNat_of_nonneg I.1]at this
 unfold zZ;rw[aR0,Af];unfold a7T;unfold UU at j;by_cases q:n<0
 ·rw[Dw q]at j;rw[show decide (n<0)=true by simpa using q,Bd,aTw];exact j
 grind
def a1H {m:Nat}(h:b.length+m<=1099511627776):bf b (m:Int)=some b:=by
 unfold bf;rw[RQ AL AL];unfold J4;rw[Dw ⟨AL,AL,AL⟩];simp[gCopy]
def a6k {a:AA Int}(h:(a++b).length<=1099511627776):a.length<=1099511627776:=by rw[Em]at h;omega
def JB (s:BH):AA Int:=enc s.size++DI s
def text_eq (h:(b++JB s).length<=1099511627776):a0I b s=some (b++JB s):=by
 unfold JB at h ⊢;rw[←JI]at h ⊢;unfold a0I;rw[number_eq (a6k h),Af,Ol AL h];rfl
def vH {n:Int}(h:b.length+10<=1099511627776):P6 b n=some (b++enc n):=by
 have :=RJ n;unfold P6;rw[show(10:Int)=((10:Nat):Int)from rfl,a1H AL,Af,number_eq MO];rfl
def cG {n:Int}(h:b.length+10<=1099511627776):MP b n=some (b++enc n):=by
 have :=RJ n;unfold MP;rw[Ol AL a5s,Af,aLs,Af,Ij,Ol AL MO];rfl
def zV (s:BH):(JB s).length<=s.size+10:=by
 have :=RJ s.size;unfold JB;rw[Em,J5];omega
def ag6 (h:b.length+s.size+10<=1099511627776):TQ b s=some (b++JB s):=by
 have :=zV s;unfold TQ;rw[RQ AL AL,show(s.size:Int)+10=((s.size+10:Nat):Int) by omega,a1H AL,Af,text_eq MO];rfl
def aTS (h:b.length+s.size+10<=1099511627776):RY b s=some (b++JB s):=by
 have :=zV s;unfold RY;rw[cG AL,Af,Ol AL (by unfold JB at this;rw[Em]at this;rw[Em,Em];omega)];simp[JB]
def abT (h:b.length+10<=1099511627776):Yl b j=some (b++[bif j then 1 else 0]):=by
 unfold Yl;rw[show(1:Int)=((1:Nat):Int)from rfl,a1H AL,Af];cases j<;>simp only[Bd,BO]<;>rw[Ol AL aFt]<;>rfl
def ajg (h:b.length+10<=1099511627776):kW b j=some (b++[bif j then 1 else 0]):=by
 unfold kW;rw[Ol AL a5s,Af,Ij];cases j<;>simp only[Bd,BO]<;>rw[Ol AL aFt]<;>rfl
def aFc {body:(AA Int->Int->AB (AA Int))->AA Int->Int->AB (AA Int)}(l:AA α)(hl:l.length<Aw)(g:α->AA Int)(J:∀k b (i:Nat) (h:i<l.length),(b++g l[i]).length<=1099511627776->body k b (i:Int)=k (b++g l[i]) (Ar ((i:Int)+1)))(L:∀k b,body k b (l.length:Int)=some b)(b:AA Int)(j:(b++l.flatMap g).length<=1099511627776):
 aS body Aw b 0=some (b++l.flatMap g):=by
 have O:Aw=9223372036854775808:=rfl
 have key:∀n (i:Nat) b,i+n=l.length->(b++(l.drop i).flatMap g).length<=1099511627776->∀m,n<m->aS body m b (i:Int)=some (b++(l.drop i).flatMap g):=by
  intro n
  induction n with
  |zero=>
   intro i b hi j m hm;obtain⟨m,rfl⟩:∃I,m=I+1:=⟨m-1,AL⟩
   have :i=l.length:=AL
   subst this;show body (aS body m) _ _=_;rw[L,PU];simp
  |succ n M=>
   intro i b hi j m hm;obtain⟨m,rfl⟩:∃I,m=I+1:=⟨m-1,AL⟩
   have q:i<l.length:=AL
   rw[Ns q,MJ,←JI]at j ⊢;show body (aS body m) _ _=_;rw[J _ _ i q (a6k j),wrap_succ i AL];exact M (i+1) _ AL j m AL
 exact key l.length 0 b AL j Aw hl
def QY (l:AA Int):AA Int:=enc l.length++l.flatMap enc
def Rh (l:AA BH):AA Int:=enc l.length++l.flatMap JB
def ab8 (h:(b++QY l).length<=1099511627776)(hl:l.length<=1000):a9P b l=some (b++QY l):=by
 have q:Aw=9223372036854775808:=rfl;unfold QY at h ⊢;rw[←JI]at h ⊢;unfold a9P;rw[number_eq (a6k h),Af];unfold aLT;refine aFc l AL enc (λk b i hi j=>?_) (λk b=>?_) _ h
 ·simp only[aHp,dec_lt hi,Bd,CX hi,number_eq j,Af]
 simp only[aHp,DY,BO]
def aiz {l:AA BH}(h:(b++Rh l).length<=1099511627776)(hl:l.length<=1000000000):a5n b l=some (b++Rh l):=by
 have q:Aw=9223372036854775808:=rfl;unfold Rh at h ⊢;rw[←JI]at h ⊢;unfold a5n;rw[number_eq (a6k h),Af];unfold aPB;refine aFc l AL JB (λk b i hi j=>?_) (λk b=>?_) _ h
 ·simp only[aK4,dec_lt hi,Bd,CX hi,text_eq j,Af]
 simp only[aK4,DY,BO]
def a8G {α:Type}{g:α->AA Int}{m:Nat}:∀{l:AA α},(∀x∈l,(g x).length<=m)->(l.flatMap g).length<=l.length*m
 | [],_=>Bf
 |x::l,h=>by
  rw[MJ,Em,H8,UM];have :=h x Iu;have :=a8G (l:=l) (λy j=>h y (JX _ j));omega
def aCj (l:AA Int):(QY l).length<=l.length*10+10:=by
 have h1:=RJ l.length;have h2:=a8G (g:=enc) (m:=10) (l:=l) (λx _=>RJ x);unfold QY;rw[Em];omega
def aif (j:b.length+20000<=1099511627776)(hl:l.length<=1000):dH b l=some (b++QY l):=by
 have h1:=aCj l;unfold dH;rw[RQ (x:=2*(l.length:Int)) AL AL,RQ AL AL,show 2*(l.length:Int)+10=((2*l.length+10:Nat):Int) by omega,a1H AL,Af,ab8 MO hl];rfl
def ai4 (q:b.length+20000<=1099511627776)(hl:l.length<=1000):nD b l=some (b++QY l):=by
 have I:Aw=9223372036854775808:=rfl;have h1:=aCj l;have h:(b++QY l).length<=1099511627776:=MO
 unfold QY at h ⊢;rw[←JI]at h ⊢;unfold nD;rw[cG AL,Af];unfold aNG;refine aFc l AL enc (λk b i hi j=>?_) (λk b=>?_) _ h
 ·simp only[aDw,dec_lt hi,Bd,CX hi,aLs,Ol (show 1<=100 by omega) j,Af]
 simp only[aDw,DY,BO]
def U5 (l:AA BH):Nat:=(l.map λs=>s.size).sum+l.length
def YT (l:AA Ih):Nat:=(l.map λu=>u.User.size).sum+l.length
def ay (c:Cx):Nat:=c.Text.size+c.Via.size+U5 c.Allow+U5 c.iK+YT c.Levels.Users+c.Levels.Kinds.length
def alQ (l:AA BH):(Rh l).length<=10*U5 l+10:=by
 have h1:=RJ l.length
 have key:∀l:AA BH,(l.flatMap JB).length<=10*U5 l:=by
  intro l
  induction l with
  |nil=>exact F6 _
  |cons s l j=>
   have h2:=zV s;unfold U5 at j ⊢;rw[MJ,Em,JE,List.sum_cons,H8];omega
 have :=key l;unfold Rh;rw[Em];omega
structure QZ (c:Cx):Prop where
 allow:c.Allow.length<=100
 deny:c.iK.length<=100
 users:c.Levels.Users.length<=100
 kinds:c.Levels.Kinds.length<=100
 text:c.Text.size<=2000
 via:c.Via.size<=2000
 allows:∀x∈c.Allow,x.size<=2000
 denies:∀x∈c.iK,x.size<=2000
 names:∀x∈c.Levels.Users,x.User.size<=2000
def Fp.content (h:Fp e):QZ e.Content:=⟨h.allow,h.deny,h.users,h.kinds,h.text,h.via,h.allows,h.denies,h.names⟩
section
variable {b:AA Int} {k:Nat}
def VA (h:b.length<=k)(j:k<=1000000000)(n:Int):P6 b n=some (b++enc n)/\MP b n=some (b++enc n)/\(b++enc n).length<=k+10:=by
 have :=RJ n;exact⟨vH AL,cG AL,MO⟩
def aMo (h:b.length<=k)(q:k<=1000000000)(j:Ac):Yl b j=some (b++[bif j then 1 else 0])/\kW b j=some (b++[bif j then 1 else 0])/\(b++[bif j then(1:Int)else 0]).length<=k+10:=
 ⟨abT AL,ajg AL,aFt⟩
def YG (h:b.length<=k)(j:k<=1000000000)(m:Nat)(hs:s.size<=m)(hm:m<=1000000000):TQ b s=some (b++JB s)/\RY b s=some (b++JB s)/\(b++JB s).length<=k+m+10:=by
 have :=zV s;exact⟨ag6 AL,aTS AL,MO⟩
def aLz (h:b.length<=k)(j:k<=1000000000)(hl:l.length<=100):dH b l=some (b++QY l)/\nD b l=some (b++QY l)/\(b++QY l).length<=k+1010:=by
 have :=aCj l;exact⟨aif AL AL,ai4 AL AL,MO⟩
end
def wL {R:Type}{body:(AA Int->Int->AB R)->AA Int->Int->AB R}(l:AA α)(hl:l.length<Aw)(g:α->AA Int)(C:Nat)(j:AA Int->AB R)(b:AA Int)(L:(b++l.flatMap g).length<=C)(M:∀k a (i:Nat) (h:i<l.length),(a++g l[i]).length<=C->body k a (i:Int)=k (a++g l[i]) (Ar ((i:Int)+1)))(O:∀k a,a.length<=C->body k a (l.length:Int)=j a):
 aS body Aw b 0=j (b++l.flatMap g):=by
 have Y:Aw=9223372036854775808:=rfl
 have key:∀n (i:Nat) b,i+n=l.length->(b++(l.drop i).flatMap g).length<=C->∀m,n<m->aS body m b (i:Int)=j (b++(l.drop i).flatMap g):=by
  intro n
  induction n with
  |zero=>
   intro i b hi q m hm;obtain⟨m,rfl⟩:∃J,m=J+1:=⟨m-1,AL⟩
   have :i=l.length:=AL
   subst this;show body (aS body m) _ _=_;rw[PU,List.flatMap_nil,MH]at q ⊢;exact O _ _ q
  |succ n U=>
   intro i b hi q m hm;obtain⟨m,rfl⟩:∃J,m=J+1:=⟨m-1,AL⟩
   have I:i<l.length:=AL
   rw[Ns I,MJ,←JI]at q ⊢;show body (aS body m) _ _=_;rw[M _ _ i I (by rw[Em]at q;omega),wrap_succ i AL];exact U (i+1) _ AL q m AL
 exact key l.length 0 b AL L Aw hl
def aGF (s:BH):s.size<=(JB s).length:=by
 unfold JB;rw[Em,J5];omega
section
variable {b:AA Int} {k:Nat}
def aM6 (h:b.length<=k)(I:k<=1000000000){l:AA BH}(m:Nat)(hl:U5 l<=m)(hm:m<=10000000):Opn b l=some (b++Rh l)/\wH b l=some (b++Rh l)/\(b++Rh l).length<=k+10*m+10:=by
 have J:Aw=9223372036854775808:=rfl;have h1:=alQ l;have h2:l.length<=U5 l:=Nat.le_add_left ..;have h3:(b++Rh l).length<=k+10*m+10:=MO
 refine⟨?_,?_,h3⟩
 ·unfold Opn;rw[RQ (x:=8*(l.length:Int)) AL AL,RQ AL AL,show 8*(l.length:Int)+10=((8*l.length+10:Nat):Int) by omega,a1H AL,Af,aiz AL AL];rfl
 have j:(b++Rh l).length<=2000000000:=AL
 unfold Rh at j ⊢;rw[←JI]at j ⊢;unfold wH aU2;rw[cG AL,Af];refine wL (body:=a2i l) l AL JB 2000000000 some _ j (λk a i hi q=>?_) λk a _=>?_
 ·have :=aGF l[i];rw[Em]at q;unfold a2i;rw[Ce hi,aTS AL,Af]
 unfold a2i
 grind
end
def UA (u:Ih):AA Int:=JB u.User++enc u.N
def Qx (u:Kw):AA Int:=enc u.Kind++enc u.N
def L9 (l:Ci):AA Int:=[l.User,l.Message,l.State,l.iJ,l.kT,l.oq,l.gy]
def aoO (b:AA Int)(l:Ci):AA Int:=b++enc l.Users.length++l.Users.flatMap UA++enc l.Kinds.length++l.Kinds.flatMap Qx++(L9 l).flatMap enc
def XY (c:Cx):AA Int:=aoO ([]++JB c.Text++enc c.N++enc c.Target++[bif c.Thread then 1 else 0]++JB c.Via++Rh c.Allow++Rh c.iK) c.Levels
def aYV (u:Kw):(Qx u).length<=20:=by
 have :=RJ u.Kind;have :=RJ u.N;unfold Qx;rw[Em];omega
def aQO {R:Type}{body:(AA Int->Int->AB R)->AA Int->Int->AB R}(l:AA α)(hl:l.length<=1000)(g:α->AA Int)(m:Nat)(hm:∀x∈l,(g x).length<=m)(j:AA Int->AB R)(b:AA Int)(q:∀k a (i:Nat) (h:i<l.length),a.length<=b.length+i*m->body k a (i:Int)=k (a++g l[i]) (Ar ((i:Int)+1)))(I:∀k a,a.length<=b.length+l.length*m->body k a (l.length:Int)=j a):aS body Aw b 0=j (b++l.flatMap g)/\(b++l.flatMap g).length<=b.length+l.length*m:=by
 constructor
 ·rw[Ig l AL (λa x=>a++g x) (λi a=>a.length<=b.length+i*m) j AL (λk a i h J=>⟨?_,q k a i h J⟩) I,foldl_append g]
  grind
 have :=a8G hm;rw[Em];omega
set_option maxRecDepth 20000
set_option maxHeartbeats 1000000
def adH (l:AA Ih):(l.flatMap UA).length<=20*YT l:=by
 induction l with
 |nil=>exact F6 _
 |cons s l j=>
  have h1:=zV s.User;have h2:=RJ s.N;have h3:(UA s).length=(JB s.User).length+(enc s.N).length:=Em ..;unfold YT at j ⊢;rw[MJ,Em,JE,List.sum_cons,H8];omega
def anB (c:Cx)(b:AA Int)(J:b.length<=90000000):(aEE c b 0=some (b++(L9 c.Levels).flatMap enc)/\aFr (L9 c.Levels) b 0=some (b++(L9 c.Levels).flatMap enc))/\(b++(L9 c.Levels).flatMap enc).length<=b.length+70:=by
 have q:∀i:Nat,(h:i<(L9 c.Levels).length)->Aq ([c.Levels.User,c.Levels.Message,c.Levels.State,c.Levels.iJ,c.Levels.kT,c.Levels.oq,c.Levels.gy]:AA Int) (i:Int)=some (L9 c.Levels)[i]:=λi h=>CX h
 have h1:=aQO (body:=aFW c) (L9 c.Levels) (by simp[L9]) enc 10 (λx _=>RJ x) some b (λk a i h j=>by
  have I:i<7:=h;unfold aFW
  rw[L8 (show(i:Int)<7 by omega),Bd,q i h,Af,vH AL,Af]) λk a j=>rfl
 have h2:=aQO (body:=a2k (L9 c.Levels)) (L9 c.Levels) (by simp[L9]) enc 10 (λx _=>RJ x) some b (λk a i h j=>by
  have I:i<7:=h;unfold a2k
  rw[Ce h,cG AL,Af]) λk a j=>by unfold a2k;rw[DY];rfl
 exact⟨⟨h1.1,h2.1⟩,h1.2⟩
def afe (c:Cx)(b:AA Int)(J:b.length<=60000000)(L:c.Levels.Kinds.length<=1048576):(aEV c b 0=some (b++c.Levels.Kinds.flatMap Qx++(L9 c.Levels).flatMap enc)/\aIh c b 0=some (b++c.Levels.Kinds.flatMap Qx++(L9 c.Levels).flatMap enc))/\(b++c.Levels.Kinds.flatMap Qx++(L9 c.Levels).flatMap enc).length<=b.length+c.Levels.Kinds.length*20+70:=by
 have M:Aw=9223372036854775808:=rfl
 have hl:(b++c.Levels.Kinds.flatMap Qx).length<=b.length+c.Levels.Kinds.length*20:=by
  have :=a8G (g:=Qx) (m:=20) (l:=c.Levels.Kinds) λx _=>aYV x
  grind
 have h1:=wL (body:=a9T c) c.Levels.Kinds AL Qx 90000000 (λa=>aEE c a 0) b AL (λk a i h j=>by
  have ha:a.length<=90000000:=by rw[Em]at j;omega
  obtain⟨q,_,I⟩:=VA ha AL c.Levels.Kinds[i].Kind;unfold a9T
  rw[Ce h,q,Af,vH AL,Af,JI];rfl) λk a j=>by unfold a9T;rw[DY];rfl
 have h2:=wL (body:=aAK c) c.Levels.Kinds AL Qx 90000000 (λa=>aFr (L9 c.Levels) a 0) b AL (λk a i h j=>by
  have ha:a.length<=90000000:=by rw[Em]at j;omega
  obtain⟨_,q,I⟩:=VA ha AL c.Levels.Kinds[i].Kind;unfold aAK
  rw[Ce h,q,Af,CX h,Af,cG AL,Af,JI];rfl) λk a j=>by unfold aAK aE9;rw[DY,BO,Af];rfl
 have h3:=anB c (b++c.Levels.Kinds.flatMap Qx) AL;exact⟨⟨h1.trans h3.1.1,h2.trans h3.1.2⟩,FQ h3.2 AL⟩
def aiV (c:Cx)(b:AA Int)(U:b.length<=30000000)(Y:YT c.Levels.Users<=1048576)(I:c.Levels.Kinds.length<=1048576):(aUp c b 0=some (b++c.Levels.Users.flatMap UA++enc c.Levels.Kinds.length++c.Levels.Kinds.flatMap Qx++(L9 c.Levels).flatMap enc)/\aVt c b 0=some (b++c.Levels.Users.flatMap UA++enc c.Levels.Kinds.length++c.Levels.Kinds.flatMap Qx++(L9 c.Levels).flatMap enc))/\(b++c.Levels.Users.flatMap UA++enc c.Levels.Kinds.length++c.Levels.Kinds.flatMap Qx++(L9 c.Levels).flatMap enc).length<=90000000:=by
 have Z:Aw=9223372036854775808:=rfl;have hn:=adH c.Levels.Users;have J:c.Levels.Users.length<=YT c.Levels.Users:=Nat.le_add_left ..;have hl:(b++c.Levels.Users.flatMap UA).length<=b.length+20*YT c.Levels.Users:=MO
 have h1:=wL (body:=a5M c) c.Levels.Users AL UA 90000000 (λa=>aEV c (a++enc c.Levels.Kinds.length) 0) b AL (λk a i h j=>by
  have L:=aGF c.Levels.Users[i].User;have ha:a.length+(JB c.Levels.Users[i].User).length<=90000000:=aLt
  obtain⟨q,_,M⟩:=YG (b:=a) (k:=90000000) AL AL (s:=c.Levels.Users[i].User) 90000000 AL AL;unfold a5M
  rw[Ce h,q,Af,vH AL,Af,JI];rfl) λk a j=>by unfold a5M;rw[DY,BO,vH AL,Af]
 have h2:=wL (body:=a2x c) c.Levels.Users AL UA 90000000 (λa=>aIh c (a++enc c.Levels.Kinds.length) 0) b AL (λk a i h j=>by
  have L:=aGF c.Levels.Users[i].User;have ha:a.length+(JB c.Levels.Users[i].User).length<=90000000:=aLt
  obtain⟨_,q,M⟩:=YG (b:=a) (k:=90000000) AL AL (s:=c.Levels.Users[i].User) 90000000 AL AL;unfold a2x
  rw[Ce h,q,Af,CX h,Af,cG AL,Af,JI];rfl) λk a j=>by unfold a2x;rw[DY,BO,cG AL,Af]
 have he:=RJ (c.Levels.Kinds.length:Int);have O:(b++c.Levels.Users.flatMap UA++enc c.Levels.Kinds.length).length<=60000000:=MO
 have h3:=afe c (b++c.Levels.Users.flatMap UA++enc c.Levels.Kinds.length) O I;exact⟨⟨h1.trans h3.1.1,h2.trans h3.1.2⟩,FQ h3.2 AL⟩
def aTU {c:Cx}(h:ay c<=1048576):mW c=some (XY c)/\o7 c=some (XY c)/\(XY c).length<=90000000:=by
 unfold ay at h;obtain⟨j,q,h1⟩:=YG (b:=[]) (k:=0) (Eo _) AL (s:=c.Text) 1048576 AL AL;obtain⟨I,J,h2⟩:=VA h1 AL c.N;obtain⟨L,M,h3⟩:=VA h2 AL c.Target;obtain⟨O,U,Y⟩:=aMo h3 AL c.Thread;obtain⟨Z,b5,h5⟩:=YG Y AL (s:=c.Via) 1048576 AL AL;obtain⟨a6,b6,h6⟩:=aM6 h5 AL (l:=c.Allow) 1048576 AL AL;obtain⟨a7,b7,h7⟩:=aM6 h6 AL (l:=c.iK) 1048576 AL AL;obtain⟨a8,b8,h8⟩:=VA h7 AL (c.Levels.Users.length:Int);obtain⟨⟨a9,b9⟩,h9⟩:=aiV c _ (FQ h8 AL) AL AL;refine⟨?_,?_,h9⟩
 ·unfold mW;rw[j,Af,I,Af,L,Af,O,Af,Z,Af,a6,Af,a7,Af,a8,Af];exact a9
 unfold o7;rw[q,Af,J,Af,M,Af,U,Af,b5,Af,b6,Af,b7,Af,b8,Af];exact b9
def aDB {l:AA BH}(h:∀s∈l,s.size<=2000)(k:l.length<=100):U5 l<=200100:=by
 have key:∀l:AA BH,(∀s∈l,s.size<=2000)->(l.map λs=>s.size).sum<=2000*l.length:=by
  intro l
  induction l with
  |nil=>exact λ_=>F6 _
  |cons s l j=>
   intro h;have h1:=h s (Iu ..);have h2:=j λs hs=>h s (JX _ hs);rw[JE,List.sum_cons,H8];omega
 have :=key l h;unfold U5;omega
def QZ.aJD {c:Cx}(h:QZ c):ay c<=1048576:=by
 have h1:=aDB h.allows h.allow;have h2:=aDB h.denies h.deny;have h3:=aDB (l:=c.Levels.Users.map (·.User)) (by simpa using h.names) (by rw[DK];exact h.users);have j:YT c.Levels.Users=U5 (c.Levels.Users.map (·.User)):=by unfold YT U5;rw[Y1,DK];rfl
 have :=h.kinds;have :=h.text;have :=h.via;unfold ay;omega
def agW {c:Cx}(j:QZ c):mW c=some (XY c)/\o7 c=some (XY c)/\(XY c).length<=90000000:=aTU j.aJD
def aAe (e:Ad):AA Int:=
 []++enc e.Id++JB e.Room++JB e.bG++enc e.Kind++[bif e.State then 1 else 0]++JB e.Key++enc e.Time++enc e.Depth++QY e.bP++QY e.bQ++JB (Tc (XY e.Content))++enc e.Hash++JB e.rM.Server++enc e.rM.Sum
def ajx (l:AA Int):(Tc l).size=l.length:=by
 have key:∀(l:AA Int) (r:BH),(l.foldl (λr n=>r.push (UInt8.ofNat n.toNat)) r).size=r.size+l.length:=by
  intro l
  induction l with
  |nil=>intro r;rfl
  |cons x l j=>intro r;rw[Hy,j,ByteArray.size_push,H8];omega
 unfold Tc;rw[key];simp
def a3F {body:(Int->S->AB S)->Int->S->AB S}(l:AA α)(hl:l.length<1000)(f:S->α->AB S)(I:∀k (i:Nat) (h:i<l.length) s,body k (i:Int) s=(f s l[i]).bind λx=>k (Ar ((i:Int)+1)) x)(J:∀k s,body k (l.length:Int) s=some s)(s:S):aS body Aw 0 s=l.foldlM f s:=by
 have M:Aw=9223372036854775808:=rfl
 have key:∀n (i:Nat) s,i+n=l.length->∀m,n<m->aS body m (i:Int) s=(l.drop i).foldlM f s:=by
  intro n
  induction n with
  |zero=>
   intro i s hi m hm;obtain⟨m,rfl⟩:∃q,m=q+1:=⟨m-1,AL⟩
   have :i=l.length:=AL
   subst this;rw[PU];exact J _ _
  |succ n L=>
   intro i s hi m hm;obtain⟨m,rfl⟩:∃q,m=q+1:=⟨m-1,AL⟩
   have j:i<l.length:=AL
   rw[Ns j,W9];show body (aS body m) _ _=(f s l[i]).bind _;rw[I _ i j,wrap_succ i AL];congr 1;funext x;exact L (i+1) x AL m AL
 exact key l.length 0 s AL Aw AL
def aPl (w:G6)(l:AA Int)(hl:l.length<1000):Uj w l=l.foldlM oJ w:=by
 unfold Uj aP4;exact a3F l hl _ (λk i h s=>by simp only[aEo,dec_lt h,Bd,CX h,Af]) (λk s=>by simp only[aEo,DY,BO]) w
def aLo (w:G6)(l:AA BH)(hl:l.length<1000):XE w l=l.foldlM mD w:=by
 unfold XE aTg;exact a3F l hl _ (λk i h s=>by simp only[aIL,dec_lt h,Bd,CX h,Af]) (λk s=>by simp only[aIL,DY,BO]) w
def aqF (w:G6)(l:AA Ac)(hl:l.length<1000):a2C w l=l.foldlM a0j w:=by
 unfold a2C aRq;exact a3F l hl _ (λk i h s=>by simp only[aLA,dec_lt h,Bd,CX h,Af]) (λk s=>by simp only[aLA,DY,BO]) w
def ap2 (w:G6)(l:AA (AA Int))(hl:l.length<1000):a1Q w l=l.foldlM nV w:=by
 unfold a1Q aX6;exact a3F l hl _ (λk i h s=>by simp only[aDp,dec_lt h,Bd,CX h,Af]) (λk s=>by simp only[aDp,DY,BO]) w
def aE7 {n:Int}(h:P6 b n=some c):oJ ⟨b⟩ n=some ⟨c⟩:=by unfold oJ;rw[h];rfl
def aFv (h:TQ b n=some c):mD ⟨b⟩ n=some ⟨c⟩:=by unfold mD;rw[h];rfl
def aYr {n:Ac}(h:Yl b n=some c):a0j ⟨b⟩ n=some ⟨c⟩:=by unfold a0j;rw[h];rfl
def aPt {n:AA Int}(h:dH b n=some c):nV ⟨b⟩ n=some ⟨c⟩:=by unfold nV;rw[h];rfl
def a6s {n:Int}(h:P6 b n=some c):Uj ⟨b⟩ [n]=some ⟨c⟩:=by
 rw[aPl _ _ Bf,W9,aE7 h];rfl
def aly {n m:Int}(h:P6 b n=some c)(k:P6 c m=some d):Uj ⟨b⟩ [n,m]=some ⟨d⟩:=by
 rw[aPl _ _ Bf,W9,aE7 h];show(oJ ⟨c⟩ m).bind _=_;rw[aE7 k];rfl
def aGv (h:TQ b n=some c):XE ⟨b⟩ [n]=some ⟨c⟩:=by
 rw[aLo _ _ Bf,W9,aFv h];rfl
def aei {m:BH}(h:TQ b n=some c)(k:TQ c m=some d):XE ⟨b⟩ [n,m]=some ⟨d⟩:=by
 rw[aLo _ _ Bf,W9,aFv h];show(mD ⟨c⟩ m).bind _=_;rw[aFv k];rfl
def agm {n:Ac}(h:Yl b n=some c):a2C ⟨b⟩ [n]=some ⟨c⟩:=by
 rw[aqF _ _ Bf,W9,aYr h];rfl
def aaD {n m:AA Int}(h:dH b n=some c)(k:dH c m=some d):a1Q ⟨b⟩ [n,m]=some ⟨d⟩:=by
 rw[ap2 _ _ Bf,W9,aPt h];show(nV ⟨c⟩ m).bind _=_;rw[aPt k];rfl
def anu (j:Fp e):a0r e=some (aAe e)/\vI e=some (aAe e)/\(aAe e).length<=200000000:=by
 obtain⟨ac,bc,hc⟩:=agW j.content;obtain⟨a1,b1,h1⟩:=VA (b:=[]) (k:=0) (Eo _) AL e.Id;obtain⟨a2,b2,h2⟩:=YG h1 AL 2000 j.room AL;obtain⟨a3,b3,h3⟩:=YG h2 AL 2000 j.sender AL;obtain⟨a4,b4,h4⟩:=VA h3 AL e.Kind;obtain⟨a5,b5,h5⟩:=aMo h4 AL e.State;obtain⟨a6,b6,h6⟩:=YG h5 AL 2000 j.key AL;obtain⟨a7,b7,h7⟩:=VA h6 AL e.Time;obtain⟨a8,b8,h8⟩:=VA h7 AL e.Depth;obtain⟨a9,b9,h9⟩:=aLz h8 AL (FQ j.prev AL);obtain⟨q,I,J⟩:=aLz h9 AL (FQ j.auth AL);obtain⟨L,M,O⟩:=YG J AL (s:=Tc (XY e.Content)) 90000000 (by rw[ajx];exact hc) AL;obtain⟨U,Y,Z⟩:=VA O AL e.Hash;obtain⟨a13,b13,h13⟩:=YG Z AL 2000 j.server AL;obtain⟨a14,b14,h14⟩:=VA h13 AL e.rM.Sum;refine⟨?_,?_,FQ h14 AL⟩
 ·unfold a0r
  rw[show Uj aCg [e.Id]=_ from a6s a1,Af,aei a2 a3,Af,a6s a4,Af,agm a5,Af,aGv a6,Af,aly a7 a8,Af,aaD a9 q,Af,
   ac,Af,aGv L,Af,a6s U,Af,aGv a13,Af,a6s a14,Af]
  rfl
 unfold vI;rw[b1,Af,b2,Af,b3,Af,b4,Af,b5,Af,b6,Af,b7,Af,b8,Af,b9,Af,I,Af,bc,Af,M,Af,Y,Af,b13,Af,b14,Af];rfl
end
def a5L (l:AA Int):Int:=Ar (l.foldl a0s ((IntKind.u64.wrap 860922984064492325).tmod 4611686018427387904))
def aU8 (hl:l.length<=1000000000):uK l=some (a5L l):=by
 unfold uK aDd;rw[Af];unfold aCS aY0
 rw[a3L _ _ _ _ (.inl rfl),aVH,Ig l AL a0s (λ_ _=>True) (λs=>some (Ar s)) trivial (λk s i h _=>⟨trivial,by
  simp only[aJs,dec_lt h,Bd,CX h,Af,a3L _ _ _ _ (.inl rfl),a3L _ _ _ _ (.inr (.inr rfl)),aes]⟩) λk s _=>by
  simp only[aJs,DY,BO]]
 rfl
def aPi (hl:l.length<=1000000000):a1G l=some (a5L l):=by
 unfold a1G;rw[show aH2=some 860922984064492325 from rfl,Af];unfold aHg aTV
 rw[show YR (IntKind.u64.wrap 860922984064492325) 4611686018427387904=some ((IntKind.u64.wrap 860922984064492325).tmod 4611686018427387904)from rfl,Af,Ig l AL a0s (λ_ _=>True) (λs=>some (Ar s)) trivial (λk s i h _=>⟨trivial,by
  have e:YR (IntKind.u64.wrap ((FB .xor .u64 s (IntKind.u64.wrap l[i]))*1099511628211)) 4611686018427387904=some (a0s s l[i]):=rfl
  simp only[aKV,dec_lt h,Bd,CX h,Af,e]⟩) λk s _=>by
  simp only[aKV,DY,BO]]
 rfl
def XZ (k:Int)(c:Cx):Cx:=
 if k=1 then c else if k=2 then{ El with N:=c.N,Via:=c.Via }else if k=3 then{ El with Levels:=c.Levels }else if k=4 then{ El with N:=c.N,Allow:=c.Allow }else
 if k=5 then{ El with N:=c.N }else if k=6 then{ El with Allow:=c.Allow,iK:=c.iK }else if k=14 then{ El with Target:=c.Target }else El
def aOh {R:Type}(a b:Int)(x y:R):(cond (a==b) x y)=if a=b then x else y:=by
 by_cases h:a=b
 ·subst h;simp
 have :(a==b)=false:=LZ
 rw[this,EC h];rfl
def aOp {R:Type}(p:Prop)[Decidable p](x y:R):(if p then some x else some y)=some (if p then x else y):=by split<;>rfl
def aGY (k:Int)(c:Cx):a1x k c=some (XZ k c):=by
 unfold a1x XZ;simp only[aOh,aOp]
def a1l {l:AA BH}(h:l.length<=1048576):TS l=some l:=by
 unfold TS;rw[Ol AL a5s];rfl
def aSD {l:Ci}(h1:l.Users.length<=1048576)(h2:l.Kinds.length<=1048576):iC l=some l:=by
 unfold iC;rw[Ol AL a5s,Af,Ol AL (by rw[Ij];exact FQ h2 AL)];rfl
def a2U (k:Int):Int:=if k=2 then 18 else if k=3 then 128 else if k=4 then 34 else if k=5 then 2 else if k=6 then 96 else if k=14 then 4 else 0
def aek (k:Int):rY k=some (a2U k):=by
 by_cases h2:k=2
 ·subst h2;rfl
 by_cases h3:k=3
 ·subst h3;rfl
 by_cases q:k=4
 ·subst q;rfl
 by_cases I:k=5
 ·subst I;rfl
 by_cases j:k=6
 ·subst j;rfl
 unfold rY rJ a2U;simp only[aOh,h2,h3,q,I,j,Ky,show(k==6)=false from by simpa using j,BO,aOp]
variable {c:Cx}
def aZP (k:Int)(h:ay c<=1048576):lG k c=some (XZ k c):=by
 unfold ay U5 YT at h;have q:c.Allow.length<=1048576:=AL
 have M:c.iK.length<=1048576:=AL
 have O:c.Levels.Users.length<=1048576:=AL
 have U:c.Levels.Kinds.length<=1048576:=AL
 by_cases h1:k=1
 ·subst h1;show(TS c.Allow).bind (λY=>(TS c.iK).bind λZ=>(iC c.Levels).bind λx4=>some ({ { { c with Allow:=Y }with iK:=Z }with Levels:=x4 }))=_;rw[a1l q,Af,a1l M,Af,aSD O U];rfl
 unfold lG;rw[show(k==1)=false from by simpa using h1,BO,aek,Af];by_cases h2:k=2
 ·subst h2;rfl
 by_cases h3:k=3
 ·subst h3;show(iC c.Levels).bind (λx=>some { El with Levels:=x })=_;rw[aSD O U];rfl
 by_cases I:k=4
 ·subst I;show(TS c.Allow).bind (λx=>some { El with N:=c.N,Allow:=x })=_;rw[a1l q];rfl
 by_cases J:k=5
 ·subst J;rfl
 by_cases L:k=6
 ·subst L;show(TS c.Allow).bind (λx=>(TS c.iK).bind λy=>some { El with Allow:=x,iK:=y })=_;rw[a1l q,Af,a1l M];rfl
 by_cases j:k=14
 ·subst j;rfl
 have e1:a2U k=0:=by unfold a2U;simp only[h2,h3,I,J,L,j,Ky]
 have e2:XZ k c=El:=by unfold XZ;simp only[h1,h2,h3,I,J,L,j,Ky]
 rw[e1,e2];rfl
def aYC (k:Int)(j:QZ c):lG k c=some (XZ k c):=aZP k j.aJD
def QZ.strip (h:QZ c)(k:Int):QZ (XZ k c):=by
 have j:(0:Nat)<=2000:=AL
 unfold XZ
 repeat' split
 all_goals first|exact h|exact⟨by simp[El,LD,h.allow],by simp[El,LD,h.deny],by simp[El,LD,h.users],by simp[El,LD,h.kinds],by first|exact h.text|exact j,by first|exact h.via|exact j,by first|exact h.allows|simp[El],by first|exact h.denies|simp[El],by first|exact h.names|simp[El,LD]⟩
def Ve (e:Ad):Ad:={ e with Content:=XZ e.Kind e.Content }
def Vp (e:Ad):Prop:=Fp { e with rM:=jE }
def Vp.content {e:Ad}(h:Vp e):QZ e.Content:=Fp.content (e:={ e with rM:=jE }) h
def Fp.x (h:Fp e):Vp e:=⟨h.prev,h.auth,h.allow,h.deny,h.users,h.kinds,h.room,h.sender,h.key,h.text,h.via,F6 _,h.allows,h.denies,h.names⟩
def a3y (j:Vp e):dO e=some (Ve e)/\a1q e=some (Ve e):=by
 unfold dO a1q;rw[aYC _ j.content,aGY];exact⟨rfl,rfl⟩
def Sr (e:Ad):Int:=a5L (XY e.Content)
def a3U (e:Ad):Ad:={ { Ve e with Id:=0 }with rM:=jE }
def aVK (e:Ad):Int:=a5L (aAe (a3U e))
def Vp.bare (h:Vp e):Fp (a3U e):=by
 have j:=h.content.strip e.Kind;exact⟨h.prev,h.auth,j.allow,j.deny,j.users,j.kinds,h.room,h.sender,h.key,j.text,j.via,by show(0:Nat)<=2000;omega,j.allows,j.denies,j.names⟩
def aj3 (h:ay e.Content<=1048576):zY e=some (Sr e)/\a2W e=some (Sr e):=by
 obtain⟨a,b,hl⟩:=aTU h;unfold zY a2W;rw[a,b,Af,Af,aU8 AL,aPi AL];exact⟨rfl,rfl⟩
def adG (h:ay e.Content<=1048576):Xg e=some (Sr e==e.Hash)/\qG e=some (Sr e==e.Hash):=by
 obtain⟨a,b⟩:=aj3 h;unfold Xg qG;rw[a,b];exact⟨rfl,rfl⟩
def aXz (j:Vp e):a0z e=some (aVK e)/\a4h e=some (aVK e):=by
 obtain⟨a,b⟩:=a3y j;obtain⟨c,d,h⟩:=anu j.bare;unfold a0z a4h;rw[a,b,Af,Af];show(a0r (a3U e)).bind _=_/\(vI (a3U e)).bind _=_;rw[c,d,Af,Af,aU8 AL,aPi AL];exact⟨rfl,rfl⟩
def SL (s:BH):Int:=bif IG s 64 then 0 else 3
def SH (s:BH):Int:=bif IG s 33 then 0 else 3
def Zx (hs:s.size<=9223372036854775807):gI s=some (SL s)/\Ym s=some (SL s):=by
 unfold gI yB Ym SL;rw[aEA hs (marks:=a5u) (by rw[show DI a5u=[64]from rfl];intro m hm;simp only[G7,H9,or_false]at hm;omega),a6u hs Ba,show((DI a5u).any λm=>IG s m)=(IG s 64||false)from rfl];cases IG s 64<;>exact⟨rfl,rfl⟩
def mO (hs:s.size<=9223372036854775807):o9 s=some (SH s)/\iY s=some (SH s):=by
 unfold o9 yB iY SH;rw[aEA hs (marks:=a5j) (by rw[show DI a5j=[33]from rfl];intro m hm;simp only[G7,H9,or_false]at hm;omega),a6u hs Ba,show((DI a5j).any λm=>IG s m)=(IG s 33||false)from rfl];cases IG s 33<;>exact⟨rfl,rfl⟩
def agF (h:XK l=true):(58:Int)∉l:=by
 intro hm;unfold XK Sm at h;simp only[Dx,GK]at h;have :=h.2 58 hm;exact absurd this Ba
def ady (s:BH)(hs:s.size<=2000):(splitB s (LM s)).1.size<=2000/\(58:Int)∉DI (splitB s (LM s)).1/\(splitB s (LM s)).2.1.size<=2000:=by
 have q:CS.size<=2000:=Ba
 cases h:LM s with
 |false=>exact⟨q,by show(58:Int)∉DI CS;decide,q⟩
 |true=>
  have j:Vt s=true:=by
   unfold LM IG at h;cases j:Vt s with
   |true=>rfl
   |false=>rw[j]at h;simp at h
  refine⟨FQ (extract_size _ _ _) hs,agF ?_,FQ (extract_size _ _ _) hs⟩;unfold Vt at j;simp only[Dx]at j;exact j.1.2
def any_false (l:AA α):(l.any λ_=>false)=false:=Bf
def aE2 {body:(Int->AB Ac)->Int->AB Ac}(l:AA α)(hl:l.length<=1000)(rest:AB Ac)(j:∀k (i:Nat) (h:i<l.length),body k (i:Int)=k (Ar ((i:Int)+1)))(q:∀k,body k (l.length:Int)=rest):bg body Aw 0=rest:=by
 rw[Hw l (aCx AL) (λ_=>false) false rest (λk i h=>by rw[j k i h];rfl) q,any_false];rfl
def apF {l:AA BH}(h:l.length<=1000):V3 l l=some true:=by
 unfold V3 aAY;rw[show((l.length:Int) != (l.length:Int))=false from by simp,BO];exact aE2 l h _ (λk i h=>aRj) (λk=>aHZ)
structure LU (c:Cx):Prop where
 allow:c.Allow.length<=9223372036854775807
 deny:c.iK.length<=9223372036854775807
 users:c.Levels.Users.length<=9223372036854775807
 kinds:c.Levels.Kinds.length<=9223372036854775807
 text:c.Text.size<=9223372036854775807
 via:c.Via.size<=9223372036854775807
 allows:∀x∈c.Allow,x.size<=9223372036854775807
 denies:∀x∈c.iK,x.size<=9223372036854775807
 names:∀x∈c.Levels.Users,x.User.size<=9223372036854775807
structure Ry (e:Ad):Prop where
 prev:e.bP.length<=9223372036854775807
 auth:e.bQ.length<=9223372036854775807
 room:e.Room.size<=9223372036854775807
 sender:e.bG.size<=9223372036854775807
 key:e.Key.size<=9223372036854775807
 server:e.rM.Server.size<=9223372036854775807
 content:LU e.Content
def QZ.wide (h:QZ c):LU c:=by
 obtain⟨L,M,O,U,Y,Z,q,I,J⟩:=h;exact⟨AL,AL,AL,AL,AL,AL,λx j=>by have :=q x j;omega,λx j=>by have :=I x j;omega,λx j=>by have :=J x j;omega⟩
def Fp.wide {e:Ad}(h:Fp e):Ry e:=by
 have h1:=h.prev;have h2:=h.auth;have h3:=h.room;have j:=h.sender;have q:=h.key;have I:=h.server;exact⟨AL,AL,AL,AL,AL,AL,h.content.wide⟩
def aBp (k:Int):yu k=some (decide (k>=1)&&(k<=14))/\pF k=some (decide (k>=1)&&(k<=14)):=by
 unfold yu pF
 grind
def TG (n:Int):Ac:=decide (n< -1000)||(n>1000)
def a4Q (n:Int):tJ n=some (TG n)/\UF n=some (TG n):=by
 unfold tJ UF TG
 grind
def St (c:Int):Ac:=decide (c<33)||(c>126)
def a3u (s:BH):(s.toList==CS.toList)=((s.size:Int)==0):=by
 rw[JC];by_cases h:s=CS
 ·subst h;rfl
 have :¬s.size=0:=λj=>h (bytes_inj (by
  have h1:DI s=[]:=I4 (by rw[J5];exact j)
  rw[h1];rfl))
 grind
def a4V (s:BH):Int:=if s.size=0 then 9 else if s.size>64 then 7 else bif (DI s).any St then 3 else 0
def aD0 (hs:s.size<=9223372036854775807):zu s=some (a4V s)/\rU s=some (a4V s):=by
 have j:aD3 s 0=some (cond ((DI s).any St) 3 0):=by
  unfold aD3;rw[Hw (DI s) ZL St 3 (some 0) (λk i h=>?_) (λk=>?_),MV]
  ·have h':i<s.size:=Xw
   simp only[aEz,dec_lt h',Bd,VU h,Af,St]
   grind
  simp only[aEz,J5,DY,BO]
 have q:aDS s 0=some (cond ((DI s).any St) 3 0):=by
  unfold aDS;rw[Hw (DI s) ZL St 3 (some 0) (λk i h=>?_) (λk=>?_),MV]
  ·have h':i<s.size:=Xw
   simp only[aLL,dec_lt h',Bd,VU h,Af,St]
   grind
  simp only[aLL,J5,DY,BO]
 unfold zu rU a4V;rw[a3u,j,q]
 grind
def a0Y (s:BH):Ac:=decide ((s.size:Int)>=1)&&((s.size:Int)<=32)&& !(DI s).any St
def ahU (hs:s.size<=9223372036854775807):a6A s=some (a0Y s):=by
 unfold a6A aUZ;rw[Hw (DI s) ZL St false (some (decide ((s.size:Int)>=1)&&((s.size:Int)<=32))) (λk i h=>?_) (λk=>?_)]
 ·unfold a0Y
  grind
 ·have h':i<s.size:=Xw
  simp only[aL5,dec_lt h',Bd,VU h,Af,St]
  grind
 simp only[aL5,J5,DY,BO]
 grind
def WJ (k:Int)(s:BH):Ac:=if k=2 then SL s==0 else if k=9 then a0Y s else true
def aOI (hs:s.size<=9223372036854775807):a6a k s=some (WJ k s):=by
 have q:aG7 s 0=some (cond ((DI s).any St) false true):=by
  unfold aG7;rw[Hw (DI s) ZL St false (some true) (λk i h=>?_) (λk=>?_),MV]
  ·have h':i<s.size:=Xw
   simp only[aDT,dec_lt h',Bd,VU h,Af,St]
   grind
  simp only[aDT,J5,DY,BO]
 unfold a6a WJ;rw[(Zx hs).2,q];by_cases h2:k=2
 ·subst h2;rfl
 rw[show(k==2)=false from by simpa using h2,EC h2,BO];by_cases j:k=9
 ·subst j;unfold a0Y
  grind
 rw[show(k != 9)=true from by simpa using j,EC j];rfl
def ahR (j:Ry e):a3c e=some (SH e.Room==0&&SL e.bG==0&&WJ e.Kind e.Key):=by
 have h1:=j.room;have h2:=j.sender;have h3:=j.key;unfold a3c WJ;rw[(mO AL).1,(Zx (s:=e.bG) AL).1,(Zx (s:=e.Key) AL).1,ahU AL];simp only[Af,bne];cases SH e.Room==0 with
 |false=>rfl
 |true=>
  cases SL e.bG==0 with
  |false=>rfl
  |true=>
   by_cases k2:e.Kind=2
   ·rw[k2];rfl
   by_cases q:e.Kind=9
   ·rw[q];rfl
   rw[show(e.Kind==2)=false from by simpa using k2,show(e.Kind==9)=false from by simpa using q,EC k2,EC q];rfl
def EM {R:Type}(x y:AB R):Prop:=∃r,x=some r/\y=some r
section
variable {A R:Type}
def EM.ret (r:R):EM (some r) (some r):=⟨r,rfl,rfl⟩
def EM.bind {a b:AB A}{f g:A->AB R}(h:EM a b)(k:∀x,EM (f x) (g x)):EM (a.bind f) (b.bind g):=by
 obtain⟨x,rfl,rfl⟩:=h;exact k x
def EM.bif {c:Ac}{x y j q:AB R}(h1:c=true->EM x j)(h2:c=false->EM y q):EM (cond c x y) (cond c j q):=by
 grind
def Ib:=@EM.bif
def EM.loop {f g:(Int->AB R)->Int->AB R}(n:Nat)(I:n<=9223372036854775807)(hs:∀k k' (i:Nat),i<n->EM (k ((i+1:Nat):Int)) (k' ((i+1:Nat):Int))->EM (f k (i:Int)) (g k' (i:Int)))(j:∀k k',EM (f k (n:Int)) (g k' (n:Int))):EM (bg f Aw 0) (bg g Aw 0):=by
 have J:Aw=9223372036854775808:=rfl
 have key:∀m (i:Nat),i+m=n->∀a,m<a->EM (bg f a (i:Int)) (bg g a (i:Int)):=by
  intro m
  induction m with
  |zero=>
   intro i hi a ha;obtain⟨a,rfl⟩:∃a',a=a'+1:=⟨a-1,AL⟩
   have :i=n:=AL
   subst this;exact j _ _
  |succ m q=>
   intro i hi a ha;obtain⟨a,rfl⟩:∃a',a=a'+1:=⟨a-1,AL⟩
   exact hs _ _ i AL (q (i+1) AL a AL)
 exact key n 0 AL Aw AL
end
def vV (h:i<=9223372036854775806):Ar ((i:Int)+1)=((i+1:Nat):Int):=wrap_succ i AL
def uF {l:AA α}(h:i<l.length)(hl:l.length<=9223372036854775807)(j:decide ((i:Int)>0)=true):Aq l (Ar ((i:Int)-1))=some (l[i-1]' AL):=by
 have j:0<i:=WW
 rw[RQ AL AL,show(i:Int)-1=((i-1:Nat):Int) by omega];exact CX AL
def aXQ (hl:l.length<=9223372036854775807):EM (a0L l) (eK l):=by
 unfold a0L aRW eK aGQ;refine EM.loop l.length hl (λk k' i h j=>?_) (λk k'=>?_)
 ·simp only[aDa,a5r,gQ,dec_lt h,Bd,CX h,Af,vV (show i<=9223372036854775806 by omega)];cases decide (l[i]<0)with
  |true=>exact .ret _
  |false=>
   simp only[BO];cases q:decide ((i:Int)>0)with
   |true=>
    simp only[Bd,uF h hl q,Af,ge_iff_le];cases decide (l[i]<=l[i-1])with
    |true=>exact .ret _
    |false=>exact j
   |false=>exact j
 simp only[aDa,a5r,DY,BO];exact .ret _
variable {l:AA BH}
def aOX (hl:l.length<=9223372036854775807)(hs:∀s∈l,s.size<=9223372036854775807):EM (XU l) (TN l):=by
 unfold XU TN;refine Ib (λ_=>.ret _) λ_=>?_;unfold aQ9 aKa;refine EM.loop l.length hl (λk k' i h j=>?_) (λk k'=>?_)
 ·obtain⟨q,I⟩:=aD0 (s:=l[i]) (by have :=hs _ (Eu h);omega);simp only[aLG,xu,dec_lt h,Bd,CX h,Af,q,I,vV (show i<=9223372036854775806 by omega)];exact Ib (λ_=>.ret _) λ_=>j
 simp only[aLG,xu,DY,BO];exact .ret _
def ajI (j:LU c):EM (Xo 4 c) (gW c):=by
 have hl:=j.allow;unfold Xo gW;rw[show((4:Int)==6)=false from rfl,BO];refine EM.bind (Ib (λ_=>.ret _) λ_=>.ret _) λx=>Ib (λ_=>.ret _) λ_=>Ib (λ_=>.ret _) λ_=>?_;unfold aX1 aTN;refine EM.loop c.Allow.length AL (λk k' i h q=>?_) (λk k'=>?_)
 ·obtain⟨I,J⟩:=mO (s:=c.Allow[i]) (by have :=j.allows _ (Eu h);omega);simp only[aF8,a8g,xW,dec_lt h,Bd,CX h,Af,I,J,vV (show i<=9223372036854775806 by omega)];refine Ib (λ_=>.ret _) λ_=>?_;cases L:decide ((i:Int)>0)with
  |true=>
   simp only[Bd,uF h (show c.Allow.length<=9223372036854775807 by omega) L,Af];exact Ib (λ_=>.ret _) λ_=>q
  |false=>exact q
 simp only[aF8,a8g,DY,BO];exact .ret _
def am9 {l:AA Ih}(hl:l.length<=9223372036854775807)(hs:∀u∈l,u.User.size<=9223372036854775807):EM (a4k l) (Zd l):=by
 unfold a4k Zd;refine Ib (λ_=>.ret _) λ_=>?_;unfold aMI aJA;refine EM.loop l.length hl (λk k' i h j=>?_) (λk k'=>?_)
 ·obtain⟨q,I⟩:=Zx (s:=l[i].User) (by have :=hs _ (Eu h);omega);obtain⟨J,L⟩:=a4Q l[i].N;simp only[aDe,a2B,aB8,nI,dec_lt h,Bd,CX h,Af,q,I,J,L,vV (show i<=9223372036854775806 by omega)];refine Ib (λ_=>.ret _) λ_=>?_;cases M:decide ((i:Int)>0)with
  |true=>
   simp only[Bd,uF h hl M,Af];exact Ib (λ_=>.ret _) λ_=>Ib (λ_=>.ret _) λ_=>j
  |false=>
   simp only[BO];exact Ib (λ_=>.ret _) λ_=>j
 simp only[aDe,a2B,DY,BO];exact .ret _
def agO {l:AA Kw}(hl:l.length<=9223372036854775807):EM (a2z l) (Yh l):=by
 unfold a2z Yh;refine Ib (λ_=>.ret _) λ_=>?_;unfold aVd aE4;refine EM.loop l.length hl (λk k' i h j=>?_) (λk k'=>?_)
 ·obtain⟨q,I⟩:=aBp l[i].Kind;obtain⟨J,L⟩:=a4Q l[i].N;simp only[aKg,a8l,a8t,aAj,dec_lt h,Bd,CX h,Af,q,I,J,L,vV (show i<=9223372036854775806 by omega)];refine Ib (λ_=>.ret _) λ_=>?_;cases M:decide ((i:Int)>0)with
  |true=>
   simp only[Bd,uF h hl M,Af];exact Ib (λ_=>.ret _) λ_=>Ib (λ_=>.ret _) λ_=>j
  |false=>
   simp only[BO];exact Ib (λ_=>.ret _) λ_=>j
 simp only[aKg,a8l,DY,BO];exact .ret _
def ahL {l:Ci}(h1:l.Users.length<=9223372036854775807)(h2:l.Kinds.length<=9223372036854775807)(h3:∀u∈l.Users,u.User.size<=9223372036854775807):EM (fV l) (Zw l):=by
 have j:aIS l 0=some (cond ((L9 l).any TG) 2 0):=by
  unfold aIS;rw[Hw (L9 l) (by have :Aw=9223372036854775808:=rfl;simp[L9,this]) TG 2 (some 0) (λk i h=>?_) (λk=>rfl),MV];have I:i<7:=h;have q:Aq ([l.User,l.Message,l.State,l.iJ,l.kT,l.oq,l.gy]:AA Int) (i:Int)=some ((L9 l)[i]'(h)):=CX h;simp only[aVa,show decide ((i:Int)<7)=true from by simp;omega,Bd,q,Af,(a4Q _).1]
 unfold fV Zw;refine EM.bind (am9 AL h3) λx=>Ib (λ_=>.ret _) λ_=>EM.bind (agO AL) λy=>Ib (λ_=>.ret _) λ_=>?_;rw[j];simp only[(a4Q _).2,Af,L9,List.any_cons,List.any_nil];cases TG l.User<;>cases TG l.Message<;>cases TG l.State<;>cases TG l.iJ<;>cases TG l.kT<;>cases TG l.oq<;>cases TG l.gy<;>exact .ret _
def VL {l:AA α}(h:((l.length:Int)==0)=true):l=[]:=I4 aGn
def Ov (l:Ci):Ac:=((l.Users.length:Int)==0)&&((l.Kinds.length:Int)==0)&&(l.User==0)&&(l.Message==0)&&(l.State==0)&&(l.iJ==0)&&(l.kT==0)&&(l.oq==0)&&(l.gy==0)
def bare_eq (l:Ci):a8I l=some (Ov l):=by
 unfold a8I Ov
 grind
def aWA (l:Ci):XD l LD=some (Ov l):=by
 unfold XD Ov;show(cond ((l.Users.length:Int) != 0) (some true) (some ((l.Kinds.length:Int) != 0))).bind _=_;simp only[bne];cases I:((l.Users.length:Int)==0)with
 |false=>rfl
 |true=>
  cases J:((l.Kinds.length:Int)==0)with
  |false=>rfl
  |true=>
   have j:=VL I;have q:=VL J
   have h3:bV l LD 0=some ((l.User==0)&&(l.Message==0)&&(l.State==0)&&(l.iJ==0)&&(l.kT==0)&&(l.oq==0)&&(l.gy==0)):=by
    unfold bV;refine aE2 l.Kinds (by rw[q];simp) _ (λk i h=>by rw[q]at h;simp at h) (λk=>?_);simp only[tH,DY,BO,MV,Af,WI];rfl
   have h1:vg l LD 0=some ((l.User==0)&&(l.Message==0)&&(l.State==0)&&(l.iJ==0)&&(l.kT==0)&&(l.oq==0)&&(l.gy==0)):=by
    unfold vg;refine aE2 l.Users (by rw[j];simp) _ (λk i h=>by rw[j]at h;simp at h) (λk=>?_);simp only[oG,DY,BO];exact h3
   simp only[FK,BO,Af,h1,Gf]
def aqP (l:Ci):a9c l=some (Ov l):=by
 unfold a9c;rw[aWA];rfl
def am3 (l:AA BH):V3 l []=some ((l.length:Int)==0):=by
 cases h:((l.length:Int)==0)with
 |true=>rw[VL h];exact apF (l:=[]) Bf
 |false=>
  unfold V3;show(cond ((l.length:Int) != 0) (some false) _)=_;simp only[bne,h,JV,Bd]
def lu (a0 j q I J L M O:Ac):Ac:=a0&&j&&q&&I&&J&&L&&M&&O
def aW2 (c:Cx):UQ c El=some (lu (c.Text.toList==CS.toList) (c.N==0) (c.Target==0) (!c.Thread) (c.Via.toList==CS.toList) ((c.Allow.length:Int)==0) ((c.iK.length:Int)==0) (Ov c.Levels)):=by
 unfold UQ lu;show(cond (c.Text.toList==CS.toList) (some (c.N==0)) (some false)).bind _=_;simp only[show El.Allow=[]from rfl,show El.iK=[]from rfl,show El.Levels=LD from rfl,show El.Target=0 from rfl,show El.Thread=false from rfl,show El.Via=CS from rfl,am3,aWA,MV,Af,WI];congr 1
 grind
def a4e (a0 j q I J L M O:Ac):Int:=
 let v:=bif !a0 then FB .or .i64 0 1 else 0
 let v:=bif !j then FB .or .i64 v 2 else v
 let v:=bif !q then FB .or .i64 v 4 else v
 let v:=bif !I then FB .or .i64 v 8 else v
 let v:=bif !J then FB .or .i64 v 16 else v
 let v:=bif !L then FB .or .i64 v 32 else v
 let v:=bif !M then FB .or .i64 v 64 else v
 bif !O then FB .or .i64 v 128 else v
def pos_eq (l:AA α):decide ((l.length:Int)>0)= !((l.length:Int)==0):=by
 grind
def aac (c:Cx):yY c=some (a4e (c.Text.toList==CS.toList) (c.N==0) (c.Target==0) (!c.Thread) (c.Via.toList==CS.toList) ((c.Allow.length:Int)==0) ((c.iK.length:Int)==0) (Ov c.Levels)):=by
 unfold yY a5V a5d a4n a9k a9U aBl a2s a7Y a4e;rw[bare_eq,pos_eq,pos_eq];simp only[Af,bne,a0i];generalize(c.Text.toList==CS.toList)=j;generalize(c.N==0)=q;generalize(c.Target==0)=I;generalize c.Thread=J;generalize(c.Via.toList==CS.toList)=L;generalize((c.Allow.length:Int)==0)=M;generalize((c.iK.length:Int)==0)=O;generalize Ov c.Levels=U;cases j<;>cases q<;>cases I<;>cases J<;>cases L<;>cases M<;>cases O<;>cases U<;>rfl
def aYW :∀a0 j q I J L M O:Ac,(a4e a0 j q I J L M O==0)=lu a0 j q I J L M O:=PS
def Md (j q I J L M O U a0 Y Z a3 a4 a5 a6 a7:Ac):Ac:=(a0||j)&&(Y||q)&&(Z||I)&&(a3||J)&&(a4||L)&&(a5||M)&&(a6||O)&&(a7||U)
variable {I J L O U q:Ac}{K:Int}
def aP2 {M:Ac}(Y:Cj K Jc=some j)(h1:Cj K KH=some q)(h2:Cj K KF=some I)(h3:Cj K Nq=some J)(Z:Cj K Nk=some L)(h5:Cj K Lr=some M)(h6:Cj K Nr=some O)(h7:Cj K NY=some U):kE K c=some (Md j q I J L M O U (c.Text.toList==CS.toList) (c.N==0) (c.Target==0) (!c.Thread) (c.Via.toList==CS.toList) ((c.Allow.length:Int)==0) ((c.iK.length:Int)==0) (Ov c.Levels)):=by
 unfold kE Md;simp only[Y,h1,h2,h3,Z,h5,h6,h7,aqP,MV,Af,jZ,WI]
def IB (x r:AB Int):AB Int:=x.bind λv=>bif v != 0 then some v else r
variable {r:AB Int}
def Ez {x:AB Int}(h:x=some 0):IB x r=r:=by rw[h];rfl
def O7 {x y s:AB Int}(h:EM x y)(k:EM r s):EM (IB x r) (IB y s):=EM.bind h λ_=>Ib (λ_=>.ret _) λ_=>k
def a6g (x:AB Int):IB x (some 0)=x:=by
 cases x with
 |none=>rfl
 |some v=>
  show(cond (v != 0) (some v) (some 0))=some v;by_cases h:v=0
  ·subst h;rfl
  rw[show(v != 0)=true from by simpa using h];rfl
def aKQ (x:AB A):(x.bind λv=>some v)=x:=by cases x<;>rfl
def Oo (K:Int)(c:Cx):AB Int:=IB (aK K c) (IB (Oa K c.N) (IB (Xt K c) (IB (Yg c) (cond (K==4) (gW c) (IB (TN c.Allow) (IB (TN c.iK) (Zw c.Levels)))))))
def frame {M kp:Int}{br:Ac}{Y Z:Ac}(hU:oP K=some M)(hk:(decide (K>=1)&&(K<=14))=true)(hkp:rY K=some kp)(hb:a6V K=some br)(h0:Cj K Jc=some q)(h1:Cj K KH=some I)(h2:Cj K KF=some J)(h3:Cj K Nq=some L)(h4:Cj K Nk=some O)(h5:Cj K Lr=some U)(h6:Cj K Nr=some Y)(h7:Cj K NY=some Z)(hM:∀a0 a1 a2 a3 a4 a5 a6 a7:Ac,(FB .andNot .i64 (a4e a0 a1 a2 a3 a4 a5 a6 a7) M != 0)= !Md q I J L O U Y Z a0 a1 a2 a3 a4 a5 a6 a7)(hbr:(br=true->kp=0))(hA:kp=0->br=false->Nb M K 0 c=some 0)(j:Md q I J L O U Y Z (c.Text.toList==CS.toList) (c.N==0) (c.Target==0) (!c.Thread) (c.Via.toList==CS.toList) ((c.Allow.length:Int)==0) ((c.iK.length:Int)==0) (Ov c.Levels)=true->EM (Nb M K 0 c) (Oo K c)):EM (MW K c) (KI K c):=by
 have ht:KI K c=(pF K).bind λx1=>(cond (!x1) (some true) ((kE K c).bind λx4=>some (!x4))).bind λx2=>(cond x2 (some 1) ((a6V K).bind λx6=>(cond x6 ((UQ c El).bind λx9=>some x9) (some false)).bind λx7=>(cond x7 (some 0) (Oo K c)))):=by
  unfold KI Oo IB;simp only[aKQ]
 rw[ht];unfold MW;obtain⟨k1,k2⟩:=aBp K;rw[hk]at k1 k2;rw[hU,k1,k2,aac,hkp,hb,aP2 h0 h1 h2 h3 h4 h5 h6 h7,aW2];simp only[Af,FK,BO,hM,aYW];cases ho:Md q I J L O U Y Z (c.Text.toList==CS.toList) (c.N==0) (c.Target==0) (!c.Thread) (c.Via.toList==CS.toList) ((c.Allow.length:Int)==0) ((c.iK.length:Int)==0) (Ov c.Levels)with
 |false=>
  exact .ret _
 |true=>
  simp only[FK,BO];have j:=j ho;cases ha:lu (c.Text.toList==CS.toList) (c.N==0) (c.Target==0) (!c.Thread) (c.Via.toList==CS.toList) ((c.Allow.length:Int)==0) ((c.iK.length:Int)==0) (Ov c.Levels)with
  |false=>
   simp only[BO,Af];cases br<;>exact j
  |true=>
   simp only[Bd,Af];cases hz:kp==0 with
   |false=>
    cases br with
    |false=>
     exact j
    |true=>
     grind
   |true=>
    cases br with
    |true=>
     exact .ret _
    |false=>
     have e:=hA (eq_of_beq hz) rfl;rw[e]at j;exact j
def TK (M b:Int)(x r:AB Int):AB Int:=bif FB .and .i64 M b==0 then r else IB x r
def iy {R:Type}(body:(S->B->AB R)->S->B->AB R)(n:Nat)(a:S)(b:B):aS body (n+1) a b=body (aS body n) a b:=rfl
def aZm (M K:Int)(c:Cx):Nb M K 0 c=TK M 1 (SN K c) (TK M 2 (PX K c) (TK M 4 (UC K c) (TK M 8 (iO K c) (TK M 16 (fO K c) (TK M 32 (Xo K c)
 (cond (FB .and .i64 M 64 != 0) (XU c.iK) (cond (FB .and .i64 M 128 != 0) (fV c.Levels) (some 0)))))))):=by
 have j:Aw=9223372036854775801+1+1+1+1+1+1+1:=rfl;have q:∀k,Ye M K k 0 c=TK M 1 (SN K c) (k 1 c):=λk=>rfl;have I:∀k,Ye M K k 1 c=TK M 2 (PX K c) (k 2 c):=λk=>rfl;have J:∀k,Ye M K k 2 c=TK M 4 (UC K c) (k 3 c):=λk=>rfl;have L:∀k,Ye M K k 3 c=TK M 8 (iO K c) (k 4 c):=λk=>rfl;have O:∀k,Ye M K k 4 c=TK M 16 (fO K c) (k 5 c):=λk=>rfl;have U:∀k,Ye M K k 5 c=TK M 32 (Xo K c) (k 6 c):=λk=>rfl;have Y:∀k,Ye M K k 6 c=(cond (FB .and .i64 M 64 != 0) ((XU c.iK).bind λx=>some x) (cond (FB .and .i64 M 128 != 0) ((fV c.Levels).bind λx=>some x) (some 0))):=λk=>rfl;unfold Nb;rw[j,iy,q,iy,I,iy,J,iy,L,iy,O,iy,U,iy,Y,aKQ,aKQ]
def text0 (h:(c.Text.toList==CS.toList)=true)(j:K≠12):aK K c=some 0:=by
 have q:(c.Text.size:Int)=0:=by rw[a3u]at h;exact eq_of_beq h
 unfold aK
 grind
def VT (h:Cj K KF=some false)(h3:(!c.Thread)=true):Xt K c=some 0:=by
 unfold Xt
 grind
def SY (h:(c.Via.toList==CS.toList)=true):Yg c=some 0:=by unfold Yg;rw[h];rfl
def Kt (h:((l.length:Int)==0)=true):TN l=some 0:=by
 rw[VL h];unfold TN aKa;show bg (xu []) Aw 0=some 0;rw[Hw ([]:AA BH) Ba (λ_=>false) 0 (some 0) (λk i h=>Il) (λk=>rfl)];rfl
def TM {l:Ci}(h:Ov l=true):Zw l=some 0:=by
 unfold Ov at h;simp only[Dx]at h;obtain⟨⟨⟨⟨⟨⟨⟨⟨h1,h2⟩,h3⟩,j⟩,q⟩,I⟩,J⟩,L⟩,M⟩:=h
 have O:Zd []=some 0:=by
  unfold Zd aJA;show bg (a2B []) Aw 0=some 0;rw[Hw ([]:AA BH) Ba (λ_=>false) 0 (some 0) (λk i h=>Il) (λk=>rfl)];rfl
 have U:Yh []=some 0:=by
  unfold Yh aE4;show bg (a8l []) Aw 0=some 0;rw[Hw ([]:AA BH) Ba (λ_=>false) 0 (some 0) (λk i h=>Il) (λk=>rfl)];rfl
 unfold Zw;rw[VL h1,VL h2,O,U,eq_of_beq h3,eq_of_beq j,eq_of_beq q,eq_of_beq I,eq_of_beq J,eq_of_beq L,eq_of_beq M];rfl
def fD (q:LU c):EM (SN K c) (aK K c):=by
 have h1:=q.text;obtain⟨I,J⟩:=aD0 (s:=c.Text) AL;unfold SN a2r aK;rw[I,J];have e:=a3u c.Text;by_cases j:K=9
 ·subst j;cases h:(c.Text.toList==CS.toList)with
  |false=>exact .ret _
  |true=>
   have L:(c.Text.size:Int)=0:=by rw[e]at h;exact eq_of_beq h
   rw[L];exact .ret _
 rw[show(K==9)=false from by simpa using j];cases K==12<;>cases(c.Text.toList==CS.toList)<;>cases decide ((c.Text.size:Int)>32)<;>cases decide ((c.Text.size:Int)>400)<;>exact .ret _
def ajJ (j:LU c):EM (fO K c) (Yg c):=by
 have h1:=j.via;obtain⟨q,I⟩:=Zx (s:=c.Via) AL;unfold fO Yg;rw[q,I];exact Ib (λ_=>.ret _) λ_=>Ib (λ_=>.ret _) λ_=>.ret _
def aKF (h:Cj K KF=some true)(h3:(!c.Thread)=true):EM (UC K c) (Xt K c):=by
 unfold UC Xt;rw[h,show c.Thread=false from by simpa using h3];cases decide (c.Target<0)<;>cases c.Target==0<;>cases K != 11<;>exact .ret _
def ajQ (h:Cj K KF=some true):EM (IB (UC K c) (iO K c)) (Xt K c):=by
 unfold UC iO Xt IB;rw[h];cases decide (c.Target<0)<;>cases c.Target==0<;>cases K != 11<;>cases c.Thread<;>exact .ret _
def aZz (j:LU c):EM (Xo 6 c) (TN c.Allow):=by
 have h1:=j.allow;have :=aOX (l:=c.Allow) AL j.allows;show EM ((XU c.Allow).bind λx=>some x) _
 grind
def yF (a b:Int):decide (a>=b)= !decide (a<b):=by by_cases h:a<b<;>simp[h]<;>omega
def a0l (a b:Int):decide (a<=b)= !decide (a>b):=by by_cases h:a>b<;>simp[h]<;>omega
def abJ (hc:LU c):EM (MW 1 c) (KI 1 c):=by
 have q:Cj 1 Jc=some false:=A8
 have h1:Cj 1 KH=some false:=A8
 have h2:Cj 1 KF=some false:=A8
 have h3:Cj 1 Nq=some false:=A8
 have I:Cj 1 Nk=some false:=A8
 have J:Cj 1 Lr=some false:=A8
 have L:Cj 1 Nr=some false:=A8
 have O:Cj 1 NY=some false:=A8
 refine frame (M:=0) (kp:=0) (br:=false) rfl rfl rfl rfl q h1 h2 h3 I J L O PS (λh=>GN) (λh h'=>rfl) λj=>?_;unfold Md at j;simp only[Qz,Nc,P8,Gf,Dx]at j;obtain⟨⟨⟨⟨⟨⟨⟨U,e1⟩,e2⟩,Y⟩,Z⟩,e5⟩,e6⟩,e7⟩:=j;have hL:Nb 0 1 0 c=(some 0):=Qo
 rw[hL];unfold Oo;rw[Ez (text0 U Ba),Ez (show Oa 1 c.N=some 0 from rfl),Ez (VT h2 Y),Ez (SY Z),show((1:Int)==4)=false from rfl,BO,Ez (Kt e5),Ez (Kt e6),TM e7];exact .ret _
def afY (c:Cx):EM (PX 2 c) (Oa 2 c.N):=by
 show EM ((cond (c.N<0) (some true) (some (decide (c.N>4)))).bind λj=>(cond j (some 2) (some 0))) ((cond (c.N>=0) (some (decide (c.N<=4))) (some false)).bind λq=>(cond (!q) (some 2) (some 0)));rw[yF,a0l];cases decide (c.N<0)<;>cases decide (c.N>4)<;>exact .ret _
def ai1 (q:LU c):EM (MW 2 c) (KI 2 c):=by
 have I:Cj 2 Jc=some true:=A8
 have h1:Cj 2 KH=some true:=A8
 have h2:Cj 2 KF=some false:=A8
 have h3:Cj 2 Nq=some false:=A8
 have J:Cj 2 Nk=some true:=A8
 have L:Cj 2 Lr=some false:=A8
 have O:Cj 2 Nr=some false:=A8
 have U:Cj 2 NY=some false:=A8
 refine frame (M:=19) (kp:=18) (br:=false) rfl rfl rfl rfl I h1 h2 h3 J L O U PS (λh=>GN) (λh h'=>GN) λj=>?_;unfold Md at j;simp only[Qz,Nc,P8,Gf,Dx]at j;obtain⟨⟨⟨⟨e2,Y⟩,Z⟩,e6⟩,e7⟩:=j;have hL:Nb 19 2 0 c=(IB (SN 2 c) (IB (PX 2 c) (IB (fO 2 c) (some 0)))):=Qo
 rw[hL];unfold Oo;rw[Ez (VT h2 Y),show((2:Int)==4)=false from rfl,BO,Ez (Kt Z),Ez (Kt e6),TM e7];exact O7 (fD q) (O7 (afY c) (O7 (ajJ q) (.ret _)))
def aZK (j:LU c):EM (MW 3 c) (KI 3 c):=by
 have I:Cj 3 Jc=some false:=A8
 have h1:Cj 3 KH=some false:=A8
 have h2:Cj 3 KF=some false:=A8
 have h3:Cj 3 Nq=some false:=A8
 have J:Cj 3 Nk=some false:=A8
 have L:Cj 3 Lr=some false:=A8
 have O:Cj 3 Nr=some false:=A8
 have U:Cj 3 NY=some true:=A8
 refine frame (M:=128) (kp:=128) (br:=false) rfl rfl rfl rfl I h1 h2 h3 J L O U PS (λh=>GN) (λh h'=>GN) λq=>?_;unfold Md at q;simp only[Qz,Nc,P8,Gf,Dx]at q;obtain⟨⟨⟨⟨⟨⟨Y,e1⟩,e2⟩,Z⟩,e4⟩,e5⟩,e6⟩:=q;have hL:Nb 128 3 0 c=(fV c.Levels):=Qo
 rw[hL];unfold Oo;rw[Ez (text0 Y Ba),Ez (show Oa 3 c.N=some 0 from rfl),Ez (VT h2 Z),Ez (SY e4),show((3:Int)==4)=false from rfl,BO,Ez (Kt e5),Ez (Kt e6)];exact ahL j.users j.kinds j.names
def afk (c:Cx):EM (PX 4 c) (Oa 4 c.N):=by
 show EM ((cond (c.N<0) (some true) (some (decide (c.N>3)))).bind λj=>(cond j (some 2) (some 0))) ((cond (c.N>=0) (some (decide (c.N<=3))) (some false)).bind λq=>(cond (!q) (some 2) (some 0)));rw[yF,a0l];cases decide (c.N<0)<;>cases decide (c.N>3)<;>exact .ret _
def aZ4 (q:LU c):EM (MW 4 c) (KI 4 c):=by
 have I:Cj 4 Jc=some false:=A8
 have h1:Cj 4 KH=some true:=A8
 have h2:Cj 4 KF=some false:=A8
 have h3:Cj 4 Nq=some false:=A8
 have J:Cj 4 Nk=some false:=A8
 have L:Cj 4 Lr=some true:=A8
 have O:Cj 4 Nr=some false:=A8
 have U:Cj 4 NY=some false:=A8
 refine frame (M:=34) (kp:=34) (br:=false) rfl rfl rfl rfl I h1 h2 h3 J L O U PS (λh=>GN) (λh h'=>GN) λj=>?_;unfold Md at j;simp only[Qz,Nc,P8,Gf,Dx]at j;obtain⟨⟨⟨⟨⟨Y,e2⟩,Z⟩,e4⟩,e6⟩,e7⟩:=j;have hL:Nb 34 4 0 c=(IB (PX 4 c) (IB (Xo 4 c) (some 0))):=Qo
 rw[hL];unfold Oo;rw[Ez (text0 Y Ba),Ez (VT h2 Z),Ez (SY e4),show((4:Int)==4)=true from rfl,Bd];rw[a6g];exact O7 (afk c) (ajI q)
def aqD (c:Cx):EM (PX 5 c) (Oa 5 c.N):=by
 show EM ((cond (c.N<0) (some true) (some (decide (c.N>3)))).bind λj=>(cond j (some 2) (some 0))) ((cond (c.N>=0) (some (decide (c.N<=3))) (some false)).bind λq=>(cond (!q) (some 2) (some 0)));rw[yF,a0l];cases decide (c.N<0)<;>cases decide (c.N>3)<;>exact .ret _
def alv (hc:LU c):EM (MW 5 c) (KI 5 c):=by
 have q:Cj 5 Jc=some false:=A8
 have h1:Cj 5 KH=some true:=A8
 have h2:Cj 5 KF=some false:=A8
 have h3:Cj 5 Nq=some false:=A8
 have I:Cj 5 Nk=some false:=A8
 have J:Cj 5 Lr=some false:=A8
 have L:Cj 5 Nr=some false:=A8
 have O:Cj 5 NY=some false:=A8
 refine frame (M:=2) (kp:=2) (br:=false) rfl rfl rfl rfl q h1 h2 h3 I J L O PS (λh=>GN) (λh h'=>GN) λj=>?_;unfold Md at j;simp only[Qz,Nc,P8,Gf,Dx]at j;obtain⟨⟨⟨⟨⟨⟨U,e2⟩,Y⟩,Z⟩,e5⟩,e6⟩,e7⟩:=j;have hL:Nb 2 5 0 c=(IB (PX 5 c) (some 0)):=Qo
 rw[hL];unfold Oo;rw[Ez (text0 U Ba),Ez (VT h2 Y),Ez (SY Z),show((5:Int)==4)=false from rfl,BO,Ez (Kt e5),Ez (Kt e6),TM e7];exact O7 (aqD c) (.ret _)
def aeL (j:LU c):EM (MW 6 c) (KI 6 c):=by
 have I:Cj 6 Jc=some false:=A8
 have h1:Cj 6 KH=some false:=A8
 have h2:Cj 6 KF=some false:=A8
 have h3:Cj 6 Nq=some false:=A8
 have J:Cj 6 Nk=some false:=A8
 have L:Cj 6 Lr=some true:=A8
 have O:Cj 6 Nr=some true:=A8
 have U:Cj 6 NY=some false:=A8
 refine frame (M:=96) (kp:=96) (br:=false) rfl rfl rfl rfl I h1 h2 h3 J L O U PS (λh=>GN) (λh h'=>GN) λq=>?_;unfold Md at q;simp only[Qz,Nc,P8,Gf,Dx]at q;obtain⟨⟨⟨⟨⟨Y,e1⟩,e2⟩,Z⟩,e4⟩,e7⟩:=q;have hL:Nb 96 6 0 c=(IB (Xo 6 c) (XU c.iK)):=Qo
 rw[hL];unfold Oo;rw[Ez (text0 Y Ba),Ez (show Oa 6 c.N=some 0 from rfl),Ez (VT h2 Z),Ez (SY e4),show((6:Int)==4)=false from rfl,BO,TM e7];have h1:=j.deny;rw[a6g];exact O7 (aZz j) (aOX AL j.denies)
def anx (q:LU c):EM (MW 7 c) (KI 7 c):=by
 have I:Cj 7 Jc=some true:=A8
 have h1:Cj 7 KH=some false:=A8
 have h2:Cj 7 KF=some false:=A8
 have h3:Cj 7 Nq=some false:=A8
 have J:Cj 7 Nk=some false:=A8
 have L:Cj 7 Lr=some false:=A8
 have O:Cj 7 Nr=some false:=A8
 have U:Cj 7 NY=some false:=A8
 refine frame (M:=1) (kp:=0) (br:=true) rfl rfl rfl rfl I h1 h2 h3 J L O U PS (λh=>rfl) (λh h'=>jU) λj=>?_;unfold Md at j;simp only[Qz,Nc,P8,Gf,Dx]at j;obtain⟨⟨⟨⟨⟨⟨e1,e2⟩,Y⟩,Z⟩,e5⟩,e6⟩,e7⟩:=j;have hL:Nb 1 7 0 c=(IB (SN 7 c) (some 0)):=Qo
 rw[hL];unfold Oo;rw[Ez (show Oa 7 c.N=some 0 from rfl),Ez (VT h2 Y),Ez (SY Z),show((7:Int)==4)=false from rfl,BO,Ez (Kt e5),Ez (Kt e6),TM e7];exact O7 (fD q) (.ret _)
def anC (c:Cx):EM (PX 8 c) (Oa 8 c.N):=by
 show EM ((cond (c.N<0) (some true) (some (decide (c.N>1000000000)))).bind λj=>(cond j (some 2) (some 0))) ((cond (c.N>=0) (some (decide (c.N<=1000000000))) (some false)).bind λq=>(cond (!q) (some 2) (some 0)));rw[yF,a0l];cases decide (c.N<0)<;>cases decide (c.N>1000000000)<;>exact .ret _
def aa1 (hc:LU c):EM (MW 8 c) (KI 8 c):=by
 have q:Cj 8 Jc=some false:=A8
 have h1:Cj 8 KH=some true:=A8
 have h2:Cj 8 KF=some false:=A8
 have h3:Cj 8 Nq=some false:=A8
 have I:Cj 8 Nk=some false:=A8
 have J:Cj 8 Lr=some false:=A8
 have L:Cj 8 Nr=some false:=A8
 have O:Cj 8 NY=some false:=A8
 refine frame (M:=2) (kp:=0) (br:=true) rfl rfl rfl rfl q h1 h2 h3 I J L O PS (λh=>rfl) (λh h'=>jU) λj=>?_;unfold Md at j;simp only[Qz,Nc,P8,Gf,Dx]at j;obtain⟨⟨⟨⟨⟨⟨U,e2⟩,Y⟩,Z⟩,e5⟩,e6⟩,e7⟩:=j;have hL:Nb 2 8 0 c=(IB (PX 8 c) (some 0)):=Qo
 rw[hL];unfold Oo;rw[Ez (text0 U Ba),Ez (VT h2 Y),Ez (SY Z),show((8:Int)==4)=false from rfl,BO,Ez (Kt e5),Ez (Kt e6),TM e7];exact O7 (anC c) (.ret _)
def ank (c:Cx):EM (PX 9 c) (Oa 9 c.N):=by
 show EM ((cond (c.N==1) (some true) (some (c.N==2))).bind λj=>(cond j (some true) (some (c.N==6))).bind λq=>(cond q (some 0) (some 2))) ((cond (c.N==1) (some true) (some (c.N==2))).bind λI=>(cond I (some true) (some (c.N==6))).bind λJ=>(cond (!J) (some 2) (some 0)));cases c.N==1<;>cases c.N==2<;>cases c.N==6<;>exact .ret _
def ah8 (q:LU c):EM (MW 9 c) (KI 9 c):=by
 have I:Cj 9 Jc=some true:=A8
 have h1:Cj 9 KH=some true:=A8
 have h2:Cj 9 KF=some false:=A8
 have h3:Cj 9 Nq=some false:=A8
 have J:Cj 9 Nk=some false:=A8
 have L:Cj 9 Lr=some false:=A8
 have O:Cj 9 Nr=some false:=A8
 have U:Cj 9 NY=some false:=A8
 refine frame (M:=3) (kp:=0) (br:=true) rfl rfl rfl rfl I h1 h2 h3 J L O U PS (λh=>rfl) (λh h'=>jU) λj=>?_;unfold Md at j;simp only[Qz,Nc,P8,Gf,Dx]at j;obtain⟨⟨⟨⟨⟨e2,Y⟩,Z⟩,e5⟩,e6⟩,e7⟩:=j;have hL:Nb 3 9 0 c=(IB (SN 9 c) (IB (PX 9 c) (some 0))):=Qo
 rw[hL];unfold Oo;rw[Ez (VT h2 Y),Ez (SY Z),show((9:Int)==4)=false from rfl,BO,Ez (Kt e5),Ez (Kt e6),TM e7];exact O7 (fD q) (O7 (ank c) (.ret _))
def ahC (c:Cx):EM (PX 10 c) (Oa 10 c.N):=by
 show EM ((cond (c.N<1) (some true) (some (decide (c.N>10000)))).bind λj=>(cond j (some 2) (some 0))) ((cond (c.N>=1) (some (decide (c.N<=10000))) (some false)).bind λq=>(cond (!q) (some 2) (some 0)));rw[yF,a0l];cases decide (c.N<1)<;>cases decide (c.N>10000)<;>exact .ret _
def agu (hc:LU c):EM (MW 10 c) (KI 10 c):=by
 have q:Cj 10 Jc=some false:=A8
 have h1:Cj 10 KH=some true:=A8
 have h2:Cj 10 KF=some false:=A8
 have h3:Cj 10 Nq=some false:=A8
 have I:Cj 10 Nk=some false:=A8
 have J:Cj 10 Lr=some false:=A8
 have L:Cj 10 Nr=some false:=A8
 have O:Cj 10 NY=some false:=A8
 refine frame (M:=2) (kp:=0) (br:=true) rfl rfl rfl rfl q h1 h2 h3 I J L O PS (λh=>rfl) (λh h'=>jU) λj=>?_;unfold Md at j;simp only[Qz,Nc,P8,Gf,Dx]at j;obtain⟨⟨⟨⟨⟨⟨U,e2⟩,Y⟩,Z⟩,e5⟩,e6⟩,e7⟩:=j;have hL:Nb 2 10 0 c=(IB (PX 10 c) (some 0)):=Qo
 rw[hL];unfold Oo;rw[Ez (text0 U Ba),Ez (VT h2 Y),Ez (SY Z),show((10:Int)==4)=false from rfl,BO,Ez (Kt e5),Ez (Kt e6),TM e7];exact O7 (ahC c) (.ret _)
def ajl (q:LU c):EM (MW 11 c) (KI 11 c):=by
 have I:Cj 11 Jc=some true:=A8
 have h1:Cj 11 KH=some false:=A8
 have h2:Cj 11 KF=some true:=A8
 have h3:Cj 11 Nq=some true:=A8
 have J:Cj 11 Nk=some false:=A8
 have L:Cj 11 Lr=some false:=A8
 have O:Cj 11 Nr=some false:=A8
 have U:Cj 11 NY=some false:=A8
 refine frame (M:=13) (kp:=0) (br:=true) rfl rfl rfl rfl I h1 h2 h3 J L O U PS (λh=>rfl) (λh h'=>jU) λj=>?_;unfold Md at j;simp only[Qz,Nc,P8,Gf,Dx]at j;obtain⟨⟨⟨⟨e1,Y⟩,Z⟩,e6⟩,e7⟩:=j;have hL:Nb 13 11 0 c=(IB (SN 11 c) (IB (UC 11 c) (IB (iO 11 c) (some 0)))):=Qo
 rw[hL];unfold Oo;rw[Ez (show Oa 11 c.N=some 0 from rfl),Ez (SY Y),show((11:Int)==4)=false from rfl,BO,Ez (Kt Z),Ez (Kt e6),TM e7];rw[a6g,a6g];exact O7 (fD q) (ajQ h2)
def ahk (q:LU c):EM (MW 12 c) (KI 12 c):=by
 have I:Cj 12 Jc=some true:=A8
 have h1:Cj 12 KH=some false:=A8
 have h2:Cj 12 KF=some true:=A8
 have h3:Cj 12 Nq=some false:=A8
 have J:Cj 12 Nk=some false:=A8
 have L:Cj 12 Lr=some false:=A8
 have O:Cj 12 Nr=some false:=A8
 have U:Cj 12 NY=some false:=A8
 refine frame (M:=5) (kp:=0) (br:=true) rfl rfl rfl rfl I h1 h2 h3 J L O U PS (λh=>rfl) (λh h'=>jU) λj=>?_;unfold Md at j;simp only[Qz,Nc,P8,Gf,Dx]at j;obtain⟨⟨⟨⟨⟨e1,Y⟩,Z⟩,e5⟩,e6⟩,e7⟩:=j;have hL:Nb 5 12 0 c=(IB (SN 12 c) (IB (UC 12 c) (some 0))):=Qo
 rw[hL];unfold Oo;rw[Ez (show Oa 12 c.N=some 0 from rfl),Ez (SY Z),show((12:Int)==4)=false from rfl,BO,Ez (Kt e5),Ez (Kt e6),TM e7];exact O7 (fD q) (O7 (aKF h2 Y) (.ret _))
def aZu (q:LU c):EM (MW 13 c) (KI 13 c):=by
 have I:Cj 13 Jc=some true:=A8
 have h1:Cj 13 KH=some false:=A8
 have h2:Cj 13 KF=some true:=A8
 have h3:Cj 13 Nq=some false:=A8
 have J:Cj 13 Nk=some false:=A8
 have L:Cj 13 Lr=some false:=A8
 have O:Cj 13 Nr=some false:=A8
 have U:Cj 13 NY=some false:=A8
 refine frame (M:=5) (kp:=0) (br:=true) rfl rfl rfl rfl I h1 h2 h3 J L O U PS (λh=>rfl) (λh h'=>jU) λj=>?_;unfold Md at j;simp only[Qz,Nc,P8,Gf,Dx]at j;obtain⟨⟨⟨⟨⟨e1,Y⟩,Z⟩,e5⟩,e6⟩,e7⟩:=j;have hL:Nb 5 13 0 c=(IB (SN 13 c) (IB (UC 13 c) (some 0))):=Qo
 rw[hL];unfold Oo;rw[Ez (show Oa 13 c.N=some 0 from rfl),Ez (SY Z),show((13:Int)==4)=false from rfl,BO,Ez (Kt e5),Ez (Kt e6),TM e7];exact O7 (fD q) (O7 (aKF h2 Y) (.ret _))
def adb (q:LU c):EM (MW 14 c) (KI 14 c):=by
 have I:Cj 14 Jc=some true:=A8
 have h1:Cj 14 KH=some false:=A8
 have h2:Cj 14 KF=some true:=A8
 have h3:Cj 14 Nq=some false:=A8
 have J:Cj 14 Nk=some false:=A8
 have L:Cj 14 Lr=some false:=A8
 have O:Cj 14 Nr=some false:=A8
 have U:Cj 14 NY=some false:=A8
 refine frame (M:=5) (kp:=4) (br:=false) rfl rfl rfl rfl I h1 h2 h3 J L O U PS (λh=>GN) (λh h'=>GN) λj=>?_;unfold Md at j;simp only[Qz,Nc,P8,Gf,Dx]at j;obtain⟨⟨⟨⟨⟨e1,Y⟩,Z⟩,e5⟩,e6⟩,e7⟩:=j;have hL:Nb 5 14 0 c=(IB (SN 14 c) (IB (UC 14 c) (some 0))):=Qo
 rw[hL];unfold Oo;rw[Ez (show Oa 14 c.N=some 0 from rfl),Ez (SY Z),show((14:Int)==4)=false from rfl,BO,Ez (Kt e5),Ez (Kt e6),TM e7];exact O7 (fD q) (O7 (aKF h2 Y) (.ret _))
def amm (k:Int)(j:LU c):EM (MW k c) (KI k c):=by
 cases q:decide (k>=1)&&decide (k<=14)with
 |false=>
  obtain⟨I,k2⟩:=aBp k;rw[q]at I k2
  have f:∀n:Int,1<=n->n<=14->(k==n)=false:=λn h1 h2=>by
   grind
  have hm:oP k=some 0:=by
   unfold oP a0y a1a;rw[f 2 Ba Ba,f 3 Ba Ba,f 4 Ba Ba,f 5 Ba Ba,f 8 Ba Ba,f 10 Ba Ba,f 6 Ba Ba,f 7 Ba Ba,f 9 Ba Ba,f 11 Ba Ba,f 12 Ba Ba,f 13 Ba Ba,f 14 Ba Ba];rfl
  unfold MW KI;rw[hm,I,k2];exact .ret _
 |true=>
  simp only[Dx,Ik]at q;have :k=1\/k=2\/k=3\/k=4\/k=5\/k=6\/k=7\/k=8\/k=9\/k=10\/k=11\/k=12\/k=13\/k=14:=AL
  rcases this with rfl|rfl|rfl|rfl|rfl|rfl|rfl|rfl|rfl|rfl|rfl|rfl|rfl|rfl
  ·exact abJ j
  ·exact ai1 j
  ·exact aZK j
  ·exact aZ4 j
  ·exact alv j
  ·exact aeL j
  ·exact anx j
  ·exact aa1 j
  ·exact ah8 j
  ·exact agu j
  ·exact ajl j
  ·exact ahk j
  ·exact aZu j
  exact adb j
def N8 (p:α->α->Ac)(a b:AA α):Ac:=((a.length:Int)==(b.length:Int))&& !((a.zip b).any λx=> !p x.1 x.2)
def ak {R:Type}{body:(Int->AB R)->Int->AB R}(p:α->α->Ac)(a b:AA α)(ha:a.length<=1000)(j:a.length=b.length)(bad:R)(rest:AB R)(I:∀k (i:Nat) (h:i<a.length) (h':i<b.length),body k (i:Int)=bif !p a[i] b[i]then some bad else k (Ar ((i:Int)+1)))(q:∀k,body k (a.length:Int)=rest):bg body Aw 0=bif (a.zip b).any λx=> !p x.1 x.2 then some bad else rest:=by
 have hl:(a.zip b).length=a.length:=Eh
 refine Hw (a.zip b) (by rw[hl];exact aCx AL) (λx=> !p x.1 x.2) bad rest (λk i h=>?_) (λk=>by rw[hl];exact q k)
 grind
def len_eq {b:AA α}(h:((a.length:Int)==(b.length:Int))=true):a.length=b.length:=aGn
def Ur (x y:BH):Ac:=x.toList==y.toList
def VI (x y:Ih):Ac:=x.User.toList==y.User.toList&&x.N==y.N
def TY (x y:Kw):Ac:=x.Kind==y.Kind&&x.N==y.N
def a8B {a b:AA BH}(ha:a.length<=1000):xM a b=some (N8 Ur a b)/\V3 a b=some (N8 Ur a b):=by
 unfold xM V3 N8;simp only[bne];cases h:((a.length:Int)==(b.length:Int))with
 |false=>exact⟨rfl,rfl⟩
 |true=>
  have j:=len_eq h;simp only[FK,BO,Gf];unfold aSX aAY
  rw[ak Ur a b ha j false (some true) (λk i h h'=>by simp only[aG6,dec_lt h,Bd,CX h,CX h',Af];rfl) (λk=>by simp only[aG6,DY,BO]),
   ak Ur a b ha j false (some true) (λk i h h'=>by simp only[a99,dec_lt h,Bd,CX h,CX h',Af];rfl) (λk=>aHZ)]
  cases(a.zip b).any λx=> !Ur x.1 x.2<;>exact⟨rfl,rfl⟩
def aq7 {a b:AA Ih}(ha:a.length<=1000):a3q a b=some (N8 VI a b):=by
 unfold a3q N8;simp only[bne];cases h:((a.length:Int)==(b.length:Int))with
 |false=>rfl
 |true=>
  have j:=len_eq h;simp only[FK,BO,Gf];unfold aRL;rw[ak VI a b ha j false (some true) (λk i h h'=>by simp only[aGx,dec_lt h,Bd,CX h,CX h',Af,a7k,VI,P8]) (λk=>by simp only[aGx,DY,BO])];cases(a.zip b).any λx=> !VI x.1 x.2<;>rfl
def al2 {a b:AA Kw}(ha:a.length<=1000):a5z a b=some (N8 TY a b):=by
 unfold a5z N8;simp only[bne];cases h:((a.length:Int)==(b.length:Int))with
 |false=>rfl
 |true=>
  have j:=len_eq h;simp only[FK,BO,Gf];unfold aVx;rw[ak TY a b ha j false (some true) (λk i h h'=>by simp only[aLF,dec_lt h,Bd,CX h,CX h',Af,a4B,TY,P8]) (λk=>by simp only[aLF,DY,BO])];cases(a.zip b).any λx=> !TY x.1 x.2<;>rfl
def zW (a b:Ci):Ac:=(a.User==b.User)&&(a.Message==b.Message)&&(a.State==b.State)&&(a.iJ==b.iJ)&&(a.kT==b.kT)&&(a.oq==b.oq)&&(a.gy==b.gy)
def qo (a b:Ci):Ac:=N8 VI a.Users b.Users&&(N8 TY a.Kinds b.Kinds&&zW a b)
def aoS {a b:Ci}(h1:a.Users.length<=1000)(h2:a.Kinds.length<=1000):XD a b=some (qo a b):=by
 unfold XD qo N8;simp only[bne];cases j:((a.Users.length:Int)==(b.Users.length:Int))with
 |false=>
  rfl
 |true=>
  cases q:((a.Kinds.length:Int)==(b.Kinds.length:Int))with
  |false=>
   simp
  |true=>
   have I:=len_eq j;have ek:=len_eq q
   have h3:bV a b 0=bif (a.Kinds.zip b.Kinds).any λx=> !TY x.1 x.2 then some false else some (zW a b):=by
    unfold bV;refine ak TY a.Kinds b.Kinds h2 ek false (some (zW a b)) (λk i h h'=>?_) (λk=>?_)
    ·simp only[tH,dec_lt h,Bd,CX h,CX h',Af,ug,TY,bne]
     grind
    simp only[tH,DY,BO,MV,Af,WI];rfl
   simp only[FK,BO,Af,Gf];unfold vg
   rw[ak VI a.Users b.Users h1 I false (bV a b 0) (λk i h h'=>by
    simp only[oG,dec_lt h,Bd,CX h,CX h',Af,a1R,VI,bne]
    cases a.Users[i].User.toList==b.Users[i].User.toList<;>cases a.Users[i].N==b.Users[i].N<;>rfl) (λk=>by simp only[oG,DY,BO]),h3]
   cases(a.Users.zip b.Users).any λx=> !VI x.1 x.2<;>cases(a.Kinds.zip b.Kinds).any λx=> !TY x.1 x.2<;>rfl
def sF (a b:Cx):Ac:=(a.Text.toList==b.Text.toList)&&(a.N==b.N)&&(a.Target==b.Target)&&(a.Thread==b.Thread)&&(a.Via.toList==b.Via.toList)&&N8 Ur a.Allow b.Allow&&N8 Ur a.iK b.iK&&qo a.Levels b.Levels
variable {a:Cx}
def aTF (b:Cx)(ha:QZ a):UQ a b=some (sF a b):=by
 have h1:=ha.allow;have h2:=ha.deny;have h3:=ha.users;have j:=ha.kinds;unfold UQ sF;rw[(a8B (a:=a.Allow) AL).2,(a8B (a:=a.iK) AL).2,aoS (a:=a.Levels) AL AL];simp only[MV,Af,WI]
def ad5 (b:Cx)(ha:QZ a):aBb a b=some (sF a b):=by
 have h1:=ha.allow;have h2:=ha.deny;have h3:=ha.users;have U:=ha.kinds;unfold aBb sF qo zW;rw[(a8B (a:=a.Allow) AL).1,(a8B (a:=a.iK) AL).1,aq7 (a:=a.Levels.Users) AL,al2 (a:=a.Levels.Kinds) AL];simp only[MV,Af,WI,jZ,bne];generalize(a.Text.toList==b.Text.toList)=j;generalize(a.N==b.N)=q;generalize(a.Target==b.Target)=I;generalize(a.Thread==b.Thread)=J;generalize(a.Via.toList==b.Via.toList)=L;generalize N8 Ur a.Allow b.Allow=M;generalize N8 Ur a.iK b.iK=O;generalize N8 VI a.Levels.Users b.Levels.Users=Y;generalize N8 TY a.Levels.Kinds b.Levels.Kinds=Z;cases j<;>cases q<;>cases I<;>cases J<;>cases L<;>cases M<;>cases O<;>first|rfl|(simp only[FK,Bool.or_self,BO,Gf,Bool.and_self,Bool.and_assoc])
def aoF (j:Ry e)(v:Ac):EM (Zg e v) ((TL e v).bind λI=>(cond (I != 0) (some I) ((KI e.Kind e.Content).bind λJ=>some J))):=by
 have h1:=j.room;have h2:=j.sender;have h3:=j.key;have h4:=j.prev;have h5:=j.auth;unfold Zg TL;rw[ahR j,(mO (s:=e.Room) AL).2,(Zx (s:=e.bG) AL).2,aOI AL];cases v with
 |true=>
  exact .ret _
 |false=>
  simp only[BO,Af,bne,MV,jZ];generalize(SH e.Room==0)=a;generalize(SL e.bG==0)=b;generalize WJ e.Kind e.Key=L;cases a with
  |false=>
   exact .ret _
  |true=>
   cases b with
   |false=>
    exact .ret _
   |true=>
    cases L with
    |false=>
     exact .ret _
    |true=>
     simp only[FK,Bool.or_self,Bool.and_self,BO,aBh];refine Ib (λ_=>.ret _) λ_=>Ib (λ_=>.ret _) λhlen=>?_;simp only[tu,qR]at hlen;obtain⟨M,O,U⟩:=aXQ (l:=e.bP) AL;obtain⟨Y,Z,q2⟩:=aXQ (l:=e.bQ) AL;rw[O,Z,U,q2];simp only[Af,MV,jZ,aBh];cases M with
     |false=>
      exact .ret _
     |true=>
     cases Y with
     |false=>
      exact .ret _
     |true=>
     simp only[FK,BO]
     have hs:decide ((Ar ((e.bP.length:Int)+(e.bQ.length:Int)))>0)=(decide ((e.bP.length:Int)>0)||((e.bQ.length:Int)>0)):=by
      rw[RQ AL AL]
      grind
     rw[hs];generalize(cond ((e.bP.length:Int)==0) (!e.Kind==1) false)=p;generalize(cond (e.Kind==1) (decide ((e.bP.length:Int)>0)||((e.bQ.length:Int)>0)) false)=q;cases p with
     |true=>
      exact .ret _
     |false=>
      cases q with
      |true=>
       exact .ret _
      |false=>
       exact EM.bind (amm e.Kind j.content) λx=>.ret _
def abu (q:Ry e):EM (tN e) (qX e):=by
 have j:=aoF q;unfold tN qX a5O;rw[show ZR e.Kind=Ug e.Kind from rfl];simp only[aBh,bne,MV,Af];refine Ib (λ_=>j _) λ_=>Ib (λ_=>j _) λ_=>?_;have hs:∃b,Ug e.Kind=some b:=by unfold Ug;cases decide (e.Kind>=1)<;>cases decide (e.Kind<=10)<;>exact⟨_,rfl⟩
 obtain⟨b,I⟩:=hs;rw[I];simp only[Af,aBh];refine Ib (λ_=>j _) λ_=>Ib (λ_=>?_) λ_=>j _;cases e.Kind==2 with
 |true=>exact j _
 |false=>exact j _
def a1w (j:Vp e):Xg e=some (Sr e==e.Hash)/\qG e=some (Sr e==e.Hash):=adG j.content.aJD
def alS (j:Vp e)(v:Ac):EM (jS e v) (eI e v):=by
 have h2:e.bG.size<=2000:=j.sender;unfold jS eI;obtain⟨q,I⟩:=aXz j;obtain⟨J,L⟩:=oL (s:=e.bG) AL;rw[q,I,J,L];refine Ib (λ_=>.ret _) λ_=>?_;simp only[Af];refine Ib (λ_=>.ret _) λ_=>?_;unfold a9z a4w;show EM (cond (!((e.rM.Server.toList==(splitB e.bG (LM e.bG)).2.1.toList)&&((e.rM.Sum==e.Id)&&true))) (some 12) (some 0)) _;simp only[bne];cases(e.rM.Server.toList==(splitB e.bG (LM e.bG)).2.1.toList)<;>cases(e.rM.Sum==e.Id)<;>exact .ret _
end Go.Proofs.YteiakhlfaaifnaaGreat
