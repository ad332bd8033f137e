/- Part 7 of the laws' proofs (short forms by wip/shrink2.py). -/
import Derived.Test.YtkkdimcnpacjhaaGreatRe6
set_option linter.defProp false
set_option linter.unnecessarySimpa false
set_option linter.unusedSectionVars false
set_option linter.unusedVariables false
set_option linter.unusedSimpArgs false
namespace Go.Proofs.YtkkdimcnpacjhaaGreat
open Go.RowKit Go.Proofs.Tryz
section
def aUW (l:A8 Int) (h:l.length<=1099511627776):((N7 l).bind fun x=>(Vs x).bind fun y=>some y)=some (Eh l):=by
 unfold N7 Vs;have j:(Qb l).length<=1099511627776:=by rw[(TS l).length_eq];exact h
 simp[h,aFs,aMn]
def aS3 (s:A8 BM):s.foldl (fun r x=>r++[x.Id]) []=VT s:=by
 rw[foldl_append (fun x:BM=>[x.Id])];unfold VT;rw[Ik]
 induction s with
 |nil=>rfl
 |cons x s j=>rw[MC,j];rfl
def al2 (l:A8 AX) (s:A8 BM) (hl:l.length<=1000) (ha:RN l) (hs:s.length<=100):a2V l s=some (Gx l s):=by
 unfold a2V
 have hm:Iy 8 (0:Int) 0 (s.length:Int)=some []:=by
  unfold Iy;rw[DX aD3];rfl
 rw[hm];simp only[Af];unfold aWt;rw[Ia s AB (fun r x=>r++[x.Id]) (fun i r=>r.length<=i) (fun r=>(ZJ l r).bind fun u=>(DL 8 r u).bind fun z=>(N7 z).bind fun j=>(Vs j).bind fun q=>some q) Bj]
 ·have J:=gK l (VT s);have L:=aLp s;rw[aS3,aMm l _ hl ha AB];simp only[Af];rw[ED AB];simp only[Af];rw[aUW _ LK];unfold Gx;rw[sV]
 ·intro k a i h I;refine⟨aCk,?_⟩;unfold aJ6;rw[DU h,ED Fz];rfl
 intro k a I;unfold aJ6;rw[EO]
def abx (l:A8 AX) (s:A8 BM) (hl:l.length<=1000) (ha:RN l) (hs:s.length<=100):a0h l s=some (Gx l s):=by
 unfold a0h aU5;rw[Ia s AB (fun r x=>r++[x.Id]) (fun i r=>r.length<=i) (fun r=>(Zm l r).bind fun j=>(YE r j).bind fun q=>some q) Bj]
 ·have z:=gK l (VT s);have I:=aLp s;rw[aS3,aJ2 l _ hl ha AB];simp only[Af];rw[aEs _ _ AB AB];rfl
 ·intro k a i h u;refine⟨aCk,?_⟩;unfold aLN;rw[dec_lt h,D5 h];simp only[Bq,Af];rw[ED Fz];rfl
 intro k a u;unfold aLN;rw[Dq];rfl
def stepM (m:A8 (Int×Int)) (x:Int):A8 (Int×Int):=FM m x (Ar (((DV m x).getD 0)+1))
structure NC (m:List (Int×Int)) (f:Int->Nat):Prop where
 nodup:(m.map (·.1)).Nodup
 find:∀x,DV m x=if f x=0 then none else some (f x:Int)
def amg {m:A8 (Int×Int)} {k v y:Int}:y∈(FM m k v).map (·.1)↔y=k\/y∈m.map (·.1):=by
 induction m with
 |nil=>simp[FM]
 |cons p m j=>
  unfold FM;cases h:k==p.1 with
  |true=>
   have q:k=p.1:=KC
   simp only[Bq,JJ,F5];rw[q];simp
  |false=>
   simp only[BZ,JJ,F5,j];exact⟨fun h=>h.elim (fun e=>.inr (.inl e)) fun h=>h.elim .inl fun h=>.inr (.inr h),fun h=>h.elim (fun e=>.inr (.inl e)) fun h=>h.elim .inl fun h=>.inr (.inr h)⟩
def abA {m:A8 (Int×Int)} {k v:Int} (h:(m.map (·.1)).Nodup):((FM m k v).map (·.1)).Nodup:=by
 induction m with
 |nil=>simp[FM]
 |cons p m u=>
  have h':=Nh.1 h;unfold FM;cases q:k==p.1 with
  |true=>
   have j:k=p.1:=Np
   simp only[Bq,JJ];rw[j];exact h
  |false=>
   have j:k≠p.1:=Np
   simp only[BZ,JJ];refine Nh.2 ⟨fun hm=>?_,u h'.2⟩;rcases amg.1 hm with e|hm
   ·exact j e.symm
   exact h'.1 hm
def ac3 (m:A8 (Int×Int)) (k v:Int):(FM m k v).length<=m.length+1:=by
 induction m with
 |nil=>simp[FM]
 |cons p m j=>
  unfold FM;cases k==p.1 with
  |true=>simp
  |false=>simp only[BZ,GZ];omega
def NC.step {m:A8 (Int×Int)} {f:Int->Nat} (h:NC m f) (x:Int) (u:f x<=1000000):NC (stepM m x) (fun y=>f y+if y=x then 1 else 0):=by
 refine⟨abA h.nodup,fun y=>?_⟩;unfold stepM;rw[Qk,h.find x]
 have e:Ar (((if f x=0 then none else some (f x:Int)).getD 0)+1)=((f x+1:Nat):Int):=by
  by_cases j:f x=0
  ·rw[DX j,j];rfl
  rw[Dk j];show Ar ((f x:Int)+1)=_;exact wrap_succ _ AB
 by_cases q:y=x
 ·subst q;simp only[Ut,Bq,Jr];rw[e,Dk AB]
 have :(y==x)=false:=Np
 rw[this];simp only[BZ,Dk q,OT];exact h.find y
def NC.fold:∀(c:A8 Int) {m:A8 (Int×Int)} {f:Int->Nat},c.Nodup->NC m f->(∀x,f x<=1000)->NC (c.foldl stepM m) (fun y=>f y+if y∈c then 1 else 0)
 | [],m,f,_,h,_=>by
   refine⟨h.nodup,fun x=>?_⟩;simp only[List.foldl_nil,FB,KT,OT];exact h.find x
 |x::c,m,f,q,h,M=>by
  have j:=Nh.1 q
  have key:∀(c:A8 Int) (m:A8 (Int×Int)) (g:Int->Nat),c.Nodup->NC m g->(∀x∈c,g x<=1000)->NC (c.foldl stepM m) (fun y=>g y+if y∈c then 1 else 0):=by
   intro c
   induction c with
   |nil=>intro m g _ h _;refine⟨h.nodup,fun x=>?_⟩;simp only[List.foldl_nil,FB,KT,OT];exact h.find x
   |cons z c O=>
    intro m g q h I;have j:=Nh.1 q
    have J:=O (stepM m z) (fun y=>g y+if y=z then 1 else 0) j.2 (h.step z (by have :=I z (GU ..);omega)) fun y L=>by
     have u:y≠z:=fun e=>j.1 (e▸L);simp only[Dk u,OT];exact I y (Gv _ L)
    refine⟨J.nodup,fun y=>?_⟩;rw[Gm,J.find y]
    have :(g y+if y=z then 1 else 0)+(if y∈c then 1 else 0)=g y+if y∈z::c then 1 else 0:=by
     by_cases e:y=z
     ·subst e;simp[j.1]
     simp[e]
    simp only[this]
  exact key (x::c) m f q h fun y _=>M y
def aMU :∀(c:A8 Int) (m:A8 (Int×Int)),(c.foldl stepM m).length<=m.length+c.length
 | [],m=>Bj
 |x::c,m=>by
  have j:=aMU c (stepM m x);have q:=ac3 m x (Ar (((DV m x).getD 0)+1));rw[Gm,GZ];unfold stepM at j ⊢;omega
def Uo {l:A8 Int} (h:Inc l):l.Nodup:=h.imp fun h=>AB
def NC.mem {m:A8 (Int×Int)} {f:Int->Nat} (h:NC m f) {x n:Int}:(x,n)∈m↔f x≠0/\n=f x:=by
 have key:∀m:A8 (Int×Int),(m.map (·.1)).Nodup->((x,n)∈m↔DV m x=some n):=by
  intro m
  induction m with
  |nil=>intro _;simp[DV]
  |cons p m I=>
   intro J;have j:=Nh.1 J;unfold DV;rw[F5];cases z:x==p.1 with
   |true=>
    have q:x=p.1:=MW
    simp only[Bq,Jh];constructor
    ·rintro(e|hm)
     ·rw[←e]
     exact absurd (FY.2 ⟨_,hm,q⟩) j.1
    intro e;left;rw[q,←e]
   |false=>
    have q:x≠p.1:=MW
    simp only[BZ];rw[←I j.2];exact⟨fun h=>h.elim (fun e=>absurd (by rw[←e]) q) id,.inr⟩
 rw[key m h.nodup,h.find x];by_cases u:f x=0
 ·simp[u]
 rw[Dk u];simp only[Jh,ne_eq,u,not_false_eq_true,true_and];exact eq_comm
def aXW {l:A8 Int} (h:l.Nodup):Qb l=Eh l:=by
 refine CZ ?_ (Kt l) fun x=>by rw[KR];exact(TS l).mem_iff
 have j:=pR l;have q:(Qb l).Nodup:=(TS l).nodup_iff.2 h;exact(j.and q).imp fun h=>AB
def aM1 (n:Int):∀(m:A8 (Int×Int)) (r:A8 Int) (bH:A8 (A8 BM)),(bH.length:Int)=n->r.length+m.length<=1000000->List.foldlM (X5 bH) r m=some (r++(m.filter fun p=>p.2<n).map (·.1))
 | [],r,bH,_,_=>Bj
 |p::m,r,bH,hs,q=>by
  simp only[GZ]at q;have e:X5 bH r p=(bif p.2<n then(DL 8 r [p.1]).bind fun j=>some j else some r):=by unfold X5;rw[hs]
  rw[Ud,e];cases hd:decide (p.2<n)with
  |true=>
   simp only[Bq];rw[ED Fz];simp only[Af];show List.foldlM (X5 bH) (r++[p.1]) m=_;rw[aM1 n m (r++[p.1]) bH hs Ub,Ru,DX hd];simp
  |false=>
   simp only[BZ];show List.foldlM (X5 bH) r m=_;rw[aM1 n m r bH hs AB,Ru,Dk (by simp[hd])]
def aYa (l:A8 AX) (bH:A8 (A8 BM)) (x:Int):Ko l bH x<=bH.length:=List.countP_le_length
def NC.of_eq {m:A8 (Int×Int)} {f g:Int->Nat} (h:NC m f) (e:∀x,f x=g x):NC m g:=⟨h.nodup,fun x=>by rw[h.find,e]⟩
def adV (l:A8 AX) (bH:A8 (A8 BM)) (hl:l.length<=1000) (ha:RN l) (hs:OU bH):vG l bH=some (UC l bH):=by
 unfold vG aUt;have hsl:=hs.len;rw[nK (a0:=[]) bH AB (fun m s=>(Gx l s).foldl stepM m) (fun i m=>NC m (Ko l (bH.take i))/\m.length<=1100*i) (fun v2=>(Iy 8 (0:Int) 0 (v2.length:Int)).bind fun L=>(List.foldlM (X5 bH) L v2).bind jH) ⟨⟨Zv,fun x=>rfl⟩,Du _⟩]
 ·obtain⟨J,hlen⟩:NC (bH.foldl (fun m s=>(Gx l s).foldl stepM m) []) (Ko l bH)/\(bH.foldl (fun m s=>(Gx l s).foldl stepM m) []).length<=1100*bH.length:=by
   have key:∀(b a:A8 (A8 BM)) (m:A8 (Int×Int)),(∀s∈b,s.length<=100)->a.length+b.length<=100->NC m (Ko l a)->m.length<=1100*a.length->NC (b.foldl (fun m s=>(Gx l s).foldl stepM m) m) (Ko l (a++b))/\(b.foldl (fun m s=>(Gx l s).foldl stepM m) m).length<=1100*(a.length+b.length):=by
    intro b
    induction b with
    |nil=>intro a m _ _ z I;simpa using⟨z,I⟩
    |cons s b ih=>
     intro a m hb M z I;rw[Gm,List.append_cons];have hc:=qE l s;have q:=hb s (GU ..);have O:=aMU (Gx l s) m;simp only[GZ]at M ⊢;have :=ih (a++[s]) ((Gx l s).foldl stepM m) (fun t ht=>hb t (Gv _ ht)) Ub ?_ Ub
     ·simpa[Sl,Ue 1]using this
     refine(NC.fold (Gx l s) (Uo (aSr l s)) z fun x=>by have :=aYa l a x;omega).of_eq fun x=>?_;unfold Ko;rw[List.countP_append,List.countP_singleton];by_cases u:x∈Gx l s
     ·rw[DX u,DX (LJ.2 u)]
     rw[Dk u,Dk (by rw[PG.2 u];simp)]
   have :=key bH [] [] (fun s h=>(hs.each s h).1) (by simpa using hs.len) ⟨Zv,fun x=>rfl⟩ (Du _);simpa using this
  generalize bH.foldl (fun m s=>(Gx l s).foldl stepM m) []=m at J hlen
  have hm:Iy 8 (0:Int) 0 (m.length:Int)=some []:=by
   unfold Iy;rw[DX aD3];rfl
  rw[hm];simp only[Af];rw[aM1 (bH.length:Int) m [] bH rfl TB];simp only[Af,Ik];have U:((m.filter fun p=>p.2<(bH.length:Int)).map (·.1)).Nodup:=J.nodup.sublist (RI.map _);have hle:((m.filter fun p=>p.2<(bH.length:Int)).map (·.1)).length<=m.length:=by rw[DY];exact KL _ _
  unfold jH N7;rw[DX AB];simp only[Af];congr 1;rw[aXW U];refine CZ (Kt _) (aam _ _) fun x=>?_;rw[KR,FY];unfold UC;rw[HY,adl];constructor
  ·rintro⟨⟨y,n⟩,hp,rfl⟩;rw[HY]at hp;obtain⟨z,I⟩:=J.mem.1 hp.1;have O:n<(bH.length:Int):=by simpa using hp.2
   subst I;refine⟨?_,EN⟩;have :0<Ko l bH y:=AB
   obtain⟨s,Y,Z⟩:=List.countP_pos_iff.1 this;exact⟨s,Y,LJ.1 Z⟩
  rintro⟨⟨s,z,I⟩,O⟩;have h4:0<Ko l bH x:=List.countP_pos_iff.2 ⟨s,z,LJ.2 I⟩;refine⟨(x,(Ko l bH x:Int)),HY.2 ⟨J.mem.2 ⟨AB,rfl⟩,?_⟩,rfl⟩;have h5:Ko l bH x<bH.length:=a2S
  simp;omega
 ·intro k m i h hI;have hc:=qE l bH[i];have q:=(hs.each bH[i] (Ej h)).1;refine⟨⟨?_,?_⟩,?_⟩
  ·refine(NC.fold (Gx l bH[i]) (Uo (aSr l bH[i])) hI.1 fun x=>by have :=aYa l (bH.take i) x;rw[G6]at this;omega).of_eq fun x=>?_;rw[OE h];unfold Ko;rw[List.countP_append,List.countP_singleton];by_cases u:x∈Gx l bH[i]
   ·rw[DX u,DX (LJ.2 u)]
   rw[Dk u,Dk (by rw[PG.2 u];simp)]
  ·have :=aMU (Gx l bH[i]) m;have :=hI.2;omega
  unfold aEW;rw[DU h,al2 l _ hl ha q];simp only[Af];unfold aRn;rw[nK (Gx l bH[i]) AB stepM (fun _ _=>True) (fun v8=>k (Ar ((i:Int)+1)) v8) trivial]
  ·intro k2 a j hj _;refine⟨trivial,?_⟩;unfold a2q;rw[DU hj];rfl
  intro k2 a _;unfold a2q;rw[EO]
 intro k m hI;unfold aEW;rw[EO]
def ads {R A B α:Type} {body:(A->B->Int->AO R)->A->B->Int->AO R} (l:A8 α) (hl:l.length<=1099511627776) (f:A->B->α->A) (g:A->B->α->B) (I:Nat->A->B->Prop) (j:A->B->AO R) {Q:R->Prop} {a0:A} {q:B} (u:I 0 a0 q)
 (z:∀k a b (i:Nat) (h:i<l.length),I i a b->I (i+1) (f a b l[i]) (g a b l[i])/\body k a b (i:Int)=k (f a b l[i]) (g a b l[i]) (Ar ((i:Int)+1)))
 (J:∀k a b,I l.length a b->body k a b (l.length:Int)=j a b) (L:∀a b,I l.length a b->fF (j a b) Q):fF (gZ body Az a0 q 0) Q:=by
 refine RS (body:=body) (Q:=Q) (fun m a b c=>∃i:Nat,c=i/\i+m=l.length/\I i a b) ?_ Az l.length a0 q 0 (fuel_lt hl) ⟨0,rfl,AB,u⟩;rintro m a b c k ⟨i,rfl,hm,hi⟩ M;by_cases e:i<l.length
 ·obtain⟨O,U⟩:=z k a b i e hi;rw[U,wrap_succ i AB];exact M (m-1) _ _ _ AB ⟨i+1,rfl,AB,O⟩
 have :i=l.length:=AB
 subst this;rw[J _ _ _ hi];exact L a b hi
def aJq (x:Int):∀(cs:A8 (A8 Int)) (n:Nat),n+cs.length<=1000000->cs.foldl (fun(n:Int) c=>bif ER c x then Ar (n+1)else n) (n:Int)=((n+cs.countP (fun c=>ER c x):Nat):Int)
 | [],n,_=>Bj
 |c::cs,n,h=>by
  rw[GZ]at h;rw[Gm,List.countP_cons];cases j:ER c x with
  |true=>
   simp only[Bq,Jr];rw[wrap_succ n AB,aJq x cs (n+1) AB];congr 1;omega
  |false=>
   simp only[BZ,RU,KT,OT];exact aJq x cs n AB
def aZn (l:A8 AX) (bH:A8 (A8 BM)) (hl:l.length<=1000) (ha:RN l) (hs:OU bH):a0b l bH=some (UC l bH):=by
 refine fF.eq ?_;unfold a0b aUm;have M:=hs.len
 have z:∀i,(allOf l (bH.take i)).length<=1100*i:=by
  intro i;have O:=a3f l (bH.take i) [] fun s h=>(hs.each s (mG h)).1;rw[G6,N8]at O;have h2:min i bH.length*(100+l.length)<=i*1100:=a2O (aIz _ _) AB;unfold allOf;omega
 refine ads bH AB (fun a _ s=>a++[Gx l s]) (fun _ b s=>Ii b (Gx l s)) (fun i a b=>a=(bH.take i).map (Gx l)/\b=allOf l (bH.take i)) (fun a b=>aJU b a [] 0) ⟨rfl,rfl⟩ ?_ ?_ ?_
 ·rintro k a b i h ⟨rfl,rfl⟩;have U:=qE l bH[i];have q:=(hs.each bH[i] (Ej h)).1;have u:bH.take (i+1)=bH.take i++[bH[i]]:=OE h;refine⟨⟨by rw[u,Kw];rfl,by rw[u];unfold allOf;rw[V5];rfl⟩,?_⟩;unfold aLB;rw[dec_lt h,D5 h];simp only[Bq,Af];rw[abx l _ hl ha q];simp only[Af];rw[ED (by simp only[DY,G6,Ns];omega)];simp only[Af];have :=z i;rw[aEs _ _ AB AB];rfl
 ·rintro k a b ⟨rfl,rfl⟩;unfold aLB;rw[Dq];rfl
 rintro a b ⟨rfl,rfl⟩;rw[GX];refine fF.of ?_;have Y:=z bH.length;rw[GX]at Y;unfold aJU;rw[Ia (allOf l bH) AB (fun r x=>bif Ko l bH x<bH.length then r++[x]else r) (fun i r=>r.length<=i) (fun r=>some r) (EX _)]
 ·congr 1;unfold UC
  have key:∀(S r:A8 Int),S.foldl (fun r x=>bif Ko l bH x<bH.length then r++[x]else r) r=r++S.filter (fun x=>Ko l bH x<bH.length):=by
   intro S
   induction S with
   |nil=>intro r;simp
   |cons x S Z=>
    intro r;rw[Gm,Z,Ru];cases decide (Ko l bH x<bH.length)<;>simp
  simpa using key (allOf l bH) []
 ·intro k r i h hI;refine⟨?_,?_⟩
  ·cases decide (Ko l bH (allOf l bH)[i]<bH.length)with
   |false=>show r.length<=i+1;omega
   |true=>show(r++[(allOf l bH)[i]]).length<=i+1;simp;omega
  unfold aHs;rw[dec_lt h];simp only[Bq];unfold aQb
  rw[Ia (bH.map (Gx l)) Xh (fun(n:Int) c=>bif ER c (allOf l bH)[i]then Ar (n+1)else n) (fun _ _=>True)
   (fun n=>bif n<((bH.map (Gx l)).length:Int) then k (r++[(allOf l bH)[i]]) (Ar ((i:Int)+1))else k r (Ar ((i:Int)+1))) trivial]
  ·have I:=aJq (allOf l bH)[i] (bH.map (Gx l)) 0 Xh;rw[show((0:Nat):Int)=0 from rfl]at I;rw[I,List.countP_map,DY,J3]
   have e:decide (((bH.countP ((fun c=>ER c (allOf l bH)[i])∘Gx l):Nat):Int)<(bH.length:Int))=decide (Ko l bH (allOf l bH)[i]<bH.length):=by
    unfold Ko;rw[bY];exact Int.ofNat_lt
   rw[e];cases decide (Ko l bH (allOf l bH)[i]<bH.length)<;>rfl
  ·intro k2 n j J _;refine⟨trivial,?_⟩;have L:j<bH.length:=by rw[DY]at J;exact J
   have U:=qE l bH[j];have q:=(hs.each bH[j] (Ej L)).1;unfold aHj;rw[dec_lt J,D5 J,D5 h];simp only[Bq,Af];rw[Wv _ _ (by rw[Tt];omega)];simp only[Af];cases ER (bH.map (Gx l))[j] (allOf l bH)[i]<;>rfl
  intro k2 n _;unfold aHj;rw[Dq];simp only[BZ];rw[D5 h];simp only[Af];rw[ED Fz];cases decide (n<((bH.map (Gx l)).length:Int))<;>rfl
 intro k r _;unfold aHs;rw[Dq];rfl
def amB (l:A8 AX) (bH:A8 (A8 BM)) (hl:l.length<=1000) (ha:RN l) (hs:OU bH):aEL l bH=some (Lp l bH):=by
 have j:=aDe hs;have q:=MG (Sj bH);have u:=aQB hs hl;unfold aEL;rw[aTP bH hs,adV l bH hl ha hs];simp only[Af];rw[ED AB];simp only[Af];rw[aUW _ LK];unfold Lp;rw[sV]
def aZk (l:A8 AX) (bH:A8 (A8 BM)) (hl:l.length<=1000) (ha:RN l) (hs:OU bH):aCQ l bH=some (Lp l bH):=by
 have j:=aDe hs;have q:=MG (Sj bH);have u:=aQB hs hl;unfold aCQ;rw[aS4 bH hs,aZn l bH hl ha hs];simp only[Af];rw[aEs _ _ AB AB];rfl
def E9 (l:A8 AX):Prop:=∀e∈l,FV e
def E9.akJ {l:A8 AX} (h:E9 l):RN l:=fun e j=>(h e j).auth
def aGi {R A α:Type} {body:(A->Int->AO R)->A->Int->AO R} (l:A8 α) (hl:l.length<Az) (p:α->Ad) (g:Nat->AO R) (rest:AO R) (a0:A)
 (u:∀k (i:Nat) (h:i<l.length),body k a0 (i:Int)=bif p l[i]then g i else k a0 (Ar ((i:Int)+1))) (z:∀k,body k a0 (l.length:Int)=rest):
 aU body Az a0 0=if l.findIdx p<l.length then g (l.findIdx p)else rest:=by
 have J:Az=9223372036854775808:=rfl
 have key:∀n (i:Nat),i+n=l.length->∀m,n<m->aU body m a0 (i:Int)=if(l.drop i).findIdx p+i<l.length then g ((l.drop i).findIdx p+i)else rest:=by
  intro n
  induction n with
  |zero=>
   intro i hi m hm;obtain⟨m,rfl⟩:∃q,m=q+1:=⟨m-1,AB⟩
   have :i=l.length:=AB
   subst this;show body (aU body m) _ _=_;rw[z,PE,Dk Bj]
  |succ n I=>
   intro i hi m hm;obtain⟨m,rfl⟩:∃q,m=q+1:=⟨m-1,AB⟩
   have j:i<l.length:=AB
   show body (aU body m) _ _=_;rw[u _ i j,wrap_succ i AB,I (i+1) AB m AB,Ku j,RQ];cases p l[i]with
   |true=>simp only[Bq,J3];rw[DX j]
   |false=>
    simp only[BZ];rw[show(l.drop (i+1)).findIdx p+(i+1)=(l.drop (i+1)).findIdx p+1+i by omega]
 have :=key l.length 0 AB Az hl;simpa using this
def VN {s:A8 BM} {k:Int} {key:BA} {id:Int} {x:BM} (h:x∈Gi s k key id):x=⟨k,key,id⟩\/x∈s:=by
 unfold Gi at h;rcases Il.1 h with h|h
 ·exact .inr (mG h)
 rcases F5.1 h with h|h
 ·exact .inl h
 exact .inr (bI h)
def wI (s:A8 BM):Prop:=∀x∈s,x.Id=0
def bU {s:A8 BM} {k:Int} {key:BA} (h:wI s):wI (Gi s k key 0):=fun x j=>by
 rcases VN j with rfl|j
 ·rfl
 exact h x j
def Rch (l:A8 BM) (k:Int) (key:BA) (j:Int):AO Bd:=
 (bif j<(l.length:Int) then(Am l j).bind fun q=>some (q.Kind==k)else some false).bind fun u=>(bif u then(Am l j).bind fun z=>some (z.Key.toList==key.toList)else some false).bind fun I=>(bif I then some l else(IE l 0 j).bind fun J=>(DL 32 [] J).bind fun L=>(DL 32 L [(⟨k,key,0⟩:BM)]).bind fun M=>(IE l j ((l).length)).bind fun O=>(DL 32 M O).bind fun U=>some U)
def wX (s:A8 BM) (k:Int) (key:BA) (hs:s.length<=1000000) (u:wI s):Vr s k key=some (Gi s k key 0):=by
 unfold Vr aTF
 have j:Rch s k key ((FX s ⟨k,key,0⟩:Nat):Int)=some (Gi s k key 0):=by
  have hp:=oW s ⟨k,key,0⟩;unfold Rch Gi
  have q:((IE s 0 ((FX s ⟨k,key,0⟩:Nat):Int)).bind fun z=>(DL 32 [] z).bind fun I=>(DL 32 I [(⟨k,key,0⟩:BM)]).bind fun J=>(IE s ((FX s ⟨k,key,0⟩:Nat):Int) ((s).length)).bind fun L=>(DL 32 J L).bind fun M=>some M)=some (s.take (FX s ⟨k,key,0⟩)++⟨k,key,0⟩::s.drop (FX s ⟨k,key,0⟩)):=by
   rw[zY hp];simp only[Af];rw[ED EN];simp only[Af,Ik];rw[ED EN];simp only[Af];rw[VZ hp];simp only[Af];rw[ED EN];simp
  rw[q];by_cases hl:FX s ⟨k,key,0⟩<s.length
  ·rw[dec_lt hl,D5 hl];simp only[Bq,Af]
   have O:LD s ⟨k,key,0⟩=(s[FX s ⟨k,key,0⟩].Kind==k&&(s[FX s ⟨k,key,0⟩].Key=key)):=by
    unfold LD;rw[EK hl];rfl
   rw[O,J7];cases Y:s[FX s ⟨k,key,0⟩].Kind==k with
   |false=>rfl
   |true=>
    simp only[Bq,Af,Gh];cases hd:decide (s[FX s ⟨k,key,0⟩].Key=key)with
    |true=>
     simp only[Bq];have Z:s[FX s ⟨k,key,0⟩].Kind=k:=WJ
     have h2:s[FX s ⟨k,key,0⟩].Key=key:=by simpa using hd
     have h3:=u _ (Ej hl)
     have h4:(⟨k,key,0⟩:BM)=s[FX s ⟨k,key,0⟩]:=by
      have :∀(y:BM),y.Kind=k->y.Key=key->y.Id=0->(⟨k,key,0⟩:BM)=y:=fun y a b c=>by cases y;simp only at a b c;rw[a,b,c]
      exact this _ Z h2 h3
     congr 1
     conv=>rhs;arg 2;arg 1;rw[h4]
     rw[←Ku hl,SI]
    |false=>rfl
  have u:FX s ⟨k,key,0⟩=s.length:=AB
  have O:LD s ⟨k,key,0⟩=false:=by unfold LD;rw[u,J5 (EX _)]
  rw[O,u,Dq];rfl
 rw[KG s (fuel_lt AB) (fun x=> !Fh x ⟨k,key,0⟩) (fun i=>Rch s k key (i:Int)) (Rch s k key (s.length:Int))]
 ·split
  ·exact j
  rename_i h;have u:FX s ⟨k,key,0⟩=s.length:=aXD
  rw[u]at j;exact j
 ·intro k2 i h;unfold aMH
  have e:(bif (i:Int)<(s.length:Int) then(Am s (i:Int)).bind fun x5=>(bif x5.Kind<k then some true else(Am s (i:Int)).bind fun x8=>(bif (x8.Kind==k)then(Am s (i:Int)).bind fun U=>some (Op.bytesLess (U.Key.toList) (key.toList))else some false).bind fun x9=>some x9).bind fun x6=>some x6 else some false)=some (Fh s[i] ⟨k,key,0⟩):=by
   rw[dec_lt h,D5 h];simp only[Bq,Af];unfold Fh;cases decide (s[i].Kind<k)<;>cases s[i].Kind==k<;>rfl
  rw[e];simp only[Af];cases Fh s[i] ⟨k,key,0⟩<;>rfl
 intro k2;unfold aMH;rw[Dq];simp only[BZ,Af];unfold Rch;rw[Dq];rfl
def Mc (e:AX):A8 BM:=Gi (Gi (Gi [] 1 CU 0) 3 CU 0) 2 e.bG 0
def keysOf (e:AX):A8 BM:=
 bif e.Kind==1 then[]else bif e.Kind==2 then(bif e.Content.N==3||e.Content.N==1||e.Content.N==2 then Gi (Gi (Mc e) 2 e.Key 0) 4 CU 0 else Gi (Mc e) 2 e.Key 0)else Mc e
def aIR (e:AX):(Mc e).length<=3:=by
 have j:=QE [] 1 CU 0;have q:=QE (Gi [] 1 CU 0) 3 CU 0;have u:=QE (Gi (Gi [] 1 CU 0) 3 CU 0) 2 e.bG 0;unfold Mc;simp only[N8]at j;omega
def aWv (e:AX):wI (Mc e):=bU (bU (bU fun x j=>absurd j FB))
def RX (e:AX):(keysOf e).length<=5:=by
 have j:=aIR e;have q:=QE (Mc e) 2 e.Key 0;have u:=QE (Gi (Mc e) 2 e.Key 0) 4 CU 0;unfold keysOf;cases e.Kind==1<;>cases e.Kind==2<;>cases(e.Content.N==3||e.Content.N==1||e.Content.N==2)<;>simp only[Bq,BZ,N8]<;>omega
def aQw (e:AX):zy e=some (keysOf e):=by
 have q:=aIR e;have u:=QE (Mc e) 2 e.Key 0;have j:=QE [] 1 CU 0;have z:=QE (Gi [] 1 CU 0) 3 CU 0;simp only[N8]at j;unfold zy keysOf;rw[Xl [] 1 CU 0 Bj];simp only[Af];rw[Xl _ 3 CU 0 AB];simp only[Af];rw[Xl _ 2 e.bG 0 AB];simp only[Af];show(bif e.Kind==1 then some []else bif e.Kind==2 then(SH (Mc e) 2 e.Key 0).bind _ else oV (Mc e))=_;rw[Xl (Mc e) 2 e.Key 0 AB];simp only[Af];rw[Xl _ 4 CU 0 AB];unfold oV;cases e.Kind==1<;>cases e.Kind==2<;>cases e.Content.N==3<;>cases e.Content.N==1<;>cases e.Content.N==2<;>rfl
def aB1 (e:AX):aY e=some (keysOf e):=by
 have z:=aIR e;have I:=QE (Mc e) 2 e.Key 0;have q:=QE [] 1 CU 0;have J:=QE (Gi [] 1 CU 0) 3 CU 0;have z0:wI []:=fun x u=>absurd u FB;simp only[N8]at q;unfold aY keysOf;rw[wX [] 1 CU Bj z0];simp only[Af];rw[wX _ 3 CU AB (bU z0)];simp only[Af];rw[wX _ 2 e.bG AB (bU (bU z0))];simp only[Af];show(bif e.Kind==1 then some []else bif e.Kind != 2 then some (Mc e)else(Vr (Mc e) 2 e.Key).bind _)=_;rw[wX (Mc e) 2 e.Key AB (aWv e)];simp only[Af];rw[wX _ 4 CU AB (bU (aWv e))];unfold a0i;have j:(e.Kind != 2)= !(e.Kind==2):=rfl;rw[j];cases e.Kind==1<;>cases e.Kind==2<;>cases e.Content.N==3<;>cases e.Content.N==1<;>cases e.Content.N==2<;>rfl
def FT (k:BM) (x:AX):Ad:=x.Kind==k.Kind&&(x.Key=k.Key)
def WW (l:A8 AX) (e:AX):A8 AX:=(keysOf e).flatMap fun k=>((ofIds l e.bT).find? (FT k)).toList
def flat_length {α β:Type} {f:α->A8 β} {n:Nat} (h:∀x,(f x).length<=n):∀l:A8 α,(l.flatMap f).length<=n*l.length
 | []=>Bj
 |x::l=>by
  have j:=h x;have q:=flat_length h l;rw[MC,EZ,GZ,Nat.mul_succ];omega
def aFJ (l:A8 AX) (e:AX):(WW l e).length<=5:=by
 have j:=flat_length (f:=fun k=>((ofIds l e.bT).find? (FT k)).toList) (n:=1) (fun k=>toList_le _) (keysOf e);have q:=RX e;unfold WW;omega
def a1C {l:A8 AX} {ids:A8 Int} {x:AX} (h:x∈ofIds l ids):x∈l:=by
 obtain⟨i,_,h⟩:=TR.1 h;exact NV h
def amQ {l:A8 AX} {e x:AX} (h:x∈WW l e):x∈l:=by
 obtain⟨k,_,h⟩:=XA.1 h;have :(ofIds l e.bT).find? (FT k)=some x:=KC
 exact a1C (dP this)
def J6 (x:BM):QH:=⟨x.Kind,x.Key⟩
def aKH (e:AX):nH e=some ((keysOf e).map J6):=by
 unfold nH;rw[aQw];simp only[Af];have q:=RX e;unfold aWS;rw[Ia (keysOf e) AB (fun r x=>r++[J6 x]) (fun i r=>r.length<=i) (fun r=>some r) (EX _)]
 ·rw[foldl_append (fun x=>[J6 x]),Ik];congr 1
  induction keysOf e with
  |nil=>rfl
  |cons x s j=>rw[MC,j];rfl
 ·intro k r i h u;refine⟨aCk,?_⟩;unfold aLv;rw[DU h,ED Fz];rfl
 intro k r _;unfold aLv;rw[EO]
def aRj (l:A8 AX) (p:AX->Ad):∀ids:A8 Int,(ofIds l ids).find? p=(ids.find? fun i=>match Ed l i with |some x=>p x|none=>false).bind (Ed l)
 | []=>rfl
 |i::ids=>by
  have j:=aRj l p ids;unfold ofIds at j ⊢;rw[QC,VA];cases q:Ed l i with
  |none=>exact j
  |some x=>
   simp only;rw[VA];cases p x with
   |true=>exact q.symm
   |false=>exact j
def aXO (l:A8 AX) (e:AX) (hl:l.length<=1000) (I:e.bT.length<=40):yL l e=some (WW l e):=by
 unfold yL;rw[aKH];simp only[Af];have J:=RX e;unfold aSi;rw[Ia (a0:=[]) ((keysOf e).map J6) Xh (fun r k=>r++((ofIds l e.bT).find? fun x=>x.Kind==k.YC&&(x.Key=k.YD)).toList) (fun i r=>r.length<=i) (fun r=>some r) (EX _)]
 ·congr 1;rw[foldl_append (fun k:QH=>((ofIds l e.bT).find? fun x=>x.Kind==k.YC&&(x.Key=k.YD)).toList),Ik,aMc];rfl
 ·intro k r i h L;have ht:=toList_le ((ofIds l e.bT).find? fun x=>x.Kind==((keysOf e).map J6)[i].YC&&(x.Key=((keysOf e).map J6)[i].YD));refine⟨LK,?_⟩;have hi:i<5:=by rw[DY]at h;omega
  unfold aGD;rw[DU h];generalize((keysOf e).map J6)[i]=K;unfold aP4
  rw[aGi e.bT (fuel_lt AB) (fun id=>match Ed l id with |some x=>x.Kind==K.YC&&(x.Key=K.YD)|none=>false)
   (fun j=>yV k (i:Int) (r++(match e.bT[j]? with |some id=>(Ed l id).toList|none=>[]))) (yV k (i:Int) r)]
  ·rw[aRj,LZ];by_cases q:e.bT.findIdx (fun id=>match Ed l id with |some x=>x.Kind==K.YC&&(x.Key=K.YD)|none=>false)<e.bT.length
   ·rw[DX q,EK q];rfl
   rw[Dk q,J5 AB];simp only[Option.bind_none,aHq,P8];rfl
  ·intro k2 j u;unfold aIF;rw[DU u,Ot l _ AB,EK u];simp only[Af];cases z:Ed l e.bT[j]with
   |none=>rw[SK z];rfl
   |some x=>
    rw[Nl z];simp only[Bq,RV];unfold X3;rw[J7];rw[ED Fz];cases x.Kind==K.YC<;>cases decide (x.Key=K.YD)<;>rfl
  intro k2;unfold aIF;rw[EO]
 intro k r _;unfold aGD;rw[EO]
def aQT (l:A8 AX) (e:AX) (hl:l.length<=1000) (Y:e.bT.length<=40):zZ l e=some (WW l e):=by
 unfold zZ;rw[aB1,aJt l _ hl AB];simp only[Af];have Z:=RX e;have L:=ZK l e.bT;unfold aV3;rw[Ia (a0:=[]) (keysOf e) AB (fun r k=>r++((ofIds l e.bT).find? (FT k)).toList) (fun i r=>r.length<=i) (fun r=>some r) (EX _)]
 ·rw[foldl_append (fun k:BM=>((ofIds l e.bT).find? (FT k)).toList),Ik];rfl
 ·intro k r i h hI;have ht:=toList_le ((ofIds l e.bT).find? (FT (keysOf e)[i]));refine⟨LK,?_⟩;have hi:i<5:=AB
  unfold aMY;rw[dec_lt h];simp only[Bq];generalize ofIds l e.bT=O at L ht;unfold aP9
  have u:∀m (a:A8 AX) (j:Int),0<m->gZ (Qi O (keysOf e) (i:Int) k) m a true j=k a (Ar ((i:Int)+1)):=by
   intro m a j hm;obtain⟨m,rfl⟩:∃I,m=I+1:=⟨m-1,AB⟩
   show Qi O (keysOf e) (i:Int) k (gZ (Qi O (keysOf e) (i:Int) k) m) a true j=_;unfold Qi;cases decide (j<(O.length:Int))<;>rfl
  have key:∀n (j:Nat),j+n=O.length->∀m,n+1<m->gZ (Qi O (keysOf e) (i:Int) k) m r false (j:Int)=k (r++((O.drop j).find? (FT (keysOf e)[i])).toList) (Ar ((i:Int)+1)):=by
   intro n
   induction n with
   |zero=>
    intro j M m hm;obtain⟨m,rfl⟩:∃I,m=I+1:=⟨m-1,AB⟩
    have :j=O.length:=AB
    subst this;show Qi O (keysOf e) (i:Int) k (gZ (Qi O (keysOf e) (i:Int) k) m) r false _=_;unfold Qi;rw[Dq,PE];simp
   |succ n U=>
    intro j M m hm;obtain⟨m,rfl⟩:∃I,m=I+1:=⟨m-1,AB⟩
    have z:j<O.length:=AB
    have J:=U (j+1) AB m AB;show Qi O (keysOf e) (i:Int) k (gZ (Qi O (keysOf e) (i:Int) k) m) r false _=_;have q:=u m;generalize gZ (Qi O (keysOf e) (i:Int) k) m=K at J q;unfold Qi aEE a2t;rw[dec_lt z,D5 z,D5 h];simp only[Bq,Iu,Af];rw[J7,wrap_succ j AB,Ku z,VA,J];rw[ED Fz];simp only[Af];rw[q _ _ AB];unfold FT;cases O[j].Kind==(keysOf e)[i].Kind<;>cases decide (O[j].Key=(keysOf e)[i].Key)<;>rfl
  have :=key O.length 0 AB Az ni;exact this
 intro k r _;unfold aMY;rw[Dq];rfl
def Jc (c:BA):Cx:=bif !(c.toList==CU.toList)then{ XM with Users:=[⟨c,100⟩] }else XM
def Yk (l:A8 AX):BA:=match l.find? fun x=>x.Kind==1 with |some x=>x.bG|none=>CU
def Gs (l:A8 AX):Cx:=match l.find? fun x=>x.Kind==3 with |some x=>x.Content.Levels|none=>Jc (Yk l)
def aTQ (c:BA):vH c=some (Jc c):=by
 unfold vH Jc aDH;cases c.toList==CU.toList<;>rfl
def aTX (c:BA):zJ c=some (Jc c):=by
 unfold zJ Jc a2Y;cases c.toList==CU.toList<;>rfl
def aQs (l:A8 AX) (k:Int) (hl:l.length<=1000):s0 l k=some (if l.findIdx (fun e=>e.Kind==k)<l.length then((l.findIdx (fun e=>e.Kind==k):Nat):Int)else -1):=by
 unfold s0;rw[a1i l AB (fun a0=>a0R a0 k) (fun e=>e.Kind==k) fun _=>rfl];rfl
def aMo (l:A8 AX) (hl:l.length<=1000) (hs:E9 l):jG l=some (Gs l,Yk l):=by
 have q:∀c,mJ l c=some (match l.find? fun x=>x.Kind==3 with |some x=>x.Content.Levels|none=>Jc c,c):=by
  intro c;unfold mJ;rw[aQs l 3 hl,LZ];simp only[Af];by_cases h:l.findIdx (fun e=>e.Kind==3)<l.length
  ·rw[DX h,show decide (((l.findIdx (fun e=>e.Kind==3):Nat):Int)>=0)=true by simp,D5 h,EK h];simp only[Bq,Af];have u:=hs _ (Ej h);have z:=u.users;have I:=u.kinds;unfold a1X aCo;rw[ED TB,ED TB];rfl
  rw[Dk h,J5 AB,aTQ];rfl
 unfold jG;rw[aQs l 1 hl];simp only[Af];by_cases h:l.findIdx (fun e=>e.Kind==1)<l.length
 ·have j:Yk l=l[l.findIdx (fun e=>e.Kind==1)].bG:=by unfold Yk;rw[LZ,EK h]
  rw[DX h,show decide (((l.findIdx (fun e=>e.Kind==1):Nat):Int)>=0)=true by simp,D5 h];simp only[Bq,Af];rw[q,←j];rfl
 have j:Yk l=CU:=by unfold Yk;rw[LZ,J5 AB]
 rw[Dk h];show mJ l CU=_;rw[q,←j];rfl
def aGs (l:A8 AX) (hl:l.length<=1000):jO l=some (Gs l,Yk l):=by
 have I:∀c,aEk l c 0 Jq=some (match l.find? fun x=>x.Kind==3 with |some x=>x.Content.Levels|none=>Jc c,c):=by
  intro c;unfold aEk
  have O:∀{R:Type} {body:(Int->Cx->AO R)->Int->Cx->AO R} (p:AX->Ad) (g:Nat->AO R) (rest:AO R) (a0:Cx)
   (Y:∀k (i:Nat) (h:i<l.length),body k (i:Int) a0=bif p l[i]then g i else k (Ar ((i:Int)+1)) a0) (Z:∀k,body k (l.length:Int) a0=rest),
   aU body Az 0 a0=if l.findIdx p<l.length then g (l.findIdx p)else rest:=by
   intro R body p g rest a0 Y Z;have hf:Az=9223372036854775808:=rfl
   have key:∀n (i:Nat),i+n=l.length->∀m,n<m->aU body m (i:Int) a0=if(l.drop i).findIdx p+i<l.length then g ((l.drop i).findIdx p+i)else rest:=by
    intro n
    induction n with
    |zero=>
     intro i hi m hm;obtain⟨m,rfl⟩:∃z,m=z+1:=⟨m-1,AB⟩
     have :i=l.length:=AB
     subst this;show body (aU body m) _ _=_;rw[Z,PE,Dk Bj]
    |succ n U=>
     intro i hi m hm;obtain⟨m,rfl⟩:∃z,m=z+1:=⟨m-1,AB⟩
     have q:i<l.length:=AB
     show body (aU body m) _ _=_;rw[Y _ i q,wrap_succ i AB,U (i+1) AB m AB,Ku q,RQ];cases p l[i]with
     |true=>simp only[Bq,J3];rw[DX q]
     |false=>
      simp only[BZ];rw[show(l.drop (i+1)).findIdx p+(i+1)=(l.drop (i+1)).findIdx p+1+i by omega]
   have :=key l.length 0 AB Az AB;simpa using this
  rw[O (fun x=>x.Kind==3) (fun i=>some ((match l[i]? with |some x=>x.Content.Levels|none=>Jq),c)) (some (Jc c,c))]
  ·rw[LZ];by_cases h:l.findIdx (fun e=>e.Kind==3)<l.length
   ·rw[DX h,EK h]
   rw[Dk h,J5 AB]
  ·intro k i h;unfold aHx;rw[DU h,D5 h,EK h];rfl
  intro k;unfold aHx;rw[EO,aTX];rfl
 unfold jO aQl;obtain⟨F,M⟩:∃F:BA->AO (Cx×BA),∀c,aEk l c 0 Jq=F c:=⟨_,fun _=>rfl⟩
 simp only[M]at I
 have J:∀m (c:BA) (j:Int),0<m->gZ (Qo l) m c true j=F c:=by
  intro m c j hm;obtain⟨m,rfl⟩:∃z,m=z+1:=⟨m-1,AB⟩
  show Qo l (gZ (Qo l) m) c true j=_;unfold Qo;simp only[M];cases decide (j<(l.length:Int))<;>rfl
 have key:∀n (j:Nat),j+n=l.length->∀m,n+1<m->gZ (Qo l) m CU false (j:Int)=F (match(l.drop j).find? fun x=>x.Kind==1 with |some x=>x.bG|none=>CU):=by
  intro n
  induction n with
  |zero=>
   intro j hj m hm;obtain⟨m,rfl⟩:∃z,m=z+1:=⟨m-1,AB⟩
   have :j=l.length:=AB
   subst this;show Qo l (gZ (Qo l) m) CU false _=_;unfold Qo;simp only[M];rw[Dq,PE];rfl
  |succ n U=>
   intro j hj m hm;obtain⟨m,rfl⟩:∃z,m=z+1:=⟨m-1,AB⟩
   have q:j<l.length:=AB
   have L:=U (j+1) AB m AB;show Qo l (gZ (Qo l) m) CU false _=_;have u:=J m;generalize gZ (Qo l) m=K at L u;unfold Qo aBQ;simp only[M];rw[dec_lt q,D5 q];simp only[Bq,Iu,Af];rw[wrap_succ j AB,Ku q,VA,L,u _ _ AB];cases l[j].Kind==1<;>rfl
 have :=key l.length 0 AB Az ni;rw[show((0:Nat):Int)=0 from rfl]at this;rw[this,I];rfl
def Eb (v:Cx) (u:BA):Int:=match v.Users.find? fun x=>decide (x.User=u)with |some x=>x.N|none=>v.User
def Zi (v:Cx) (u:BA) (h:v.Users.length<=1000):TV v u=some (Eb v u):=by
 unfold TV aWa Eb;rw[KG v.Users (fuel_lt AB) (fun x=>x.User=u) (fun i=>some (match v.Users[i]? with |some x=>x.N|none=>0)) (some v.User)]
 ·rw[LZ];by_cases h:v.Users.findIdx (fun x=>x.User=u)<v.Users.length
  ·rw[DX h,EK h]
  rw[Dk h,J5 AB]
 ·intro k i h;unfold aJT;rw[DU h,J7,EK h]
 intro k;unfold aJT;rw[EO]
def Xx (v:Cx) (u:BA) (h:v.Users.length<=1000):U8 v u=some (Eb v u):=by
 unfold U8 aV7 Eb;rw[KG v.Users (fuel_lt AB) (fun x=>x.User=u) (fun i=>some (match v.Users[i]? with |some x=>x.N|none=>0)) (some v.User)]
 ·rw[LZ];by_cases h:v.Users.findIdx (fun x=>x.User=u)<v.Users.length
  ·rw[DX h,EK h]
  rw[Dk h,J5 AB]
 ·intro k i h;unfold aK3;rw[DU h,J7,EK h,D5 h];rfl
 intro k;unfold aK3;rw[EO]
def nD {l:A8 AX} (h:E9 l):(Gs l).Users.length<=100/\(Gs l).Kinds.length<=100:=by
 unfold Gs;cases j:l.find? fun x=>x.Kind==3 with
 |some x=>
  have :=h x (dP j);exact⟨this.users,this.kinds⟩
 |none=>
  simp only;unfold Jc;cases(Yk l).toList==CU.toList with
  |true=>
   show XM.Users.length<=100/\XM.Kinds.length<=100;exact⟨Bo,Bo⟩
  |false=>
   show 1<=100/\XM.Kinds.length<=100;exact⟨Bo,Bo⟩
def yO (l:A8 AX) (e:AX):Int:=Eb (Gs (WW l e)) e.bG
def E9.from {l:A8 AX} (h:E9 l) (e:AX):E9 (WW l e):=fun x j=>h x (amQ j)
def aef (l:A8 AX) (e:AX) (hl:l.length<=1000) (hs:E9 l) (j:e.bT.length<=40):aCL l e=some (yO l e):=by
 have q:=aFJ l e;have u:=(nD (hs.from e)).1;unfold aCL;rw[aXO l e hl j];simp only[Af];rw[aMo _ AB (hs.from e)];simp only[Af];rw[Zi _ _ AB];rfl
def aQv (l:A8 AX) (e:AX) (hl:l.length<=1000) (hs:E9 l) (j:e.bT.length<=40):uF l e=some (yO l e):=by
 have q:=aFJ l e;have u:=(nD (hs.from e)).1;unfold uF;rw[aQT l e hl j];simp only[Af];rw[aGs _ AB];simp only[Af];rw[Xx _ _ AB];rfl
def TG (e:AX):Ad:=bif e.Kind==2 then(e.Content.N==0||e.Content.N==4)&& !(decide (e.Key=e.bG))else e.Kind==3||e.Kind==4
def aZl (e:AX):a2f e=some (TG e):=by
 unfold a2f aF7 TG;rw[J7];by_cases q:e.Kind=2
 ·simp[q];cases e.Content.N==0<;>cases e.Content.N==4<;>rfl
 have j:(e.Kind==2)=false:=Np
 rw[j];cases e.Kind==3<;>cases e.Kind==4<;>rfl
def abg (e:AX):aDY e=some (TG e):=by
 unfold aDY TG;rw[J7];cases e.Kind==2<;>cases e.Content.N==0<;>cases e.Content.N==4<;>cases e.Kind==3<;>cases e.Kind==4<;>rfl
def aX8 (l:A8 Int) (x:Int) (h:l.length<=1099511627776):a0F l x=some (if l.findIdx (· ==x)<l.length then((l.findIdx (· ==x):Nat):Int)else -1):=by
 unfold a0F aTy;rw[KG l (fuel_lt h) (· ==x) (fun i=>some (i:Int)) (some (-1))]
 ·split<;>rfl
 ·intro k i hi;unfold aJ5;rw[DU hi];have :(x==l[i])=(l[i]==x):=by rw[OY];simp only[Oa];exact eq_comm
  rw[this]
 intro k;unfold aJ5;rw[EO]
def aRL (l:A8 Int) (x:Int):decide (l.findIdx (· ==x)<l.length)=ER l x:=by
 rw[OY,LJ,Hd,Zw];exact⟨fun⟨y,j,q⟩=>by rw[←(by simpa using q:y=x)];exact j,fun h=>⟨x,h,Bj⟩⟩
def vW (l:A8 Int) (x:Int) (h:l.length<=1099511627776):oN l x=some (ER l x):=by
 unfold oN;rw[aX8 l x h,←aRL];by_cases hl:l.findIdx (· ==x)<l.length
 ·rw[DX hl,Ih hl];simp
 rw[Dk hl,IX hl];rfl
def aT2 (l:A8 Int) (x:Int) (h:l.length<=1099511627776):lD l x=some (ER l x):=by
 unfold lD;rw[vW l x h];rfl
def ev (l:A8 AX) (id:Int):AX:=(Hr l id).1
def Yi (l:A8 AX) (id:Int):Ad:=dJ l id&&TG (ev l id)
def Pv (l:A8 AX) (full:A8 Int):A8 Int:=full.filter (Yi l)
def Xy (l:A8 AX) (full:A8 Int):A8 Int:=Eh (Pv l full++full.filter (ER (chainOf l (Pv l full))))
def aGk {l:A8 AX} {full:A8 Int} {x:Int}:x∈Xy l full↔x∈full/\(Yi l x=true\/OJ l (Pv l full) x):=by
 unfold Xy;rw[KR,Il,HY,LJ,aFo];unfold Pv;rw[HY];exact⟨fun h=>h.elim (fun h=>⟨h.1,.inl h.2⟩) fun h=>⟨h.1,.inr h.2⟩,fun⟨h,k⟩=>k.elim (fun k=>.inl ⟨h,k⟩) fun k=>.inr ⟨h,k⟩⟩
def aWR (l:A8 AX) (full:A8 Int):Inc (Xy l full):=Kt _
def aK2 (p:Int->Ad):∀(S r:A8 Int),S.foldl (fun r x=>bif p x then r++[x]else r) r=r++S.filter p
 | [],r=>Bj
 |x::S,r=>by
  rw[Gm,aK2 p S,Ru];cases p x<;>simp
def ail (l:A8 AX) (full:A8 Int) (hl:l.length<=1000) (hs:E9 l) (I:full.length<=120000) (j:(Pv l full).length<=100000):aBI l full=some (Xy l full):=by
 unfold aBI aUd;rw[Ia (a0:=[]) full AB (fun r x=>bif Yi l x then r++[x]else r) (fun i r=>r.length<=i) (fun r=>(ZJ l r).bind fun q=>aKI full q r 0) (EX _)]
 ·have z:full.foldl (fun r x=>bif Yi l x then r++[x]else r) []=Pv l full:=by rw[aK2];rfl
  have J:=gK l (Pv l full);rw[z,aMm l _ hl hs.akJ j];simp only[Af];unfold aKI;rw[Ia full AB (fun r x=>bif ER (chainOf l (Pv l full)) x then r++[x]else r) (fun i r=>r.length<=(Pv l full).length+i) (fun r=>some (Eh r)) (EX _)]
  ·rw[aK2];rfl
  ·intro k r i h u;refine⟨?_,?_⟩
   ·cases ER (chainOf l (Pv l full)) full[i]with
    |false=>show r.length<=(Pv l full).length+(i+1);omega
    |true=>show(r++[full[i]]).length<=(Pv l full).length+(i+1);simp;omega
   unfold aMJ a2k;rw[DU h,aT2 _ _ AB];simp only[Af];rw[ED Fz];cases ER (chainOf l (Pv l full)) full[i]<;>rfl
  intro k r u;unfold aMJ;rw[EO,Xz _ AB];rfl
 ·intro k r i h u;refine⟨?_,?_⟩
  ·cases Yi l full[i]with
   |false=>show r.length<=i+1;omega
   |true=>show(r++[full[i]]).length<=i+1;simp;omega
  unfold aN6 a2b;rw[DU h,Ot l _ AB];simp only[Af];rw[ED Fz];unfold Yi dJ ev;rw[aZl,Oq];cases(Ed l full[i]).isSome<;>cases TG (Hr l full[i]).1<;>rfl
 intro k r _;unfold aN6;rw[EO]
def OJ.aGn {l:A8 AX} {ids:A8 Int} {i x:Int} (hi:i∈ids) (h:OJ l [i] x):OJ l ids x:=by
 induction h with
 |one h j q=>rw[KP.1 h]at j;exact .one hi j q
 |more h j q u=>exact .more u j q
def OJ.split {l:A8 AX} {ids:A8 Int} {x:Int}:OJ l ids x↔∃i∈ids,OJ l [i] x:=by
 constructor
 ·intro h
  induction h with
  |one h j q=>exact⟨_,h,.one (KP.2 rfl) j q⟩
  |more h j q I=>obtain⟨i,u,z⟩:=I;exact⟨i,u,.more z j q⟩
 rintro⟨i,u,z⟩;exact .aGn u z
def OJ.dJ {l:A8 AX} {ids:A8 Int} {x:Int} (h:OJ l ids x):dJ l x=true:=by cases h<;>assumption
def fQ (h r:A8 Int) (y:Int):A8 Int:=bif ER h y then put r y else r
def aDi (h:A8 Int):∀(c r:A8 Int),Inc r->Inc (c.foldl (fQ h) r)/\∀x,x∈c.foldl (fQ h) r↔x∈r\/x∈c/\x∈h
 | [],r,q=>⟨q,fun x=>Bj⟩
 |y::c,r,q=>by
  rw[Gm];unfold fQ;cases J:ER h y with
  |true=>
   obtain⟨u,z⟩:=aDi h c (put r y) (TK q);refine⟨u,fun x=>(z x).trans ?_⟩;rw[X4,F5];constructor
   ·rintro((j|rfl)|j)
    ·exact .inl j
    ·exact .inr ⟨.inl rfl,LJ.1 J⟩
    exact .inr ⟨.inr j.1,j.2⟩
   rintro(j|⟨rfl|j,I⟩)
   ·exact .inl (.inl j)
   ·exact .inl (.inr rfl)
   exact .inr ⟨j,I⟩
  |false=>
   obtain⟨u,z⟩:=aDi h c r q;refine⟨u,fun x=>(z x).trans ⟨fun j=>j.imp id fun j=>⟨Gv _ j.1,j.2⟩,fun j=>j.imp id fun j=>⟨?_,j.2⟩⟩⟩;rcases F5.1 j.1 with rfl|I
   ·exact absurd j.2 (PG.1 J)
   exact I
def eK (l:A8 AX) (h r:A8 Int) (x:Int):A8 Int:=bif TG (ev l x)then(chainOf l [x]).foldl (fQ h) (put r x)else r
def aOF (l:A8 AX) (h:A8 Int):∀(c r:A8 Int),Inc r->Inc (c.foldl (eK l h) r)/\∀x,x∈c.foldl (eK l h) r↔x∈r\/∃i∈c,TG (ev l i)=true/\(x=i\/OJ l [i] x/\x∈h)
 | [],r,z=>⟨z,fun x=>Bj⟩
 |y::c,r,z=>by
  rw[Gm];unfold eK;cases I:TG (ev l y)with
  |true=>
   obtain⟨M,O⟩:=aDi h (chainOf l [y]) (put r y) (TK z);obtain⟨J,L⟩:=aOF l h c _ M;refine⟨J,fun x=>(L x).trans ?_⟩;rw[O x,X4,aFo];constructor
   ·rintro(((j|rfl)|j)|⟨i,j,u⟩)
    ·exact .inl j
    ·exact .inr ⟨x,GU ..,I,.inl rfl⟩
    ·exact .inr ⟨y,GU ..,I,.inr j⟩
    exact .inr ⟨i,Gv _ j,u⟩
   rintro(j|⟨i,j,u,q⟩)
   ·exact .inl (.inl (.inl j))
   rcases F5.1 j with rfl|j
   ·rcases q with rfl|q
    ·exact .inl (.inl (.inr rfl))
    exact .inl (.inr q)
   exact .inr ⟨i,j,u,q⟩
  |false=>
   obtain⟨J,L⟩:=aOF l h c r z;refine⟨J,fun x=>(L x).trans ⟨fun j=>j.imp id fun⟨i,u,q⟩=>⟨i,Gv _ u,q⟩,fun j=>j.imp id fun⟨i,u,q,U⟩=>⟨i,?_,q,U⟩⟩⟩;rcases F5.1 u with rfl|u
   ·rw[I]at q;cases q
   exact u
def aZ0 (l:A8 AX) (full:A8 Int):(G5 l full).foldl (eK l (G5 l full)) []=Xy l full:=by
 obtain⟨I,J⟩:=aOF l (G5 l full) (G5 l full) [] .nil;refine CZ I (aWR _ _) fun x=>(J x).trans ?_;rw[aGk,OG,OJ.split];unfold Pv Yi;constructor
 ·rintro(z|⟨i,z,j,u⟩)
  ·exact absurd z FB
  have q:=OG.1 z;rcases u with rfl|u
  ·exact⟨q.1,.inl (by rw[q.2,j];rfl)⟩
  exact⟨u.2.1,.inr ⟨i,HY.2 ⟨q.1,by rw[q.2,j];rfl⟩,u.1⟩⟩
 rintro⟨z,j|⟨i,j,u⟩⟩
 ·rw[Df]at j;exact .inr ⟨x,OG.2 ⟨z,j.1⟩,j.2,.inl rfl⟩
 rw[HY,Df]at j;exact .inr ⟨i,OG.2 ⟨j.1,j.2.1⟩,j.2.2,.inr ⟨u,z,u.dJ⟩⟩
def ais (l:A8 AX) (full:A8 Int) (hl:l.length<=1000) (hs:E9 l) (M:full.length<=100000):aDP l full=some (Xy l full):=by
 unfold aDP;rw[aVi l full hl M];simp only[Af];have O:(G5 l full).length<=l.length:=lg (Zl l full) fun x q=>(OG.1 q).2;unfold aUq;rw[Ia (a0:=[]) (G5 l full) AB (eK l (G5 l full)) (fun _ r=>Inc r/\∀x∈r,dJ l x=true) (fun r=>some r) ⟨.nil,fun x q=>absurd q FB⟩]
 ·rw[aZ0]
 ·intro k r i h z;have I:dJ l (G5 l full)[i]=true:=(OG.1 (Ej h)).2;have U:=lg z.1 z.2;have g:=aDi (G5 l full) (chainOf l [(G5 l full)[i]]) (put r (G5 l full)[i]) (TK z.1);refine⟨?_,?_⟩
  ·unfold eK;cases TG (ev l (G5 l full)[i])with
   |false=>exact z
   |true=>
    refine⟨g.1,fun x q=>?_⟩;rcases(g.2 x).1 q with u|u
    ·rcases X4.1 u with u|rfl
     ·exact z.2 x u
     exact I
    exact(OG.1 u.2).2
  unfold aLO yT;rw[DU h,Kv l _ AB];simp only[Af];rw[abg,D5 h];simp only[Af];rw[eM _ _ AB];simp only[Af];rw[aJ2 l _ hl hs.akJ Bj];simp only[Af];unfold eK;show(bif TG (ev l (G5 l full)[i])then _ else _)=_;cases TG (ev l (G5 l full)[i])with
  |false=>rfl
  |true=>
   simp only[Bq];have hc:=gK l [(G5 l full)[i]];unfold aPd
   rw[Ia (chainOf l [(G5 l full)[i]]) AB (fQ (G5 l full)) (fun _ r=>Inc r/\∀x∈r,dJ l x=true) (fun r=>k r (Ar ((i:Int)+1))) ⟨TK z.1,fun x q=>by
    rcases X4.1 q with u|rfl
    ·exact z.2 x u
    exact I⟩]
   ·intro k2 Y j L J;have Z:=lg J.1 J.2;refine⟨?_,?_⟩
    ·unfold fQ;cases hh:ER (G5 l full) (chainOf l [(G5 l full)[i]])[j]with
     |false=>exact J
     |true=>
      refine⟨TK J.1,fun x q=>?_⟩;rcases X4.1 q with u|rfl
      ·exact J.2 x u
      exact(OG.1 (LJ.1 hh)).2
    unfold aNc aAQ;rw[DU L,Wv _ _ AB,D5 L];simp only[Af];rw[eM _ _ AB];unfold fQ;cases ER (G5 l full) (chainOf l [(G5 l full)[i]])[j]<;>rfl
   intro k2 Y _;unfold aNc yT;rw[EO]
 intro k r _;unfold aLO;rw[EO]
def aAr (l:A8 AX) (full:A8 Int):(Xy l full).length<=l.length:=
 lg (aWR l full) fun x j=>by
  rcases(aGk.1 j).2 with h|h
  ·unfold Yi at h;rw[Df]at h;exact h.1
  exact h.dJ
def GL (l:A8 AX) (id:Int):Qw:=⟨id,yO l (ev l id),(ev l id).Time,chainOf l [id]⟩
def oO (l:A8 AX) (left:A8 Int) (x:Int):Ad:= !left.any fun y=>ER (chainOf l [x]) y
def eL (a b:Qw):Ad:=bif a.Jo != b.Jo then decide (a.Jo>b.Jo)else decide (a.CG<b.CG)
def JZ (l:A8 AX) (left:A8 Int) (b:AO Int) (x:Int):AO Int:=bif oO l left x&&(match b with |none=>true|some y=>eL (GL l x) (GL l y))then some x else b
def Uy (l:A8 AX) (left:A8 Int):AO Int:=left.foldl (JZ l left) none
def OV (l:A8 AX):Nat->A8 Int->A8 Int
 |0,_=>[]
 |n+1,left=>match Uy l left with
  |none=>[]
  |some b=>b::OV l n (left.filter (· != b))
def aTm (l:A8 AX):∀ids:A8 Int,ids.flatMap (fun id=>bif dJ l id then[GL l id]else[])=(ids.filter (dJ l)).map (GL l)
 | []=>rfl
 |i::ids=>by
  rw[MC,aTm l ids,Ru];cases dJ l i<;>simp
def aaV (l:A8 AX) (ids:A8 Int) (hl:l.length<=1000) (hs:E9 l) (hi:ids.length<=100000):aEp l ids=some ((G5 l ids).map (GL l)):=by
 unfold aEp;rw[Xz ids AB];simp only[Af];have u:=MG ids;unfold aPT;rw[Ia (a0:=[]) (Eh ids) AB (fun r id=>r++bif dJ l id then[GL l id]else[]) (fun i r=>r.length<=i) (fun r=>some r) (EX _)]
 ·rw[foldl_append (fun id=>bif dJ l id then[GL l id]else[]),Ik,aTm];rfl
 ·intro k r i h I;refine⟨?_,?_⟩
  ·cases dJ l (Eh ids)[i]<;>simp <;>omega
  unfold aKt aDh;rw[DU h,Ot l _ AB];simp only[Af];unfold dJ;cases j:Ed l (Eh ids)[i]with
  |none=>rw[SK j];simp
  |some e=>
   have z:=hs e (NV j);have q:ev l (Eh ids)[i]=e:=by unfold ev;rw[Nl j]
   rw[Nl j];simp only[Bq,Option.isSome_some];rw[aef l e hl hs z.auth,aMm l _ hl hs.akJ Bj];simp only[Af];rw[ED Fz];unfold GL;rw[q];rfl
 intro k r _;unfold aKt;rw[EO]
def aOO (l:A8 AX) (left:A8 Int):∀(c:A8 Int) (b:AO Int) {x:Int},c.foldl (JZ l left) b=some x->b=some x\/x∈c
 | [],b,x,h=>.inl h
 |y::c,b,x,h=>by
  rw[Gm]at h;rcases aOO l left c _ h with j|j
  ·have key:∀c:Ad,(bif c then some y else b)=some x->b=some x\/x=y:=fun c q=>by
    cases c with
    |true=>simp only[Bq,Jh]at q;exact .inr q.symm
    |false=>exact .inl q
   rcases key _ j with u|u
   ·exact .inl u
   exact .inr (u▸GU ..)
  exact .inr (Gv _ j)
def alT {l:A8 AX} {left:A8 Int} {x:Int} (h:Uy l left=some x):x∈left:=by
 rcases aOO l left left none h with h|h
 ·cases h
 exact h
def aQW {left:A8 Int} (I:left.Nodup) {j:Nat} (J:j<left.length):left.take j++left.drop (j+1)=left.filter (· != left[j]):=by
 have e:left=left.take j++left[j]::left.drop (j+1):=by rw[←Ku J,SI]
 have q:(left.take j++left[j]::left.drop (j+1)).Nodup:=by rw[←e];exact I
 have z:=aBo.1 q;have L:=Nh.1 z.2.1
 have M:(left.take j).filter (· != left[j])=left.take j:=kS.2 fun x u=>by
  have :=z.2.2 x u left[j] (GU ..);simpa using this
 have O:(left.drop (j+1)).filter (· != left[j])=left.drop (j+1):=kS.2 fun x u=>by
  have :x≠left[j]:=fun e=>L.1 (e▸u);simpa using this
 have :(left.take j++left[j]::left.drop (j+1)).filter (· != left[j])=left.take j++left.drop (j+1):=by
  rw[PS,Ru,M,O];simp
 rw[←e]at this;exact this.symm
def aRb {left:A8 Int} (q:left.Nodup) {b:Int} (u:b∈left):(left.filter (· != b)).length+1=left.length:=by
 obtain⟨j,z,rfl⟩:=IK u;rw[←aQW q z,EZ,G6,JX];omega
def af4 {left:A8 Int} (h:Inc left) (b:Int):P6 left [b]=left.filter (· != b):=by
 unfold P6;rw[agy h];congr 1;funext x;by_cases e:x=b
 ·subst e;simp[ER]
 simp[ER,e]
def amd (l:A8 AX) (hl:l.length<=1000):∀(m:Nat) (left acc:A8 Int) (N:Nat),left.length=m->Inc left->(∀x∈left,dJ l x=true)->acc.length+left.length<=1000000->m<N->aU YT N (left.map (GL l)) acc=some (acc++OV l m left):=by
 intro m
 induction m with
 |zero=>
  intro left acc N hm hi hk hacc hN;obtain⟨N,rfl⟩:∃N',N=N'+1:=⟨N-1,AB⟩
  have :left=[]:=Hw hm;subst this;show YT _ _ _=_;unfold YT OV;simp
 |succ m ih=>
  intro left acc N hm hi hk hacc hN;obtain⟨N,rfl⟩:∃N',N=N'+1:=⟨N-1,AB⟩
  have hll:=lg hi hk;refine fF.eq ?_;show fF (YT (aU YT N) _ _) _;have ih':=fun Z acc' h1 h2 h3 h4=>ih Z acc' N h1 h2 h3 h4 AB;generalize aU YT N=K at ih';unfold YT;rw[show decide (((left.map (GL l)).length:Int)>0)=true by rw[DY];simp;omega];simp only[Bq];unfold aQ1;refine RS (body:=aGC (left.map (GL l)) K) (fun m2 a b c=>∃i:Nat,b=i/\i+m2=left.length/\c=acc/\((a= -1/\(left.take i).foldl (JZ l left) none=none)\/∃(j:Nat) (z:j<left.length),a=(j:Int)/\(left.take i).foldl (JZ l left) none=some left[j])) ?_ Az left.length (-1) 0 acc (fuel_lt AB) ⟨0,rfl,AB,rfl,.inl ⟨rfl,rfl⟩⟩;rintro m2 a b c k ⟨i,rfl,hm2,rfl,hI⟩ I;unfold aGC;by_cases J:i<left.length
  ·have O:i<(left.map (GL l)).length:=by rw[DY];exact J
   rw[dec_lt O,D5 O,Tt];simp only[Bq,Af]
   have hst:(left.take (i+1)).foldl (JZ l left) none=JZ l left ((left.take i).foldl (JZ l left) none) left[i]:=by
    rw[OE J,V5];rfl
   unfold aSj;have hc:=gK l [left[i]]
   have hin:∀(k2:Int->Int->A8 Int->AO (A8 Int)),aU (Yo (left.map (GL l)) (GL l left[i]) k2 (i:Int) a) Az 0 c=bif oO l left left[i]then(bif a<0 then Y0 k2 (i:Int) a true c else(Am (left.map (GL l)) a).bind fun x27=>(Zr (GL l left[i]) x27).bind fun x28=>Y0 k2 (i:Int) a x28 c)else fJ k2 (i:Int) a c:=by
    intro k2
    have key:∀n (j:Nat),j+n=left.length->∀m,n<m->aU (Yo (left.map (GL l)) (GL l left[i]) k2 (i:Int) a) m (j:Int) c=bif !(left.drop j).any (fun y=>ER (chainOf l [left[i]]) y)then(bif a<0 then Y0 k2 (i:Int) a true c else(Am (left.map (GL l)) a).bind fun x27=>(Zr (GL l left[i]) x27).bind fun x28=>Y0 k2 (i:Int) a x28 c)else fJ k2 (i:Int) a c:=by
     intro n
     induction n with
     |zero=>
      intro j z m hm;obtain⟨m,rfl⟩:∃m',m=m'+1:=⟨m-1,AB⟩
      have :j=left.length:=AB
      subst this;show Yo _ _ _ _ _ _ _ _=_;unfold Yo;rw[show decide ((left.length:Int)<((left.map (GL l)).length:Int))=false by rw[DY];exact Dq _,PE];rfl
     |succ n ihn=>
      intro j z m hm;obtain⟨m,rfl⟩:∃m',m=m'+1:=⟨m-1,AB⟩
      have hjl:j<left.length:=AB
      have aIs:j<(left.map (GL l)).length:=by rw[DY];exact hjl
      have U:=ihn (j+1) AB m AB;show Yo _ _ _ _ _ (aU _ m) _ _=_;generalize aU (Yo (left.map (GL l)) (GL l left[i]) k2 (i:Int) a) m=L at U;unfold Yo;rw[DU aIs,Tt];show((lD (chainOf l [left[i]]) left[j]).bind _)=_;rw[aT2 _ _ AB,wrap_succ j AB,Ku hjl,bP];simp only[Af];cases ER (chainOf l [left[i]]) left[j]with
      |true=>rfl
      |false=>
       simp only[BZ,Lj];exact U
    exact key left.length 0 AB Az (fuel_lt AB)
   rw[hin];have hw:=wrap_succ i AB;unfold Y0 fJ;rw[hw];cases M:oO l left left[i]with
   |false=>
    simp only[BZ];refine I (m2-1) _ _ _ AB ⟨i+1,rfl,AB,rfl,?_⟩;have e:JZ l left ((left.take i).foldl (JZ l left) none) left[i]=(left.take i).foldl (JZ l left) none:=by unfold JZ;rw[M];rfl
    rw[hst,e];exact hI
   |true=>
    simp only[Bq];rcases hI with⟨rfl,Y⟩|⟨j,z,rfl,Y⟩
    ·rw[show decide ((-1:Int)<0)=true by decide];simp only[Bq];refine I (m2-1) _ _ _ AB ⟨i+1,rfl,AB,rfl,.inr ⟨i,J,rfl,?_⟩⟩;rw[hst,Y];unfold JZ;rw[M];rfl
    have q:j<(left.map (GL l)).length:=by rw[DY];exact z
    rw[show decide ((j:Int)<0)=false by simp,D5 q,Tt];simp only[BZ,Af]
    have e1:Zr (GL l left[i]) (GL l left[j])=some (eL (GL l left[i]) (GL l left[j])):=by
     unfold Zr eL;cases(GL l left[i]).Jo != (GL l left[j]).Jo<;>rfl
    rw[e1];simp only[Af];cases ha:eL (GL l left[i]) (GL l left[j])with
    |true=>
     simp only[Bq];refine I (m2-1) _ _ _ AB ⟨i+1,rfl,AB,rfl,.inr ⟨i,J,rfl,?_⟩⟩;rw[hst,Y];unfold JZ;rw[M];simp only[ha];rfl
    |false=>
     simp only[BZ];refine I (m2-1) _ _ _ AB ⟨i+1,rfl,AB,rfl,.inr ⟨j,z,rfl,?_⟩⟩;rw[hst,Y];unfold JZ;rw[M];simp only[ha];rfl
  have hie:i=left.length:=AB
  subst hie;rw[show decide ((left.length:Int)<((left.map (GL l)).length:Int))=false by rw[DY];exact Dq _];simp only[BZ];rw[GX]at hI;have u:OV l (m+1) left=match Uy l left with |none=>[]|some b=>b::OV l m (left.filter (· != b)):=rfl
  rcases hI with⟨rfl,Y⟩|⟨j,z,rfl,Y⟩
  ·rw[show decide ((-1:Int)<0)=true by decide];refine .ret ?_;have h1:Uy l left=none:=Y;rw[u,h1];simp
  have q:j<(left.map (GL l)).length:=by rw[DY];exact z
  rw[show decide ((j:Int)<0)=false by simp,D5 q,Tt];simp only[BZ,Af];have h1:Uy l left=some left[j]:=Y;rw[ED Fz];simp only[Af];rw[zY (Nat.le_of_lt q),wrap_succ j AB,VZ q];simp only[Af];rw[ED (by rw[G6,JX,DY];omega)];simp only[Af]
  have e2:(left.map (GL l)).take j++(left.map (GL l)).drop (j+1)=(left.filter (· != left[j])).map (GL l):=by
   rw[←aQW (Uo hi) z,Kw,YK,aG]
  rw[e2];have hwl:=aRb (Uo hi) (Ej z);rw[ih' (left.filter (· != left[j])) (c++[(GL l left[j]).nC]) AB (hi.sublist RI) (fun x hx=>hk x ((HY.1 hx).1)) Ub];refine .ret ?_;rw[u,h1,IU];rfl
def agQ (l:A8 AX) (ids:A8 Int) (hl:l.length<=1000) (hs:E9 l) (hi:ids.length<=100000):aDA l ids=some (OV l (G5 l ids).length (G5 l ids)):=by
 have q:(G5 l ids).length<=l.length:=lg (Zl l ids) fun x j=>(OG.1 j).2;unfold aDA;rw[aaV l ids hl hs hi];simp only[Af];unfold aOm;rw[amd l hl _ (G5 l ids) [] Az rfl (Zl l ids) (fun x j=>(OG.1 j).2) TB (fuel_lt AB)];rfl
def aaU (l:A8 AX) (left:A8 Int) (x:Int) (hl:l.length<=1000) (hs:E9 l) (j:left.length<=100000):aDw l left x=some (oO l left x):=by
 unfold aDw;rw[aJ2 l _ hl hs.akJ Bj];simp only[Af];have q:=gK l [x];unfold aXX;rw[Hl (chainOf l [x]) (fuel_lt AB) (fun y=>ER left y) false (some true)]
 ·unfold oO
  have e:(chainOf l [x]).any (fun y=>ER left y)=left.any fun y=>ER (chainOf l [x]) y:=by
   rw[OY,I8,I8];simp only[LJ];exact⟨fun⟨y,a,b⟩=>⟨y,b,a⟩,fun⟨y,a,b⟩=>⟨y,b,a⟩⟩
  rw[e];cases left.any fun y=>ER (chainOf l [x]) y<;>rfl
 ·intro k i h;unfold aG8;rw[DU h,Wv _ _ AB];simp only[Af]
 intro k;unfold aG8;rw[EO]
def aLQ {R A B C D:Type} {Q:R->Prop} {body:(A->B->C->D->AO R)->A->B->C->D->AO R} (I:Nat->A->B->C->D->Prop) (hs:∀m a b c d k,I m a b c d->(∀j a' q u z,j<m->I j a' q u z->fF (k a' q u z) Q)->fF (body k a b c d) Q):
 ∀n m a b c d,m<n->I m a b c d->fF (UO body n a b c d) Q
 |0,m,_,_,_,_,h,_=>AB
 |n+1,m,a,b,c,d,h,hi=>hs m a b c d _ hi fun j a' q u z h' J=>aLQ I hs n j a' q u z AB J
def Nv {l:A8 AX} {x:Int} (h:dJ l x=true):Ed l x=some (ev l x)/\(ev l x).Id=x:=by
 unfold dJ at h;obtain⟨e,j⟩:=Rk.1 h;have :ev l x=e:=by unfold ev;rw[Nl j]
 rw[this];exact⟨j,aVN j⟩
def aeX (l:A8 AX) (x y:Int) (hl:l.length<=1000) (hs:E9 l) (j:dJ l x=true) (q:dJ l y=true) (u:y<x):a1Y l (ev l x) (ev l y)=some (eL (GL l x) (GL l y)):=by
 obtain⟨z,I⟩:=Nv j;obtain⟨J,L⟩:=Nv q;unfold a1Y;rw[aQv l _ hl hs (hs _ (NV z)).auth,aQv l _ hl hs (hs _ (NV J)).auth];simp only[Af];unfold eL GL;simp only;cases yO l (ev l x) != yO l (ev l y)with
 |true=>rfl
 |false=>
  simp only[BZ];rw[I,L];by_cases ht:(ev l x).Time=(ev l y).Time
  ·rw[ht];simp;omega
  have :((ev l x).Time != (ev l y).Time)=true:=a1S
  rw[this];rfl
def af7 (l:A8 AX) (hl:l.length<=1000) (hs:E9 l):∀(m:Nat) (left acc:A8 Int) (N:Nat),left.length=m->Inc left->(∀x∈left,dJ l x=true)->acc.length+left.length<=1000000->m<N->aU (Xr l) N left acc=some (acc++OV l m left):=by
 intro m
 induction m with
 |zero=>
  intro left acc N hm hi U Z hN;obtain⟨N,rfl⟩:∃N',N=N'+1:=⟨N-1,AB⟩
  have :left=[]:=Hw hm;subst this;show Xr _ _ _ _=_;unfold Xr OV;simp
 |succ m ih=>
  intro left acc N hm hi U Z hN;obtain⟨N,rfl⟩:∃N',N=N'+1:=⟨N-1,AB⟩
  have hll:=lg hi U;refine fF.eq ?_;show fF (Xr l (aU (Xr l) N) _ _) _;have ih':=fun M acc' h1 h2 h3 h4=>ih M acc' N h1 h2 h3 h4 AB;generalize aU (Xr l) N=K at ih';unfold Xr;rw[show decide ((left.length:Int)>0)=true by simp;omega];simp only[Bq];unfold aVP;refine aLQ (body:=aJa left l K) (fun Y a b c d=>∃i:Nat,b=i/\i+Y=left.length/\c=acc/\((a=false/\(left.take i).foldl (JZ l left) none=none)\/∃(j:Nat) (I:j<left.length),j<i/\a=true/\d=ev l left[j]/\(left.take i).foldl (JZ l left) none=some left[j])) ?_ Az left.length false 0 acc Ch (fuel_lt AB) ⟨0,rfl,AB,rfl,.inl ⟨rfl,rfl⟩⟩;rintro Y a b c d k ⟨i,rfl,hm2,rfl,hI⟩ J;unfold aJa;by_cases q:i<left.length
  ·rw[dec_lt q,D5 q];simp only[Bq,Af];rw[Kv l _ AB];simp only[Af];rw[aaU l left _ hl hs AB];simp only[Af]
   have hst:(left.take (i+1)).foldl (JZ l left) none=JZ l left ((left.take i).foldl (JZ l left) none) left[i]:=by
    rw[OE q,V5];rfl
   unfold a0g;rw[wrap_succ i AB];cases L:oO l left left[i]with
   |false=>
    simp only[BZ,Af];refine J (Y-1) _ _ _ _ AB ⟨i+1,rfl,AB,rfl,?_⟩;have e:JZ l left ((left.take i).foldl (JZ l left) none) left[i]=(left.take i).foldl (JZ l left) none:=by unfold JZ;rw[L];rfl
    rw[hst,e];rcases hI with u|⟨j,I,O,u⟩
    ·exact .inl u
    exact .inr ⟨j,I,AB,u⟩
   |true=>
    simp only[Bq];rcases hI with⟨rfl,u⟩|⟨j,I,O,rfl,rfl,u⟩
    ·simp only[Iu,Bq,Af];refine J (Y-1) _ _ _ _ AB ⟨i+1,rfl,AB,rfl,.inr ⟨i,q,AB,rfl,rfl,?_⟩⟩;rw[hst,u];unfold JZ;rw[L];rfl
    simp only[Eo,BZ];have hlt2:left[j]<left[i]:=KN.1 hi j i I q O;have e1:=aeX l left[i] left[j] hl hs (U _ (Ej q)) (U _ (Ej I)) hlt2;rw[show(Hr l left[i]).1=ev l left[i]from rfl,e1];simp only[Af];cases ha:eL (GL l left[i]) (GL l left[j])with
    |true=>
     simp only[Bq];refine J (Y-1) _ _ _ _ AB ⟨i+1,rfl,AB,rfl,.inr ⟨i,q,AB,rfl,rfl,?_⟩⟩;rw[hst,u];unfold JZ;rw[L];simp only[ha];rfl
    |false=>
     simp only[BZ];refine J (Y-1) _ _ _ _ AB ⟨i+1,rfl,AB,rfl,.inr ⟨j,I,AB,rfl,rfl,?_⟩⟩;rw[hst,u];unfold JZ;rw[L];simp only[ha];rfl
  have hie:i=left.length:=AB
  subst hie;rw[Dq];simp only[BZ];rw[GX]at hI;have z:OV l (m+1) left=match Uy l left with |none=>[]|some b=>b::OV l m (left.filter (· != b)):=rfl
  rcases hI with⟨rfl,u⟩|⟨j,I,O,rfl,rfl,u⟩
  ·refine .ret ?_;have h1:Uy l left=none:=u;rw[z,h1];simp
  simp only[Eo,BZ];have h1:Uy l left=some left[j]:=u;have hid:=(Nv (U _ (Ej I))).2;rw[hid,ED Fz];simp only[Af];rw[a1m _ _ AB Bj,af4 hi];simp only[Af];have hwl:=aRb (Uo hi) (Ej I);rw[ih' (left.filter (· != left[j])) (c++[left[j]]) AB (hi.sublist RI) (fun x hx=>U x ((HY.1 hx).1)) Ub];refine .ret ?_;rw[z,h1,IU];rfl
def adM (l:A8 AX) (ids:A8 Int) (hl:l.length<=1000) (hs:E9 l) (hi:ids.length<=100000):aCr l ids=some (OV l (G5 l ids).length (G5 l ids)):=by
 have q:(G5 l ids).length<=l.length:=lg (Zl l ids) fun x j=>(OG.1 j).2;unfold aCr;rw[aVi l ids hl hi];simp only[Af];unfold aWT;rw[af7 l hl hs _ (G5 l ids) [] Az rfl (Zl l ids) (fun x j=>(OG.1 j).2) TB (fuel_lt AB)];rfl
def aT5 (l:A8 AX):∀(n:Nat) (left:A8 Int) {x:Int},x∈OV l n left->x∈left
 |0,_,_,h=>absurd h FB
 |n+1,left,x,h=>by
  unfold OV at h;cases j:Uy l left with
  |none=>rw[j]at h;exact absurd h FB
  |some b=>
   rw[j]at h;rcases F5.1 h with rfl|h
   ·exact alT j
   exact(HY.1 (aT5 l n _ h)).1
def aX0 (l:A8 AX):∀(n:Nat) (left:A8 Int),(OV l n left).length<=n
 |0,_=>EX _
 |n+1,left=>by
  unfold OV;cases Uy l left with
  |none=>exact Du _
  |some b=>have :=aX0 l n (left.filter (· != b));simp only[GZ];omega
def Rj (l:A8 AX) (e:AX):Option Int:=e.bT.find? fun id=>dJ l id&&(ev l id).Kind==3
def bZ (l:A8 AX) (e:AX):Int×Ad:=match Rj l e with |some x=>(x,true)|none=>(0,false)
def aY0 (l:A8 AX) (e:AX) (hl:l.length<=1000) (j:e.bT.length<=40):vU l e=some (bZ l e):=by
 unfold vU aPJ;rw[KG e.bT (fuel_lt AB) (fun id=>dJ l id&&(ev l id).Kind==3) (fun i=>some (match e.bT[i]? with |some x=>(x,true)|none=>(0,false))) (some (0,false))]
 ·unfold bZ Rj;rw[LZ];by_cases h:e.bT.findIdx (fun id=>dJ l id&&(ev l id).Kind==3)<e.bT.length
  ·rw[DX h]
  rw[Dk h,J5 AB]
 ·intro k i h;unfold aHp;rw[DU h,Ot l _ AB,EK h];simp only[Af];unfold dJ ev;rw[Oq];cases(Ed l e.bT[i]).isSome<;>rfl
 intro k;unfold aHp;rw[EO]
def aiU (l:A8 AX) (e:AX) (hl:l.length<=1000) (j:e.bT.length<=40):aB2 l e=some (bZ l e):=by
 unfold aB2 aXn;rw[KG e.bT (fuel_lt AB) (fun id=>dJ l id&&(ev l id).Kind==3) (fun i=>some (match e.bT[i]? with |some x=>(x,true)|none=>(0,false))) (some (0,false))]
 ·unfold bZ Rj;rw[LZ];by_cases h:e.bT.findIdx (fun id=>dJ l id&&(ev l id).Kind==3)<e.bT.length
  ·rw[DX h]
  rw[Dk h,J5 AB]
 ·intro k i h;unfold aM3;rw[DU h,Kv l _ AB,EK h,D5 h];simp only[Af];unfold dJ ev;rw[Oq];cases(Ed l e.bT[i]).isSome<;>rfl
 intro k;unfold aM3;rw[EO]
def Ob (l:A8 AX):Nat->A8 Int->Int->A8 Int
 |0,seen,_=>seen
 |n+1,seen,id=>bif ER seen id|| !dJ l id then seen else match Rj l (ev l id)with
  |none=>seen++[id]
  |some x=>Ob l n (seen++[id]) x
def iE (l:A8 AX) (id:Int):A8 Int:=Ob l l.length [] id
structure VU (l:List AX) (seen:List Int):Prop where
 nodup:seen.Nodup
 known:∀x∈seen,dJ l x=true
def VU.length {l:A8 AX} {seen:A8 Int} (h:VU l seen):seen.length<=l.length:=by
 rw[←(TS seen).length_eq,aXW h.nodup];exact lg (Kt _) fun x j=>h.known x (KR.1 j)
def VU.snoc {l:A8 AX} {seen:A8 Int} (h:VU l seen) {id:Int} (q:id∉seen) (u:dJ l id=true):VU l (seen++[id]):=by
 refine⟨aBo.2 ⟨h.nodup,Bj,fun a ha b z=>?_⟩,fun x j=>?_⟩
 ·rw[KP.1 z];exact fun e=>q (e▸ha)
 rcases Il.1 j with j|j
 ·exact h.known x j
 rw[KP.1 j];exact u
def aUe (l:A8 AX):∀(n:Nat) (seen:A8 Int) (id:Int),VU l seen->VU l (Ob l n seen id)
 |0,_,_,h=>h
 |n+1,seen,id,h=>by
  unfold Ob;cases j:ER seen id|| !dJ l id with
  |true=>exact h
  |false=>
   rw[ZI,PG]at j;have q:=h.snoc j.1 (by simpa using j.2);simp only[BZ];cases Rj l (ev l id)with
   |none=>exact q
   |some x=>exact aUe l n _ x q
def aYE (l:A8 AX):∀(n:Nat) (seen:A8 Int) (id:Int),∃t,Ob l n seen id=seen++t
 |0,seen,_=>⟨[],by simp[Ob]⟩
 |n+1,seen,id=>by
  unfold Ob;cases ER seen id|| !dJ l id with
  |true=>exact⟨[],Bj⟩
  |false=>
   simp only[BZ];cases Rj l (ev l id)with
   |none=>exact⟨[id],rfl⟩
   |some x=>
    obtain⟨t,ht⟩:=aYE l n (seen++[id]) x;exact⟨id::t,by simp only[ht,IU];rfl⟩
def aXt (l:A8 AX) (id:Int):(iE l id).length<=l.length:=(aUe l _ [] id ⟨Zv,fun x j=>absurd j FB⟩).length
def anN (l:A8 AX) (hl:l.length<=1000) (hs:E9 l) (Z v9:A8 Int):∀(m:Nat) (seen:A8 Int) (id:Int) (N:Nat),seen.length+m=l.length->VU l seen->m<N->F9 Yv N seen seen Z v9 id l=some (Ob l m seen id):=by
 intro m
 induction m with
 |zero=>
  intro seen id N hm u hN;obtain⟨N,rfl⟩:∃N',N=N'+1:=⟨N-1,AB⟩
  have I:=u.length;show Yv _ _ _ _ _ _ _=_;unfold Yv;rw[vW _ _ AB,Ot l _ AB];simp only[Af];rw[Oq];cases J:ER seen id with
  |true=>rfl
  |false=>
   cases q:(Ed l id).isSome with
   |false=>rfl
   |true=>
    have L:=(u.snoc (PG.1 J) q).length;simp only[EZ,Ns]at L;omega
 |succ m ih=>
  intro seen id N hm u hN;obtain⟨N,rfl⟩:∃N',N=N'+1:=⟨N-1,AB⟩
  have I:=u.length;show Yv (F9 Yv N) _ _ _ _ _ _=_;have z:=fun j M h1 L=>ih j M N h1 L AB;generalize F9 Yv N=K at z;unfold Yv Ob;rw[vW _ _ AB,Ot l _ AB];simp only[Af];rw[Oq];cases J:ER seen id with
  |true=>rfl
  |false=>
   cases q:(Ed l id).isSome with
   |false=>rw[show dJ l id=false from q];rfl
   |true=>
    obtain⟨e,Y⟩:=Rk.1 q;rw[show dJ l id=true from q];simp only[Iu,Eo,MJ,Bq,BZ];rw[ED Fz];simp only[Af];unfold a0O;simp only[BZ];rw[ED Fz];simp only[Af];have O:(Hr l id).1=ev l id:=rfl
    have U:(ev l id).bT.length<=40:=by
     have :ev l id=e:=by unfold ev;rw[Nl Y]
     rw[this];exact(hs e (NV Y)).auth
    rw[O,aY0 l _ hl U];simp only[Af];unfold bZ;cases Rj l (ev l id)with
    |none=>rfl
    |some x=>exact z (seen++[id]) x Ub (u.snoc (PG.1 J) q)
def aeY (l:A8 AX) (id:Int) (hl:l.length<=1000) (hs:E9 l):aDr l id=some (iE l id):=by
 unfold aDr yQ aUv;exact anN l hl hs [] [] l.length [] id Az Bj ⟨Zv,fun x j=>absurd j FB⟩ (fuel_lt AB)
def agG (l:A8 AX) (hl:l.length<=1000) (hs:E9 l):∀(m:Nat) (seen:A8 Int) (id:Int) (i N:Nat),i+m=l.length->seen.length<=i->m<N->gZ (Yl l) N seen id (i:Int)=some (Ob l m seen id):=by
 intro m
 induction m with
 |zero=>
  intro seen id i N hm M O;obtain⟨N,rfl⟩:∃N',N=N'+1:=⟨N-1,AB⟩
  have :i=l.length:=AB
  subst this;show Yl _ _ _ _ _=_;unfold Yl;rw[Dq];rfl
 |succ m U=>
  intro seen id i N hm M O;obtain⟨N,rfl⟩:∃N',N=N'+1:=⟨N-1,AB⟩
  show Yl _ (gZ (Yl l) N) _ _ _=_;have q:=fun j u Y Z h2=>U j u Y N Z h2 AB;generalize gZ (Yl l) N=K at q;unfold Yl Ob;rw[dec_lt AB,Kv l _ AB,Wv _ _ AB];simp only[Bq,Af];rw[Oq];cases z:(Ed l id).isSome with
  |false=>rw[show dJ l id=false from z];cases ER seen id<;>rfl
  |true=>
   rw[show dJ l id=true from z];cases hh:ER seen id with
   |true=>rfl
   |false=>
    obtain⟨e,L⟩:=Rk.1 z;simp only[Eo,MJ,BZ,Af];rw[ED Fz];simp only[Af];have I:(Hr l id).1=ev l id:=rfl
    have J:(ev l id).bT.length<=40:=by
     have :ev l id=e:=by unfold ev;rw[Nl L]
     rw[this];exact(hs e (NV L)).auth
    rw[I,aiU l _ hl J,wrap_succ i AB];simp only[Af];unfold bZ;cases Rj l (ev l id)with
    |none=>rfl
    |some x=>exact q (seen++[id]) x (i+1) AB Ub
def aRa (l:A8 AX) (id:Int) (hl:l.length<=1000) (hs:E9 l):uM l id=some (iE l id):=by
 unfold uM aU0;exact agG l hl hs l.length [] id 0 Az Bj (EX _) (fuel_lt AB)
def dc (j way:A8 Int):Int:=match way.find? (ER j)with |some x=>((j.findIdx (· ==x):Nat):Int)|none=>(j.length:Int)
def NP (l:A8 AX) (j:A8 Int) (id:Int):Int:=dc j (iE l id)
def aZe (l:A8 AX) (j:A8 Int) (hl:l.length<=1000) (hs:E9 l) (hm:j.length<=100000):∀(m:Nat) (seen:A8 Int) (z id:Int) (N:Nat),seen.length+m=l.length->VU l seen->seen.find? (ER j)=none->m<N->F8 ZN N seen j z id l=some (dc j (Ob l m seen id)):=by
 have q:∀seen:A8 Int,seen.find? (ER j)=none->dc j seen=(j.length:Int):=fun seen h=>by unfold dc;rw[h]
 intro m
 induction m with
 |zero=>
  intro seen z id N hm Y M hN;obtain⟨N,rfl⟩:∃N',N=N'+1:=⟨N-1,AB⟩
  have hwl:=Y.length;show ZN _ _ _ _ _ _=_;unfold ZN;rw[vW _ _ AB,Ot l _ AB];simp only[Af];rw[Oq];have he:dc j (Ob l 0 seen id)=(j.length:Int):=q seen M;rw[he];cases O:ER seen id with
  |true=>rfl
  |false=>
   cases U:(Ed l id).isSome with
   |false=>rfl
   |true=>
    have h2:=(Y.snoc (PG.1 O) U).length;simp only[EZ,Ns]at h2;omega
 |succ m ih=>
  intro seen z id N hm Y M hN;obtain⟨N,rfl⟩:∃N',N=N'+1:=⟨N-1,AB⟩
  have hwl:=Y.length;show ZN (F8 ZN N) _ _ _ _ _=_;have Z:=fun J z' id' h1 h2 h3=>ih J z' id' N h1 h2 h3 AB;generalize F8 ZN N=K at Z;unfold ZN sG;rw[vW _ _ AB,Ot l _ AB,aX8 _ _ AB];simp only[Af];rw[Oq];have L:Ob l (m+1) seen id=bif ER seen id|| !dJ l id then seen else match Rj l (ev l id)with |none=>seen++[id]|some x=>Ob l m (seen++[id]) x:=rfl
  cases O:ER seen id with
  |true=>rw[L,O];simp only[Bool.true_or,Bq,Eo,BZ];rw[q seen M]
  |false=>
   cases U:(Ed l id).isSome with
   |false=>rw[L,O,show dJ l id=false from U];simp only[Lj,Iu,Bq];rw[q seen M]
   |true=>
    obtain⟨e,he⟩:=Rk.1 U;rw[L,O,show dJ l id=true from U];simp only[Iu,Eo,MJ,Bq,BZ];have u:=aRL j id;by_cases I:j.findIdx (· ==id)<j.length
    ·rw[DX I,show decide (((j.findIdx (· ==id):Nat):Int)>=0)=true by simp];simp only[Bq];rw[Ih I]at u
     have hex:∃t,(match Rj l (ev l id)with |none=>seen++[id]|some x=>Ob l m (seen++[id]) x)=seen++[id]++t:=by
      cases Rj l (ev l id)with
      |none=>exact⟨[],Bj⟩
      |some x=>exact aYE l m (seen++[id]) x
     obtain⟨t,ht⟩:=hex;rw[ht];unfold dc;rw[aV,aV,M];simp[←u]
    rw[Dk I,show decide ((-1:Int)>=0)=false by decide];simp only[BZ];rw[IX I]at u;rw[ED Fz];simp only[Af];have hev:(Hr l id).1=ev l id:=rfl
    have hea:(ev l id).bT.length<=40:=by
     have :ev l id=e:=by unfold ev;rw[Nl he]
     rw[this];exact(hs e (NV he)).auth
    have hf2:(seen++[id]).find? (ER j)=none:=by rw[aV,M];simp[←u]
    rw[hev,aY0 l _ hl hea];simp only[Af];unfold bZ;cases Rj l (ev l id)with
    |none=>simp only[Iu,Bq];rw[q _ hf2]
    |some x=>exact Z (seen++[id]) z x Ub (Y.snoc (PG.1 O) U) hf2
def acr (l:A8 AX) (j:A8 Int) (id:Int) (hl:l.length<=1000) (hs:E9 l) (hm:j.length<=100000):aEJ l j id=some (NP l j id):=by
 unfold aEJ yQ aV2;exact aZe l j hl hs hm l.length [] 0 id Az Bj ⟨Zv,fun x q=>absurd q FB⟩ rfl (fuel_lt AB)
def acB (l:A8 Int) (x:Int) (h:l.length<=100000):a1V l x=some ((l.findIdx (· ==x):Nat):Int):=by
 unfold a1V aSV;rw[KG l (fuel_lt AB) (· ==x) (fun i=>some (i:Int)) (some (l.length:Int))]
 ·split
  ·rfl
  rename_i h;have :l.findIdx (· ==x)<=l.length:=ng;congr 2;omega
 ·intro k i hi;unfold aKb;rw[DU hi]
 intro k;unfold aKb;rw[EO]
def aWN (l:A8 AX) (j:A8 Int) (id:Int) (hl:l.length<=1000) (hs:E9 l) (hm:j.length<=100000):qp l j id=some (NP l j id):=by
 unfold qp;rw[aRa l id hl hs];simp only[Af];have q:=aXt l id;unfold aPs NP dc;generalize iE l id=W at q;rw[KG W (fuel_lt AB) (ER j) (fun i=>some (match W[i]? with |some x=>((j.findIdx (· ==x):Nat):Int)|none=>0)) (some (j.length:Int))]
 ·rw[LZ];by_cases h:W.findIdx (ER j)<W.length
  ·rw[DX h,EK h]
  rw[Dk h,J5 AB]
 ·intro k i h;unfold aNI;rw[DU h,Wv _ _ AB,D5 h,EK h];simp only[Af];rw[acB _ _ hm];rfl
 intro k;unfold aNI;rw[EO]
def FP (l:A8 AX) (j:A8 Int) (id:Int):Ld:=⟨id,NP l j id,(ev l id).Time⟩
def qx (x:Ld):Int×Int×Int:=(x.nC,x.zU,x.CG)
def IQ (x y:Ld):Ad:=Le (qx x) (qx y)
def V8 (l:A8 AX) (j ids:A8 Int):A8 Int:=(Me IQ ((ids.filter (dJ l)).map (FP l j))).map (·.nC)
def aSw (l:A8 AX) (j:A8 Int):∀ids:A8 Int,ids.flatMap (fun id=>bif dJ l id then[FP l j id]else[])=(ids.filter (dJ l)).map (FP l j)
 | []=>rfl
 |i::ids=>by
  rw[MC,aSw l j ids,Ru];cases dJ l i<;>simp
def ae4 (s:A8 Ld) (hs:s.length<=1000000) (z:(s.map (·.nC)).Nodup):kR s=some s:=by
 unfold kR;by_cases L:s.length<2
 ·rw[show decide ((s.length:Int)<2)=true by simp;omega];rfl
 rw[show decide ((s.length:Int)<2)=false by simp;omega];simp only[BZ];unfold aR3;refine fF.eq ?_;refine YA (body:=aBP) (fun m a b=>∃i:Nat,a=i/\i+m=s.length/\0<i/\b=s) ?_ Az (s.length-1) 1 s (fuel_lt AB) ⟨1,rfl,AB,AB,rfl⟩;rintro m a b k ⟨i,rfl,hm,hi,rfl⟩ I;unfold aBP;by_cases j:i<b.length
 ·rw[dec_lt j,D5 j];simp only[Bq,Af];have w:Ar ((i:Int)-1)=((i-1:Nat):Int):=Qh
  have q:i-1<b.length:=AB
  rw[w,D5 q];simp only[Af]
  have u:b[i].nC≠b[i-1].nC:=by
   have :=KN.1 z (i-1) i Xh Xh AB;simp only[Tt]at this;exact fun e=>this e.symm
  have J:zN b[i] b[i-1]=false:=by
   unfold zN;rw[show(b[i].nC==b[i-1].nC)=false by simpa using u];rfl
  rw[J,wrap_succ i AB];exact I (m-1) _ _ AB ⟨i+1,rfl,AB,AB,rfl⟩
 have :i=b.length:=AB
 subst this;rw[Dq];exact .ret rfl
def aKq (l:A8 AX) (j:A8 Int) (ids:A8 Int):(ids.map (FP l j)).map (·.nC)=ids:=by
 rw[YI];exact List.map_id' ids
def ahV (l:A8 AX) (j ids:A8 Int) (hl:l.length<=1000) (hs:E9 l) (hm:j.length<=100000) (hi:ids.length<=100000) (L:ids.Nodup):aDC l j ids=some (V8 l j ids):=by
 unfold aDC aP5;rw[Ia (a0:=[]) ids AB (fun r id=>r++bif dJ l id then[FP l j id]else[]) (fun i r=>r.length<=i) (fun M=>(aDD M).bind fun z=>(kR z).bind fun I=>aO9 I [] 0) (EX _)]
 ·rw[foldl_append (fun id=>bif dJ l id then[FP l j id]else[]),Ik,aSw];have O:=KL (dJ l) ids;have J:((ids.filter (dJ l)).map (FP l j)).length<=100000:=Xh
  unfold aDD aF5;rw[DX AB];simp only[Af];have e:(Me (fun x y:Ld=>Le (x.nC,x.zU,x.CG) (y.nC,y.zU,y.CG)) ((ids.filter (dJ l)).map (FP l j)))=Me IQ ((ids.filter (dJ l)).map (FP l j)):=rfl;rw[e];unfold V8;have hp:=Ux IQ ((ids.filter (dJ l)).map (FP l j))
  have q:((Me IQ ((ids.filter (dJ l)).map (FP l j))).map (·.nC)).Nodup:=by
   rw[(hp.map (·.nC)).nodup_iff,aKq];exact L.sublist RI
  have u:(Me IQ ((ids.filter (dJ l)).map (FP l j))).length<=100000:=by rw[hp.length_eq];exact J
  generalize Me IQ ((ids.filter (dJ l)).map (FP l j))=S at q u;rw[ae4 S AB q];simp only[Af];unfold aO9;rw[Ia (a0:=[]) S AB (fun r x=>r++[x.nC]) (fun i r=>r.length<=i) (fun r=>some r) (EX _)]
  ·rw[foldl_append (fun x:Ld=>[x.nC]),Ik];congr 1;clear q u
   induction S with
   |nil=>rfl
   |cons x S U=>rw[MC,U];rfl
  ·intro k r i h Y;refine⟨aCk,?_⟩;unfold aHk;rw[DU h,ED Fz];rfl
  intro k r _;unfold aHk;rw[EO]
 ·intro k r i h Y;refine⟨?_,?_⟩
  ·cases dJ l ids[i]<;>simp <;>omega
  unfold aKC aAY;rw[DU h,Ot l _ AB];simp only[Af];rw[Oq,acr l j _ hl hs hm];simp only[Af];rw[ED Fz];unfold dJ;cases(Ed l ids[i]).isSome with
  |true=>rfl
  |false=>simp
 intro k r _;unfold aKC;rw[EO]
def aks (l:A8 AX) (j:A8 Int) (a b:Int) (hl:l.length<=1000) (hs:E9 l) (hm:j.length<=100000):aD2 l j a b=some (!IQ (FP l j b) (FP l j a)):=by
 unfold aD2;rw[aWN l j a hl hs hm,aWN l j b hl hs hm,Kv l a AB,Kv l b AB];simp only[Af]
 have q:(!IQ (FP l j b) (FP l j a))=decide (NP l j b<NP l j a\/NP l j a=NP l j b/\((ev l a).Time<(ev l b).Time\/(ev l a).Time=(ev l b).Time/\a<b)):=by
  rw[OY,Ls,Hd];exact aUw (qx (FP l j b)) (qx (FP l j a))
 rw[q];show(bif NP l j a != NP l j b then some (decide (NP l j a>NP l j b))else bif (ev l a).Time != (ev l b).Time then some (decide ((ev l a).Time<(ev l b).Time))else some (decide (a<b)))=_;by_cases u:NP l j a=NP l j b
 ·rw[show(NP l j a != NP l j b)=false by simp[u]];simp only[BZ];by_cases z:(ev l a).Time=(ev l b).Time
  ·rw[show((ev l a).Time != (ev l b).Time)=false by simp[z]];simp only[BZ];congr 1;rw[bY];constructor
   ·intro h;exact .inr ⟨u,.inr ⟨z,h⟩⟩
   rintro(h|⟨_,h|⟨_,h⟩⟩)
   ·omega
   ·omega
   exact h
  rw[show((ev l a).Time != (ev l b).Time)=true by simp[z]];simp only[Bq];congr 1;rw[bY];constructor
  ·intro h;exact .inr ⟨u,.inl h⟩
  rintro(h|⟨_,h|⟨h,_⟩⟩)
  ·omega
  ·exact h
  exact absurd h z
 rw[show(NP l j a != NP l j b)=true by simp[u]];simp only[Bq];congr 1;rw[bY];constructor
 ·intro h;exact .inl h
 rintro(h|⟨h,_⟩)
 ·exact h
 exact absurd h u
def aKj (x y z:Ld) (h:IQ x y=true) (k:IQ y z=true):IQ x z=true:=aGo _ _ _ h k
def aRg (x y:Ld) (h:IQ x y=false):IQ y x=true:=aYc _ _ h
def agZ (x y:Ld) (h:IQ x y=true) (k:IQ y x=true):x=y:=by
 have :=aVj _ _ h k;unfold qx at this;cases x;cases y;simp only[NT]at this;obtain⟨a,b,c⟩:=this;subst a b c;rfl
def YO (l:A8 AX) (j:A8 Int) (q:A8 Int) (x:Int):A8 Int:=q.take (q.findIdx fun a=>IQ (FP l j x) (FP l j a))++x::q.drop (q.findIdx fun a=>IQ (FP l j x) (FP l j a))
def aSR (l:A8 AX) (j q:A8 Int) (x:Int):(YO l j q x).Perm (x::q):=by
 unfold YO;refine a1R.trans ?_;rw[SI]
def ao1 (l:A8 AX) (j q:A8 Int) (x:Int) (h:q.Pairwise fun a b=>IQ (FP l j a) (FP l j b)=true):(YO l j q x).Pairwise fun a b=>IQ (FP l j a) (FP l j b)=true:=by
 unfold YO
 have J:∀a∈q.take (q.findIdx fun a=>IQ (FP l j x) (FP l j a)),IQ (FP l j a) (FP l j x)=true:=by
  intro a ha;obtain⟨i,hi,rfl⟩:=IK ha;have z:i<q.findIdx fun a=>IQ (FP l j x) (FP l j a):=by simp at hi;omega
  have :=aMQ z;rw[oG];exact aRg _ _ aLw
 have ha:∀d∈q.drop (q.findIdx fun a=>IQ (FP l j x) (FP l j a)),IQ (FP l j x) (FP l j d)=true:=by
  intro d hd;obtain⟨i,hi,rfl⟩:=IK hd;rw[JX]at hi;have u:(q.findIdx fun a=>IQ (FP l j x) (FP l j a))<q.length:=AB
  have L:=aCm (w:=u);rw[mF];rcases Z5 i with rfl|hp
  ·simpa using L
  exact aKj _ _ _ L (KN.1 h _ _ u AB AB)
 refine kT.2 ⟨h.sublist (aGU _ _),Po.2 ⟨ha,h.sublist (aD5 _ _)⟩,fun a M b I=>?_⟩;rcases F5.1 I with rfl|I
 ·exact J a M
 exact aKj _ _ _ (J a M) (ha b I)
def Yc (l:A8 AX) (j:A8 Int) (q:A8 Int) (x:Int):A8 Int:=bif dJ l x then YO l j q x else q
def ajW (l:A8 AX) (j ids:A8 Int):ids.foldl (Yc l j) []=V8 l j ids:=by
 have key:∀(ids q:A8 Int),q.Pairwise (fun a b=>IQ (FP l j a) (FP l j b)=true)->(ids.foldl (Yc l j) q).Pairwise (fun a b=>IQ (FP l j a) (FP l j b)=true)/\(ids.foldl (Yc l j) q).Perm (ids.filter (dJ l)++q):=by
  intro ids
  induction ids with
  |nil=>intro q h;exact⟨h,.refl _⟩
  |cons x ids I=>
   intro q h;rw[Gm,Ru];unfold Yc;cases dJ l x with
   |false=>exact I q h
   |true=>
    obtain⟨z,u⟩:=I (YO l j q x) (ao1 l j q x h);refine⟨z,u.trans ?_⟩;simp only[Jr,Zb];exact((aSR l j q x).append_left _).trans a1R
 obtain⟨z,u⟩:=key ids [] .nil;rw[P8]at u;unfold V8
 have J:(ids.foldl (Yc l j) []).map (FP l j)=Me IQ ((ids.filter (dJ l)).map (FP l j)):=
  aQn aKj aRg agZ (u.map _) (eA.2 z)
 rw[←J,aKq]
def aeD (l:A8 AX) (q ids:A8 Int) (hl:l.length<=1000) (hs:E9 l) (hm:q.length<=100000) (hi:ids.length<=100000) (O:ids.Nodup):aD6 l q ids=some (V8 l q ids):=by
 unfold aD6 aSQ;rw[Ia (a0:=[]) ids AB (Yc l q) (fun i r=>r.length<=i/\∀x∈r,x∈ids.take i) (fun r=>some r) ⟨EX _,fun x J=>absurd J FB⟩]
 ·rw[ajW]
 ·intro k r i h ⟨U,L⟩;have u:ids.take (i+1)=ids.take i++[ids[i]]:=OE h
  have M:ER r ids[i]=false:=PG.2 fun hm=>by
   obtain⟨j,z,e⟩:=IK (L _ hm);rw[oG]at e;rw[G6]at z;exact KN.1 O j i AB h AB e
  refine⟨?_,?_⟩
  ·unfold Yc;cases dJ l ids[i]with
   |false=>exact⟨by show r.length<=i+1;omega,fun x J=>by rw[u];exact jU _ (L x J)⟩
   |true=>
    have hp:=aSR l q r ids[i];refine⟨?_,fun x J=>?_⟩
    ·show(YO l q r ids[i]).length<=i+1;rw[hp.length_eq,GZ];omega
    rw[u];rcases F5.1 (hp.mem_iff.1 J)with rfl|J
    ·exact aF4 _ (KP.2 rfl)
    exact jU _ (L x J)
  unfold aMw wz;rw[DU h,Kv l _ AB,D5 h];simp only[Af];rw[Wv _ _ AB,M,Oq];unfold Yc dJ;cases(Ed l ids[i]).isSome with
  |false=>rfl
  |true=>
   simp only[Eo,BZ,Af,Bq];unfold aQo
   have I:∀(k2:Int->AO (A8 Int)) (j:Nat),j<=r.length->pW k2 (j:Int) r ids (i:Int) k false=k (r.take j++ids[i]::r.drop j) (Ar ((i:Int)+1)):=by
    intro k2 j z;unfold pW wz;simp only[BZ];rw[VZ z];simp only[Af];rw[ED EN];simp only[Af,Ik];rw[zY z,D5 h];simp only[Af];rw[ED EN];simp only[Af];rw[ED EN];simp
   rw[KG r (fuel_lt AB) (fun a=>IQ (FP l q ids[i]) (FP l q a)) (fun j=>k (r.take j++ids[i]::r.drop j) (Ar ((i:Int)+1))) (k (r.take r.length++ids[i]::r.drop r.length) (Ar ((i:Int)+1)))]
   ·unfold YO;split
    ·rfl
    rename_i Y
    have :(r.findIdx fun a=>IQ (FP l q ids[i]) (FP l q a))=r.length:=by
     have :=ng (p:=fun a=>IQ (FP l q ids[i]) (FP l q a)) (xs:=r);omega
    rw[this]
   ·intro k2 j z;unfold aLa;rw[dec_lt z,D5 z,D5 h];simp only[Bq,Af];rw[aks l q _ _ hl hs hm];simp only[Af];cases IQ (FP l q ids[i]) (FP l q r[j])with
    |true=>simp only[Eo,Bq];rw[I k2 j (Nat.le_of_lt z)]
    |false=>rfl
   intro k2;unfold aLa;rw[Dq];simp only[BZ];rw[I k2 r.length (EX _)]
 intro k r _;unfold aMw;rw[EO]
def acD {l:A8 AX} {j ids:A8 Int} {x:Int}:x∈V8 l j ids↔x∈ids/\dJ l x=true:=by
 unfold V8;rw[((Ux IQ ((ids.filter (dJ l)).map (FP l j))).map (·.nC)).mem_iff,aKq,HY]
def amM (l:A8 AX) (j ids:A8 Int):(V8 l j ids).length<=ids.length:=by
 unfold V8;rw[DY,(Ux _ _).length_eq,DY];exact KL _ _
def La (c:Int):Ad:=(decide (c>=97)&&(c<=122))||(decide (c>=48)&&(c<=57))
def aXr (c:Int):jI c=some (La c):=by
 unfold jI La;cases decide (c>=97)<;>cases decide (c<=122)<;>cases decide (c>=48)<;>cases decide (c<=57)<;>rfl
def aI7 (c:Int):dz c=some (La c):=by
 unfold dz La;cases decide (c>=97)<;>cases decide (c<=122)<;>cases decide (c>=48)<;>cases decide (c<=57)<;>rfl
def Qx (l:A8 Int) (p:Int->Ad):Ad:=decide ((l.length:Int)>=1)&&((l.length:Int)<=32)&&l.all fun c=>La c||p c
def isLocal (c:Int):Ad:=c==95||c==46||c==45||c==61
def Va (c:Int):Ad:=c==46||c==45
def XR (l:A8 Int):Ad:=Qx l isLocal
def Y3 (l:A8 Int):Ad:=Qx l Va&&La (l.getD 0 0)&&La (l.getD (l.length-1) 0)
def aKQ {n:Nat} (h:n<=9223372036854775807):n<Az:=ni
def aRZ {s:BA} (hs:s.size<=9223372036854775807) (f:Int->AO Ad) (p:Int->Ad) (j:∀c,f c=some (p c)):dF s f=some (Qx (CW s) p):=by
 have hl:aGh s f 0=some ((CW s).all fun c=>La c||p c):=by
  unfold aGh;rw[Hl (CW s) Xu (fun c=> !(La c||p c)) false (some true) ?_ ?_,Ky,uY]
  ·intro k i h;have h':i<s.size:=WG
   simp only[aGH,dec_lt h',Bq,Vb h,aXr,j,Af];cases La (CW s)[i]<;>cases p (CW s)[i]<;>rfl
  intro k;simp only[aGH,Iq,Dq,BZ]
 unfold dF Qx;rw[hl,Iq];have q:decide ((s.size:Int)>=1)= !decide ((s.size:Int)<1):=aG0
 have u:decide ((s.size:Int)<=32)= !decide ((s.size:Int)>32):=aGS
 rw[q,u];cases decide ((s.size:Int)<1)<;>cases decide ((s.size:Int)>32)<;>rfl
def afF {s:BA} (hs:s.size<=9223372036854775807):dF s (fun a0=>qA a0)=some (Qx (CW s) isLocal):=aRZ hs _ isLocal (fun c=>by unfold qA isLocal;cases c==95<;>cases c==46<;>cases c==45<;>cases c==61<;>rfl)
def anv {s:BA} (hs:s.size<=9223372036854775807):dF s (fun a0=>zL a0)=some (Qx (CW s) Va):=aRZ hs _ Va (fun c=>by unfold zL Va;cases c==46<;>cases c==45<;>rfl)
def ajE {s:BA} (hs:s.size<=9223372036854775807):aCS s=some (XR (CW s)):=by
 unfold aCS XR;rw[afF hs];rfl
def aCE {s:BA} (h:0<s.size):IJ s 0=some ((CW s).getD 0 0):=by
 have h':0<(CW s).length:=aEz
 rw[aZs h'];simp[List.getD,h']
def aU8 {s:BA} (h:0<s.size) (hs:s.size<=9223372036854775807):IJ s (Ar ((s.size:Int)-1))=some ((CW s).getD ((CW s).length-1) 0):=by
 have h':s.size-1<(CW s).length:=by rw[Iq];omega
 rw[OA AB AB,show(s.size:Int)-1=((s.size-1:Nat):Int) by omega,Vb h'];have j:(CW s).length-1=s.size-1:=by rw[Iq]
 rw[j];simp[List.getD,h']
def aUk {l:A8 Int} {p:Int->Ad} (h:Qx l p=true):0<l.length/\l.length<=32:=by
 unfold Qx at h;simp only[Df,Hd]at h;omega
def aZH {s:BA} (hs:s.size<=9223372036854775807):aAF s=some (Y3 (CW s)):=by
 unfold aAF Y3;rw[anv hs];simp only[Af];cases j:Qx (CW s) Va with
 |false=>rfl
 |true=>
  have hp:0<s.size:=by have :=(aUk j).1;rwa [Iq]at this
  simp only[Bq,aCE hp,aU8 hp hs,aXr,Af];cases La ((CW s).getD 0 0)<;>simp
def akP {s:BA} (hs:s.size<=9223372036854775807):a0V s=some (bif Y3 (CW s)then 0 else 3):=by
 have hl:aMM s 0=some (bif (CW s).all fun c=>La c||Va c then 0 else 3):=by
  unfold aMM;rw[Hl (CW s) Xu (fun c=> !(La c||Va c)) 3 (some 0) ?_ ?_,Ky,←uY]
  ·cases((CW s).any fun c=> !(La c||Va c))<;>rfl
  ·intro k i h;have h':i<s.size:=WG
   simp only[aLY,dec_lt h',Bq,Vb h,aI7,Af,Va,bne];cases La (CW s)[i]<;>cases(CW s)[i]==46<;>cases(CW s)[i]==45<;>rfl
  intro k;simp only[aLY,Iq,Dq,BZ]
 have j:decide ((s.size:Int)>=1)= !decide ((s.size:Int)<1):=aG0
 have q:decide ((s.size:Int)<=32)= !decide ((s.size:Int)>32):=aGS
 unfold a0V Y3 Qx;rw[hl];rw[show((CW s).length:Int)=(s.size:Int) by rw[Iq],j,q];by_cases u:(s.size:Int)<1
 ·simp[u]
 have hp:0<s.size:=AB
 simp only[aCE hp,aU8 hp hs,aI7,Af];cases decide ((s.size:Int)<1)<;>cases decide ((s.size:Int)>32)<;>cases La ((CW s).getD 0 0)<;>cases La ((CW s).getD ((CW s).length-1) 0)<;>cases((CW s).all fun c=>La c||Va c)<;>rfl
def afs {s:BA} (hs:s.size<=9223372036854775807):aBW s=some (XR (CW s)):=by
 unfold aBW aSq;rw[Hl (CW s) Xu (fun c=> !(La c||isLocal c)) false (some (decide ((s.size:Int)>=1)&&((s.size:Int)<=32))) ?_ ?_]
 ·unfold XR Qx;rw[←uY,Iq];cases((CW s).any fun c=> !(La c||isLocal c))<;>cases decide ((s.size:Int)>=1)<;>cases decide ((s.size:Int)<=32)<;>rfl
 ·intro k i h;have h':i<s.size:=WG
  simp only[aGM,dec_lt h',Bq,Vb h,aI7,Af,isLocal,bne];cases La (CW s)[i]<;>cases(CW s)[i]==95<;>cases(CW s)[i]==46<;>cases(CW s)[i]==45<;>cases(CW s)[i]==61<;>rfl
 intro k;simp only[aGM,Iq,Dq,BZ];cases decide ((s.size:Int)>=1)<;>cases decide ((s.size:Int)<=32)<;>rfl
def aWf (s:BA):(CW s).length=s.data.toList.length:=by simp[CW]
def GY (s:BA):Nat:=(CW s).findIdx (· ==58)
def aFx (s:BA):GY s<=s.size:=by unfold GY;rw[←Iq];exact ng
def aTg {s:BA} (hs:s.size<=9223372036854775807):rO s=some (GY s:Int):=by
 unfold rO aU7;rw[KG (CW s) Xu (· ==58) (fun i=>some (i:Int)) (some (s.size:Int)) ?_ ?_]
 ·have :=aFx s;by_cases h:(CW s).findIdx (· ==58)<(CW s).length
  ·rw[DX h];rfl
  rw[Dk h];congr 2;unfold GY at this ⊢;rw[Iq]at h;omega
 ·intro k i h;have h':i<s.size:=WG
  simp only[aHr,dec_lt h',Bq,Vb h,Af,bne];cases(CW s)[i]==58<;>rfl
 intro k;simp only[aHr,Iq,Dq,BZ,Af]
def Vd (s:BA):BA:=s.extract 1 (GY s)
def Q8 (s:BA):BA:=s.extract (GY s+1) s.size
def UH (s:BA):Ad:=decide (GY s<s.size)&&XR (CW (Vd s))&&Y3 (CW (Q8 s))
def Hy (s:BA) (m:Int):Ad:=decide (0<s.size)&&(CW s).getD 0 0==m&&UH s
def extract_size (s:BA) (a b:Nat):(s.extract a b).size<=s.size:=by rw[aCJ];omega
def aTj {s:BA} (h:0<s.size) (hm:(CW s).getD 0 0≠58):1<=GY s:=by
 unfold GY;have hl:0<(CW s).length:=aEz
 match j:CW s with
 | []=>rw[j]at hl;simp at hl
 |c::l=>
  rw[j]at hm;simp only[List.getD_cons_zero]at hm;rw[RQ,show(c==58)=false from by simpa using hm];simp
def aC8 {s:BA} (hs:s.size<=9223372036854775807) {m:Int} (hm:m≠58):dn s m=some (Hy s m):=by
 unfold dn Hy;by_cases j:0<s.size
 ·rw[show decide ((s.size:Int)<1)=false from by simp;omega,show decide (0<s.size)=true by simpa using j];simp only[BZ,aCE j,Af,bne];cases z:(CW s).getD 0 0==m with
  |false=>rfl
  |true=>
   have u:(CW s).getD 0 0=m:=MW
   have I:=aTj j (by rw[u];exact hm);have J:=aFx s;simp only[Eo,BZ,aTg hs,Af,Gh];unfold UH;by_cases q:GY s<s.size
   ·have L:O9 s 1 (GY s:Int)=some (Vd s):=lR (lo:=1) I J
    have M:O9 s (Ar ((GY s:Int)+1)) (s.size:Int)=some (Q8 s):=by
     rw[OA AB AB,show(GY s:Int)+1=((GY s+1:Nat):Int) by omega];exact lR AB (EX _)
    rw[show decide ((GY s:Int)<(s.size:Int))=true from by simpa using q,show decide (GY s<s.size)=true by simpa using q];have O:(Vd s).size<=9223372036854775807:=FC (extract_size _ _ _) hs;have U:(Q8 s).size<=9223372036854775807:=FC (extract_size _ _ _) hs;simp only[Bq,L,M,afs O,akP U,Af];cases XR (CW (Vd s))<;>cases Y3 (CW (Q8 s))<;>rfl
   rw[show decide ((GY s:Int)<(s.size:Int))=false from by simpa using q,show decide (GY s<s.size)=false by simpa using q];rfl
 rw[show decide ((s.size:Int)<1)=true from by simp;omega,show decide (0<s.size)=false by simpa using j];rfl
def splitB (s:BA) (b:Ad):BA×BA×Ad:=bif b then(Vd s,Q8 s,true)else(CU,CU,false)
def aYy (b c:UInt8):(b==c)=(((b.toNat:Nat):Int)==((c.toNat:Nat):Int)):=by
 by_cases h:b=c
 ·subst h;simp
 have :¬b.toNat=c.toNat:=fun e=>h (UInt8.toNat_inj.1 e);have j:(b==c)=false:=KC
 rw[j];symm;simp;omega
def aST (s:BA) (c:UInt8):s.data.toList.findIdx (· ==c)=(CW s).findIdx (· ==((c.toNat:Nat):Int)):=by
 unfold CW;rw[List.findIdx_map];congr 1;funext b;exact aYy b c
def acK (s:BA):∀x∈CW s,0<=x/\x<256:=by
 intro x j;unfold CW at j;rw[FY]at j;obtain⟨c,_,rfl⟩:=j;have :=c.toNat_lt;omega
def getD_mem {s:BA} (h:0<s.size):(CW s).getD 0 0∈CW s:=by
 have hl:0<(CW s).length:=aEz
 have e:(CW s).getD 0 0=(CW s)[0]:=by simp[List.getD,hl]
 rw[e];exact Ej hl
def agp (marks:BA) {c:Int} (u:0<=c) (z:c<256):decide (Lib.indexByte marks.data.toList c.toNat.toUInt8<0)= !(CW marks).contains c:=by
 have e:(((c.toNat.toUInt8).toNat:Nat):Int)=c:=by
  rw[Nat.toUInt8,UInt8.toNat_ofNat'];omega
 rw[aKT,aST,e,←aWf marks];by_cases hm:c∈CW marks
 ·have j:(CW marks).findIdx (· ==c)<(CW marks).length:=List.findIdx_lt_length_of_exists ⟨c,hm,Bj⟩;rw[DX j,show(CW marks).contains c=true by simpa using hm];simp
 have q:¬(CW marks).findIdx (· ==c)<(CW marks).length:=fun h=>by
  have :=aCm (w:=h);simp only[Oa]at this;exact hm (this▸Ej h)
 rw[Dk q,show(CW marks).contains c=false by simpa using hm];rfl
def aWm (s:BA) (a b:Nat):(s.extract 1 s.size).extract a b=s.extract (1+a) (min (1+b) s.size):=by
 refine bytes_inj ?_;simp only[aUz];have :(CW s).take s.size=CW s:=QL (by rw[Iq];omega);rw[this,List.take_drop,aIL];congr 1;have :min (1+b) s.size=min (1+b) (CW s).length:=by rw[Iq]
 rw[this,List.take_eq_take_min]
def agd {s:BA} (h:0<s.size) (hm:(CW s).getD 0 0≠58):(CW (s.extract 1 s.size)).findIdx (· ==58)+1=GY s:=by
 unfold GY;rw[aUz];have :(CW s).take s.size=CW s:=QL (by rw[Iq];omega);rw[this];have hl:0<(CW s).length:=aEz
 match j:CW s with
 | []=>rw[j]at hl;simp at hl
 |c::l=>
  rw[j]at hm;simp only[List.getD_cons_zero]at hm;rw[RQ,show(c==58)=false from by simpa using hm];rfl
def aj9 {s:BA} (hs:s.size<=9223372036854775807) (h:0<s.size) (hm:(CW s).getD 0 0≠58):∃a b,strings_Cut (s.extract 1 s.size) l7=some (a,b,decide (GY s<s.size))/\(GY s<s.size->a=Vd s/\b=Q8 s):=by
 have J:=aTj h hm;have L:=aFx s;have M:=agd h hm;have q:(s.extract 1 s.size).size=s.size-1:=by rw[aCJ];omega
 have u:aC7 (s.extract 1 s.size) l7=some (if GY s<s.size then((GY s-1:Nat):Int)else -1):=by
  show some (Lib.indexByte (s.extract 1 s.size).data.toList 58)=_;rw[aKT,aST,←aWf (s.extract 1 s.size)];show some (if(CW (s.extract 1 s.size)).findIdx (· ==58)<_ then(((CW (s.extract 1 s.size)).findIdx (· ==58):Nat):Int)else -1)=_;rw[Iq,q];have e:(CW (s.extract 1 s.size)).findIdx (· ==58)=GY s-1:=AB
  rw[e];congr 1;by_cases j:GY s<s.size
  ·rw[DX j,DX AB]
  rw[Dk j,Dk AB]
 unfold strings_Cut aHR;rw[u,Af];by_cases j:GY s<s.size
 ·rw[DX j,show decide (((GY s-1:Nat):Int)>=0)=true from by simp,show decide (GY s<s.size)=true by simpa using j];have z:O9 (s.extract 1 s.size) 0 ((GY s-1:Nat):Int)=some ((s.extract 1 s.size).extract 0 (GY s-1)):=lR (lo:=0) AB AB
  have I:O9 (s.extract 1 s.size) (Ar (((GY s-1:Nat):Int)+(l7.size:Int))) ((s.extract 1 s.size).size:Int)=some ((s.extract 1 s.size).extract (GY s) (s.size-1)):=by
   rw[show(l7.size:Int)=1 from rfl,OA AB AB,show((GY s-1:Nat):Int)+1=((GY s:Nat):Int) by omega,q];exact lR AB AB
  simp only[Bq,z,I,Af];refine⟨_,_,rfl,fun _=>⟨?_,?_⟩⟩
  ·rw[aWm];unfold Vd;congr 1;omega
  rw[aWm];unfold Q8;rw[Ue 1 (GY s)];congr 1;omega
 rw[Dk j,show decide ((-1:Int)>=0)=false from rfl,show decide (GY s<s.size)=false by simpa using j];exact⟨_,_,rfl,fun h=>absurd h j⟩
def aKo {s:BA} (hs:s.size<=9223372036854775807) {marks:BA} (u:∀m∈CW marks,m≠58):lV s marks=some (splitB s ((CW marks).any fun m=>Hy s m)):=by
 unfold lV;by_cases q:0<s.size
 ·have z:(s.toList==CU.toList)=false:=by
   rw[J7];simp only[PX];intro e;rw[e]at q;exact absurd q Bo
  have I:=acK s _ (getD_mem q)
  have j:((CW marks).any fun m=>Hy s m)=((CW marks).contains ((CW s).getD 0 0)&&UH s):=by
   unfold Hy;rw[show decide (0<s.size)=true by simpa using q]
   induction CW marks with
   |nil=>rfl
   |cons m l J=>rw[bP,J,List.contains_cons];cases(CW s).getD 0 0==m<;>cases UH s<;>simp
  rw[z,j];simp only[BZ,aCE q,Af,strings_IndexByte,agp marks I.1 I.2];cases L:(CW marks).contains ((CW s).getD 0 0)with
  |false=>rfl
  |true=>
   have hm:(CW s).getD 0 0≠58:=u _ Y6;obtain⟨a,b,M,O⟩:=aj9 hs q hm;have U:O9 s 1 (s.size:Int)=some (s.extract 1 s.size):=lR (lo:=1) AB (EX _);simp only[Eo,BZ,U,M,Af,Gh];unfold UH;cases Y:decide (GY s<s.size)with
   |false=>rfl
   |true=>
    obtain⟨rfl,rfl⟩:=O (YN Y);have Z:(Vd s).size<=9223372036854775807:=FC (extract_size _ _ _) hs;have g2:(Q8 s).size<=9223372036854775807:=FC (extract_size _ _ _) hs;simp only[Eo,BZ,ajE Z,aZH g2,Af];cases XR (CW (Vd s))<;>cases Y3 (CW (Q8 s))<;>rfl
 have hz:s.size=0:=AB
 have he:s=CU:=bytes_inj (by
  have h1:CW s=[]:=Hw (by rw[Iq];exact hz)
  rw[h1];rfl)
 have j:((CW marks).any fun m=>Hy s m)=false:=by
  rw[aGu];intro m _;unfold Hy;rw[show decide (0<s.size)=false by simpa using q];simp
 rw[j,he,show(CU.toList==CU.toList)=true from by simp];rfl
def KD (s:BA):Ad:=Hy s 64||(Hy s 33||false)
def afZ {s:BA} (hs:s.size<=9223372036854775807):lV s qU=some (splitB s (KD s)):=
 aKo hs (marks:=qU) (by rw[show CW qU=[64,33]from rfl];intro m hm;simp only[F5,FB,nI]at hm;omega)
def aV8 {s:BA} (h:UH s=true):GY s<s.size:=by unfold UH at h;simp only[Df,Hd]at h;exact h.1.1
def XQ {s:BA} (hs:s.size<=9223372036854775807):aQ s=some (splitB s (KD s)).2.1/\Uh s=some (splitB s (KD s)).2.1:=by
 have z:GY s<s.size->O9 s (Ar ((GY s:Int)+1)) (s.size:Int)=some (Q8 s):=fun I=>by
  rw[OA AB AB,show(GY s:Int)+1=((GY s+1:Nat):Int) by omega];exact lR AB (EX _)
 unfold aQ Uh;rw[afZ hs,aC8 hs Bo,aC8 hs Bo,aTg hs];refine⟨rfl,?_⟩;unfold KD;cases j:Hy s 64 with
 |true=>
  have u:=aV8 (s:=s) (by unfold Hy at j;simp only[Df]at j;exact j.2);simp only[Af,Eo,BZ,z u,Bool.true_or];rfl
 |false=>
  cases q:Hy s 33 with
  |true=>
   have u:=aV8 (s:=s) (by unfold Hy at q;simp only[Df]at q;exact q.2);simp only[Af,Eo,Iu,BZ,Bq,z u,Lj,Bool.true_or];rfl
  |false=>rfl
def aMO {R A α:Type} {body:(Int->A->AO R)->Int->A->AO R} (l:A8 α) (hl:l.length<Az) (p:α->Ad) (g:Nat->AO R) (rest:AO R) (a0:A)
 (u:∀k (i:Nat) (h:i<l.length),body k (i:Int) a0=bif p l[i]then g i else k (Ar ((i:Int)+1)) a0) (z:∀k,body k (l.length:Int) a0=rest):
 aU body Az 0 a0=if l.findIdx p<l.length then g (l.findIdx p)else rest:=by
 have J:Az=9223372036854775808:=rfl
 have key:∀n (i:Nat),i+n=l.length->∀m,n<m->aU body m (i:Int) a0=if(l.drop i).findIdx p+i<l.length then g ((l.drop i).findIdx p+i)else rest:=by
  intro n
  induction n with
  |zero=>
   intro i hi m hm;obtain⟨m,rfl⟩:∃q,m=q+1:=⟨m-1,AB⟩
   have :i=l.length:=AB
   subst this;show body (aU body m) _ _=_;rw[z,PE,Dk Bj]
  |succ n I=>
   intro i hi m hm;obtain⟨m,rfl⟩:∃q,m=q+1:=⟨m-1,AB⟩
   have j:i<l.length:=AB
   show body (aU body m) _ _=_;rw[u _ i j,wrap_succ i AB,I (i+1) AB m AB,Ku j,RQ];cases p l[i]with
   |true=>simp only[Bq,J3];rw[DX j]
   |false=>
    simp only[BZ];rw[show(l.drop (i+1)).findIdx p+(i+1)=(l.drop (i+1)).findIdx p+1+i by omega]
 have :=key l.length 0 AB Az hl;simpa using this
def Kz (l:A8 AX):AX×Ad:=match l.find? fun x=>x.Kind==1 with |some x=>(x,true)|none=>(Ch,false)
def aLi (l:A8 AX) (p:AX->Ad):(if l.findIdx p<l.length then(some (match l[l.findIdx p]? with |some x=>(x,true)|none=>(Ch,false)))else some (Ch,false))=some (match l.find? p with |some x=>(x,true)|none=>(Ch,false)):=by
 rw[LZ];by_cases h:l.findIdx p<l.length
 ·rw[DX h]
 rw[Dk h,J5 AB]
def aVy (l:A8 AX) (hl:l.length<=1000):wV l=some (Kz l):=by
 unfold wV aU3;rw[aMO l (fuel_lt AB) (fun x=>x.Kind==1) (fun i=>some (match l[i]? with |some x=>(x,true)|none=>(Ch,false))) (some (Ch,false))]
 ·exact aLi l _
 ·intro k i h;unfold aN0;rw[DU h,EK h]
 intro k;unfold aN0;rw[EO]
def aWQ (l:A8 AX) (hl:l.length<=1000):xF l=some (Kz l):=by
 unfold xF aPX;rw[aMO l (fuel_lt AB) (fun x=>x.Kind==1) (fun i=>some (match l[i]? with |some x=>(x,true)|none=>(Ch,false))) (some (Ch,false))]
 ·exact aLi l _
 ·intro k i h;unfold aG2;rw[DU h,D5 h,EK h];rfl
 intro k;unfold aG2;rw[EO]
def QX (u:BA) (x:AX):Ad:=x.Kind==2&&(x.Key=u)
def Ln (l:A8 AX) (u:BA):Int:=match l.find? (QX u)with |some x=>x.Content.N|none=>0
def aDo (u:BA) (x:AX):(bif (x.Kind==2)then some (x.Key.toList==u.toList)else some false)=some (QX u x):=by
 unfold QX;rw[J7];cases x.Kind==2<;>rfl
def aNT (l:A8 AX) (u:BA) (hl:l.length<=1000):iO l u=some (Ln l u):=by
 unfold iO aYb Ln;rw[KG l (fuel_lt AB) (QX u) (fun i=>some (match l[i]? with |some x=>x.Content.N|none=>0)) (some 0)]
 ·rw[LZ];by_cases h:l.findIdx (QX u)<l.length
  ·rw[DX h]
  rw[Dk h,J5 AB]
 ·intro k i h;unfold aGZ;rw[DU h,D5 h,EK h];simp only[Af];rw[aDo];rfl
 intro k;unfold aGZ;rw[EO]
def aFP (l:A8 AX) (u:BA) (hl:l.length<=1000):kL l u=some (Ln l u):=by
 unfold kL aWY Ln;rw[KG l (fuel_lt AB) (QX u) (fun i=>some (match l[i]? with |some x=>x.Content.N|none=>0)) (some 0)]
 ·rw[LZ];by_cases h:l.findIdx (QX u)<l.length
  ·rw[DX h]
  rw[Dk h,J5 AB]
 ·intro k i h;unfold aFp;rw[DU h,D5 h,EK h];simp only[Af];rw[aDo];rfl
 intro k;unfold aFp;rw[EO]
def mX (e:AX) (l:A8 AX):Ad:=
 (Kz l).2&&(e.bK.length==1&&(e.bK.getD 0 0==(Kz l).1.Id&&(decide (e.bG=(Kz l).1.bG)&&(decide (e.Key=(Kz l).1.bG)&&(e.Content.N==3&& !l.any (QX e.Key))))))
def aaw (e:AX) (l:A8 AX) (hl:l.length<=1000):aE5 e l=some (mX e l):=by
 have z:aLJ l e 0=some (!l.any (QX e.Key)):=by
  unfold aLJ;rw[Hl l (fuel_lt AB) (QX e.Key) false (some true)]
  ·cases l.any (QX e.Key)<;>rfl
  ·intro k i h;unfold aKd;rw[DU h,aDo];rfl
  intro k;unfold aKd;rw[EO]
 unfold aE5 mX YQ;rw[aVy l hl];simp only[Af];rw[z,J7,J7];cases(Kz l).2 with
 |false=>rfl
 |true=>
  by_cases hp:e.bK.length=1
  ·have u:0<e.bK.length:=AB
   have j:((e.bK.length:Int) != 1)=false:=by rw[hp];rfl
   have q:(e.bK.length==1)=true:=aA7
   have I:Am e.bK 0=some (e.bK.getD 0 0):=by
    have :Am e.bK ((0:Nat):Int)=some e.bK[0]:=D5 u;rw[show((0:Nat):Int)=0 from rfl]at this;rw[this];simp[List.getD,u]
   rw[j,q,I];simp only[Af,bne];cases e.bK.getD 0 0==(Kz l).1.Id<;>cases decide (e.bG=(Kz l).1.bG)<;>cases decide (e.Key=(Kz l).1.bG)<;>cases e.Content.N==3<;>rfl
  have j:((e.bK.length:Int) != 1)=true:=EN
  have q:(e.bK.length==1)=false:=aA7
  rw[j,q];rfl
def aiQ (e:AX) (l:A8 AX) (hl:l.length<=1000):aEK e l=some (mX e l):=by
 have z:aEM l e.Key=some (l.any (QX e.Key)):=by
  unfold aEM aVC;rw[Hl l (fuel_lt AB) (QX e.Key) true (some false)]
  ·cases l.any (QX e.Key)<;>rfl
  ·intro k i h;unfold aNi;rw[DU h,D5 h];simp only[Af];rw[aDo];rfl
  intro k;unfold aNi;rw[EO]
 unfold aEK mX Wp;rw[aWQ l hl];simp only[Af];rw[z,J7,J7];cases(Kz l).2 with
 |false=>rfl
 |true=>
  by_cases hp:e.bK.length=1
  ·have u:0<e.bK.length:=AB
   have j:((e.bK.length:Int)==1)=true:=by rw[hp];rfl
   have q:(e.bK.length==1)=true:=aA7
   have I:Am e.bK 0=some (e.bK.getD 0 0):=by
    have :Am e.bK ((0:Nat):Int)=some e.bK[0]:=D5 u;rw[show((0:Nat):Int)=0 from rfl]at this;rw[this];simp[List.getD,u]
   rw[j,q,I];simp only[Af];cases e.bK.getD 0 0==(Kz l).1.Id<;>cases decide (e.bG=(Kz l).1.bG)<;>cases decide (e.Key=(Kz l).1.bG)<;>cases e.Content.N==3<;>rfl
  have j:((e.bK.length:Int)==1)=false:=EN
  have q:(e.bK.length==1)=false:=aA7
  rw[j,q];rfl
def moveB (f t:Int) (s:Ad):Ad:=
 bif decide (f<0)||decide (f>4)then false else bif t==3 then s&&f != 4 else bif t==0 then f==1||f==2||f==3||(f==4&& !s)else bif t==2 then s&&(f==0||f==2)else bif t==1 then !s&&(f==0||f==2||f==1)else bif t==4 then !s else false
def aRx (f t:Int) (s:Ad):XE f t s=some (moveB f t s):=by
 unfold XE moveB;simp only[Ky,Af,lI,Tf]
def akd (f t:Int) (s:Ad):ay f t s=some (moveB f t s):=by
 rw[←aRx];by_cases j:f<0
 ·unfold ay XE;rw[Ih j];rfl
 by_cases q:f>4
 ·unfold ay XE;rw[Ih q];cases decide (f<0)<;>rfl
 by_cases u:t<0
 ·unfold ay XE;rw[Ih u,IX j,IX q,show(t==3)=false by simp;omega,show(t==0)=false by simp;omega,show(t==2)=false by simp;omega,show(t==1)=false by simp;omega,show(t==4)=false by simp;omega];rfl
 by_cases z:t>4
 ·unfold ay XE;rw[Ih z,IX u,IX j,IX q,show(t==3)=false by simp;omega,show(t==0)=false by simp;omega,show(t==2)=false by simp;omega,show(t==1)=false by simp;omega,show(t==4)=false by simp;omega];rfl
 have I:f=0\/f=1\/f=2\/f=3\/f=4:=AB
 have ht:t=0\/t=1\/t=2\/t=3\/t=4:=AB
 rcases I with rfl|rfl|rfl|rfl|rfl<;>rcases ht with rfl|rfl|rfl|rfl|rfl<;>cases s<;>decide
def oD (l:A8 AX):Int×A8 BA:=match l.find? fun x=>x.Kind==4 with |some x=>(x.Content.N,x.Content.Allow)|none=>(0,[])
def anY (l:A8 AX) (hl:l.length<=1000) (hs:E9 l):aAp l=some (oD l):=by
 unfold aAp aY2 oD;rw[KG l (fuel_lt AB) (fun x=>x.Kind==4) (fun i=>some (match l[i]? with |some x=>(x.Content.N,x.Content.Allow)|none=>(0,[]))) (some (0,[]))]
 ·rw[LZ];by_cases h:l.findIdx (fun x=>x.Kind==4)<l.length
  ·rw[DX h]
  rw[Dk h,J5 AB]
 ·intro k i h;have ha:=(hs _ (Ej h)).allow;unfold aNE;rw[DU h,EK h,ED TB];rfl
 intro k;unfold aNE;rw[EO]
def anZ (l:A8 AX) (hl:l.length<=1000) (hs:E9 l):aEO l=some (oD l):=by
 unfold aEO aXg oD;rw[KG l (fuel_lt AB) (fun x=>x.Kind==4) (fun i=>some (match l[i]? with |some x=>(x.Content.N,x.Content.Allow)|none=>(0,[]))) (some (0,[]))]
 ·rw[LZ];by_cases h:l.findIdx (fun x=>x.Kind==4)<l.length
  ·rw[DX h]
  rw[Dk h,J5 AB]
 ·intro k i h;have ha:=(hs _ (Ej h)).allow;unfold aNS;rw[DU h,D5 h,EK h];simp only[Af];rw[ED TB];rfl
 intro k;unfold aNS;rw[EO]
def qB (rule now:Int):Int:=bif now==3||rule==1 then 0 else bif now==1&&(rule==0||rule==2||rule==3)then 0 else 21
def yN (rule now:Int):Int:=bif rule==2&&(now==0||now==2)then 0 else 21
def amc (r n:Int):a2o r n=some (qB r n):=by
 unfold a2o qV a2F qB;cases n==3<;>cases r==1<;>cases r==2<;>cases r==3<;>cases r==0<;>cases n==1<;>rfl
def akF (r n:Int):aCF r n=some (qB r n):=by
 unfold aCF qB;cases n==3<;>cases r==1<;>cases r==2<;>cases r==3<;>cases r==0<;>cases n==1<;>rfl
def acF (r n:Int):aAz r n=some (yN r n):=by
 unfold aAz aA2 yN bne;cases r==2<;>cases n==0<;>cases n==2<;>rfl
def alh (r n:Int):a1y r n=some (yN r n):=by
 unfold a1y yN;cases r==2<;>cases n==0<;>cases n==2<;>rfl
def uV (m now:Int) (l:A8 AX):Int:=bif m==3 then qB (oD l).1 now else bif m==2 then yN (oD l).1 now else 0
def ajs (m now:Int) (l:A8 AX) (hl:l.length<=1000) (hs:E9 l):aAN m now l=some (uV m now l):=by
 unfold aAN uV;rw[anY l hl hs];simp only[Af];rw[amc,acF];cases m==3<;>cases m==2<;>rfl
def aix (e:AX) (now:Int) (l:A8 AX) (hl:l.length<=1000) (hs:E9 l):a1U e l now=some (uV e.Content.N now l):=by
 unfold a1U uV;rw[anZ l hl hs];simp only[Af];rw[akF,alh];cases e.Content.N==3<;>cases e.Content.N==2<;>rfl
def I7 (k:Int):Ad:=decide (k>=1)&&(k<=10)
def aL5 (k:Int):Za k=some (I7 k):=by
 unfold Za I7;cases decide (k>=1)<;>rfl
def zQ (k:Int):TJ k=some (I7 k):=by
 unfold TJ I7;cases decide (k>=1)<;>rfl
def Vm (v:Cx) (k:Int):Int:=match v.Kinds.find? fun x=>x.Kind==k with |some x=>x.N|none=>bif I7 k then v.State else v.Message
def aOA (v:Cx) (k:Int) (h:v.Kinds.length<=1000):jc v k=some (Vm v k):=by
 unfold jc aVg Vm;rw[KG v.Kinds (fuel_lt AB) (fun x=>x.Kind==k) (fun i=>some (match v.Kinds[i]? with |some x=>x.N|none=>0)) (some (bif I7 k then v.State else v.Message))]
 ·rw[LZ];by_cases h:v.Kinds.findIdx (fun x=>x.Kind==k)<v.Kinds.length
  ·rw[DX h,EK h]
  rw[Dk h,J5 AB]
 ·intro k2 i h;unfold aGA;rw[DU h,EK h]
 intro k2;unfold aGA;rw[EO,aL5];cases I7 k<;>rfl
def zD (v:Cx) (k:Int) (h:v.Kinds.length<=1000):lN v k=some (Vm v k):=by
 unfold lN aXf Vm;rw[KG v.Kinds (fuel_lt AB) (fun x=>x.Kind==k) (fun i=>some (match v.Kinds[i]? with |some x=>x.N|none=>0)) (some (bif I7 k then v.State else v.Message))]
 ·rw[LZ];by_cases h:v.Kinds.findIdx (fun x=>x.Kind==k)<v.Kinds.length
  ·rw[DX h,EK h]
  rw[Dk h,J5 AB]
 ·intro k2 i h;unfold aJ4;rw[DU h,D5 h,EK h];rfl
 intro k2;unfold aJ4;rw[EO,zQ];cases I7 k<;>rfl
def VF (j q u:Int):Ad:=q==u||(decide (q<=j)&&(u<=j))
def numsOf (v:Cx):A8 Int:=[v.User,v.Message,v.State,v.gY,v.kD,v.nZ,v.iJ]
def sZ (j:Int) (p:Int×Int):Ad:= !VF j p.1 p.2
def Un (j:Int) (q new:Cx) (x:KJ):Ad:= !VF j (Vm q x.Kind) (Vm new x.Kind)
def JH (q:Int) (j new:Cx) (user:BA) (x:Ig):Ad:= !(VF q (Eb j x.User) (Eb new x.User)&&(Eb j x.User==Eb new x.User||(x.User=user)||(Eb j x.User<q)))
def vk (j new:Cx) (user:BA):Int:=
 bif ((numsOf j).zip (numsOf new)).any (sZ (Eb j user))then 20 else bif (j.Kinds++new.Kinds).any (Un (Eb j user) j new)then 20 else bif (j.Users++new.Users).any (JH (Eb j user) j new user)then 20 else 0
def aNm (j q u:Int):WC q u j=some (!VF j q u):=by
 unfold WC VF;have z:(q != u)= !(q==u):=rfl;have I:decide (q>j)= !decide (q<=j):=by by_cases h:q<=j<;>simp[h]<;>omega
 have J:decide (u>j)= !decide (u<=j):=by by_cases h:u<=j<;>simp[h]<;>omega
 rw[z,I,J];cases q==u<;>cases decide (q<=j)<;>cases decide (u<=j)<;>rfl
def a2h (q j u:Int):jY j u q=some (VF q j u):=by
 unfold jY VF;cases j==u<;>cases decide (j<=q)<;>rfl
structure Yt (v:Cx):Prop where
 users:v.Users.length<=100
 kinds:v.Kinds.length<=100
def uD (a b:Cx):((numsOf a).zip (numsOf b)).length=7:=rfl
def aZ9 (q new:Cx) (user:BA) (Y:Yt q) (Z:Yt new):tN q new user=some (vk q new user):=by
 have o1:=Y.users;have o2:=Y.kinds;have n1:=Z.users;have n2:=Z.kinds;unfold tN;rw[Zi q user AB];unfold a0p;simp only[Af];unfold vk;generalize hown:Eb q user=u
 have hU:a2Q q new u user false 0=some (bif (q.Users++new.Users).any (JH u q new user)then 20 else 0):=by
  unfold a2Q;rw[aGi ([q.Users,new.Users]:A8 (A8 Ig)) (fuel_lt Bj) (fun us=>us.any (JH u q new user)) (fun _=>some 20) (some 0) false]
  ·have e:(q.Users++new.Users).any (JH u q new user)=([q.Users,new.Users]:A8 (A8 Ig)).any (fun us=>us.any (JH u q new user)):=Bj
   rw[e]
   have hf:∀L:A8 (A8 Ig),(if L.findIdx (fun us=>us.any (JH u q new user))<L.length then some (20:Int)else some 0)=some (bif L.any (fun us=>us.any (JH u q new user))then 20 else 0):=fun L=>by
    by_cases h:L.findIdx (fun us=>us.any (JH u q new user))<L.length
    ·rw[DX h];have :L.any (fun us=>us.any (JH u q new user))=true:=I8.2 ((Zw).1 h);rw[this];rfl
    rw[Dk h]
    have :L.any (fun us=>us.any (JH u q new user))=false:=by
     rw[Bool.eq_false_iff];exact fun k=>h (Zw.2 (I8.1 k))
    rw[this];rfl
   exact hf _
  ·intro k i h
   have M:([q.Users,new.Users]:A8 (A8 Ig))[i].length<=100:=by
    have :([q.Users,new.Users]:A8 (A8 Ig))[i]∈[q.Users,new.Users]:=Ej h;simp only[F5,FB,nI]at this;rcases this with e|e<;>rw[e]<;>assumption
   unfold aEu;rw[show decide ((i:Int)<2)=true by simp only[GZ,N8]at h;simp;omega,D5 h];simp only[Bq,Af];generalize([q.Users,new.Users]:A8 (A8 Ig))[i]=us at M;unfold aVc;rw[aGi us (fuel_lt AB) (JH u q new user) (fun _=>some 20) (k false (Ar ((i:Int)+1))) false]
   ·by_cases I:us.findIdx (JH u q new user)<us.length
    ·rw[DX I];have :us.any (JH u q new user)=true:=I8.2 ((Zw).1 I);rw[this];rfl
    rw[Dk I]
    have :us.any (JH u q new user)=false:=by
     rw[Bool.eq_false_iff];exact fun k=>I (Zw.2 (I8.1 k))
    rw[this];rfl
   ·intro k2 j O;unfold aD8 oJ;rw[DU O,Zi q _ AB,Zi new _ AB];simp only[Af];rw[aNm,J7];unfold JH;have I:decide (Eb q us[j].User>=u)= !decide (Eb q us[j].User<u):=by by_cases h:Eb q us[j].User<u<;>simp[h]<;>omega
    have h3:(Eb q us[j].User != Eb new us[j].User)= !(Eb q us[j].User==Eb new us[j].User):=rfl;simp only[Af];rw[I,h3];cases VF u (Eb q us[j].User) (Eb new us[j].User)<;>cases Eb q us[j].User==Eb new us[j].User<;>cases decide (us[j].User=user)<;>cases decide (Eb q us[j].User<u)<;>rfl
   intro k2;unfold aD8;rw[EO]
  intro k;unfold aEu oJ;rw[show decide (((([q.Users,new.Users]:A8 (A8 Ig)).length:Nat):Int)<2)=false from rfl];rfl
 have hK:aDL q new u user 0=some (bif (q.Kinds++new.Kinds).any (Un u q new)then 20 else bif (q.Users++new.Users).any (JH u q new user)then 20 else 0):=by
  unfold aDL;rw[Hl ([q.Kinds,new.Kinds]:A8 (A8 KJ)) (fuel_lt Bj) (fun z=>z.any (Un u q new)) 20 (a2Q q new u user false 0)]
  ·rw[hU];have e:(q.Kinds++new.Kinds).any (Un u q new)=([q.Kinds,new.Kinds]:A8 (A8 KJ)).any (fun z=>z.any (Un u q new)):=Bj
   rw[e];cases([q.Kinds,new.Kinds]:A8 (A8 KJ)).any (fun z=>z.any (Un u q new))<;>rfl
  ·intro k i h
   have U:([q.Kinds,new.Kinds]:A8 (A8 KJ))[i].length<=100:=by
    have :([q.Kinds,new.Kinds]:A8 (A8 KJ))[i]∈[q.Kinds,new.Kinds]:=Ej h;simp only[F5,FB,nI]at this;rcases this with e|e<;>rw[e]<;>assumption
   unfold aEQ;rw[show decide ((i:Int)<2)=true by simp only[GZ,N8]at h;simp;omega,D5 h];simp only[Bq,Af];generalize([q.Kinds,new.Kinds]:A8 (A8 KJ))[i]=z at U;unfold aPl;rw[Hl z (fuel_lt AB) (Un u q new) 20 (k (Ar ((i:Int)+1)))]
   ·intro k2 j O;unfold aEh;rw[DU O,aOA q _ AB,aOA new _ AB];simp only[Af];rw[aNm];rfl
   intro k2;unfold aEh;rw[EO]
  intro k;unfold aEQ;rw[show decide (((([q.Kinds,new.Kinds]:A8 (A8 KJ)).length:Nat):Int)<2)=false from rfl];rfl
 unfold aPg;rw[Hl ((numsOf q).zip (numsOf new)) aOK (sZ u) 20 (aDL q new u user 0)]
 ·rw[hK];cases((numsOf q).zip (numsOf new)).any (sZ u)<;>rfl
 ·intro k i h;have J:i<7:=by rw[uD]at h;exact h
  have e1:Am [q.User,q.Message,q.State,q.gY,q.kD,q.nZ,q.iJ] (i:Int)=some ((numsOf q)[i]'(J)):=D5 (l:=numsOf q) J;have e2:Am [new.User,new.Message,new.State,new.gY,new.kD,new.nZ,new.iJ] (i:Int)=some ((numsOf new)[i]'(J)):=D5 (l:=numsOf new) J;unfold aB5;rw[show decide ((i:Int)<7)=true by simp;omega,e1,e2];simp only[Bq,Af];rw[aNm,aGz];rfl
 intro k;unfold aB5;rw[uD,show decide (((7:Nat):Int)<7)=false from rfl];rfl
def ale (j new:Cx) (u user:BA) (q:Yt j) (z:Yt new):nU j new u user=some (VF (Eb j user) (Eb j u) (Eb new u)&&(Eb j u==Eb new u||(u=user)||(Eb j u<Eb j user))):=by
 have I:=q.users;have J:=z.users;unfold nU;rw[Xx j user AB,Xx j u AB,Xx new u AB];simp only[Af];rw[a2h,J7];simp only[Af];cases VF (Eb j user) (Eb j u) (Eb new u)<;>cases Eb j u==Eb new u<;>cases decide (u=user)<;>cases decide (Eb j u<Eb j user)<;>rfl
def alL (j new:Cx) (user:BA) (I:Yt j) (J:Yt new):aAa j new user=some (vk j new user):=by
 have o1:=I.users;have o2:=I.kinds;have n1:=J.users;have n2:=J.kinds;unfold aAa;rw[Xx j user AB];unfold a2C;simp only[Af];unfold vk
 have u:∀x:Ig,(nU j new x.User user)=some (!JH (Eb j user) j new user x):=fun x=>by
  rw[ale j new _ _ I J];unfold JH;rw[uH]
 generalize M:Eb j user=q at u
 have L:aGP new j user 0=some (bif new.Users.any (JH q j new user)then 20 else 0):=by
  unfold aGP;rw[Hl new.Users (fuel_lt AB) (JH q j new user) 20 (some 0)]
  ·cases new.Users.any (JH q j new user)<;>rfl
  ·intro k i h;unfold aLm;rw[DU h,u];simp only[Af,uH]
  intro k;unfold aLm;rw[EO]
 have U:aFZ j new user 0=some (bif (j.Users++new.Users).any (JH q j new user)then 20 else 0):=by
  unfold aFZ;rw[Hl j.Users (fuel_lt AB) (JH q j new user) 20 (some (bif new.Users.any (JH q j new user)then 20 else 0))]
  ·rw[aJ1];cases j.Users.any (JH q j new user)<;>rfl
  ·intro k i h;unfold aK1;rw[DU h,u];simp only[Af,uH]
  intro k;unfold aK1;rw[EO,L]
 have Y:a1d j new q user 0=some (bif (j.Kinds++new.Kinds).any (Un q j new)then 20 else bif (j.Users++new.Users).any (JH q j new user)then 20 else 0):=by
  unfold a1d;have O:Ar ((j.Kinds.length:Int)+(new.Kinds.length:Int))=(((j.Kinds++new.Kinds).length:Nat):Int):=by rw[EZ,Y9];omega
  rw[Hl (j.Kinds++new.Kinds) (fuel_lt LK) (Un q j new) 20 (some (bif (j.Users++new.Users).any (JH q j new user)then 20 else 0))]
  ·cases(j.Kinds++new.Kinds).any (Un q j new)<;>rfl
  ·intro k i h;unfold aG4 aE3;rw[O,dec_lt h];simp only[Bq];by_cases hi:i<j.Kinds.length
   ·rw[dec_lt hi,D5 hi];simp only[Bq,Af];rw[zD j _ AB,zD new _ AB];simp only[Af];rw[a2h,aMX hi];rfl
   have Z:i-j.Kinds.length<new.Kinds.length:=by rw[EZ]at h;omega
   have w:Ar ((i:Int)-(j.Kinds.length:Int))=((i-j.Kinds.length:Nat):Int):=by rw[EZ]at h;rw[Y9];omega
   rw[show decide ((i:Int)<(j.Kinds.length:Int))=false by simp;omega,w,D5 Z];simp only[BZ,Af];rw[zD j _ AB,zD new _ AB];simp only[Af];rw[a2h,List.getElem_append_right AB];rfl
  intro k;unfold aG4;rw[O,Dq,U];rfl
 unfold aVh;rw[Hl ((numsOf j).zip (numsOf new)) aOK (sZ q) 20 (a1d j new q user 0)]
 ·rw[Y];cases((numsOf j).zip (numsOf new)).any (sZ q)<;>rfl
 ·intro k i h;have z:i<7:=by rw[uD]at h;exact h
  have e1:Am [j.User,j.Message,j.State,j.gY,j.kD,j.nZ,j.iJ] (i:Int)=some ((numsOf j)[i]'(z)):=D5 (l:=numsOf j) z;have e2:Am [new.User,new.Message,new.State,new.gY,new.kD,new.nZ,new.iJ] (i:Int)=some ((numsOf new)[i]'(z)):=D5 (l:=numsOf new) z;unfold aLW;rw[show decide ((i:Int)<(([j.User,j.Message,j.State,j.gY,j.kD,j.nZ,j.iJ]:A8 Int).length:Int))=true from dec_lt (n:=7) z,e1,e2];simp only[Bq,Af];rw[a2h,aGz];rfl
 intro k;unfold aLW;rw[uD];rfl
def zW (e:AX) (l:A8 AX) (now:Int):Int:=
 bif !(Ln l e.bG==3)then 18 else
 bif e.Content.N==1&&decide (Eb (Gs l) e.bG<(Gs l).gY)then 20 else
 bif e.Content.N==0&&((now==4&&(Eb (Gs l) e.bG<(Gs l).nZ))||(Eb (Gs l) e.bG<(Gs l).kD)||(Eb (Gs l) e.Key>=Eb (Gs l) e.bG))then 20 else
 bif e.Content.N==4&&(decide (Eb (Gs l) e.bG<(Gs l).nZ)||(Eb (Gs l) e.Key>=Eb (Gs l) e.bG))then 20 else 0
def Fn2 (e:AX) (l:A8 AX):Int:=
 bif mX e l then 0 else
 bif decide (e.Key=e.bG)&&Ln l e.Key==4 then 19 else
 bif !moveB (Ln l e.Key) e.Content.N (decide (e.Key=e.bG))then 18 else
 bif e.Key=e.bG then uV e.Content.N (Ln l e.Key) l else zW e l (Ln l e.Key)
def rW (e:AX) (l:A8 AX):Int:=
 bif Eb (Gs l) e.bG<Vm (Gs l) e.Kind then 20 else bif e.Kind==3 then vk (Gs l) e.Content.Levels e.bG else 0
def QO (s:BA):BA:=(splitB s (KD s)).2.1
def LW (e:AX) (l:A8 AX):Int:=
 bif e.Kind==1 then(bif !(Kz l).2&&(QO e.bG).toList==(QO e.Room).toList then 0 else 17)else
 bif !(Kz l).2 then 17 else bif e.Kind==2 then Fn2 e l else bif !(Ln l e.bG==3)then 18 else rW e l
def aWg {l:A8 AX} (h:E9 l):Yt (Gs l):=⟨(nD h).1,(nD h).2⟩
def FV.levels {e:AX} (h:FV e):Yt e.Content.Levels:=⟨h.users,h.kinds⟩
def afT (e:AX) (l:A8 AX) (hl:l.length<=1000) (hs:E9 l) (q:FV e):aCW e l=some (rW e l):=by
 have j:=aWg hs;have u:=j.users;have z:=j.kinds;unfold aCW rW;rw[aMo l hl hs];simp only[Af];rw[Zi _ _ AB,aOA _ _ AB];simp only[Af];rw[aZ9 _ _ _ j q.levels];cases decide (Eb (Gs l) e.bG<Vm (Gs l) e.Kind)<;>cases e.Kind==3<;>rfl
def aev (e:AX) (l:A8 AX) (hl:l.length<=1000) (hs:E9 l) (q:FV e):a0t e l=some (rW e l):=by
 have j:=aWg hs;have u:=j.users;have z:=j.kinds;unfold a0t rW;rw[aGs l hl];simp only[Af];rw[Xx _ _ AB,zD _ _ AB];simp only[Af];rw[alL _ _ _ j q.levels];cases decide (Eb (Gs l) e.bG<Vm (Gs l) e.Kind)<;>cases e.Kind==3<;>rfl
def jq (x:Int):Except Aw Unit:=.error (.iface 165 (.agg #[.int .i64 x]))
def aXS (x:Int):dG x=some (jq x):=rfl
def aHl (b:Ad) (x:Int):RG b x=some (bif b then .ok ()else jq x):=by cases b<;>rfl
def aNP (b:Ad) (x:Int) (f:Unit->AO (Except Aw Unit)):Ll (bif b then .ok ()else jq x) f=bif b then f ()else some (jq x):=by cases b<;>rfl
def aT6 (x:Int) (f:Unit->AO (Except Aw Unit)):Ll (jq x) f=some (jq x):=rfl
def aiy (a b:Int):decide (a>=b)= !decide (a<b):=by by_cases h:a<b<;>simp[h]<;>omega
def adI (e:AX) (l:A8 AX) (now:Int) (hl:l.length<=1000) (hs:E9 l):(kY l e now).bind Tq=some (zW e l now):=by
 have z:=(nD hs).1;unfold kY zW;rw[aNT l _ hl,aMo l hl hs];simp only[Af];rw[Zi _ _ AB,Zi _ _ AB];simp only[aHl,Af,aNP,aiy]
 have I:decide (Eb (Gs l) e.Key<Eb (Gs l) e.bG)= !decide (Eb (Gs l) e.bG<=Eb (Gs l) e.Key):=by
  by_cases h:Eb (Gs l) e.Key<Eb (Gs l) e.bG<;>simp[h]<;>omega
 have u:(now != 4)= !(now==4):=rfl;rw[u];generalize decide (Eb (Gs l) e.Key<Eb (Gs l) e.bG)=t;generalize decide (Eb (Gs l) e.bG<(Gs l).gY)=i;generalize decide (Eb (Gs l) e.bG<(Gs l).nZ)=b;generalize decide (Eb (Gs l) e.bG<(Gs l).kD)=k;generalize(now==4)=n;cases Ln l e.bG==3 with
 |false=>rfl
 |true=>
  by_cases j:e.Content.N=1
  ·rw[j];cases i<;>rfl
  rw[show(e.Content.N==1)=false by simpa using j];by_cases q:e.Content.N=0
  ·rw[q];cases n<;>cases b<;>cases k<;>cases t<;>rfl
  rw[show(e.Content.N==0)=false by simpa using q];cases e.Content.N==4<;>cases b<;>cases t<;>rfl
def afO (e:AX) (l:A8 AX) (now:Int) (hl:l.length<=1000) (hs:E9 l):aBs e l now=some (zW e l now):=by
 have j:=(nD hs).1;unfold aBs zW;rw[aFP l _ hl,aGs l hl];simp only[Af];rw[Xx _ _ AB,Xx _ _ AB];simp only[Af,Ky,lI,Tf,bne]
def aij (e:AX) (l:A8 AX) (hl:l.length<=1000) (hs:E9 l):a0j e l=some (Fn2 e l):=by
 unfold a0j Fn2;rw[aaw e l hl];simp only[Af];cases mX e l with
 |true=>rfl
 |false=>
  simp only[BZ]
  have q:∀o:AO (Except Aw Unit),(o.bind fun u=>(Tq u).bind fun z=>some z)=o.bind Tq:=fun o=>by
   cases o with
   |none=>rfl
   |some x=>cases h:Tq x<;>simp[h]
  rw[q];have j:=adI e l (Ln l e.Key) hl hs;unfold aJA;rw[aNT l _ hl,J7];simp only[Af];rw[akd,ajs _ _ _ hl hs];simp only[Af,aHl,aXS,aNP,aT6,Ky];have I:(Ln l e.Key != 4)= !(Ln l e.Key==4):=rfl;rw[I];generalize kY l e (Ln l e.Key)=J at j;generalize decide (e.Key=e.bG)=s;cases s with
  |true=>
   cases Ln l e.Key==4 with
   |true=>rfl
   |false=>cases moveB (Ln l e.Key) e.Content.N true<;>rfl
  |false=>
   cases moveB (Ln l e.Key) e.Content.N false with
   |false=>rfl
   |true=>exact j
def ajQ (e:AX) (l:A8 AX) (hl:l.length<=1000) (hs:E9 l):a2W e l=some (Fn2 e l):=by
 unfold a2W Fn2;rw[aiQ e l hl,aFP l _ hl];simp only[Af];rw[aRx,aix e _ l hl hs,afO e l _ hl hs,J7];simp only[Af,Ky,Tf]
def wu (e:AX) (l:A8 AX) (hl:l.length<=1000) (hs:E9 l) (j:FV e):VL e l=some (LW e l):=by
 have I:=j.sender;have J:=j.room;unfold VL LW
 have q:∀o:AO (Except Aw Unit),(o.bind fun u=>(Tq u).bind fun z=>some z)=o.bind Tq:=fun o=>by
  cases o with
  |none=>rfl
  |some x=>cases h:Tq x<;>simp[h]
 rw[q];unfold aLK a2d aA9 aB8;rw[aVy l hl,(XQ (s:=e.bG) AB).1,(XQ (s:=e.Room) AB).1,aNT l _ hl,afT e l hl hs j,aij e l hl hs];simp only[Af,aHl,aXS,aNP,aT6];show _=some (bif e.Kind==1 then(bif !(Kz l).2&&(splitB e.bG (KD e.bG)).2.1.toList==(splitB e.Room (KD e.Room)).2.1.toList then 0 else 17)else _);cases e.Kind==1 with
 |true=>
  cases(Kz l).2 with
  |true=>rfl
  |false=>cases(splitB e.bG (KD e.bG)).2.1.toList==(splitB e.Room (KD e.Room)).2.1.toList<;>rfl
 |false=>
  cases(Kz l).2 with
  |false=>rfl
  |true=>
   cases e.Kind==2 with
   |true=>rfl
   |false=>cases Ln l e.bG==3<;>rfl
def qh (e:AX) (l:A8 AX) (hl:l.length<=1000) (hs:E9 l) (j:FV e):Ui e l=some (LW e l):=by
 have q:=j.sender;have u:=j.room;unfold Ui a2z LW;rw[aWQ l hl,(XQ (s:=e.bG) AB).2,(XQ (s:=e.Room) AB).2,aFP l _ hl,aev e l hl hs j,ajQ e l hl hs];simp only[Af];show _=some (bif e.Kind==1 then(bif !(Kz l).2&&(splitB e.bG (KD e.bG)).2.1.toList==(splitB e.Room (KD e.Room)).2.1.toList then 0 else 17)else _);cases e.Kind==1 with
 |true=>
  cases(Kz l).2 with
  |true=>rfl
  |false=>cases(splitB e.bG (KD e.bG)).2.1.toList==(splitB e.Room (KD e.Room)).2.1.toList<;>rfl
 |false=>
  cases(Kz l).2 with
  |false=>rfl
  |true=>
   cases e.Kind==2 with
   |true=>rfl
   |false=>unfold bne;cases Ln l e.bG==3<;>rfl
def jA (named:A8 AX) (k:BM):AX×Ad:=match named.find? (FT k)with |some x=>(x,true)|none=>(Ch,false)
def jm (l:A8 AX) (s:A8 BM) (e:AX) (k:BM):AX×Ad:=bif (IW s k.Kind k.Key).2 then Hr l (IW s k.Kind k.Key).1 else jA (ofIds l e.bT) k
def UR (l:A8 AX) (s:A8 BM) (e:AX) (k:BM):A8 AX:=bif (jm l s e k).2 then[(jm l s e k).1]else[]
def Wh (l:A8 AX) (s:A8 BM) (e:AX):A8 AX:=(keysOf e).flatMap (UR l s e)
def aGB (l:A8 AX) (s:A8 BM) (e:AX) (k:BM):(UR l s e k).length<=1:=by
 unfold UR;cases(jm l s e k).2<;>simp
def aSn (l:A8 AX) (s:A8 BM) (e:AX):(Wh l s e).length<=5:=by
 have j:=flat_length (f:=UR l s e) (n:=1) (aGB l s e) (keysOf e);have q:=RX e;unfold Wh;omega
def ahF {l:A8 AX} {s:A8 BM} {e x:AX} (h:x∈Wh l s e):x∈l:=by
 obtain⟨k,_,h⟩:=XA.1 h;unfold UR jm jA at h;cases q:(IW s k.Kind k.Key).2 with
 |true=>
  rw[q]at h;simp only[Bq]at h;cases hp:Ed l (IW s k.Kind k.Key).1 with
  |none=>rw[SK hp]at h;exact absurd h FB
  |some y=>rw[Nl hp]at h;rw[KP.1 h];exact NV hp
 |false=>
  rw[q]at h;simp only[BZ]at h;cases j:(ofIds l e.bT).find? (FT k)with
  |none=>rw[j]at h;exact absurd h FB
  |some y=>rw[j]at h;rw[KP.1 h];exact a1C (dP j)
def E9.base {l:A8 AX} (h:E9 l) (s:A8 BM) (e:AX):E9 (Wh l s e):=fun x j=>h x (ahF j)
def ajx (named:A8 AX) (k:BM) (j:named.length<=1000):aCP named k=some (jA named k):=by
 unfold aCP;rw[a1i named AB (fun a0=>yI a0 k) (FT k) fun e=>by unfold yI FT;rw[J7];cases e.Kind==k.Kind<;>rfl];exact found_eq named (FT k) rfl
def agw (named:A8 AX) (k:BM) (j:named.length<=1000):aD4 named k.Kind k.Key=some (jA named k):=by
 unfold aD4 aX3;rw[aMO named (fuel_lt AB) (FT k) (fun i=>some (match named[i]? with |some x=>(x,true)|none=>(Ch,false))) (some (Ch,false))]
 ·exact aLi named _
 ·intro k2 i h;unfold aLc;rw[DU h,D5 h,EK h];simp only[Af];rw[J7];unfold FT;cases named[i].Kind==k.Kind<;>cases decide (named[i].Key=k.Key)<;>rfl
 intro k2;unfold aLc;rw[EO]
def aZJ (l:A8 AX) (s:A8 BM) (e:AX) (hl:l.length<=1000) (q:e.bT.length<=40) (hs:Ju s) (j:s.length<=1000000):a0e l s e=some (Wh l s e):=by
 unfold a0e;have u:=ZK l e.bT;have z:=RX e;have hm:Iy 376 Ch 0 5=some []:=by unfold Iy;rw[DX aD3];rfl
 rw[aTR l _ hl AB,hm,aQw];simp only[Af];unfold aPN;rw[Ia (keysOf e) AB (fun r k=>r++UR l s e k) (fun i r=>r.length<=i) (fun r=>some r) (EX _)]
 ·rw[foldl_append (UR l s e),Ik];rfl
 ·intro k r i h I;have hp:=aGB l s e (keysOf e)[i];refine⟨LK,?_⟩;unfold aJL aBH aAA;rw[DU h,ajx _ _ AB,aKL s _ _ j hs];simp only[Af];rw[Ot l _ AB,ED Fz];simp only[Af];rw[ED Fz];unfold UR jm;cases(IW s (keysOf e)[i].Kind (keysOf e)[i].Key).2 with
  |true=>
   simp only[Bq];cases(Hr l (IW s (keysOf e)[i].Kind (keysOf e)[i].Key).1).2 with
   |true=>rfl
   |false=>simp
  |false=>
   simp only[BZ];cases(jA (ofIds l e.bT) (keysOf e)[i]).2 with
   |true=>rfl
   |false=>simp
 intro k r _;unfold aJL;rw[EO]
def aaW (l:A8 AX) (s:A8 BM) (e:AX) (hl:l.length<=1000) (q:e.bT.length<=40) (j:s.length<=1000000):aDZ l s e=some (Wh l s e):=by
 unfold aDZ;have u:=ZK l e.bT;have z:=RX e;rw[aB1,aJt l _ hl AB];simp only[Af];unfold aUi;rw[Ia (a0:=[]) (keysOf e) AB (fun r k=>r++UR l s e k) (fun i r=>r.length<=i) (fun r=>some r) (EX _)]
 ·rw[foldl_append (UR l s e),Ik];rfl
 ·intro k r i h I;have hp:=aGB l s e (keysOf e)[i];refine⟨LK,?_⟩;unfold aMA aCs a2B;rw[dec_lt h,D5 h];simp only[Bq,Af];rw[agw _ _ AB,aJd s _ _ j];simp only[Af];rw[Kv l _ AB,ED Fz];simp only[Af];rw[ED Fz];unfold UR jm;cases(IW s (keysOf e)[i].Kind (keysOf e)[i].Key).2 with
  |true=>
   simp only[Bq];cases(Hr l (IW s (keysOf e)[i].Kind (keysOf e)[i].Key).1).2 with
   |true=>rfl
   |false=>simp
  |false=>
   simp only[BZ];cases(jA (ofIds l e.bT) (keysOf e)[i]).2 with
   |true=>rfl
   |false=>simp
 intro k r _;unfold aMA;rw[Dq];rfl
def YU (l:A8 AX) (s:A8 BM) (id:Int):Ad:=dJ l id&&(I7 (ev l id).Kind&&LW (ev l id) (Wh l s (ev l id))==0)
def Ry (l:A8 AX) (s:A8 BM) (id:Int):A8 BM:=bif YU l s id then Gi s (ev l id).Kind (ev l id).Key (ev l id).Id else s
def Ri (l:A8 AX) (s:A8 BM) (ids:A8 Int):A8 BM:=ids.foldl (Ry l) s
def aVD {l:A8 AX} {s:A8 BM} (h:Ju s) (id:Int):Ju (Ry l s id):=by
 unfold Ry;cases YU l s id with
 |true=>exact XW h _ _ _
 |false=>exact h
def aIZ {l:A8 AX}:∀{ids:A8 Int} {s:A8 BM},Ju s->Ju (Ri l s ids)
 | [],_,h=>h
 |id::ids,s,h=>aIZ (ids:=ids) (aVD h id)
def aKw (l:A8 AX) (s:A8 BM) (id:Int):(Ry l s id).length<=s.length+1:=by
 unfold Ry;cases YU l s id with
 |true=>exact QE _ _ _ _
 |false=>exact Nat.le_succ _
def aBj (l:A8 AX):∀(ids:A8 Int) (s:A8 BM),(Ri l s ids).length<=s.length+ids.length
 | [],s=>EX _
 |id::ids,s=>by
  have j:=aBj l ids (Ry l s id);have q:=aKw l s id;show(Ri l (Ry l s id) ids).length<=_;rw[GZ];omega
def aPY {l:A8 AX} (hs:E9 l) {id:Int} (h:dJ l id=true):FV (ev l id):=hs _ (NV (Nv h).1)
def ahA (l:A8 AX) (s:A8 BM) (id:Int) (hl:l.length<=1000) (hs:E9 l) (z:Ju s) (q:s.length<=1000000):a1N l s id=some (Ry l s id):=by
 unfold a1N aJs wG Ry YU;have j:a2j s (.error (.iface 331 (.agg #[])):Except Aw (A8 BM))=some s:=rfl;rw[Ot l _ AB];simp only[Af];rw[Oq];cases J:(Ed l id).isSome with
 |false=>rw[show dJ l id=false from J];exact j
 |true=>
  have u:dJ l id=true:=J;have L:=aPY hs u;have I:(Hr l id).1=ev l id:=rfl;rw[u,I,aL5];simp only[Af,Eo,BZ,Gh];cases I7 (ev l id).Kind with
  |false=>exact j
  |true=>
   have M:=aSn l s (ev l id);rw[aZJ l s _ hl L.auth z q];simp only[Af,Eo,BZ,Gh];rw[wu _ _ AB (hs.base s _) L];simp only[Af];rw[Xl s _ _ _ q];unfold bne;cases LW (ev l id) (Wh l s (ev l id))==0 with
   |true=>rfl
   |false=>exact j
def aVa (l:A8 AX) (s:A8 BM) (ids:A8 Int) (hl:l.length<=1000) (hs:E9 l) (j:Ju s) (u:s.length+ids.length<=1000000):cZ l s ids=some (Ri l s ids):=by
 unfold cZ a0N;rw[ED TB];simp only[Af,Ik];unfold aYG;rw[Ia ids AB (Ry l) (fun i r=>Ju r/\r.length<=s.length+i) (fun r=>some r) ⟨j,EX _⟩]
 ·rfl
 ·intro k r i h q;have z:=aKw l r ids[i];refine⟨⟨aVD q.1 _,AB⟩,?_⟩;unfold aM8;rw[DU h,ahA l r _ hl hs q.1 AB];rfl
 intro k r _;unfold aM8;rw[EO]
def aSG (l:A8 AX) (s:A8 BM) (ids:A8 Int) (hl:l.length<=1000) (hs:E9 l) (I:s.length+ids.length<=1000000):bn l s ids=some (Ri l s ids):=by
 unfold bn;rw[ED TB];simp only[Af,Ik];unfold aYV;rw[Ia ids AB (Ry l) (fun i r=>r.length<=s.length+i) (fun r=>some r) (EX _)]
 ·rfl
 ·intro k r i h J;have L:=aKw l r ids[i];refine⟨AB,?_⟩;unfold aL9 rD aBS Ry YU;rw[DU h,Kv l _ AB];simp only[Af];rw[Oq];cases u:(Ed l ids[i]).isSome with
  |false=>rw[show dJ l ids[i]=false from u];rfl
  |true=>
   have j:dJ l ids[i]=true:=u;have z:=aPY hs j;have q:(Hr l ids[i]).1=ev l ids[i]:=rfl;rw[j,q,zQ];simp only[Af,Bq,Gh];cases I7 (ev l ids[i]).Kind with
   |false=>rfl
   |true=>
    have M:=aSn l r (ev l ids[i]);rw[aaW l r _ hl z.auth AB];simp only[Af,Bq,Gh];rw[qh _ _ AB (hs.base r _) z];simp only[Af];rw[aNg r _ _ _ AB];cases LW (ev l ids[i]) (Wh l r (ev l ids[i]))==0<;>rfl
 intro k r _;unfold aL9;rw[EO]
def O5 (l:A8 AX) (bH:A8 (A8 BM)):A8 Int:=Xy l (Lp l bH)
def Oz (l:A8 AX) (bH:A8 (A8 BM)):A8 Int:=OV l (G5 l (O5 l bH)).length (G5 l (O5 l bH))
def Ja (l:A8 AX) (bH:A8 (A8 BM)):A8 BM:=Ri l (Ir bH) (Oz l bH)
def Ya (l:A8 AX) (bH:A8 (A8 BM)):A8 Int:=bif (IW (Ja l bH) 3 CU).2 then iE l (IW (Ja l bH) 3 CU).1 else[]
def OL (l:A8 AX) (bH:A8 (A8 BM)):A8 Int:=V8 l (Ya l bH) (P6 (Lp l bH) (O5 l bH))
def pJ (s a:A8 BM):A8 BM:=a.foldl (fun s x=>Gi s x.Kind x.Key x.Id) s
def lastOf (l:A8 AX) (bH:A8 (A8 BM)):A8 BM:=pJ (Ri l (Ja l bH) (OL l bH)) (Ir bH)
structure O8 (l:List AX) (bH:List (List BM)):Prop where
 len:l.length<=100
 small:E9 l
 states:OU bH
def kN {l:A8 AX} {bH:A8 (A8 BM)} (h:O8 l bH):(Lp l bH).length<=40000:=by
 have z:=h.len;have I:=aDe h.states;have J:=MG (Sj bH);have j:=a3f l bH [] fun s hs=>(h.states.2 s hs).1;have q:=h.states.1;have u:=KL (fun x=>Ko l bH x<bH.length) (allOf l bH);have L:bH.length*(100+l.length)<=100*200:=a2O q AB;have M:=aKx (Eh (Sj bH)) (UC l bH)
 have O:(UC l bH).length<=20000:=by
  unfold UC;unfold allOf at u ⊢;simp only[N8]at j;omega
 unfold Lp;omega
def agX {l:A8 AX} {bH:A8 (A8 BM)} (h:O8 l bH):(Pv l (Lp l bH)).length<=40000:=FC (KL _ _) (kN h)
def aFS {l:A8 AX} {bH:A8 (A8 BM)} (h:O8 l bH):(Oz l bH).length<=100:=by
 have q:=aX0 l (G5 l (O5 l bH)).length (G5 l (O5 l bH));have u:(G5 l (O5 l bH)).length<=l.length:=lg (Zl _ _) fun x j=>(OG.1 j).2;have z:=h.len;unfold Oz;omega
def a1E {l:A8 AX} {bH:A8 (A8 BM)} (h:O8 l bH):(Ja l bH).length<=200:=by
 have j:=aBj l (Oz l bH) (Ir bH);have q:=aFS h;have u:=cO h.states;unfold Ja;omega
def aLs {l:A8 AX} {bH:A8 (A8 BM)} (h:O8 l bH):Ju (Ja l bH):=aIZ (aRt h.states)
def aUE {l:A8 AX} {bH:A8 (A8 BM)} (h:O8 l bH):(Ya l bH).length<=100:=by
 have j:=aXt l (IW (Ja l bH) 3 CU).1;have q:=h.len;unfold Ya;cases(IW (Ja l bH) 3 CU).2 with
 |true=>simp only[Bq];omega
 |false=>exact Du _
def aQa {l:A8 AX} {bH:A8 (A8 BM)} (h:O8 l bH):(OL l bH).length<=40000:=by
 have j:=amM l (Ya l bH) (P6 (Lp l bH) (O5 l bH));have q:=aLo (Lp l bH) (O5 l bH);have u:=kN h;unfold OL;omega
def aZC {l:A8 AX} {bH:A8 (A8 BM)} (h:O8 l bH):rV (Lp l bH) (O5 l bH) l (Ja l bH,Oz l bH) (Ir bH,Eh (Sj bH)) (Ya l bH)=some ⟨lastOf l bH,Oz l bH,OL l bH⟩:=by
 have u:=h.len;have z:=kN h;have I:=aAr l (Lp l bH);have J:=aUE h;have L:=aLo (Lp l bH) (O5 l bH);have M:=a1E h;have O:=aQa h;have U:=cO h.states;unfold rV aN7 aOG;rw[aaH _ _ AB (by unfold O5;omega)];simp only[Af];rw[ahV l _ _ AB h.small AB AB (Uo (aJy _ _))];simp only[Af];show((cZ l (Ja l bH) (OL l bH)).bind _).bind _=_;rw[aVa l _ _ AB h.small (aLs h) AB];simp only[Af];unfold aSE;have Y:=aBj l (OL l bH) (Ja l bH);show aU _ Az 0 (⟨Ri l (Ja l bH) (OL l bH),Oz l bH,OL l bH⟩:Oi)=_;rw[nK (Ir bH) AB (fun v x=>({ v with EI:=Gi v.EI x.Kind x.Key x.Id }:Oi)) (fun i v=>v.EI.length<=(Ri l (Ja l bH) (OL l bH)).length+i) (fun v=>some v) (EX _)]
 ·congr 1;unfold lastOf pJ
  have key:∀(a:A8 BM) (v:Oi),a.foldl (fun v x=>({ v with EI:=Gi v.EI x.Kind x.Key x.Id }:Oi)) v=⟨a.foldl (fun s x=>Gi s x.Kind x.Key x.Id) v.EI,v.akz,v.atM⟩:=by
   intro a
   induction a with
   |nil=>intro v;rfl
   |cons x a j=>intro v;rw[Gm,j];rfl
  rw[key]
 ·intro k v i hi Z;have q:=QE v.EI (Ir bH)[i].Kind (Ir bH)[i].Key (Ir bH)[i].Id;refine⟨by show(Gi _ _ _ _).length<=_;omega,?_⟩;unfold aJY;rw[DU hi,Xl _ _ _ _ AB];rfl
 intro k v _;unfold aJY;rw[EO]
def al9 {l:A8 AX} {bH:A8 (A8 BM)} (h:O8 l bH):aDs l bH=some ⟨lastOf l bH,Oz l bH,OL l bH⟩:=by
 have q:=h.len;have u:=kN h;have z:=aAr l (Lp l bH);have I:=agX h;have J:=a1E h;have L:=aFS h;have M:=cO h.states;have ht:=aZC h;unfold aDs;rw[aTP bH h.states,amB l bH AB h.small.akJ h.states];simp only[Af];rw[ail l _ AB h.small AB AB];simp only[Af];unfold aFm aL8;rw[agQ l _ AB h.small AB];simp only[Af];have ha:cZ l (Ir bH) (Oz l bH)=some (Ja l bH):=aVa l _ _ AB h.small (aRt h.states) AB;unfold Oz O5 at ha;rw[ha];simp only[Af];rw[aKL _ _ _ AB (aLs h)];simp only[Af];rw[aeY l _ AB h.small];unfold Ya at ht;cases j:(IW (Ja l bH) 3 CU).2 with
 |true=>rw[j]at ht;exact ht
 |false=>rw[j]at ht;exact ht
def acg {l:A8 AX} {bH:A8 (A8 BM)} (h:O8 l bH):vF (Lp l bH) (O5 l bH) l (Ir bH,Eh (Sj bH)) (Oz l bH) (Ja l bH) (Ya l bH)=some ⟨Ir bH,Oz l bH,Ja l bH,OL l bH,lastOf l bH⟩:=by
 have z:=h.len;have I:=kN h;have J:=aAr l (Lp l bH);have L:=aUE h;have M:=aLo (Lp l bH) (O5 l bH);have O:=a1E h;have U:=aQa h;have Y:=cO h.states;unfold vF;rw[a1m _ _ AB (by unfold O5;omega)];simp only[Af];rw[aeD l _ _ AB h.small AB AB (Uo (aJy _ _))];simp only[Af];show(bn l (Ja l bH) (OL l bH)).bind _=_;rw[aSG l _ _ AB h.small AB];simp only[Af];unfold aRI;have Z:=aBj l (OL l bH) (Ja l bH);show aU _ Az 0 (⟨Ir bH,Oz l bH,Ja l bH,OL l bH,Ri l (Ja l bH) (OL l bH)⟩:Oy)=_;rw[nK (Ir bH) AB (fun v x=>({ v with Last:=Gi v.Last x.Kind x.Key x.Id }:Oy)) (fun i v=>v.Same=Ir bH/\v.Last.length<=(Ri l (Ja l bH) (OL l bH)).length+i) (fun v=>some v) ⟨rfl,EX _⟩]
 ·congr 1;unfold lastOf pJ
  have key:∀(a:A8 BM) (v:Oy),a.foldl (fun v x=>({ v with Last:=Gi v.Last x.Kind x.Key x.Id }:Oy)) v=⟨v.Same,v.Power,v.First,v.Others,a.foldl (fun s x=>Gi s x.Kind x.Key x.Id) v.Last⟩:=by
   intro a
   induction a with
   |nil=>intro v;rfl
   |cons x a q=>intro v;rw[Gm,q];rfl
  rw[key]
 ·intro k v i hi j;have u:=QE v.Last (Ir bH)[i].Kind (Ir bH)[i].Key (Ir bH)[i].Id;refine⟨⟨j.1,by show(Gi _ _ _ _).length<=_;omega⟩,?_⟩;unfold aLU;rw[j.1,dec_lt hi,D5 hi];simp only[Bq,Af];rw[aNg _ _ _ _ AB];rfl
 intro k v j;unfold aLU;rw[j.1,Dq];rfl
def ahc {l:A8 AX} {bH:A8 (A8 BM)} (h:O8 l bH):a1e l bH=some ⟨Ir bH,Oz l bH,Ja l bH,OL l bH,lastOf l bH⟩:=by
 have q:=h.len;have u:=kN h;have z:=aAr l (Lp l bH);have I:=a1E h;have J:=aFS h;have L:=cO h.states;have ht:=acg h;unfold a1e;rw[aS4 bH h.states,aZk l bH AB h.small.akJ h.states];simp only[Af];rw[ais l _ AB h.small AB];simp only[Af];rw[adM l _ AB h.small AB];simp only[Af];have ha:bn l (Ir bH) (Oz l bH)=some (Ja l bH):=aSG l _ _ AB h.small AB;unfold Oz O5 at ha;rw[ha];simp only[Af];rw[aJd _ _ _ AB];simp only[Af];rw[aRa l _ AB h.small];unfold Ya at ht;cases j:(IW (Ja l bH) 3 CU).2 with
 |true=>rw[j]at ht;exact ht
 |false=>rw[j]at ht;exact ht
def qZ (l:A8 AX) (bH:A8 (A8 BM)):A8 BM:=match bH with
 | []=>[]
 | [s]=>s
 |_=>lastOf l bH
def aXa {l:A8 AX} {bH:A8 (A8 BM)} (h:O8 l bH):kP l bH=some (qZ l bH):=by
 match bH,h with
 | [],_=>rfl
 | [s],h=>
   have hs:=(h.states.2 s (GU ..)).1;have j:Am [s] 0=some s:=rfl;show((Am [s] 0).bind fun q=>(DL 32 [] q).bind fun u=>some u)=some s;rw[j];simp only[Af];rw[ED TB];rfl
 |s::t::bH,h=>
  unfold kP;have j:(((s::t::bH).length:Int)==0)=false:=aB0
  have z:(((s::t::bH).length:Int)==1)=false:=aB0
  rw[j,z,al9 h];rfl
def aXL {l:A8 AX} {bH:A8 (A8 BM)} (h:O8 l bH):sH l bH=some (qZ l bH):=by
 match bH,h with
 | [],_=>rfl
 | [s],_=>rfl
 |s::t::bH,h=>
  unfold sH;have j:(((s::t::bH).length:Int)==0)=false:=aB0
  have q:(((s::t::bH).length:Int)==1)=false:=aB0
  rw[j,q,ahc h];rfl
def aRX {x:BM}:∀(a s:A8 BM),x∈pJ s a->x∈a\/x∈s
 | [],_,h=>.inr h
 |y::a,s,h=>by
  rcases aRX a _ h with h|h
  ·exact .inl (Gv _ h)
  rcases VN h with h|h
  ·left;rw[h];cases y;exact GU ..
  exact .inr h
def aTU (l:A8 AX) (ids:A8 Int) (x:BM):Prop:=∃id∈ids,dJ l id=true/\I7 (ev l id).Kind=true/\x=⟨(ev l id).Kind,(ev l id).Key,(ev l id).Id⟩
def aIH {l:A8 AX} {x:BM}:∀(ids:A8 Int) (s:A8 BM),x∈Ri l s ids->x∈s\/aTU l ids x
 | [],_,h=>.inl h
 |id::ids,s,h=>by
  rcases aIH ids _ h with h|⟨j,u,h⟩
  ·have q:x∈bif YU l s id then Gi s (ev l id).Kind (ev l id).Key (ev l id).Id else s:=h
   cases hm:YU l s id with
   |false=>rw[hm]at q;exact .inl q
   |true=>
    rw[hm]at q;rcases VN q with q|q
    ·unfold YU at hm;simp only[Df]at hm;exact .inr ⟨id,GU ..,hm.1,hm.2.1,q⟩
    exact .inl q
  exact .inr ⟨j,Gv _ u,h⟩
def aYq {l:A8 AX} {bH:A8 (A8 BM)} {x:Int} (h:x∈O5 l bH):x∈Lp l bH:=(aGk.1 h).1
def ak8 {l:A8 AX} {bH:A8 (A8 BM)} {x:BM} (h:x∈lastOf l bH):x∈Ir bH\/aTU l (Lp l bH) x:=by
 unfold lastOf at h;rcases aRX _ _ h with h|h
 ·exact .inl h
 rcases aIH _ _ h with h|⟨j,q,h⟩
 ·unfold Ja at h;rcases aIH _ _ h with h|⟨j,q,h⟩
  ·exact .inl h
  exact .inr ⟨j,aYq (OG.1 (aT5 _ _ _ q)).1,h⟩
 exact .inr ⟨j,(aUo.1 (acD.1 q).1).1,h⟩
def aY9 :∀(a s:A8 BM),Ju s->Ju (pJ s a)
 | [],_,h=>h
 |x::a,s,h=>aY9 a _ (XW h x.Kind x.Key x.Id)
def alq {l:A8 AX} {bH:A8 (A8 BM)} (h:O8 l bH):Ju (lastOf l bH):=aY9 _ _ (aIZ (aLs h))
structure JV (l:List AX) (s:List BM):Prop where
 sorted:Ju s
 named:∀x∈s,dJ l x.Id=true/\I7 x.Kind=true/\(ev l x.Id).Kind=x.Kind/\(ev l x.Id).Key=x.Key
def JV.nil (l:A8 AX):JV l []:=⟨List.Pairwise.nil,fun _ h=>absurd h FB⟩
def JV.nodup {l:A8 AX} {s:A8 BM} (h:JV l s):(s.map (·.Id)).Nodup:=by
 rw[a2g,eA];refine List.Pairwise.imp_of_mem ?_ h.sorted;intro a b ha j hp e;obtain⟨_,_,q,k2⟩:=h.named a ha;obtain⟨_,_,u,z⟩:=h.named b j;have I:a.Kind=b.Kind:=by rw[←q,←u,e]
 have J:a.Key=b.Key:=by rw[←k2,←z,e]
 rw[uI (X8.2 ⟨I,J⟩)]at hp;cases hp
def JV.length {l:A8 AX} {s:A8 BM} (h:JV l s):s.length<=l.length:=by
 have :VU l (s.map (·.Id)):=⟨h.nodup,fun x j=>by
  obtain⟨y,q,rfl⟩:=FY.1 j
  exact(h.named y q).1⟩
 have :=this.length
 rwa [DY]at this
def JV.okay {l:A8 AX} {bH:A8 (A8 BM)} (hl:l.length<=100) (hs:E9 l) (j:bH.length<=100) (h:∀s∈bH,JV l s):O8 l bH:=
 ⟨hl,hs,j,fun s hm=>⟨FC (h s hm).length hl,(h s hm).sorted⟩⟩
def JV.resolve {l:A8 AX} {bH:A8 (A8 BM)} (j:O8 l bH) (h:∀s∈bH,JV l s):JV l (qZ l bH):=by
 match bH,j,h with
 | [],_,_=>exact .nil l
 | [s],_,h=>exact h s (GU ..)
 |s::t::bH,j,h=>
  refine⟨alq j,fun x I=>?_⟩;rcases ak8 I with hm|⟨id,_,z,hst,q⟩
  ·exact(h s (GU ..)).named x ((ai1 j.states (List.cons_ne_nil _ _)).1 hm s (GU ..))
  have u:=Nv z;have J:x.Id=id:=by rw[q];exact u.2
  rw[J];exact⟨z,by rw[q];exact hst,by rw[q],by rw[q]⟩
def JV.set {l:A8 AX} {s:A8 BM} (h:JV l s) {e:AX} (u:dJ l e.Id=true) (q:ev l e.Id=e) (hst:I7 e.Kind=true):JV l (Gi s e.Kind e.Key e.Id):=
 ⟨XW h.sorted _ _ _,fun x j=>by
  rcases VN j with rfl|j
  ·exact⟨u,hst,by rw[q],by rw[q]⟩
  exact h.named x j⟩
def V6 (l:A8 AX) (e:AX):Ad:=e.bK.all (dJ l)&&e.bT.all (dJ l)
def XP (l:A8 AX):Ad:=l.all (V6 l)
def cu {α:Type} {l:A8 α} {p:α->Ad} {x:α} (h:x∈l) (j:p x=false):l.all p=false:=by
 rw[←PO,EY];exact fun q=>by rw[q x h]at j;cases j
def all_good {α:Type} {l:A8 α} {p:α->Ad} (h:∀j,(hj:j<l.length)->p l[j]=true):l.all p=true:=EY.2 (ag2 h)
def aTu (j:A8 Int) (l:A8 AX) (m:A8 (Int×Int)) (h:Xo l m) (q:j.length<=1000):wU j m=some (j.all (dJ l)):=by
 unfold wU aY4;rw[Hl j (fuel_lt AB) (fun x=> !dJ l x) false (some true)]
 ·rw[List.all_eq_not_any_not];cases(j.any fun x=> !dJ l x)<;>rfl
 ·intro k i hi;unfold aHc;rw[DU hi,h.isSome]
 intro k;unfold aHc;rw[EO]
def aiP (l:A8 AX) (hl:l.length<=100) (hs:E9 l):aEl l=some (XP l):=by
 refine fF.eq ?_;unfold aEl;refine(yK l AB).bind fun m hm=>?_;unfold aVr;refine YA (body:=aJW l) (Q:=fun b=>b=XP l) (fun n a b=>∃i:Nat,a=i/\i+n=l.length/\b=m/\∀j,(q:j<i)->(hl:j<l.length)->V6 l l[j]=true) ?_ Az l.length 0 m (fuel_lt AB) ⟨0,rfl,AB,rfl,fun j q=>AB⟩;rintro n a b k ⟨i,rfl,L,rfl,z⟩ J;unfold aJW;by_cases hi:i<l.length
 ·have I:=hs l[i] (Ej hi);have M:=I.prev;have O:=I.auth;rw[DU hi,aTu _ l b hm AB,Af,D5 hi,Af,aTu _ l b hm AB];cases hp:l[i].bK.all (dJ l)with
  |false=>exact .ret (cu (Ej hi) (by unfold V6;rw[hp];rfl)).symm
  |true=>
   cases ha:l[i].bT.all (dJ l)with
   |false=>exact .ret (cu (Ej hi) (by unfold V6;rw[hp,ha];rfl)).symm
   |true=>
    refine J (n-1) _ _ AB ⟨i+1,wrap_succ i AB,AB,rfl,fun j q u=>?_⟩;by_cases e:j=i
    ·subst e;unfold V6;rw[hp,ha];rfl
    exact z j AB u
 have :i=l.length:=AB
 subst this;rw[EO];exact .ret (all_good fun j q=>z j q q).symm
def fO (l:A8 AX):A8 Int:=l.foldl (fun r e=>e.bT.foldl put (e.bK.foldl put r)) []
def ajT {l:A8 AX} {i:Nat} (hi:i<l.length) (q:A8 Int->Int->AO (A8 Int)) (v:A8 Int) (I:Inc v) (hl:v.length<=900000) (ha:l[i].bT.length<=40):
 aCp l (i:Int) q v 0=q (l[i].bT.foldl put v) (Ar ((i:Int)+1)):=by
 unfold aCp;rw[Ia l[i].bT AB put (fun j a=>Inc a/\a.length<=v.length+j) (fun a=>q a (Ar ((i:Int)+1))) ⟨I,AB⟩]
 ·intro k a j u z;have hp:=jL a l[i].bT[j];refine⟨⟨TK z.1,AB⟩,?_⟩;unfold aFl;rw[D5 hi,Af,dec_lt u,Bq,Af,D5 u,Af,aLV a _ z.1 AB,Af]
 intro k a _;unfold aFl;rw[D5 hi,Af,Dq];rfl
def ahW {l:A8 AX} {i:Nat} (hi:i<l.length) (q:A8 Int->Int->AO (A8 Int)) (v:A8 Int) (u:Inc v) (hl:v.length<=800000) (hp:l[i].bK.length<=40) (ha:l[i].bT.length<=40):
 aKW l (i:Int) q v 0=q (l[i].bT.foldl put (l[i].bK.foldl put v)) (Ar ((i:Int)+1)):=by
 unfold aKW;rw[Ia l[i].bK AB put (fun j a=>Inc a/\a.length<=v.length+j) (fun a=>aCp l (i:Int) q a 0) ⟨u,AB⟩]
 ·have h:=lZ l[i].bK v;exact ajT hi q _ (a3b u) AB ha
 ·intro k a j z I;have hp:=jL a l[i].bK[j];refine⟨⟨TK I.1,AB⟩,?_⟩;unfold aNQ;rw[D5 hi,Af,dec_lt z,Bq,Af,D5 z,Af,aLV a _ I.1 AB,Af]
 intro k a _;unfold aNQ;rw[D5 hi,Af,Dq];rfl
def aBJ :∀(l:A8 AX) (r:A8 Int),Inc r->(∀e∈l,e.bK.length<=40/\e.bT.length<=40)->
 Inc (l.foldl (fun r e=>e.bT.foldl put (e.bK.foldl put r)) r)/\(l.foldl (fun r e=>e.bT.foldl put (e.bK.foldl put r)) r).length<=r.length+l.length*80/\
 ∀x,x∈l.foldl (fun r e=>e.bT.foldl put (e.bK.foldl put r)) r↔x∈r\/∃e∈l,x∈e.bK\/x∈e.bT
 | [],r,h,_=>⟨h,Bj,fun x=>Bj⟩
 |e::l,r,h,hs=>by
  have I:=hs e (GU ..);obtain⟨q,J,u⟩:=aBJ l (e.bT.foldl put (e.bK.foldl put r)) (a3b (a3b h)) fun x z=>hs x (Gv _ z);have L:=lZ e.bK r;have M:=lZ e.bT (e.bK.foldl put r);rw[Gm];refine⟨q,by rw[GZ];omega,fun x=>(u x).trans ?_⟩;rw[aGd,aGd];constructor
  ·rintro(((h|h)|h)|⟨y,j,h⟩)
   ·exact .inl h
   ·exact .inr ⟨e,GU ..,.inl h⟩
   ·exact .inr ⟨e,GU ..,.inr h⟩
   exact .inr ⟨y,Gv _ j,h⟩
  rintro(h|⟨y,j,h⟩)
  ·exact .inl (.inl (.inl h))
  rcases F5.1 j with rfl|j
  ·exact h.elim (fun h=>.inl (.inl (.inr h))) fun h=>.inl (.inr h)
  exact .inr ⟨y,j,h⟩
def E9.lists {l:A8 AX} (hs:E9 l):∀e∈l,e.bK.length<=40/\e.bT.length<=40:=fun e j=>⟨(hs e j).prev,(hs e j).auth⟩
def aeV {l:A8 AX} {i:Nat} (h:i<l.length):(l.take (i+1)).foldl (fun r e=>e.bT.foldl put (e.bK.foldl put r)) ([]:A8 Int)=l[i].bT.foldl put (l[i].bK.foldl put ((l.take i).foldl (fun r e=>e.bT.foldl put (e.bK.foldl put r)) [])):=by
 rw[Tj,EK h,RV,V5];rfl
def acL (l:A8 AX) (hl:l.length<=1000) (hs:E9 l):a0y l=some (fO l):=by
 unfold a0y aWV;refine fF.eq (Jb l.length (fuel_lt AB) (fun i a=>a=(l.take i).foldl (fun r e=>e.bT.foldl put (e.bK.foldl put r)) []) rfl (fun i a k hi ha q=>?_) fun a k ha=>?_)
 ·subst ha;obtain⟨u,j,_⟩:=aBJ (l.take i) [] .nil fun e z=>hs.lists e (mG z);have hp:=hs.lists l[i] (Ej hi);unfold aLR;rw[dec_lt hi,Bq,ahW hi k _ u (by rw[G6]at j;simp only[N8]at j;omega) hp.1 hp.2,wrap_succ i AB];exact q _ (aeV hi).symm
 unfold aLR;rw[Dq];refine .ret ?_;rw[ha,GX];rfl
def aj6 {l:A8 AX} (hs:E9 l):(fO l).length<=l.length*80:=by
 have :=(aBJ l [] .nil hs.lists).2.1;unfold fO;simpa using this
def aRk {l:A8 AX} (hs:E9 l) {x:Int}:x∈fO l↔∃e∈l,x∈e.bK\/x∈e.bT:=by
 have :=(aBJ l [] .nil hs.lists).2.2 x;unfold fO;rw[this];simp
def aeH {l:A8 AX}:XP l=true↔∀e∈l,(∀x∈e.bK,dJ l x=true)/\∀x∈e.bT,dJ l x=true:=by
 unfold XP V6;simp only[EY,Df]
def aa0 (l:A8 AX) (hl:l.length<=1000) (hs:E9 l):a2D l=some (XP l):=by
 have M:=aj6 hs;unfold a2D;rw[acL l hl hs,Af,aJe l _ hl AB,Af];refine BP some ?_;rw[OY,aeH];constructor
 ·intro h e q;have u:ZY l (fO l)=[]:=Hw aMh
  have key:∀x,x∈e.bK\/x∈e.bT->dJ l x=true:=fun x j=>by
   cases I:dJ l x with
   |true=>rfl
   |false=>have :=aHX.2 ⟨(aRk hs).2 ⟨e,q,j⟩,I⟩;rw[u]at this;cases this
  exact⟨fun x j=>key x (.inl j),fun x j=>key x (.inr j)⟩
 intro h
 have u:ZY l (fO l)=[]:=List.eq_nil_iff_forall_not_mem.2 fun x j=>by
  obtain⟨J,z⟩:=aHX.1 j;obtain⟨e,q,L⟩:=(aRk hs).1 J;rw[L.elim ((h e q).1 x) ((h e q).2 x)]at z;cases z
 rw[u];rfl
def iC (l:A8 AX):Prop:=∀e∈l,1<=e.Depth/\e.Depth<=100000
def Hz (l:A8 AX) (x:Int):Int:=(Hr l x).1.Depth
def Rn (l:A8 AX) (e:AX):Ad:=e.bT.all (fun x=>Hz l x<e.Depth)&&bif (e.bK.length:Int)==0 then e.Depth==1 else e.bK.all (fun x=>Hz l x<e.Depth)&&e.bK.any fun x=>Hz l x==e.Depth-1
def Js (l:A8 AX):Int:=bif XP l then bif l.all (Rn l)then 0 else 15 else 14
def aSM {l:A8 AX} (h:iC l) (x:Int):0<=Hz l x/\Hz l x<=100000:=by
 unfold Hz Hr;cases j:Ed l x with
 |none=>exact⟨ZQ 0,Bo⟩
 |some e=>have :=h e (NV j);exact⟨by show 0<=e.Depth;omega,this.2⟩
def aJg (a b:Int):decide (a>=b)= !decide (a<b):=by by_cases h:a<b<;>simp[h];omega
def uy {α:Type} (l:A8 α) (p:α->Ad):l.any (fun x=> !p x)= !l.all p:=by rw[List.all_eq_not_any_not,uH]
def aie (l:A8 AX) (e:AX) (hl:l.length<=1000) (M:FV e) (hd:iC l) (O:1<=e.Depth/\e.Depth<=100000):vN l e=some (Rn l e):=by
 have h1:=M.prev;have h2:=M.auth;have w:Ar (e.Depth-1)=e.Depth-1:=OA AB AB
 have z:aET e l ((e.bK.length:Int)==0) 0=some (bif (e.bK.length:Int)==0 then true else e.bK.all (fun x=>Hz l x<e.Depth)&&e.bK.any fun x=>Hz l x==e.Depth-1):=by
  unfold aET;refine fF.eq (Jb e.bK.length (fuel_lt AB) (fun i a=>(∀j,(u:j<i)->(hl:j<e.bK.length)->decide (Hz l e.bK[j]<e.Depth)=true)/\a=(((e.bK.length:Int)==0)||(e.bK.take i).any fun x=>Hz l x==e.Depth-1)) ⟨fun j u=>AB,Bj⟩ (fun i a k hi ha U=>?_) fun a k ha=>?_)
  ·have Y:((e.bK.length:Int)==0)=false:=by simp;intro Z;rw[Z]at hi;simp at hi
   unfold aCl;rw[DU hi,Kv l _ AB,Af,aJg];refine fF.bif (fun q=>.ret ?_) fun q=>?_
   ·have q:decide (Hz l e.bK[i]<e.Depth)=false:=by unfold Hz;simpa using q
    rw[Y,cu (Ej hi) q];rfl
   have q:decide (Hz l e.bK[i]<e.Depth)=true:=by unfold Hz;simpa using q
   rw[show(bif a then some true else some ((Hr l e.bK[i]).1.Depth==Ar (e.Depth-1)))=some (a||(Hz l e.bK[i]==e.Depth-1)) by rw[w];cases a<;>rfl,Af,wrap_succ i AB];refine U _ ⟨fun j u I=>?_,?_⟩
   ·by_cases ej:j=i
    ·subst ej;exact q
    exact ha.1 j AB I
   rw[ha.2,Tj,EK hi,RV,aJ1,Bool.or_assoc];simp
  unfold aCl;rw[EO];refine .ret ?_;rw[ha.2,GX,all_good fun j u=>ha.1 j u u];cases((e.bK.length:Int)==0)<;>simp
 unfold vN
 have J:aLS e l 0=some (e.bT.all (fun x=>Hz l x<e.Depth)&&(bif (e.bK.length:Int)==0 then true else e.bK.all (fun x=>Hz l x<e.Depth)&&e.bK.any fun x=>Hz l x==e.Depth-1)):=by
  unfold aLS;rw[Hl e.bT (fuel_lt AB) (fun x=> !decide (Hz l x<e.Depth)) false (aET e l ((e.bK.length:Int)==0) 0)]
  ·rw[z,uy];cases e.bT.all (fun x=>Hz l x<e.Depth)<;>rfl
  ·intro k i hi;unfold aEH;rw[DU hi,Kv l _ AB,Af,aJg];rfl
  intro k;unfold aEH;rw[EO]
 rw[J];unfold Rn;have L:(e.Depth != 1)= !(e.Depth==1):=rfl;rw[L];cases((e.bK.length:Int)==0)<;>cases(e.Depth==1)<;>cases e.bT.all (fun x=>Hz l x<e.Depth)<;>rfl
def aHd {l:A8 AX} {m:A8 (Int×Int)} (h:Xo l m) {x:Int} (j:dJ l x=true):∃e,Am l ((DV m x).getD 0)=some e/\e.Depth=Hz l x:=⟨_,h.get (Nv j).1,rfl⟩
def alu (p:A8 Int) (f:Int->Int) (d a:Int) (j:∃y∈p,f y=a) (ha:∀y∈p,f y<=a):(p.all (fun x=>f x<d)&&p.any fun x=>f x==d-1)=bif d>a then d-a==1 else false:=by
 obtain⟨y,j,e⟩:=j;by_cases h:d>a
 ·have z:p.all (fun x=>f x<d)=true:=EY.2 fun x q=>by have :=ha x q;simp;omega
  rw[z,Gh,Ih h,Bq,OY,I8];constructor
  ·rintro⟨x,q,u⟩;have :=ha x q;have :=eq_of_beq u;simp;omega
  intro u;have :=eq_of_beq u;exact⟨y,j,EN⟩
 rw[IX h,BZ,cu j EN];rfl
def ad8 (l:A8 AX) (m:A8 (Int×Int)) (e:AX) (hm:Xo l m) (U:FV e) (J:V6 l e=true) (hd:iC l) (Y:1<=e.Depth/\e.Depth<=100000):aCD l m e=some (Rn l e,m):=by
 have h1:=U.prev;have h2:=U.auth;unfold V6 at J;simp only[Df,EY]at J;unfold aCD aPy;rw[Hl e.bT (fuel_lt AB) (fun x=> !decide (Hz l x<e.Depth)) (false,m) (some ((bif (e.bK.length:Int)==0 then e.Depth==1 else e.bK.all (fun x=>Hz l x<e.Depth)&&e.bK.any fun x=>Hz l x==e.Depth-1),m))]
 ·rw[uy];unfold Rn;cases e.bT.all (fun x=>Hz l x<e.Depth)<;>rfl
 ·intro k i hi;unfold aOE;obtain⟨x,O,q⟩:=aHd hm (J.2 _ (Ej hi));rw[DU hi,O,Af,aJg,q]
 intro k;unfold aOE;rw[EO];cases u:((e.bK.length:Int)==0)with
 |true=>rfl
 |false=>
  have hp:0<e.bK.length:=by
   rcases Z5 e.bK.length with h|h
   ·rw[h]at u;cases u
   exact h
  obtain⟨x,O,q⟩:=aHd hm (J.1 _ (Ej hp));have Z:Am e.bK 0=some e.bK[0]:=D5 (i:=0) hp;rw[BZ,BZ,Z,Af,O,Af,q];unfold aSF;refine fF.eq (Jb e.bK.length (fuel_lt AB) (fun i a=>(0<=a/\a<=100000)/\(∃y∈e.bK,Hz l y=a)/\∀y∈e.bK.take i,Hz l y<=a) ⟨aSM hd _,⟨_,Ej hp,rfl⟩,fun y L=>by simp at L⟩ (fun i a k2 hi ha hk=>?_) fun a k2 ha=>?_)
  ·unfold aMC;obtain⟨y,L,I⟩:=aHd hm (J.1 _ (Ej hi));have hb:=aSM hd e.bK[i];rw[DU hi,L,Af,wrap_succ i AB,I]
   have M:PZ a (Hz l e.bK[i])=a/\Hz l e.bK[i]<=a\/PZ a (Hz l e.bK[i])=Hz l e.bK[i]/\a<=Hz l e.bK[i]:=by
    unfold PZ;by_cases h:Hz l e.bK[i]>a
    ·rw[Ih h];exact .inr ⟨rfl,AB⟩
    rw[IX h];exact .inl ⟨rfl,AB⟩
   refine hk _ ⟨AB,?_,fun z u=>?_⟩
   ·rcases M with h|h
    ·rw[h.1];exact ha.2.1
    rw[h.1];exact⟨_,Ej hi,rfl⟩
   rw[Tj,EK hi,RV,Il,KP]at u;rcases u with u|rfl
   ·have :=ha.2.2 z u;omega
   omega
  obtain⟨hb,⟨y,L,I⟩,j⟩:=ha;rw[GX]at j;unfold aMC;rw[EO,OA AB AB,alu e.bK (Hz l) e.Depth a ⟨y,L,I⟩ j];cases decide (e.Depth>a)<;>exact .ret rfl
def ake (l:A8 AX) (hl:l.length<=100) (hs:E9 l) (hd:iC l):aAb l=some (Js l):=by
 unfold aAb Js;rw[aiP l hl hs,Af];cases L:XP l with
 |false=>rfl
 |true=>
  have M:∀e∈l,V6 l e=true:=EY.1 L;refine fF.eq ((yK l AB).bind fun m hm=>?_);unfold aPi;refine YA (body:=aMG l) (Q:=fun b=>b=bif l.all (Rn l)then 0 else 15) (fun n a b=>∃i:Nat,a=i/\i+n=l.length/\b=m/\∀j,(u:j<i)->(hl:j<l.length)->Rn l l[j]=true) ?_ Az l.length 0 m (fuel_lt AB) ⟨0,rfl,AB,rfl,fun j u=>AB⟩;rintro n a b k ⟨i,rfl,U,rfl,I⟩ O;unfold aMG;by_cases hi:i<l.length
  ·have q:=Ej hi;rw[DU hi,ad8 l b l[i] hm (hs _ q) (M _ q) hd (hd _ q),Af];cases J:Rn l l[i]with
   |false=>exact .ret (by rw[cu q J];rfl)
   |true=>
    refine O (n-1) _ _ AB ⟨i+1,wrap_succ i AB,AB,rfl,fun j u z=>?_⟩;by_cases e:j=i
    ·subst e;exact J
    exact I j AB z
  have :i=l.length:=AB
  subst this;rw[EO];exact .ret (by rw[all_good fun j u=>I j u u];rfl)
def aOz (l:A8 AX) (hl:l.length<=100) (hs:E9 l) (hd:iC l):aAH l=some (Js l):=by
 unfold aAH Js;rw[aa0 l AB hs,Af];cases M:XP l with
 |false=>rfl
 |true=>
  show aG9 l 0=_;unfold aG9;refine fF.eq (a0o l.length (fuel_lt AB) (fun i=>∀j,(u:j<i)->(hl:j<l.length)->Rn l l[j]=true) (fun j u=>AB) (fun i k hi z L=>?_) fun k z=>?_)
  ·have q:=Ej hi;unfold aGr;rw[DU hi,aie l l[i] AB (hs _ q) hd (hd _ q),Af,wrap_succ i AB];cases J:Rn l l[i]with
   |false=>exact .ret (by rw[cu q J];rfl)
   |true=>
    refine L fun j u I=>?_;by_cases e:j=i
    ·subst e;exact J
    exact z j AB I
  unfold aGr;rw[Dq];exact .ret (by rw[all_good fun j u=>z j u u];rfl)
section
variable {α β R:Type} {lt:α->α->Ad}
def LU (lt:α->α->Ad) (A:A8 α) (x:α):A8 α:=(A.reverse.dropWhile (lt x)).reverse++x::(A.reverse.takeWhile (lt x)).reverse
def akt {A:A8 α} {a x:α} (h:lt x a=true):LU lt (A++[a]) x=LU lt A x++[a]:=by
 unfold LU;rw[aFT,List.reverse_singleton,List.singleton_append,aSv h,List.takeWhile_cons_of_pos h,List.reverse_cons,IU];rfl
def am7 {A:A8 α} {a x:α} (h:lt x a=false):LU lt (A++[a]) x=A++a::[x]:=by
 have h':¬lt x a=true:=by rw[h];simp
 unfold LU;rw[aFT,List.reverse_singleton,List.singleton_append,aRM h',List.takeWhile_cons_of_neg h'];simp
def ade (A:A8 α) (x:α):(LU lt A x).length=A.length+1:=by
 unfold LU;have :=BP List.length (ug (p:=lt x) (l:=A.reverse));simp only[EZ,List.length_reverse,GZ]at this ⊢;omega
def alc (A:A8 α) (x:α):(LU lt A x).Perm (x::A):=by
 unfold LU;refine a1R.trans (List.Perm.cons x ?_);rw[←aFT,ug,List.reverse_reverse]
def akQ {lt':β->β->Ad} {f:α->β} (h:∀x a,lt x a=lt' (f x) (f a)) (A:A8 α) (x:α):(LU lt A x).map f=LU lt' (A.map f) (f x):=by
 have e:lt x=lt' (f x)∘f:=funext fun a=>h x a;unfold LU;have j:(A.map f).reverse=A.reverse.map f:=aKA.symm;rw[j,List.dropWhile_map,List.takeWhile_map,Kw,JJ,aKA,aKA,e]
def aPS {lt':β->β->Ad} {f:α->β} (h:∀x a,lt x a=lt' (f x) (f a)):∀(l A:A8 α),(l.foldl (LU lt) A).map f=(l.map f).foldl (LU lt') (A.map f)
 | [],A=>rfl
 |x::l,A=>by rw[Gm,aPS h l,JJ,Gm,akQ h]
def aEZ :∀(l A:A8 α),(l.foldl (LU lt) A).length=A.length+l.length
 | [],A=>rfl
 |x::l,A=>by rw[Gm,aEZ l,ade,GZ];omega
def aV1 :∀(l A:A8 α),(l.foldl (LU lt) A).Perm (A++l)
 | [],A=>by rw[P8];exact .refl _
 |x::l,A=>by
  rw[Gm];exact(aV1 l (LU lt A x)).trans (((alc A x).append_right l).trans (a1R (l₁:=A) (l₂:=l) (a:=x)).symm)
def aE0 (A:A8 α) (x:α) (B:A8 α):Am (A++x::B) (A.length:Int)=some x:=by rw[aAf];simp
def aNG (A:A8 α) (a x:α) (B:A8 α):Am (A++a::x::B) ((A.length+1:Nat):Int)=some x:=by rw[aAf];simp
def set_mid (A:A8 α) (x y:α) (B:A8 α):(A++x::B).set A.length y=A++y::B:=Bj
def aOj (A:A8 α) (a x y:α) (B:A8 α):(A++a::x::B).set (A.length+1) y=A++a::y::B:=by
 have :=set_mid (A++[a]) x y B;simpa using this
def bubble {body:(Int->A8 α->AO R)->Int->A8 α->AO R} (j:A8 α->AO R) (N:Nat) (U:∀k x B,(x::B).length=N->body k 0 (x::B)=j (x::B))
 (hs:∀k A a x B,(A++a::x::B).length=N->body k ((A.length+1:Nat):Int) (A++a::x::B)=bif lt x a then k (A.length:Int) (A++x::a::B)else j (A++a::x::B)):
 ∀n (A:A8 α) (x:α) (B:A8 α),A.length=n->(A++x::B).length=N->∀m,n<m->aU body m (A.length:Int) (A++x::B)=j (LU lt A x++B):=by
 intro n
 induction n with
 |zero=>
  intro A x B I J m hm;obtain⟨m,rfl⟩:∃L,m=L+1:=⟨m-1,AB⟩
  obtain rfl:=Hw I;exact U _ x B J
 |succ n Y=>
  intro A x B I J m hm;obtain⟨m,rfl⟩:∃L,m=L+1:=⟨m-1,AB⟩
  have q:A≠[]:=fun e=>by subst e;cases I
  obtain⟨A',a,rfl⟩:∃A' a,A=A'++[a]:=⟨A.dropLast,A.getLast q,(List.dropLast_concat_getLast q).symm⟩
  have M:A'.length=n:=Ti
  have O:A'++[a]++x::B=A'++a::x::B:=Bj
  have u:(A'++a::x::B).length=N:=by rw[←O];exact J
  have Z:(A'++[a]).length=A'.length+1:=Bj
  rw[O,Z];show body (aU body m) _ _=_;rw[hs _ A' a x B u];cases z:lt x a with
  |true=>
   rw[Bq,Y A' x (a::B) M (by simp at u ⊢;omega) m AB,akt z];simp
  |false=>rw[BZ,am7 z];simp
end
def Ip (a b:AX):Ad:=decide (a.Depth<b.Depth)||((a.Depth==b.Depth)&&(a.Id<b.Id))
def oM (l:A8 AX):A8 AX:=l.foldl (LU Ip) []
def Qe (l:A8 AX):A8 Int:=(oM l).map (·.Id)
def aK4 (l:A8 AX):(oM l).length=l.length:=by unfold oM;rw[aEZ];simp
def al6 (l:A8 AX):(oM l).Perm l:=by have :=aV1 (lt:=Ip) l [];rwa [Ik]at this
def afB (a b:AX):aCe a b=some (Ip a b):=by
 unfold aCe Ip;cases decide (a.Depth<b.Depth)<;>cases(a.Depth==b.Depth)<;>rfl
def aPb {α β:Type} {f:β->α->β} {b:β} {l:A8 α} {i:Nat} (h:i<l.length):(l.take (i+1)).foldl f b=f ((l.take i).foldl f b) l[i]:=by
 rw[Tj,EK h,RV,V5];rfl
def map_take {α β:Type} {f:α->β} {l:A8 α} {i:Nat} (h:i<l.length):(l.take (i+1)).map f=(l.take i).map f++[f l[i]]:=by
 rw[Tj,EK h,RV,Kw];rfl
def al3 (l:A8 AX) (hl:l.length<=1000000):aED l=some (l.map (·.Id)):=by
 unfold aED aWe;refine fF.eq (Jb l.length (fuel_lt AB) (fun i a=>a=(l.take i).map (·.Id)) rfl (fun i a k hi ha j=>?_) fun a k ha=>?_)
 ·unfold aFN;have hlen:a.length<=i:=mP
  rw[DU hi,ED Fz,Af,wrap_succ i AB];exact j _ zo
 unfold aFN;rw[EO];exact .ret gW
def adY (l:A8 AX) (hl:l.length<=1000):a0l l=some (Qe l):=by
 unfold a0l aSz;refine fF.eq (Jb l.length (fuel_lt AB) (fun i a=>a=(l.take i).foldl (LU Ip) []) rfl (fun i a k hi ha u=>?_) fun a k ha=>?_)
 ·have hlen:a.length=i:=by rw[ha,aEZ,G6];simp;omega
  unfold aKu;rw[DU hi,ED Fz,Af];unfold aUh;have j:=bubble (lt:=Ip) (body:=a2w k (i:Int)) (fun v=>k v ((i+1:Nat):Int)) (i+1) (fun k2 x B q=>?_) (fun k2 A b x B q=>?_) i a l[i] [] hlen EN Az (fuel_lt AB)
  ·rw[hlen]at j;rw[j,P8];exact u _ (by rw[aPb hi,ha])
  ·unfold a2w rE;rw[wrap_succ i AB];rfl
  have hA:A.length+2<=i+1:=by rw[←q];simp
  have z:Ar (((A.length+1:Nat):Int)-1)=(A.length:Int):=Qh
  unfold a2w rE;rw[Ih (show((A.length+1:Nat):Int)>0 by omega),Bq,aNG,Af,z,aE0,Af,afB,Af,wrap_succ i AB];cases Ip x b with
  |false=>rfl
  |true=>
   simp only[Bq,Af,Si];rw[aOj,aE0,Af,set_mid]
 unfold aKu;rw[Dq,BZ];have e:a=oM l:=by rw[ha,GX];rfl
 rw[e,al3 _ (by rw[aK4];omega)];exact .ret rfl
def a06 (e:AX):Sm:=⟨e.Depth,e.Id⟩
def kK (a b:Sm):Ad:=decide (a.pq<b.pq)||((a.pq==b.pq)&&(a.nC<b.nC))
def am2 (a x:Sm):(bif a.pq<x.pq then some true else(bif (a.pq==x.pq)then some (decide (a.nC<=x.nC))else some false).bind fun j=>some j)=some (!kK x a):=by
 unfold kK;by_cases q:a.pq<x.pq
 ·rw[Ih q,Bq,IX AB,show(x.pq==a.pq)=false by simp;omega];rfl
 rw[IX q,BZ];by_cases u:a.pq=x.pq
 ·rw[u,IX (show ¬x.pq<x.pq by omega)];simp only[Ut,Bq,Af,Lj,Gh];by_cases z:a.nC<=x.nC
  ·rw[Ih z,IX AB];rfl
  rw[IX z,Ih AB];rfl
 rw[show(a.pq==x.pq)=false by simpa using u,Ih (show x.pq<a.pq by omega)];rfl
def aeP (l:A8 AX) (hl:l.length<=1000):aAP l=some (Qe l):=by
 have J:Iy 16 a1D 0 (l.length:Int)=some []:=aR7
 unfold aAP;rw[J,Af];unfold aPD;refine fF.eq (Jb l.length (fuel_lt AB) (fun i a=>a=((l.take i).map a06).foldl (LU kK) []) rfl (fun i a k hi ha L=>?_) fun a k ha=>?_)
 ·have hlen:a.length=i:=by rw[ha,aEZ,DY,G6];simp;omega
  unfold aGj;rw[DU hi,D5 hi,Af,ED Fz,Af];unfold aRU;have M:Ar (((a++[(⟨l[i].Depth,l[i].Id⟩:Sm)]).length:Int)-1)=(a.length:Int):=aM0
  rw[M];have O:=bubble (lt:=kK) (body:=rH k (i:Int)) (fun v=>k v ((i+1:Nat):Int)) (i+1) (fun k2 x B u=>?_) (fun k2 A b x B u=>?_) i a (a06 l[i]) [] hlen EN Az (fuel_lt AB)
  ·show fF (aU (rH k (i:Int)) Az (a.length:Int) (a++[a06 l[i]])) _;rw[O,P8];exact L _ (by rw[map_take hi,V5,ha];rfl)
  ·unfold rH zC;rw[wrap_succ i AB];rfl
  have hA:A.length+2<=i+1:=by rw[←u];simp
  have U:Ar (((A.length+1:Nat):Int)-1)=(A.length:Int):=Qh
  unfold rH zC;rw[Ih (show((A.length+1:Nat):Int)>0 by omega),Bq,U,aE0,Af,aNG,Af,am2,Af,wrap_succ i AB];cases kK x b with
  |false=>rfl
  |true=>
   simp only[Eo,BZ,Bq,Af,Si];rw[set_mid,aNG,Af,aOj]
 unfold aGj;rw[EO];have e:a=(oM l).map a06:=by rw[ha,GX];exact(aPS (lt:=Ip) (lt':=kK) (f:=a06) (fun _ _=>rfl) l []).symm
 have Y:a.length=l.length:=by rw[e,DY,aK4]
 have Z:Iy 8 0 (a.length:Int) (a.length:Int)=some (List.replicate a.length (0:Int)):=by unfold Iy;rw[DX ⟨AB,ZQ _,AB⟩];simp
 have e2:Qe l=a.map (·.nC):=by rw[e,YI];rfl
 rw[Z,Af,e2];unfold aWJ;refine RS (body:=aLr a) (Q:=fun r=>r=a.map (·.nC)) (fun n (x:Int) (o:A8 Int) (p:A8 Sm)=>∃i:Nat,x=i/\i+n=a.length/\o=(a.take i).map (·.nC)++List.replicate (a.length-i) 0/\p=a) ?_ Az a.length 0 (List.replicate a.length 0) a (fuel_lt AB) ⟨0,rfl,AB,Bj,rfl⟩;rintro n x o p k2 ⟨i,rfl,hn,I,rfl⟩ q;unfold aLr;by_cases hi:i<p.length
 ·have hm:((p.take i).map (·.nC)).length=i:=by rw[DY,G6];omega
  obtain⟨z,hz⟩:∃z,p.length-i=z+1:=⟨p.length-i-1,AB⟩
  have j:o=(p.take i).map (·.nC)++0::List.replicate z 0:=by rw[I,hz,List.replicate_succ]
  have g2:Am o (i:Int)=some 0:=by have :=aE0 ((p.take i).map (·.nC)) 0 (List.replicate z 0);rw[hm]at this;rw[j];exact this
  have s2:o.set i p[i].nC=(p.take i).map (·.nC)++p[i].nC::List.replicate z 0:=by have :=set_mid ((p.take i).map (·.nC)) 0 p[i].nC (List.replicate z 0);rw[hm]at this;rw[j];exact this
  rw[DU hi,g2,Af];refine q (n-1) _ _ _ AB ⟨i+1,wrap_succ i AB,AB,?_,rfl⟩;rw[Si,s2,map_take hi,show p.length-(i+1)=z by omega];simp
 have :i=p.length:=AB
 subst this;rw[EO];exact .ret (by rw[I];simp)
def JK (l:A8 AX) (x y:Int):Ad:=dJ l y&&(y != x&&ER (ev l y).bK x)
def IL (l:A8 AX) (ids:A8 Int):A8 Int:=(Eh ids).filter fun x=> !ids.any (JK l x)
def an6 {α:Type} {a b:A8 α} (p:α->Ad) (h:∀x,x∈a↔x∈b):a.any p=b.any p:=by
 rw[OY,I8,I8];exact⟨fun⟨x,j,k⟩=>⟨x,(h x).1 j,k⟩,fun⟨x,j,k⟩=>⟨x,(h x).2 j,k⟩⟩
def aZA (ids:A8 Int) (p:Int->Ad):Eh (ids.filter p)=(Eh ids).filter p:=
 CZ (Kt _) ((Kt ids).sublist RI) fun x=>by rw[KR,HY,HY,KR]
def jQ (l:A8 AX) (ids:A8 Int):(IL l ids).length<=ids.length:=FC (KL _ _) (MG ids)
def pY {α:Type} {p:α->Ad} {l:A8 α} {i:Nat} (h:i<l.length):(l.take (i+1)).filter p=(l.take i).filter p++bif p l[i]then[l[i]]else[]:=by
 rw[Tj,EK h,RV,PS];cases hp:p l[i]<;>simp[hp]
def wL {α:Type} {p:α->Ad} {l:A8 α} {i:Nat} (h:i<l.length):(l.take (i+1)).any p=((l.take i).any p||p l[i]):=by
 rw[Tj,EK h,RV,aJ1];simp
def aOp (l:A8 AX) (ids:A8 Int) (hl:l.length<=100) (hs:E9 l) (hi0:ids.length<=1000):a0A l ids=some (IL l ids):=by
 unfold a0A;refine fF.eq ((yK l AB).bind fun m hm=>?_);unfold aXk;refine RS (body:=aJH ids l) (Q:=fun r=>r=IL l ids) (fun n a b c=>∃i:Nat,a=i/\i+n=ids.length/\b=m/\∀x,(DV c x).getD false=(ids.take i).any (JK l x)) ?_ Az ids.length 0 m [] (fuel_lt AB) ⟨0,rfl,AB,rfl,fun x=>rfl⟩;rintro n a b c k ⟨i,rfl,hn,rfl,M⟩ O;unfold aJH;by_cases hi:i<ids.length
 ·have hj:∀Y,(∀x,(DV Y x).getD false=((ids.take i).any (JK l x)||JK l x ids[i]))->fF (aAJ k (i:Int) b Y) (fun r=>r=IL l ids):=fun Y h8=>O (n-1) _ _ _ AB ⟨i+1,wrap_succ i AB,AB,rfl,fun x=>by rw[h8,wL hi]⟩;rw[DU hi,hm.isSome];cases q:dJ l ids[i]with
  |false=>exact hj c fun x=>by rw[M];unfold JK;rw[q];simp
  |true=>
   obtain⟨hg,_⟩:=Nv q;rw[hm.get hg,Af];have hp:=(hs _ (NV hg)).prev;simp only[Eo,BZ];unfold aRh;refine RS (body:=aLM (ev l ids[i]) ids[i] k (i:Int)) (Q:=fun r=>r=IL l ids) (fun U a2 b2 c2=>∃j:Nat,a2=j/\j+U=(ev l ids[i]).bK.length/\b2=b/\∀x,(DV c2 x).getD false=((ids.take i).any (JK l x)||(ids[i] != x&&ER ((ev l ids[i]).bK.take j) x))) ?_ Az (ev l ids[i]).bK.length 0 b c (fuel_lt AB) ⟨0,rfl,AB,rfl,fun x=>by rw[M,sF];unfold ER;simp⟩;rintro U a2 b2 c2 k2 ⟨j,rfl,hn2,rfl,u⟩ z;unfold aLM;by_cases I:j<(ev l ids[i]).bK.length
   ·have J:∀x,ER ((ev l ids[i]).bK.take (j+1)) x=(ER ((ev l ids[i]).bK.take j) x||(x==(ev l ids[i]).bK[j])):=fun x=>by
     rw[OY,TQ,LJ,LJ,Tj,EK I,RV,Il,KP,Oa]
    rw[DU I];cases L:(ev l ids[i]).bK[j] != ids[i]with
    |true=>
     refine z (U-1) _ _ _ AB ⟨j+1,wrap_succ j AB,AB,rfl,fun x=>?_⟩;rw[Qk,J];cases Z:x==(ev l ids[i]).bK[j]with
     |true=>
      have e:=eq_of_beq Z;subst e;rw[show(ids[i] != (ev l ids[i]).bK[j])=true by rw[bne_comm];exact L];simp
     |false=>rw[BZ,u,MJ]
    |false=>
     refine z (U-1) _ _ _ AB ⟨j+1,wrap_succ j AB,AB,rfl,fun x=>?_⟩;rw[J,u];have e:(ev l ids[i]).bK[j]=ids[i]:=Y6
     rw[e];cases Z:x==ids[i]with
     |false=>simp
     |true=>have e2:=eq_of_beq Z;subst e2;simp
   have :j=(ev l ids[i]).bK.length:=AB
   subst this;rw[EO];exact hj _ fun x=>by rw[u,GX];unfold JK;rw[q];rfl
 have :i=ids.length:=AB
 subst this;rw[EO];unfold aVZ;rw[GX]at M;refine Jb ids.length (fuel_lt AB) (fun i a=>a=(ids.take i).filter fun x=> !ids.any (JK l x)) rfl (fun i a k2 hi ha O=>?_) fun a k2 ha=>?_
 ·have hal:a.length<=i:=aGT
  unfold aIK aAi;rw[DU hi,wrap_succ i AB,M];have hf:=pY (p:=fun x=> !ids.any (JK l x)) hi;cases hb:ids.any (JK l ids[i])with
  |true=>exact O _ (by rw[hf,ha,hb];simp)
  |false=>
   simp only[Iu,Bq];rw[ED Fz,Af];exact O _ (by rw[hf,ha,hb];rfl)
 have hal:a.length<=ids.length:=aGT
 unfold aIK;rw[EO,Xz _ AB];exact .ret (by rw[ha,GX,aZA];rfl)
def alH {l:A8 Int} (h:Inc l) {i j:Nat} (hi:i<l.length) (u:j<l.length) (e:l[i]=l[j]):i=j:=by
 rcases aEv i j with q|q|q
 ·have :=KN.1 h i j hi u q;omega
 ·exact q
 have :=KN.1 h j i u hi q;omega
def aQR (l:A8 AX) (ids:A8 Int) (hl:l.length<=1000) (hs:E9 l) (hi0:ids.length<=1000):aDb l ids=some (IL l ids):=by
 have I:=Kt ids;have hlen:=MG ids;have J:∀x,(Eh ids).any (JK l x)=ids.any (JK l x):=fun x=>an6 _ fun _=>KR;unfold aDb IL;rw[aM5 _ AB,Af];have q:(fun x=> !ids.any (JK l x))=fun x=> !(Eh ids).any (JK l x):=funext fun x=>by rw[J]
 rw[q];generalize Eh ids=S at I hlen;clear J q;unfold aUQ;refine fF.eq (Jb S.length (fuel_lt AB) (fun i a=>a=(S.take i).filter fun x=> !S.any (JK l x)) rfl (fun i a k hi ha hk=>?_) fun a k ha=>?_)
 ·have hal:a.length<=i:=aGT
  have hf:=pY (p:=fun x=> !S.any (JK l x)) hi;unfold aFe;rw[dec_lt hi,Bq];unfold aX9;refine RS (body:=aJ7 S l (i:Int) k) (Q:=_) (fun n b x c=>∃j:Nat,x=j/\j+n=S.length/\c=a/\b= !(S.take j).any (JK l S[i])) ?_ Az S.length true 0 a (fuel_lt AB) ⟨0,rfl,AB,rfl,Bj⟩;rintro n b x c k2 ⟨j,rfl,hn,rfl,M⟩ O;unfold aJ7;by_cases U:j<S.length
  ·have u:∀Y,Y=(!((S.take j).any (JK l S[i])||JK l S[i] S[j]))->fF (aAw k2 (j:Int) Y c) (fun x=>x=(S.filter fun x=> !S.any (JK l x))):=fun Y h'=>O (n-1) _ _ _ AB ⟨j+1,wrap_succ j AB,AB,rfl,by rw[wL U];exact h'⟩;rw[DU U,Kv l _ AB,Af,Oq]
   have Z:(((j:Int) != (i:Int)))=(S[j] != S[i]):=by
    rw[OY];simp only[Uc,ne_eq];constructor
    ·intro h e;exact h (by rw[alH I U hi e])
    intro h e;have :j=i:=AB
    subst this;exact h rfl
   rw[Z];cases z:(Ed l S[j]).isSome with
   |false=>
    unfold aj;exact u b (by rw[M];unfold JK dJ;rw[z];simp)
   |true=>
    cases hq:S[j] != S[i]with
    |false=>
     unfold aj;exact u b (by rw[M];unfold JK;rw[hq];simp)
    |true=>
     simp only[Bq]
     have hpl:(Hr l S[j]).1.bK.length<=40:=by
      obtain⟨e,he⟩:=Rk.1 z;rw[Nl he];exact(hs e (NV he)).prev
     rw[D5 hi,Af,Wv _ _ AB,Af];unfold aj;cases hh:ER (Hr l S[j]).1.bK S[i]with
     |true=>exact u false (by unfold JK dJ ev;rw[z,hq,hh];simp)
     |false=>exact u b (by rw[M];unfold JK dJ ev;rw[z,hq,hh];simp)
  have :j=S.length:=AB
  subst this;rw[EO,M,GX];unfold a2i;rw[wrap_succ i AB];cases L:S.any (JK l S[i])with
  |true=>exact hk _ (by rw[hf,ha,L];simp)
  |false=>
   simp only[Iu,Bq];rw[D5 hi,Af,ED Fz,Af];exact hk _ (by rw[hf,ha,L];rfl)
 unfold aFe;rw[Dq];exact .ret gW
def kJ (x y:AX):Ad:=y.Kind==x.Kind&&(y.Key=x.Key)
def MN (q:A8 BM):A8 AX->A8 AX->Ad
 |_,[]=>true
 |j,x::xs=>(q.any fun k=>FT k x)&& !j.any (kJ x)&&MN q (j++[x]) xs
def Qy (x:AX):Ad:=x.Kind==1&&(x.Key=CU)
def Tc (l:A8 AX) (e:AX):Int:=
 bif !e.bT.all (dJ l)then 14 else bif !(ofIds l e.bT).all (fun x=>x.Room=e.Room)then 13
 else bif MN (keysOf e) [] (ofIds l e.bT)&&(e.Kind==1||(ofIds l e.bT).any Qy)then 0 else 16
def Zo {k:BM} {x:AX}:FT k x=true↔x.Kind=k.Kind/\x.Key=k.Key:=by unfold FT;simp
def aUV {x y:AX}:kJ x y=true↔y.Kind=x.Kind/\y.Key=x.Key:=by unfold kJ;simp
def aUx {j:A8 BM} {X:A8 AX} {i:Nat} (h:i<X.length):MN j (X.take i) (X.drop i)=((j.any fun k=>FT k X[i])&& !(X.take i).any (kJ X[i])&&MN j (X.take (i+1)) (X.drop (i+1))):=by
 rw[Ku h,Tj,EK h];rfl
def aPO {j:A8 BM} (X:A8 AX):MN j (X.take X.length) (X.drop X.length)=true:=by rw[PE];rfl
def aQP (X:A8 AX) (k:Int) (key:BA) (h:X.length<=1000):YL (X.map fun x=>(⟨x.Kind,x.Key,0⟩:BM)) k key=some (X.any fun y=>y.Kind==k&&(y.Key=key)):=by
 unfold YL aO6;rw[Hl (X.map fun x=>(⟨x.Kind,x.Key,0⟩:BM)) (fuel_lt Xh) (fun y=>y.Kind==k&&(y.Key=key)) true (some false)]
 ·rw[List.any_map];show(bif X.any (fun y=>y.Kind==k&&(y.Key=key))then some true else some false)=_;cases X.any (fun y=>y.Kind==k&&(y.Key=key))<;>rfl
 ·intro q i hi;unfold a01;rw[DU hi,D5 hi,Af,J7];cases((X.map fun x=>(⟨x.Kind,x.Key,0⟩:BM))[i].Kind==k)<;>rfl
 intro q;unfold a01;rw[Dq];rfl
def aaY (j:A8 BM) (x:AX) (h:j.length<=1000):YL j x.Kind x.Key=some (j.any fun k=>FT k x):=by
 unfold YL aO6;rw[Hl j (fuel_lt AB) (fun k=>FT k x) true (some false)]
 ·cases j.any (fun k=>FT k x)<;>rfl
 ·intro q i hi;unfold a01;rw[DU hi,D5 hi,Af,J7];have u:(j[i].Kind==x.Kind)=(x.Kind==j[i].Kind):=by rw[OY,Oa,Oa];exact eq_comm
  have z:decide (j[i].Key=x.Key)=decide (x.Key=j[i].Key):=bY.2 eq_comm;unfold FT;rw[u,z];cases(x.Kind==j[i].Kind)<;>rfl
 intro q;unfold a01;rw[Dq];rfl
def aa5 (X:A8 AX) (e:AX) (O:X.length<=40):aFQ X (keysOf e) e [] 0=some (bif MN (keysOf e) [] X&&(e.Kind==1||X.any Qy)then 0 else 16):=by
 have I:=RX e;unfold aFQ;refine fF.eq (Jb X.length (fuel_lt AB) (fun i a=>a=(X.take i).map (fun x=>(⟨x.Kind,x.Key,0⟩:BM))/\MN (keysOf e) [] X=MN (keysOf e) (X.take i) (X.drop i)) ⟨rfl,rfl⟩ (fun i a k hi ha J=>?_) fun a k ha=>?_)
 ·obtain⟨rfl,j⟩:=ha;unfold aFh;rw[DU hi,D5 hi,Af,aaY _ _ AB,Af];rw[aUx hi]at j
  have u:∀b,MN (keysOf e) [] X=(!b&&MN (keysOf e) (X.take (i+1)) (X.drop (i+1)))->fF (zq X (i:Int) ((X.take i).map fun x=>(⟨x.Kind,x.Key,0⟩:BM)) k b) (· =bif MN (keysOf e) [] X&&(e.Kind==1||X.any Qy)then 0 else 16):=fun b z=>by
   unfold zq;cases b with
   |true=>exact .ret xA
   |false=>
    simp only[BZ];rw[D5 hi,Af,Af,ED (by simp only[Ns,DY,G6];omega),Af,wrap_succ i AB];exact J _ ⟨by rw[map_take hi],xA⟩
  cases hm:(keysOf e).any fun k=>FT k X[i]with
  |false=>
   rw[Iu,Bq];exact u true (by rw[j,hm];rfl)
  |true=>
   rw[Eo,BZ];have L:(fun y:AX=>y.Kind==X[i].Kind&&(y.Key=X[i].Key))=kJ X[i]:=rfl;rw[Af,Af,aQP _ _ _ aXu,Af,L];exact u _ (by rw[j,hm,Gh])
 obtain⟨rfl,j⟩:=ha;rw[aPO]at j;unfold aFh;rw[Dq,BZ,GX,j,aQP _ _ _ AB];have M:(X.any fun y=>y.Kind==1&&(y.Key=CU))=X.any Qy:=rfl;rw[M];have q:(e.Kind != 1)= !(e.Kind==1):=rfl;rw[q];cases e.Kind==1<;>cases X.any Qy<;>exact .ret rfl
def al0 (X:A8 AX) (e:AX) (j:X.length<=40):aFg X e 0=some (bif !X.all (fun x=>x.Room=e.Room)then 13 else bif MN (keysOf e) [] X&&(e.Kind==1||X.any Qy)then 0 else 16):=by
 unfold aFg;rw[Hl X (fuel_lt AB) (fun x=> !decide (x.Room=e.Room)) 13 (some (bif MN (keysOf e) [] X&&(e.Kind==1||X.any Qy)then 0 else 16))]
 ·rw[uy];cases X.all (fun x=>x.Room=e.Room)<;>rfl
 ·intro k i hi;unfold aN9;rw[DU hi,J7]
 intro k;unfold aN9;rw[EO,aB1,Af,aa5 X e j]
def akM (l:A8 AX) (e:AX) (hl:l.length<=100) (j:FV e):aAq l e=some (Tc l e):=by
 have q:=j.auth;have u:=ZK l e.bT;unfold aAq aUa Tc;rw[Hl e.bT (fuel_lt AB) (fun x=> !dJ l x) 14 (some (bif !(ofIds l e.bT).all (fun x=>x.Room=e.Room)then 13 else bif MN (keysOf e) [] (ofIds l e.bT)&&(e.Kind==1||(ofIds l e.bT).any Qy)then 0 else 16))]
 ·rw[uy];cases e.bT.all (dJ l)<;>rfl
 ·intro k i hi;unfold aIW;rw[DU hi,Kv l _ AB,Af,Oq];rfl
 intro k;unfold aIW;rw[Dq,BZ,aJt l _ AB AB,Af,al0 _ e AB]
def aZF (k:BM) (e:AX):X3 (J6 k) e=some (FT k e):=by
 unfold X3 FT J6;cases h:(e.Kind==k.Kind)with
 |false=>rfl
 |true=>show some (e.Key.toList==k.Key.toList)=_;rw[J7,Gh]
def aZB (j:A8 BM) (x:AX) (h:j.length<=100):a1I (j.map J6) x=some (if j.findIdx (fun k=>FT k x)<j.length then((j.findIdx (fun k=>FT k x):Nat):Int)else -1):=by
 unfold a1I aRE
 have u:∀k (i:Nat),i<j.length->a2m (j.map J6) x k (i:Int)=bif FT (j.getD i ⟨0,CU,0⟩) x then some (i:Int)else k (Ar ((i:Int)+1)):=fun k i hi=>by
  unfold a2m;have q:i<(j.map J6).length:=aLq
  rw[DU q,Tt];show((X3 (J6 j[i]) x).bind _)=_;rw[aZF,Af];simp[List.getD,hi]
 rw[KG j (fuel_lt AB) (fun k=>FT k x) (fun i=>some (i:Int)) (some (-1))]
 ·split<;>rfl
 ·intro k i hi;rw[u k i hi];simp[List.getD,hi]
 intro k;unfold a2m;rw[show((j.map J6).length:Int)=(j.length:Int) by rw[DY],Dq];rfl
def aRA {α:Type} {p:α->Ad}:∀l:A8 α,l.Pairwise (fun a b=>¬(p a=true/\p b=true))->l.findIdx p<l.length->l.filter (fun x=> !p x)=l.take (l.findIdx p)++l.drop (l.findIdx p+1)
 | [],_,h=>absurd h (Nat.not_lt_zero _)
 |a::l,hp,h=>by
  obtain⟨j,q⟩:=Po.1 hp;rw[RQ]at h ⊢;cases ha:p a with
  |true=>
   rw[List.filter_cons_of_neg (by simp[ha]),kS.2 fun b u=>by
    cases z:p b with
    |false=>rfl
    |true=>exact absurd ⟨ha,z⟩ (j b u)]
   rfl
  |false=>
   rw[ha]at h;rw[List.filter_cons_of_pos (by simp[ha]),aRA l q KC];rfl
def aWk {α:Type} {p:α->Ad}:∀l:A8 α,decide (l.findIdx p<l.length)=l.any p
 | []=>rfl
 |a::l=>by
  have j:=aWk (p:=p) l;rw[RQ,bP,←j];cases p a<;>simp
def alU (e:AX):Ju (keysOf e):=by
 have z:Ju (Mc e):=XW (XW (XW List.Pairwise.nil _ _ _) _ _ _) _ _ _;unfold keysOf;cases e.Kind==1<;>cases e.Kind==2<;>cases(e.Content.N==3||e.Content.N==1||e.Content.N==2)<;>simp only[Bq,BZ]
 ·exact z
 ·exact z
 ·exact XW z _ _ _
 ·exact XW (XW z _ _ _) _ _ _
 all_goals exact List.Pairwise.nil
def amW {e:AX} {k:BM} (h:k∈keysOf e) (q:k.Kind=1):k.Key=CU:=by
 have z:∀x∈Mc e,x.Kind=1->x.Key=CU:=fun x j I=>by
  unfold Mc at j;rcases VN j with rfl|j
  ·cases I
  rcases VN j with rfl|j
  ·cases I
  rcases VN j with rfl|j
  ·rfl
  cases j
 unfold keysOf at h;cases u:e.Kind==1 with
 |true=>rw[u]at h;cases h
 |false=>
  cases J:e.Kind==2 with
  |false=>rw[u,J]at h;exact z k h q
  |true=>
   rw[u,J]at h;cases L:(e.Content.N==3||e.Content.N==1||e.Content.N==2)with
   |true=>
    rw[L]at h;rcases VN h with rfl|h
    ·cases q
    rcases VN h with rfl|h
    ·cases q
    exact z k h q
   |false=>
    rw[L]at h;rcases VN h with rfl|h
    ·cases q
    exact z k h q
def aOl {u:A8 BM}:∀(X j:A8 AX),MN u j X=true->∀x∈X,∃k∈u,FT k x=true
 | [],_,_,_,h=>absurd h FB
 |y::X,j,h,x,q=>by
  unfold MN at h;simp only[Df]at h;rcases F5.1 q with rfl|q
  ·obtain⟨k,z,hm⟩:=I8.1 h.1.1;exact⟨k,z,hm⟩
  exact aOl X _ h.2 x q
def any_congr {α:Type} {l:A8 α} {p q:α->Ad} (h:∀x∈l,p x=q x):l.any p=l.any q:=by
 rw[OY,I8,I8];exact⟨fun⟨x,j,k⟩=>⟨x,j,by rw[←h x j];exact k⟩,fun⟨x,j,k⟩=>⟨x,j,by rw[h x j];exact k⟩⟩
def acz (l:A8 AX) (e:AX) (hl:l.length<=100) (he:FV e):pI l e=some (Tc l e):=by
 have h1:=he.auth;have hk5:=RX e;have hsk:=alU e;unfold pI aR2;refine fF.eq (Jb e.bT.length (fuel_lt AB) (fun i a=>a=ofIds l (e.bT.take i)/\∀x∈e.bT.take i,dJ l x=true) ⟨rfl,fun x U=>by simp at U⟩ (fun i a k hi ha J=>?_) fun a k ha=>?_)
 ·obtain⟨rfl,u⟩:=ha;have hal:=ZK l (e.bT.take i);rw[G6]at hal;unfold aCT;rw[DU hi,Ot l _ AB,Af,wrap_succ i AB];cases Y:Ed l e.bT[i]with
  |none=>
   rw[SK Y];refine .ret ?_;unfold Tc;rw[cu (Ej hi) (show dJ l e.bT[i]=false by unfold dJ;rw[Y];rfl)];rfl
  |some x=>
   rw[Nl Y];simp only[Eo,BZ];rw[ED Fz,Af];refine J _ ⟨?_,fun y I=>?_⟩
   ·unfold ofIds;rw[Tj,EK hi,RV,dL,QC,Y];rfl
   rw[Tj,EK hi,RV,Il,KP]at I;rcases I with I|rfl
   ·exact u y I
   unfold dJ;rw[Y];rfl
 obtain⟨rfl,u⟩:=ha;rw[GX]at u ⊢;have U:=ZK l e.bT;have Z:e.bT.all (dJ l)=true:=EY.2 u;unfold aCT;rw[EO];unfold Tc;rw[Z];simp only[Eo,BZ];generalize ofIds l e.bT=X at U;unfold aU4;rw[Hl X (fuel_lt AB) (fun x=> !decide (x.Room=e.Room)) 13 (some (bif MN (keysOf e) [] X&&(e.Kind==1||X.any Qy)then 0 else 16))]
 ·rw[uy];cases X.all (fun x=>x.Room=e.Room)<;>exact .ret rfl
 ·intro k2 i hi;unfold aCu;rw[DU hi,J7]
 intro k2;unfold aCu;rw[EO,aKH,Af];unfold aSu;refine fF.eq (RS (body:=aAG X) (Q:=(· =bif MN (keysOf e) [] X&&(e.Kind==1||X.any Qy)then 0 else 16)) (fun n b ks x=>∃i:Nat,x=i/\i+n=X.length/\ks=((keysOf e).filter fun k=> !(X.take i).any (FT k)).map J6/\b=(e.Kind==1||(X.take i).any fun x=>x.Kind==1)/\MN (keysOf e) [] X=MN (keysOf e) (X.take i) (X.drop i)) ?_ Az X.length (e.Kind==1) ((keysOf e).map J6) 0 (fuel_lt AB) ⟨0,rfl,AB,by rw[sF];exact BP (List.map J6) (kS.2 fun _ _=>rfl).symm,Bj,rfl⟩);rintro n b ks x k3 ⟨i,rfl,hn,hks,hb,z⟩ hk3;unfold aAG;by_cases hi:i<X.length
 ·rw[aUx hi]at z;have hlk:((keysOf e).filter fun k=> !(X.take i).any (FT k)).length<=5:=FC (KL _ _) hk5;rw[DU hi,hks,aZB _ _ AB,Af];have L:=aWk (p:=fun k=>FT k X[i]) ((keysOf e).filter fun k=> !(X.take i).any (FT k))
  have M:(((keysOf e).filter fun k=> !(X.take i).any (FT k)).any fun k=>FT k X[i])=((keysOf e).any (fun k=>FT k X[i])&& !(X.take i).any (kJ X[i])):=by
   rw[OY,I8,Df,I8,Ls,←PO,I8];constructor
   ·rintro⟨k,J,hm⟩;obtain⟨hk1,hk2⟩:=HY.1 J;refine⟨⟨k,hk1,hm⟩,?_⟩;rintro⟨y,I,hs⟩;obtain⟨m1,m2⟩:=Zo.1 hm;obtain⟨s1,s2⟩:=aUV.1 hs;rw[I8.2 ⟨y,I,Zo.2 ⟨s1.trans m1,s2.trans m2⟩⟩]at hk2;cases hk2
   rintro⟨⟨k,J,hm⟩,hno⟩;refine⟨k,HY.2 ⟨J,?_⟩,hm⟩;rw[Ls,←PO,I8];rintro⟨y,I,hs⟩;obtain⟨m1,m2⟩:=Zo.1 hm;obtain⟨s1,s2⟩:=Zo.1 hs;exact hno ⟨y,I,aUV.2 ⟨s1.trans m1.symm,s2.trans m2.symm⟩⟩
  rw[←M,←L]at z;by_cases q:((keysOf e).filter fun k=> !(X.take i).any (FT k)).findIdx (fun k=>FT k X[i])<((keysOf e).filter fun k=> !(X.take i).any (FT k)).length
  ·rw[DX q,IX AB,BZ];rw[Ih q,Gh]at z;have hlm:(((keysOf e).filter fun k=> !(X.take i).any (FT k)).map J6).length=((keysOf e).filter fun k=> !(X.take i).any (FT k)).length:=DY ..
   have hpw:((keysOf e).filter fun k=> !(X.take i).any (FT k)).Pairwise (fun a b=>¬(FT a X[i]=true/\FT b X[i]=true)):=by
    refine(List.Pairwise.sublist RI hsk).imp fun{a b} hab h=>?_;obtain⟨a1,a2⟩:=Zo.1 h.1;obtain⟨b1,b2⟩:=Zo.1 h.2;rw[uI (X8.2 ⟨a1.symm.trans b1,a2.symm.trans b2⟩)]at hab;cases hab
   have hd:=aRA _ hpw q
   have O:((keysOf e).filter fun k=> !(X.take i).any (FT k)).filter (fun k=> !FT k X[i])=(keysOf e).filter fun k=> !(X.take (i+1)).any (FT k):=by
    rw[List.filter_filter];refine List.filter_congr fun k _=>?_;rw[wL hi];cases(X.take i).any (FT k)<;>cases FT k X[i]<;>rfl
   rw[O]at hd;generalize((keysOf e).filter fun k=> !(X.take i).any (FT k))=K at q hd hlm hlk;generalize K.findIdx (fun k=>FT k X[i])=j at q hd;have s1:IE (K.map J6) 0 (j:Int)=some (((K.map J6).drop 0).take (j-0)):=oz (lo:=0) (Du _) AB;have s2:IE (K.map J6) (Ar ((j:Int)+1)) ((K.map J6).length:Int)=some (((K.map J6).drop (j+1)).take ((K.map J6).length-(j+1))):=by rw[wrap_succ j AB];exact oz AB (EX _)
   rw[s1,Af,s2,Af,ED (by simp only[G6,JX];omega),Af];have hb3:(bif b then some true else(Am X (i:Int)).bind fun x28=>some (x28.Kind==1))=some (b||X[i].Kind==1):=by rw[D5 hi];cases b<;>rfl
   rw[hb3,Af];refine hk3 (n-1) _ _ _ AB ⟨i+1,wrap_succ i AB,AB,?_,?_,z⟩
   ·rw[hd,Kw,YK,aG,Nat.sub_zero,jF,QL (l:=(K.map J6).drop (j+1)) aBO]
   rw[wL hi,hb,Bool.or_assoc]
  rw[Dk q];rw[IX q,aNF]at z;exact .ret xA
 have :i=X.length:=AB
 subst this;rw[aPO]at z;rw[EO,z,hb,GX,Gh]
 have hc:(X.any fun x=>x.Kind==1)=X.any Qy:=any_congr fun x U=>by
  obtain⟨k,J,hm⟩:=aOl X [] z x U;obtain⟨m1,m2⟩:=Zo.1 hm;unfold Qy;cases hq:x.Kind==1 with
  |false=>rfl
  |true=>rw[m2,amW J (by rw[←m1];exact eq_of_beq hq)];simp
 rw[hc];cases(e.Kind==1||X.any Qy)<;>exact .ret rfl
def KY (l:A8 AX) (s:A8 BM):A8 AX:=ofIds l (s.map (·.Id))
def pO (l:A8 AX) (s:A8 BM):(KY l s).length<=s.length:=by have :=ZK l (s.map (·.Id));rwa [DY]at this
def aLD {l:A8 AX} (hs:E9 l) (ids:A8 Int):E9 (ofIds l ids):=fun x j=>hs x (a1C j)
def aDN {l:A8 AX} {s:A8 BM} {i:Nat} (h:i<s.length):KY l (s.take (i+1))=KY l (s.take i)++(Ed l s[i].Id).toList:=by
 unfold KY ofIds;rw[map_take h,dL,QC,aJX];cases Ed l s[i].Id<;>rfl
def aVS (l:A8 AX) (s:A8 BM) (hl:l.length<=100) (h:s.length<=1000):kV l s=some (KY l s):=by
 unfold kV ql;rw[Af];unfold aU9;refine fF.eq (aKJ (body:=aFL s) (Q:=(· =KY l s)) (fun n a b c _ _=>∃i:Nat,b=i/\i+n=s.length/\c=l/\a=KY l (s.take i)) ?_ Az s.length [] 0 l [] [] (fuel_lt AB) ⟨0,rfl,AB,rfl,rfl⟩);rintro n a b c d f k ⟨i,rfl,z,rfl,ha⟩ u;unfold aFL;by_cases hi:i<s.length
 ·have q:=pO c (s.take i);rw[G6]at q;rw[DU hi,Ot c _ AB,Af,wrap_succ i AB];cases j:Ed c s[i].Id with
  |none=>rw[SK j];exact u (n-1) _ _ _ _ _ AB ⟨i+1,rfl,AB,rfl,by rw[aDN hi,j,ha];simp⟩
  |some x=>
   rw[Nl j];simp only[Bq];rw[ED (by rw[ha];simp only[Ns];omega),Af];exact u (n-1) _ _ _ _ _ AB ⟨i+1,rfl,AB,rfl,by rw[aDN hi,j,ha];rfl⟩
 have :i=s.length:=AB
 subst this;rw[EO];exact .ret gW
def aTT (l:A8 AX) (s:A8 BM) (hl:l.length<=100) (h:s.length<=1000):yB l s=some (KY l s):=by
 unfold yB aRB;refine fF.eq (Jb s.length (fuel_lt AB) (fun i a=>a=KY l (s.take i)) rfl (fun i a k hi ha u=>?_) fun a k ha=>?_)
 ·have q:=pO l (s.take i);rw[G6]at q;unfold aMN aAn;rw[DU hi,Kv l _ AB,Af,wrap_succ i AB];cases j:Ed l s[i].Id with
  |none=>rw[SK j];exact u _ (by rw[aDN hi,j,ha];simp)
  |some x=>
   rw[Nl j];simp only[Bq];rw[ED (by rw[ha];simp only[Ns];omega),Af];exact u _ (by rw[aDN hi,j,ha];rfl)
 unfold aMN;rw[Dq];exact .ret gW
structure FI where
 id:Int
 before:List BM
 after:List BM
 err:Int
def J4 (t:A8 FI) (x:Int):Option FI:=t.find? fun y=>y.id==x
def Q9 (t:A8 FI) (x:Int):A8 BM:=((J4 t x).map (·.after)).getD []
def errOf (t:A8 FI) (x:Int):Int:=((J4 t x).map (·.err)).getD 0
def a2U (l:A8 AX) (e:AX):Int:=bif Tc l e != 0 then Tc l e else LW e (WW l e)
def Tz (l:A8 AX) (t:A8 FI) (e:AX) (s:A8 BM):Int:=
 bif a2U l e != 0 then a2U l e else bif e.bT.any (fun x=>errOf t x != 0)then 16 else LW e (KY l s)
def stB (l:A8 AX) (t:A8 FI) (e:AX):A8 BM:=qZ l (e.bK.map (Q9 t))
def fD (e:AX) (s:A8 BM) (r:Int):FI:=⟨e.Id,s,bif r==0&&I7 e.Kind then Gi s e.Kind e.Key e.Id else s,r⟩
def Vf (l:A8 AX) (t:A8 FI) (e:AX):FI:=fD e (stB l t e) (Tz l t e (stB l t e))
def NM (l:A8 AX) (ids:A8 Int):A8 FI:=ids.foldl (fun t id=>t++[Vf l t (ev l id)]) []
def Fb (l:A8 AX):A8 FI:=NM l (Qe l)
def aW7 (l:A8 AX) {ids:A8 Int} {i:Nat} (h:i<ids.length):NM l (ids.take (i+1))=NM l (ids.take i)++[Vf l (NM l (ids.take i)) (ev l ids[i])]:=aPb h
def aQm {t:A8 FI} {x:Int}:J4 t x=none↔x∉t.map (·.id):=by
 unfold J4;rw[a1p,FY];exact⟨fun h ⟨y,j,e⟩=>h y j SE,fun h y j e=>h ⟨y,j,SE⟩⟩
def aKp {t:A8 FI} {y:FI} (h:J4 t y.id=none) (x:Int):J4 (t++[y]) x=bif x==y.id then some y else J4 t x:=by
 unfold J4 at h ⊢;rw[aV];cases j:x==y.id with
 |true=>
  have e:=eq_of_beq j;subst e;rw[h];simp
 |false=>
  have :(y.id==x)=false:=by rw[←j,OY,Oa,Oa];exact eq_comm
  simp[this]
def aNM (l:A8 AX):∀(ids:A8 Int) (t:A8 FI),(∀x∈ids,dJ l x=true)->(ids.foldl (fun t id=>t++[Vf l t (ev l id)]) t).map (·.id)=t.map (·.id)++ids
 | [],t,_=>Bj
 |x::ids,t,h=>by
  have j:(Vf l t (ev l x)).id=x:=(Nv (h x (GU ..))).2;rw[Gm,aNM l ids _ fun y q=>h y (Gv _ q),Kw,JJ,List.map_nil,j,IU];rfl
def Md (l:A8 AX) (t:A8 FI):Prop:=∀y∈t,JV l y.before/\JV l y.after
def Md.after {l:A8 AX} {t:A8 FI} (h:Md l t) (x:Int):JV l (Q9 t x):=by
 unfold Q9;cases hl:J4 t x with
 |none=>exact .nil l
 |some y=>exact(h y (dP hl)).2
def Md.states {l:A8 AX} {t:A8 FI} (h:Md l t) (ids:A8 Int):∀s∈ids.map (Q9 t),JV l s:=fun s hs=>by
 obtain⟨x,_,rfl⟩:=FY.1 hs;exact h.after x
def Md.okay {l:A8 AX} {t:A8 FI} (h:Md l t) (hl:l.length<=100) (hs:E9 l) (ids:A8 Int) (hi:ids.length<=100):O8 l (ids.map (Q9 t)):=JV.okay hl hs aLq (h.states ids)
def Md.stB {l:A8 AX} {t:A8 FI} (h:Md l t) (hl:l.length<=100) (hs:E9 l) {e:AX} (j:e.bK.length<=40):JV l (stB l t e):=JV.resolve (h.okay hl hs _ AB) (h.states _)
def Md.line {l:A8 AX} {t:A8 FI} (h:Md l t) (hl:l.length<=100) (hs:E9 l) {e:AX} (u:e.bK.length<=40) (z:I7 e.Kind=true->dJ l e.Id=true/\ev l e.Id=e):Md l (t++[Vf l t e]):=fun y j=>by
 rcases Il.1 j with j|j
 ·exact h y j
 rw[KP.1 j];have hp:=h.stB hl hs u;refine⟨hp,?_⟩;show JV l (bif Tz l t e (Go.Proofs.YtkkdimcnpacjhaaGreat.stB l t e)==0&&I7 e.Kind then Gi _ e.Kind e.Key e.Id else _);cases q:(Tz l t e (Go.Proofs.YtkkdimcnpacjhaaGreat.stB l t e)==0&&I7 e.Kind)with
 |false=>exact hp
 |true=>
  have hst:I7 e.Kind=true:=by rw[Df]at q;exact q.2
  obtain⟨I,k2⟩:=z hst;exact hp.set I k2 hst
def ahU {l:A8 AX} {id:Int} (h:I7 (ev l id).Kind=true):dJ l (ev l id).Id=true/\ev l (ev l id).Id=ev l id:=by
 cases j:Ed l id with
 |none=>unfold ev at h;rw[SK j]at h;exact absurd h Bo
 |some e=>
  have q:dJ l id=true:=by unfold dJ;rw[j];rfl
  have :=(Nv q).2;rw[this];exact⟨q,rfl⟩
def aVk :FV Ch:=⟨Du _,Du _,Du _,Du _,Du _,Du _,Du _,Du _,Du _,Du _,Du _,Du _,fun _ h=>absurd h FB,fun _ h=>absurd h FB,fun _ h=>absurd h FB⟩
def aLI {l:A8 AX} (hs:E9 l) (id:Int):FV (ev l id):=by
 unfold ev Hr;cases h:Ed l id with
 |none=>exact aVk
 |some e=>exact hs e (NV h)
def aBn {l:A8 AX} (hl:l.length<=100) (hs:E9 l):∀(ids:A8 Int) (t:A8 FI),Md l t->Md l (ids.foldl (fun t id=>t++[Vf l t (ev l id)]) t)
 | [],t,h=>h
 |x::ids,t,h=>by rw[Gm];exact aBn hl hs ids _ (h.line hl hs (aLI hs x).prev ahU)
structure PI (t:List FI) (m1 m2:List (Int×List BM)) (m3:List (Int×Int)):Prop where
 b:∀x,DV m1 x=(J4 t x).map (·.before)
 a:∀x,DV m2 x=(J4 t x).map (·.after)
 r:∀x,DV m3 x=(J4 t x).map (·.err)
def PI.after {t:A8 FI} {q j:A8 (Int×A8 BM)} {u:A8 (Int×Int)} (h:PI t q j u) (x:Int):(DV j x).getD []=Q9 t x:=by rw[h.a];rfl
def PI.err {t:A8 FI} {q u:A8 (Int×A8 BM)} {j:A8 (Int×Int)} (h:PI t q u j) (x:Int):(DV j x).getD 0=errOf t x:=by rw[h.r];rfl
def aag {t:A8 FI} {q u:A8 (Int×A8 BM)} {z:A8 (Int×Int)} (h:PI t q u z) (l:A8 AX) (e:AX) (s:A8 BM) (hl:l.length<=100) (hs:E9 l) (j:FV e) (I:s.length<=100):
 aBf q u z l e s=some (Tz l t e s):=by
 have L:=j.auth;have M:=pO l s;unfold aBf Tz a2U;rw[acz l e hl j,Af];cases J:Tc l e != 0 with
 |true=>simp only[Bq];rw[J];rfl
 |false=>
  simp only[BZ];rw[aXO l e AB AB,Af,wu e _ (FC (aFJ l e) AB) (hs.from e) j,Af];cases ha:LW e (WW l e) != 0 with
  |true=>rfl
  |false=>
   simp only[BZ];unfold aVT;rw[Hl e.bT (fuel_lt AB) (fun x=>errOf t x != 0) 16 (some (LW e (KY l s)))]
   ·cases e.bT.any (fun x=>errOf t x != 0)<;>rfl
   ·intro k i hi;unfold aIT;rw[DU hi,h.err]
   intro k;unfold aIT;rw[EO,aVS l s hl AB,Af,wu e (KY l s) AB (aLD hs _) j];rfl
def PI.snoc {t:A8 FI} {I J j q:A8 (Int×A8 BM)} {L u:A8 (Int×Int)} (h:PI t I J L) {y:FI} (z:J4 t y.id=none)
 (M:∀x,DV j x=bif x==y.id then some y.before else DV I x) (O:∀x,DV q x=bif x==y.id then some y.after else DV J x) (U:∀x,DV u x=bif x==y.id then some y.err else DV L x):PI (t++[y]) j q u:=by
 refine⟨fun x=>?_,fun x=>?_,fun x=>?_⟩
 ·rw[M,aKp z,h.b];cases x==y.id<;>rfl
 ·rw[O,aKp z,h.a];cases x==y.id<;>rfl
 rw[U,aKp z,h.r];cases x==y.id<;>rfl
def add_eq {t:A8 FI} {z I:A8 (Int×A8 BM)} {J:A8 (Int×Int)} (h:PI t z I J) (l:A8 AX) (e:AX) (hl:l.length<=100) (hs:E9 l) (L:FV e) (ht:Md l t) (M:J4 t e.Id=none):
 fF (aDp z I J l e) (fun r=>PI (t++[Vf l t e]) r.1 r.2.1 r.2.2):=by
 have O:=L.prev;unfold aDp aPW;refine Jb e.bK.length (fuel_lt AB) (fun i a=>a=(e.bK.take i).map (Q9 t)) rfl (fun i a k hi ha U=>?_) fun a k ha=>?_
 ·have Y:a.length<=i:=mP
  unfold aLt;rw[DU hi,ED Fz,Af,wrap_succ i AB,h.after];exact U _ zo
 rw[GX]at ha;subst ha;unfold aLt;have hp:JV l (stB l t e):=ht.stB hl hs O;have Z:=hp.length;have u:kP l (e.bK.map (Q9 t))=some (stB l t e):=aXa (ht.okay hl hs _ AB);rw[EO,u,Af,aag h l e _ hl hs L AB,Af];have j:Vf l t e=fD e (stB l t e) (Tz l t e (stB l t e)):=rfl;rw[j];generalize Tz l t e (stB l t e)=r;have q:∀(c d f:Ad) {R:Type} (g:Ad->AO R),((bif c then some d else some false).bind fun x9=>(bif x9 then some f else some false).bind g)=g (c&&(d&&f)):=fun c d f R g=>by cases c<;>cases d<;>rfl
 rw[q];show fF (bif (r==0&&I7 e.Kind)then _ else _) _;unfold fD;cases hc:(r==0&&I7 e.Kind)with
 |true=>
  simp only[Bq];rw[Xl _ _ _ _ AB,Af];refine .ret (h.snoc M (fun x=>Qk ..) (fun x=>?_) fun x=>Qk ..);rw[Qk,Qk];cases x==e.Id<;>rfl
 |false=>exact .ret (h.snoc M (fun x=>Qk ..) (fun x=>Qk ..) fun x=>Qk ..)
def run_go (l:A8 AX) (ids:A8 Int) (hl:l.length<=100) (hs:E9 l) (u:∀x∈ids,dJ l x=true) (z:ids.Nodup) (J:ids.length<=1000):fF (aJF ids l 0 [] [] []) (fun o=>∃T,o=some T/\PI (NM l ids) T.1 T.2.1 T.2.2):=by
 unfold aJF;refine aLQ (body:=aMy ids l) (Q:=fun o=>∃T,o=some T/\PI (NM l ids) T.1 T.2.1 T.2.2) (fun n a b c d=>∃i:Nat,a=i/\i+n=ids.length/\PI (NM l (ids.take i)) b c d) ?_ Az ids.length 0 [] [] [] (fuel_lt AB) ⟨0,rfl,AB,⟨fun x=>rfl,fun x=>rfl,fun x=>rfl⟩⟩;rintro n a b c d k ⟨i,rfl,Z,hm⟩ L;unfold aMy;by_cases hi:i<ids.length
 ·have I:=u _ (Ej hi)
  have q:J4 (NM l (ids.take i)) (ev l ids[i]).Id=none:=by
   rw[aQm,(Nv I).2];unfold NM;rw[aNM l _ _ fun x M=>u x (mG M),List.map_nil,Ik];intro hm;obtain⟨j,O,e⟩:=IK hm;rw[G6]at O;rw[oG]at e;have :=KN.1 (a2g.1 z) j i AB hi AB;exact this e
  rw[DU hi,Ot l _ AB,Af];refine(add_eq hm l _ hl hs (aLI hs ids[i]) (aBn hl hs _ _ fun y U=>absurd U FB) q).bind fun r Y=>?_;exact L (n-1) _ _ _ _ AB ⟨i+1,wrap_succ i AB,AB,by rw[aW7 l hi];exact Y⟩
 have :i=ids.length:=AB
 subst this;rw[EO];exact .ret ⟨_,rfl,by rw[GX]at hm;exact hm⟩
structure MP (l:List AX):Prop where
 len:l.length<=100
 small:E9 l
 nodup:(l.map (·.Id)).Nodup
 dep:iC l
def pV {l:A8 AX} {x:Int}:dJ l x=true↔x∈l.map (·.Id):=by
 unfold dJ Ed;rw[List.find?_isSome,FY];exact⟨fun⟨e,j,h⟩=>⟨e,j,KC⟩,fun⟨e,j,h⟩=>⟨e,j,KC⟩⟩
def aVx (l:A8 AX):(Qe l).Perm (l.map (·.Id)):=(al6 l).map _
def aL6 {l:A8 AX} {x:Int}:x∈Qe l↔dJ l x=true:=by rw[(aVx l).mem_iff,pV]
def aI6 (l:A8 AX):(Qe l).length=l.length:=by unfold Qe;rw[DY,aK4]
def MP.order {l:A8 AX} (h:MP l):(Qe l).Nodup:=(aVx l).nodup_iff.2 h.nodup
def Jg (l:A8 AX) (c:Int):A8 FI:=bif c==0&&Js l==0 then Fb l else[]
def run_eq (l:A8 AX) {c:Int} (z:PK l=some c) (h:c=0->MP l):
 fF (ou l) (fun o=>(Jg l c=[]/\o=none)\/(Jg l c=Fb l/\MP l/\∃T,o=some T/\PI (Fb l) T.1 T.2.1 T.2.2)):=by
 unfold ou Jg;rw[z,Af];by_cases u:c=0
 ·subst u;have j:=h rfl;rw[ake l j.len j.small j.dep];cases hd:Js l==0 with
  |false=>
   have q:(Js l != 0)=true:=by unfold bne;rw[hd];rfl
   simp only[PU,BZ,Af,q,Bq];exact .ret (.inl ⟨rfl,rfl⟩)
  |true=>
   have q:(Js l != 0)=false:=by unfold bne;rw[hd];rfl
   simp only[PU,BZ,Af,q];rw[aeP l (by have :=j.len;omega),Af];exact(run_go l (Qe l) j.len j.small (fun x I=>aL6.1 I) j.order (by rw[aI6];have :=j.len;omega)).mono fun o J=>.inr ⟨rfl,j,J⟩
 have L:(c != 0)=true:=Vh
 have M:(c==0)=false:=Vh
 rw[L,M];exact .ret (.inl ⟨rfl,rfl⟩)
def aLh {l:A8 AX} (h:MP l):Md l (Fb l):=aBn h.len h.small _ _ fun y j=>absurd j FB
def ajo (l:A8 AX):(Fb l).map (·.id)=Qe l:=by
 have :=aNM l (Qe l) [] fun x j=>aL6.1 j;simpa[Fb,NM]using this
def akf {l:A8 AX} {x:Int} (h:dJ l x=true):∃y,J4 (Fb l) x=some y:=by
 cases hl:J4 (Fb l) x with
 |some y=>exact⟨y,rfl⟩
 |none=>rw[aQm,ajo]at hl;exact absurd (aL6.2 h) hl
def TW (t:A8 FI) (x:Int):Ad:=match J4 t x with
 |some y=>y.err==0
 |none=>false
def F7 (l:A8 AX) (t:A8 FI):A8 Int:=(l.filter fun e=>TW t e.Id).map (·.Id)
def Ic (l:A8 AX) (t:A8 FI):A8 BM:=qZ l ((IL l (F7 l t)).map (Q9 t))
def YF (l:A8 AX) (t:A8 FI):(F7 l t).length<=l.length:=by unfold F7;rw[DY];exact KL _ _
def a2A (l:A8 AX):F7 l []=[]:=by
 unfold F7;rw[zI.2 fun e _=>by unfold TW J4;simp];rfl
def aVp (l:A8 AX):Ic l []=[]:=by unfold Ic;rw[a2A];rfl
def a2L {l:A8 AX} {t:A8 FI} {i:Nat} (h:i<l.length):F7 (l.take (i+1)) t=F7 (l.take i) t++bif TW t l[i].Id then[l[i].Id]else[]:=by
 unfold F7;rw[pY h,Kw];cases TW t l[i].Id<;>rfl
def aho {l:A8 AX} {x:Int} (h:dJ l x=true):TW (Fb l) x=(errOf (Fb l) x==0):=by
 obtain⟨y,j⟩:=akf h;unfold TW errOf;rw[j];rfl
def aY5 {l:A8 AX} {j q:A8 (Int×A8 BM)} {u:A8 (Int×Int)} (h:PI (Fb l) j q u) (hl:l.length<=100):dV j q u l=some (F7 l (Fb l)):=by
 unfold dV
 have hp:aDl l j q u=some (F7 l (Fb l)):=by
  unfold aDl aOM;refine fF.eq (Jb l.length (fuel_lt AB) (fun i a=>a=F7 (l.take i) (Fb l)) rfl (fun i a k hi ha z=>?_) fun a k ha=>?_)
  ·have J:a.length<=i:=aP1
   unfold aHi aJD aEn;rw[DU hi,Af,h.err,←aho (pV.2 (FY.2 ⟨_,Ej hi,rfl⟩)),wrap_succ i AB];cases I:TW (Fb l) l[i].Id with
   |true=>
    rw[Bq,D5 hi,Af,ED Fz,Af];exact z _ (by rw[a2L hi,I,ha];rfl)
   |false=>exact z _ (by rw[a2L hi,I,ha];simp)
  unfold aHi;rw[EO];exact .ret gW
 rw[hp];rfl
def abQ {l:A8 AX} {c:Int} (z:PK l=some c) (h:c=0->MP l):aX l=some (Ic l (Jg l c)):=by
 unfold aX;refine fF.eq ((run_eq l z h).bind fun o j=>?_);rcases j with⟨q,rfl⟩|⟨q,j,T,rfl,u⟩
 ·rw[q,aVp];exact .ret rfl
 rw[q];have hl:=j.len;have ha:=YF l (Fb l);have I:=jQ l (F7 l (Fb l));show fF ((dV T.1 T.2.1 T.2.2 l).bind _) _;rw[aY5 u hl,Af,aOp l _ hl j.small AB,Af];unfold Ic;generalize IL l (F7 l (Fb l))=H at I;unfold aWF;refine Jb H.length (fuel_lt AB) (fun i a=>a=(H.take i).map (Q9 (Fb l))) rfl (fun i a k hi ha J=>?_) fun a k ha=>?_
 ·have L:a.length<=i:=mP
  unfold aI2;rw[DU hi,ED Fz,Af,u.after,wrap_succ i AB];exact J _ zo
 rw[GX]at ha;unfold aI2;rw[EO,ha,aXa ((aLh j).okay hl j.small _ AB),Af];exact .ret rfl
def aXT {l:A8 AX} {c:Int} (h:c=0->MP l):JV l (Ic l (Jg l c)):=by
 unfold Jg;cases q:(c==0&&Js l==0)with
 |false=>rw[BZ,aVp];exact .nil l
 |true=>
  rw[Df]at q;have j:=h (eq_of_beq q.1);have ht:=aLh j;have ha:=YF l (Fb l);have u:=jQ l (F7 l (Fb l));have hl:=j.len;rw[Bq];exact JV.resolve (ht.okay hl j.small _ AB) (ht.states _)
def aW1 (t:A8 FI) (s:A8 BM):Prop:=∀x∈s,TW t x.Id=true
def aW1.nil (t:A8 FI):aW1 t []:=fun _ h=>absurd h FB
def ain {l:A8 AX} (hd:Js l=0) {e:AX} (z:e∈l):(∀a∈e.bT,dJ l a=true/\(ev l a).Depth<e.Depth)/\∀a∈e.bK,dJ l a=true/\(ev l a).Depth<e.Depth:=by
 unfold Js at hd;cases u:XP l with
 |false=>rw[u]at hd;cases hd
 |true=>
  rw[u,Bq]at hd;cases I:l.all (Rn l)with
  |false=>rw[I]at hd;cases hd
  |true=>
   have j:=EY.1 u e z;have q:=EY.1 I e z;unfold V6 at j;unfold Rn at q;rw[Df,EY,EY]at j;rw[Df,EY]at q;refine⟨fun a ha=>⟨j.2 a ha,YN (q.1 a ha)⟩,fun a ha=>⟨j.1 a ha,?_⟩⟩
   have hp:((e.bK.length:Int)==0)=false:=by
    have :0<e.bK.length:=List.length_pos_of_mem ha;rw[Rl];omega
   have J:=q.2;rw[hp,BZ,Df,EY]at J;exact YN (J.1 a ha)
structure aEw (x y:AX):Prop where
 id:y.Id=x.Id
 room:y.Room=x.Room
 sender:y.bG=x.bG
 kind:y.Kind=x.Kind
 key:y.Key=x.Key
 time:y.Time=x.Time
 depth:y.Depth=x.Depth
 prev:y.bK=x.bK
 auth:y.bT=x.bT
 n:x.Kind=2\/x.Kind=4->y.Content.N=x.Content.N
 levels:x.Kind=3->y.Content.Levels=x.Content.Levels
inductive TM :List AX->List AX->Prop
 |nil:TM [] []
 |cons {x y:AX} {xs ys:List AX} (h:aEw x y) (t:TM xs ys):TM (x::xs) (y::ys)
def TM.append {a b c d:A8 AX} (h:TM a b) (k:TM c d):TM (a++c) (b++d):=by
 induction h with
 |nil=>exact k
 |cons h _ j=>exact .cons h j
def TM.any {p:AX->Ad} (hp:∀x y,aEw x y->p y=p x) {a b:A8 AX} (h:TM a b):b.any p=a.any p:=by
 induction h with
 |nil=>rfl
 |cons h _ j=>rw[bP,bP,hp _ _ h,j]
def TM.all {p:AX->Ad} (hp:∀x y,aEw x y->p y=p x) {a b:A8 AX} (h:TM a b):b.all p=a.all p:=by
 induction h with
 |nil=>rfl
 |cons h _ j=>rw[pX,pX,hp _ _ h,j]
structure alv (l l':List AX) (S:List Int):Prop where
 nodup:S.Nodup
 mem:∀x∈S,dJ l x=true/\dJ l' x=true/\aEw (ev l x) (ev l' x)
 prev:∀x∈S,∀a∈(ev l x).bK,a∈S
 auth:∀x∈S,∀a∈(ev l x).bT,a∈S
section
variable {l l':A8 AX} {S:A8 Int} (h:alv l l' S)
include h
end
end
section
def TU (n:Int):Int:=if n<0 then bits .xor .u64 IntKind.u64.max (IntKind.u64.wrap (IntKind.u64.wrap n*2))else IntKind.u64.wrap (IntKind.u64.wrap n*2)
def xk (n:Int):0<=TU n/\TU n<18446744073709551616:=by
 unfold TU;have j:∀x:Int,0<=IntKind.u64.wrap x/\IntKind.u64.wrap x<18446744073709551616:=fun x=>by rw[lM];omega
 split
 ·obtain⟨q,z⟩:=j (IntKind.u64.wrap n*2);generalize IntKind.u64.wrap (IntKind.u64.wrap n*2)=y at *;obtain⟨k,rfl⟩:=Int.eq_ofNat_of_zero_le q;have :(IntKind.u64.max:Int)=((18446744073709551615:Nat):Int):=Bo
  rw[this,bits_xor_u64_nat _ _ AB AB];have :18446744073709551615^^^k<2^64:=Nat.xor_lt_two_pow AB AB;constructor
  ·exact aGe _
  have u:(2:Nat)^64=18446744073709551616:=Bo
  omega
 exact j _
def Om (u:Nat):A8 Int:=if u<128 then[(u:Int)]else((u % 128+128:Nat):Int)::Om (u/128)
termination_by u
decreasing_by omega
def jS {u:Nat} (h:u<128):Om u=[(u:Int)]:=by rw[Om,DX h]
def aNR {u:Nat} (h:¬u<128):Om u=((u % 128+128:Nat):Int)::Om (u/128):=by rw[Om,Dk h]
def aVW :∀(j u:Nat),u<128^(j+1)->(Om u).length<=j+1
 |0,u,h=>by rw[jS KC];simp
 |j+1,u,h=>by
  by_cases q:u<128
  ·rw[jS q];simp
  rw[aNR q]
  have :u/128<128^(j+1):=by
   rw[Nat.div_lt_iff_lt_mul AB];rw[Nat.pow_succ]at h;exact h
  have :=aVW j (u/128) this;simp;omega
def enc (n:Int):A8 Int:=Om (TU n).toNat
def Pm (n:Int):(enc n).length<=10:=by
 have h:=(xk n).2;refine aVW 9 _ ?_;have :(128:Nat)^10=1180591620717411303424:=Bo
 rw[this];have :=(xk n).1;omega
def afJ (k:Nat):bits .or .u8 ((k:Int) % 256) 128=((k % 128+128:Nat):Int):=by
 have h:=u8_or_nat (k % 256) 128 AB AB;rw[show((k:Int) % 256)=((k % 256:Nat):Int)from by omega];have j:(128:Int)=((128:Nat):Int):=rfl;rw[j,h];congr 1;have key:∀x,x<256->x|||128=x % 128+128:=NY
 rw[key _ AB];omega
def wS (u c:Int):Int:=(IntKind.u64.wrap (bits .xor .u64 u (IntKind.u64.wrap c)*1099511628211)).tmod 4611686018427387904
def aWU (x:Int):bits .and .u64 (IntKind.u64.wrap x) 4611686018427387903=(IntKind.u64.wrap x).tmod 4611686018427387904:=by
 rw[lM];have h:=bits_mask .u64 64 Bo (fun n q u=>by rw[lM];omega) 62 Bo (x % 18446744073709551616) AB AB;have e:((2:Int)^62-1)=4611686018427387903:=Bo
 have j:((2:Int)^62)=4611686018427387904:=Bo
 rw[aV6 AB];simpa[e,j]using h
def ah9 (u c:Int):bits .and .u64 (IntKind.u64.wrap (bits .xor .u64 u (IntKind.u64.wrap c)*1099511628211)) 4611686018427387903=wS u c:=aWU _
def aE8 (op:BinOp) (k:IntKind) (x y:Int) (h:op=.and\/op=.or\/op=.xor):Eu op k x y=bits op k x y:=by
 rcases h with rfl|rfl|rfl<;>rfl
def OB {α:Type} {b:Nat} {l m:A8 α} (j:b<=100) (h:(l++m).length<=1099511627776):DL b l m=some (l++m):=by
 refine ED ?_;rw[EZ]at h;have :(l.length+m.length)*b<=1099511627776*100:=a2O h j;omega
def agI (u:Nat):Eu .or .u8 (IntKind.u8.wrap (u:Int)) 128=((u % 128+128:Nat):Int):=by
 rw[aE8 _ _ _ _ (.inr (.inl rfl)),show IntKind.u8.wrap (u:Int)=(u:Int) % 256 from by rw[nV],afJ]
def af6 (u:Nat):Pg .shr .u64 (u:Int) 7=some ((u/128:Nat):Int):=by
 unfold Pg;rw[Dk AB];show some ((u:Int).fdiv (2^7))=_;rw[aX6 _ Bo];congr 1
def aR6 {u n:Nat} (h:u<128^(n+1+1)):u/128<128^(n+1):=by
 rw[Nat.div_lt_iff_lt_mul AB];rw[Nat.pow_succ]at h;exact h
def alJ :∀(n u:Nat),u<128^(n+1)->∀m b,n<m->(b++Om u).length<=1099511627776->aU Xe m b (u:Int)=some (b++Om u):=by
 intro n
 induction n with
 |zero=>
  intro u q m b hm j;obtain⟨m,rfl⟩:∃z,m=z+1:=⟨m-1,AB⟩
  have h:u<128:=Np
  rw[jS h]at j ⊢;show Xe (aU Xe m) b (u:Int)=_;simp only[Xe,show decide ((u:Int)>=128)=false from by simp;omega,BZ];rw[show IntKind.u8.wrap (u:Int)=(u:Int)from by rw[nV];omega,OB AB j];rfl
 |succ n J=>
  intro u q m b hm j;obtain⟨m,rfl⟩:∃z,m=z+1:=⟨m-1,AB⟩
  show Xe (aU Xe m) b (u:Int)=_;by_cases h:u<128
  ·rw[jS h]at j ⊢;simp only[Xe,show decide ((u:Int)>=128)=false from by simp;omega,BZ];rw[show IntKind.u8.wrap (u:Int)=(u:Int)from by rw[nV];omega,OB AB j];rfl
  rw[aNR h]at j ⊢;have e:(b++((u % 128+128:Nat):Int)::Om (u/128))=(b++[((u % 128+128:Nat):Int)])++Om (u/128):=Bj
  have I:(b++[((u % 128+128:Nat):Int)]).length<=1099511627776:=by simp only[EZ,GZ,N8]at j ⊢;omega
  simp only[Xe,show decide ((u:Int)>=128)=true from by simp;omega,Bq,agI,OB (show 1<=100 by omega) I,af6,Af];rw[e];exact J (u/128) (aR6 q) m _ AB (by rw[←e];exact j)
def akW :∀(n u:Nat),u<128^(n+1)->u<18446744073709551616->∀m b,n<m->(b++Om u).length<=1099511627776->aU XU m (u:Int) b=some (b++Om u):=by
 intro n
 induction n with
 |zero=>
  intro u q _ m b hm j;obtain⟨m,rfl⟩:∃z,m=z+1:=⟨m-1,AB⟩
  have h:u<128:=Np
  rw[jS h]at j ⊢;show XU (aU XU m) (u:Int) b=_;simp only[XU,show decide ((u:Int)>=128)=false from by simp;omega,BZ];rw[show IntKind.u8.wrap (u:Int)=(u:Int)from by rw[nV];omega,OB AB j];rfl
 |succ n J=>
  intro u q L m b hm j;obtain⟨m,rfl⟩:∃z,m=z+1:=⟨m-1,AB⟩
  show XU (aU XU m) (u:Int) b=_;by_cases h:u<128
  ·rw[jS h]at j ⊢;simp only[XU,show decide ((u:Int)>=128)=false from by simp;omega,BZ];rw[show IntKind.u8.wrap (u:Int)=(u:Int)from by rw[nV];omega,OB AB j];rfl
  rw[aNR h]at j ⊢;have e:(b++((u % 128+128:Nat):Int)::Om (u/128))=(b++[((u % 128+128:Nat):Int)])++Om (u/128):=Bj
  have I:(b++[((u % 128+128:Nat):Int)]).length<=1099511627776:=by simp only[EZ,GZ,N8]at j ⊢;omega
  have M:Vx (u:Int) 128=some ((u % 128:Nat):Int):=by unfold Vx;rw[Dk AB,aV6 AB];congr 1
  have O:yh .u64 (u:Int) 128=some ((u/128:Nat):Int):=by
   unfold yh;rw[Dk AB,Int.tdiv_eq_ediv_of_nonneg AB];congr 1;rw[lM];omega
  have U:IntKind.u8.wrap (IntKind.u64.wrap (((u % 128:Nat):Int)+128))=((u % 128+128:Nat):Int):=by rw[lM,nV];omega
  simp only[XU,show decide ((u:Int)>=128)=true from by simp;omega,Bq,M,U,O,OB (show 1<=100 by omega) I,Af];rw[e];exact J (u/128) (aR6 q) AB m _ AB (by rw[←e];exact j)
def aYZ (x:Int):Pg .shl .u64 x 1=some (IntKind.u64.wrap (x*2)):=rfl
def aWM (x:Int):Zc .u64 x=bits .xor .u64 IntKind.u64.max x:=rfl
def aXZ (n:Int):(TU n).toNat<128^(9+1):=by
 have j:=xk n;have :(128:Nat)^(9+1)=1180591620717411303424:=Bo
 rw[this];omega
def aSa :9<Az:=ni
def number_eq {b:A8 Int} {n:Int} (h:(b++enc n).length<=1099511627776):YX b n=some (b++enc n):=by
 have u:=xk n
 have j:aVf b (TU n)=some (b++enc n):=by
  have :=alJ 9 (TU n).toNat (aXZ n) Az b aSa h
  rwa [Int.toNat_of_nonneg u.1]at this
 unfold YX;rw[aYZ,Af];unfold aBA;unfold TU at j;by_cases q:n<0
 ·rw[DX q]at j;rw[show decide (n<0)=true by simpa using q,Bq,aWM];exact j
 rw[Dk q]at j;rw[show decide (n<0)=false by simpa using q,BZ];exact j
def aiw (n:Int):([]++enc n).length<=1099511627776:=by have :=Pm n;simp only[Ik];omega
def aWb (n:Int):vP n=some (enc n):=by
 have u:=xk n
 have j:aWj (TU n) []=some (enc n):=by
  have :=akW 9 (TU n).toNat (aXZ n) AB Az [] aSa (aiw n)
  rwa [Int.toNat_of_nonneg u.1]at this
 unfold vP;rw[aYZ,Af];unfold aEo;unfold TU at j;by_cases q:n<0
 ·rw[DX q]at j;rw[show decide (n<0)=true by simpa using q,Bq,aWM];exact j
 rw[Dk q]at j;rw[show decide (n<0)=false by simpa using q,BZ];exact j
def Mid {b:A8 Int} {m:Nat} (h:b.length+m<=1099511627776):Yg b (m:Int)=some b:=by
 unfold Yg;rw[OA AB AB];unfold Iy;rw[DX ⟨AB,AB,AB⟩];simp[gCopy]
def aEr {a b:A8 Int} (h:(a++b).length<=1099511627776):a.length<=1099511627776:=by rw[EZ]at h;omega
def Jw (s:BA):A8 Int:=enc s.size++CW s
def text_eq {b:A8 Int} {s:BA} (h:(b++Jw s).length<=1099511627776):wH b s=some (b++Jw s):=by
 unfold Jw at h ⊢;rw[←IU]at h ⊢;unfold wH;rw[number_eq (aEr h),Af,OB AB h];rfl
def tu {b:A8 Int} {n:Int} (h:b.length+10<=1099511627776):OI b n=some (b++enc n):=by
 have :=Pm n;unfold OI;rw[show(10:Int)=((10:Nat):Int)from rfl,Mid AB,Af,number_eq LK];rfl
def Xn {b:A8 Int} {n:Int} (h:b.length+10<=1099511627776):LY b n=some (b++enc n):=by
 have :=Pm n;unfold LY;rw[OB AB aCz,Af,aWb,Af,Ik,OB AB LK];rfl
def jD (s:BA):(Jw s).length<=s.size+10:=by
 have :=Pm s.size;unfold Jw;rw[EZ,Iq];omega
def aeu {b:A8 Int} {s:BA} (h:b.length+s.size+10<=1099511627776):Rh b s=some (b++Jw s):=by
 have :=jD s;unfold Rh;rw[OA AB AB,show(s.size:Int)+10=((s.size+10:Nat):Int) by omega,Mid AB,Af,text_eq LK];rfl
def aR0 {b:A8 Int} {s:BA} (h:b.length+s.size+10<=1099511627776):RF b s=some (b++Jw s):=by
 have :=jD s;unfold RF;rw[Xn AB,Af,OB AB (by unfold Jw at this;rw[EZ]at this;rw[EZ,EZ];omega)];simp[Jw]
def alK {b:A8 Int} {j:Ad} (h:b.length+10<=1099511627776):Xp b j=some (b++[bif j then 1 else 0]):=by
 unfold Xp;rw[show(1:Int)=((1:Nat):Int)from rfl,Mid AB,Af];cases j<;>simp only[Bq,BZ]<;>rw[OB AB aHu]<;>rfl
def abT {b:A8 Int} {j:Ad} (h:b.length+10<=1099511627776):lu b j=some (b++[bif j then 1 else 0]):=by
 unfold lu;rw[OB AB aCz,Af,Ik];cases j<;>simp only[Bq,BZ]<;>rw[OB AB aHu]<;>rfl
def aGx {α:Type} {body:(A8 Int->Int->AO (A8 Int))->A8 Int->Int->AO (A8 Int)} (l:A8 α) (hl:l.length<Az) (g:α->A8 Int)
 (z:∀k b (i:Nat) (h:i<l.length),(b++g l[i]).length<=1099511627776->body k b (i:Int)=k (b++g l[i]) (Ar ((i:Int)+1))) (I:∀k b,body k b (l.length:Int)=some b) (b:A8 Int) (j:(b++l.flatMap g).length<=1099511627776):
 aU body Az b 0=some (b++l.flatMap g):=by
 have L:Az=9223372036854775808:=rfl
 have key:∀n (i:Nat) b,i+n=l.length->(b++(l.drop i).flatMap g).length<=1099511627776->∀m,n<m->aU body m b (i:Int)=some (b++(l.drop i).flatMap g):=by
  intro n
  induction n with
  |zero=>
   intro i b hi j m hm;obtain⟨m,rfl⟩:∃u,m=u+1:=⟨m-1,AB⟩
   have :i=l.length:=AB
   subst this;show body (aU body m) _ _=_;rw[I,PE];simp
  |succ n J=>
   intro i b hi j m hm;obtain⟨m,rfl⟩:∃u,m=u+1:=⟨m-1,AB⟩
   have q:i<l.length:=AB
   rw[Ku q,MC,←IU]at j ⊢;show body (aU body m) _ _=_;rw[z _ _ i q (aEr j),wrap_succ i AB];exact J (i+1) _ AB j m AB
 exact key l.length 0 b AB j Az hl
def QW (l:A8 Int):A8 Int:=enc l.length++l.flatMap enc
def QB (l:A8 BA):A8 Int:=enc l.length++l.flatMap Jw
def akX {b:A8 Int} {l:A8 Int} (h:(b++QW l).length<=1099511627776) (hl:l.length<=1000):aEi b l=some (b++QW l):=by
 have q:Az=9223372036854775808:=rfl;unfold QW at h ⊢;rw[←IU]at h ⊢;unfold aEi;rw[number_eq (aEr h),Af];unfold aYB;refine aGx l AB enc (fun k b i hi j=>?_) (fun k b=>?_) _ h
 ·simp only[aFt,dec_lt hi,Bq,D5 hi,number_eq j,Af]
 simp only[aFt,Dq,BZ]
def abM {b:A8 Int} {l:A8 BA} (h:(b++QB l).length<=1099511627776) (hl:l.length<=1000000000):a3e b l=some (b++QB l):=by
 have q:Az=9223372036854775808:=rfl;unfold QB at h ⊢;rw[←IU]at h ⊢;unfold a3e;rw[number_eq (aEr h),Af];unfold aXK;refine aGx l AB Jw (fun k b i hi j=>?_) (fun k b=>?_) _ h
 ·simp only[aNH,dec_lt hi,Bq,D5 hi,text_eq j,Af]
 simp only[aNH,Dq,BZ]
def a0P {α:Type} {g:α->A8 Int} {m:Nat}:∀{l:A8 α},(∀x∈l,(g x).length<=m)->(l.flatMap g).length<=l.length*m
 | [],_=>Bj
 |x::l,h=>by
  rw[MC,EZ,GZ,QS];have :=h x GU;have :=a0P (l:=l) (fun y j=>h y (Gv _ j));omega
def aFY (l:A8 Int):(QW l).length<=l.length*10+10:=by
 have j:=Pm l.length;have q:=a0P (g:=enc) (m:=10) (l:=l) (fun x _=>Pm x);unfold QW;rw[EZ];omega
def aNb {l:A8 BA} {m:Nat} (h:∀s∈l,s.size<=m):(QB l).length<=l.length*(m+10)+10:=by
 have j:=Pm l.length;have q:=a0P (g:=Jw) (m:=m+10) (l:=l) (fun s hs=>by have :=jD s;have :=h s hs;omega);unfold QB;rw[EZ];omega
def amS {b:A8 Int} {l:A8 Int} (j:b.length+20000<=1099511627776) (hl:l.length<=1000):Yb b l=some (b++QW l):=by
 have q:=aFY l;unfold Yb;rw[OA (x:=2*(l.length:Int)) AB AB,OA AB AB,show 2*(l.length:Int)+10=((2*l.length+10:Nat):Int) by omega,Mid AB,Af,akX LK hl];rfl
def acY {b:A8 Int} {l:A8 Int} (q:b.length+20000<=1099511627776) (hl:l.length<=1000):mM b l=some (b++QW l):=by
 have u:Az=9223372036854775808:=rfl;have z:=aFY l;have h:(b++QW l).length<=1099511627776:=LK
 unfold QW at h ⊢;rw[←IU]at h ⊢;unfold mM;rw[Xn AB,Af];unfold aU2;refine aGx l AB enc (fun k b i hi j=>?_) (fun k b=>?_) _ h
 ·simp only[aI5,dec_lt hi,Bq,D5 hi,aWb,OB (show 1<=100 by omega) j,Af]
 simp only[aI5,Dq,BZ]
def agB {b:A8 Int} {l:A8 BA} (j:b.length+3000000<=1099511627776) (hl:l.length<=1000) (hs:∀s∈l,s.size<=2000):oQ b l=some (b++QB l):=by
 have q:=aNb hs;unfold oQ;rw[OA (x:=8*(l.length:Int)) AB AB,OA AB AB,show 8*(l.length:Int)+10=((8*l.length+10:Nat):Int) by omega,Mid AB,Af,abM LK AB];rfl
def agr {b:A8 Int} {l:A8 BA} (I:b.length+3000000<=1099511627776) (hl:l.length<=1000) (hs:∀s∈l,s.size<=2000):nJ b l=some (b++QB l):=by
 have J:Az=9223372036854775808:=rfl;have L:=aNb hs;have h:(b++QB l).length<=1099511627776:=LK
 have key:∀n (i:Nat) b,i+n=l.length->b.length+(n*2020)<=1099511620000->∀m,n<m->aU (Yj l) m b (i:Int)=some (b++(l.drop i).flatMap Jw):=by
  intro n
  induction n with
  |zero=>
   intro i b hi u m hm;obtain⟨m,rfl⟩:∃q,m=q+1:=⟨m-1,AB⟩
   have :i=l.length:=AB
   subst this;show Yj l (aU (Yj l) m) _ _=_;simp only[Yj,Dq,BZ,PE];simp
  |succ n z=>
   intro i b hi u m hm;obtain⟨m,rfl⟩:∃q,m=q+1:=⟨m-1,AB⟩
   have j:i<l.length:=AB
   have M:=hs l[i] (Ej j);have O:=jD l[i];rw[Ku j,MC,←IU];show Yj l (aU (Yj l) m) _ _=_;simp only[Yj,dec_lt j,Bq,D5 j,Af];rw[aR0 AB,Af,wrap_succ i AB];exact z (i+1) _ AB LK m AB
 unfold QB;rw[←IU];unfold nJ;rw[Xn AB,Af];unfold aOy;have :=key l.length 0 (b++enc l.length) AB (by have :=Pm l.length;rw[EZ];omega) Az AB;exact this
structure Qr (c:DI):Prop where
 allow:c.Allow.length<=100
 deny:c.iK.length<=100
 users:c.Levels.Users.length<=100
 kinds:c.Levels.Kinds.length<=100
 text:c.Text.size<=2000
 via:c.Via.size<=2000
 allows:∀x∈c.Allow,x.size<=2000
 denies:∀x∈c.iK,x.size<=2000
 names:∀x∈c.Levels.Users,x.User.size<=2000
def FV.content {e:AX} (h:FV e):Qr e.Content:=⟨h.allow,h.deny,h.users,h.kinds,h.text,h.via,h.allows,h.denies,h.names⟩
section
variable {b:A8 Int} {k:Nat}
def UK (h:b.length<=k) (j:k<=1000000000) (n:Int):OI b n=some (b++enc n)/\LY b n=some (b++enc n)/\(b++enc n).length<=k+10:=by
 have :=Pm n;exact⟨tu AB,Xn AB,LK⟩
def aPI (h:b.length<=k) (q:k<=1000000000) (j:Ad):Xp b j=some (b++[bif j then 1 else 0])/\lu b j=some (b++[bif j then 1 else 0])/\(b++[bif j then(1:Int)else 0]).length<=k+10:=
 ⟨alK AB,abT AB,aHu⟩
def XK (h:b.length<=k) (j:k<=1000000000) {s:BA} (m:Nat) (hs:s.size<=m) (hm:m<=1000000000):Rh b s=some (b++Jw s)/\RF b s=some (b++Jw s)/\(b++Jw s).length<=k+m+10:=by
 have :=jD s;exact⟨aeu AB,aR0 AB,LK⟩
def aOh (h:b.length<=k) (j:k<=1000000000) {l:A8 Int} (hl:l.length<=100):Yb b l=some (b++QW l)/\mM b l=some (b++QW l)/\(b++QW l).length<=k+1010:=by
 have :=aFY l;exact⟨amS AB AB,acY AB AB,LK⟩
def aUY (h:b.length<=k) (j:k<=1000000000) {l:A8 BA} (hl:l.length<=100) (hs:∀s∈l,s.size<=2000):oQ b l=some (b++QB l)/\nJ b l=some (b++QB l)/\(b++QB l).length<=k+201010:=by
 have :=aNb hs;exact⟨agB AB AB hs,agr AB AB hs,LK⟩
end
def SS (u:Ig):A8 Int:=Jw u.User++enc u.N
def SQ (u:KJ):A8 Int:=enc u.Kind++enc u.N
def KA (l:Cx):A8 Int:=[l.User,l.Message,l.State,l.gY,l.kD,l.nZ,l.iJ]
def abE (b:A8 Int) (l:Cx):A8 Int:=b++enc l.Users.length++l.Users.flatMap SS++enc l.Kinds.length++l.Kinds.flatMap SQ++(KA l).flatMap enc
def jw (c:DI):A8 Int:=abE ([]++Jw c.Text++enc c.N++enc c.Target++[bif c.Thread then 1 else 0]++Jw c.Via++QB c.Allow++QB c.iK) c.Levels
def ac8 {u:Ig} (h:u.User.size<=2000):(SS u).length<=2020:=by
 have :=jD u.User;have :=Pm u.N;unfold SS;rw[EZ];omega
def aPo (u:KJ):(SQ u).length<=20:=by
 have :=Pm u.Kind;have :=Pm u.N;unfold SQ;rw[EZ];omega
def lY {R α:Type} {body:(A8 Int->Int->AO R)->A8 Int->Int->AO R} (l:A8 α) (hl:l.length<=1000) (g:α->A8 Int) (m:Nat) (hm:∀x∈l,(g x).length<=m) (j:A8 Int->AO R) (b:A8 Int)
 (q:∀k a (i:Nat) (h:i<l.length),a.length<=b.length+i*m->body k a (i:Int)=k (a++g l[i]) (Ar ((i:Int)+1)))
 (u:∀k a,a.length<=b.length+l.length*m->body k a (l.length:Int)=j a):aU body Az b 0=j (b++l.flatMap g)/\(b++l.flatMap g).length<=b.length+l.length*m:=by
 constructor
 ·rw[Ia l AB (fun a x=>a++g x) (fun i a=>a.length<=b.length+i*m) j AB (fun k a i h z=>⟨?_,q k a i h z⟩) u,foldl_append g];have :=hm l[i] (Ej h);rw[EZ,QS];omega
 have :=a0P hm;rw[EZ];omega
def alG (c:DI) (b:A8 Int) (J:b.length<=900000):(aJj c b 0=some (b++(KA c.Levels).flatMap enc)/\aLf (KA c.Levels) b 0=some (b++(KA c.Levels).flatMap enc))/\(b++(KA c.Levels).flatMap enc).length<=b.length+70:=by
 have u:∀i:Nat,(h:i<(KA c.Levels).length)->Am ([c.Levels.User,c.Levels.Message,c.Levels.State,c.Levels.gY,c.Levels.kD,c.Levels.nZ,c.Levels.iJ]:A8 Int) (i:Int)=some (KA c.Levels)[i]:=fun i h=>D5 h
 have q:=lY (body:=aKn c) (KA c.Levels) (by simp[KA]) enc 10 (fun x _=>Pm x) some b (fun k a i h j=>by
  have z:i<7:=h;unfold aKn
  rw[Ih (show(i:Int)<7 by omega),Bq,u i h,Af,tu AB,Af]) fun k a j=>rfl
 have I:=lY (body:=aDa (KA c.Levels)) (KA c.Levels) (by simp[KA]) enc 10 (fun x _=>Pm x) some b (fun k a i h j=>by
  have z:i<7:=h;unfold aDa
  rw[DU h,Xn AB,Af]) fun k a j=>by unfold aDa;rw[Dq];rfl
 exact⟨⟨q.1,I.1⟩,q.2⟩
def an0 (c:DI) (b:A8 Int) (L:b.length<=800000) (M:c.Levels.Kinds.length<=100):(aLg c b 0=some (b++c.Levels.Kinds.flatMap SQ++(KA c.Levels).flatMap enc)/\aID c b 0=some (b++c.Levels.Kinds.flatMap SQ++(KA c.Levels).flatMap enc))/\(b++c.Levels.Kinds.flatMap SQ++(KA c.Levels).flatMap enc).length<=b.length+2070:=by
 have u:=lY (body:=aCg c) c.Levels.Kinds AB SQ 20 (fun x _=>aPo x) (fun a=>aJj c a 0) b (fun k a i h j=>by
  obtain⟨q,_,I⟩:=UK (b:=a) (k:=900000) AB AB c.Levels.Kinds[i].Kind;unfold aCg
  rw[DU h,q,Af,tu AB,Af,IU];rfl) fun k a j=>by unfold aCg;rw[Dq];rfl
 have J:=lY (body:=a2l c) c.Levels.Kinds AB SQ 20 (fun x _=>aPo x) (fun a=>aLf (KA c.Levels) a 0) b (fun k a i h j=>by
  obtain⟨_,q,I⟩:=UK (b:=a) (k:=900000) AB AB c.Levels.Kinds[i].Kind;unfold a2l
  rw[DU h,q,Af,D5 h,Af,Xn AB,Af,IU];rfl) fun k a j=>by unfold a2l aNC;rw[Dq,BZ,Af];rfl
 have hl:=u.2;have z:=alG c (b++c.Levels.Kinds.flatMap SQ) AB;exact⟨⟨u.1.trans z.1.1,J.1.trans z.1.2⟩,AB⟩
def ahT (c:DI) (b:A8 Int) (Z:b.length<=500000) (j:Qr c):(aY3 c b 0=some (b++c.Levels.Users.flatMap SS++enc c.Levels.Kinds.length++c.Levels.Kinds.flatMap SQ++(KA c.Levels).flatMap enc)/\aUn c b 0=some (b++c.Levels.Users.flatMap SS++enc c.Levels.Kinds.length++c.Levels.Kinds.flatMap SQ++(KA c.Levels).flatMap enc))/\(b++c.Levels.Users.flatMap SS++enc c.Levels.Kinds.length++c.Levels.Kinds.flatMap SQ++(KA c.Levels).flatMap enc).length<=b.length+204080:=by
 have hu:=j.users;have I:∀x∈c.Levels.Users,(SS x).length<=2020:=fun x L=>ac8 (j.names x L)
 have J:=lY (body:=a0W c) c.Levels.Users AB SS 2020 I (fun a=>aLg c (a++enc c.Levels.Kinds.length) 0) b (fun k a i h q=>by
  have hs:=j.names _ (Ej h);obtain⟨u,_,M⟩:=XK (b:=a) (k:=900000) AB AB (s:=c.Levels.Users[i].User) 2000 hs AB;unfold a0W
  rw[DU h,u,Af,tu AB,Af,IU];rfl) fun k a q=>by unfold a0W;rw[Dq,BZ,tu AB,Af]
 have O:=lY (body:=aCV c) c.Levels.Users AB SS 2020 I (fun a=>aID c (a++enc c.Levels.Kinds.length) 0) b (fun k a i h q=>by
  have hs:=j.names _ (Ej h);obtain⟨_,u,M⟩:=XK (b:=a) (k:=900000) AB AB (s:=c.Levels.Users[i].User) 2000 hs AB;unfold aCV
  rw[DU h,u,Af,D5 h,Af,Xn AB,Af,IU];rfl) fun k a q=>by unfold aCV;rw[Dq,BZ,Xn AB,Af]
 have hl:=J.2;have he:=Pm (c.Levels.Kinds.length:Int);have U:(b++c.Levels.Users.flatMap SS++enc c.Levels.Kinds.length).length=(b++c.Levels.Users.flatMap SS).length+(enc c.Levels.Kinds.length).length:=EZ ..;have z:=an0 c (b++c.Levels.Users.flatMap SS++enc c.Levels.Kinds.length) AB j.kinds;have Y:=z.2;rw[U]at Y;exact⟨⟨J.1.trans z.1.1,O.1.trans z.1.2⟩,AB⟩
def aRz {c:DI} (j:Qr c):qI c=some (jw c)/\vw c=some (jw c)/\(jw c).length<=700000:=by
 obtain⟨q,u,z⟩:=XK (b:=[]) (k:=0) (EX _) AB 2000 j.text AB;obtain⟨I,J,L⟩:=UK z AB c.N;obtain⟨M,O,U⟩:=UK L AB c.Target;obtain⟨Y,Z,h4⟩:=aPI U AB c.Thread;obtain⟨a5,b5,h5⟩:=XK h4 AB 2000 j.via AB;obtain⟨a6,b6,h6⟩:=aUY h5 AB j.allow j.allows;obtain⟨a7,b7,h7⟩:=aUY h6 AB j.deny j.denies;obtain⟨a8,b8,h8⟩:=UK h7 AB (c.Levels.Users.length:Int);obtain⟨⟨a9,b9⟩,h9⟩:=ahT c _ (FC h8 AB) j;refine⟨?_,?_,FC h9 AB⟩
 ·unfold qI;rw[q,Af,I,Af,M,Af,Y,Af,a5,Af,a6,Af,a7,Af,a8,Af];exact a9
 unfold vw;rw[u,Af,J,Af,O,Af,Z,Af,b5,Af,b6,Af,b7,Af,b8,Af];exact b9
def aBM (e:AX):A8 Int:=
 []++enc e.Id++Jw e.Room++Jw e.bG++enc e.Kind++[bif e.State then 1 else 0]++Jw e.Key++enc e.Time++enc e.Depth++QW e.bK++QW e.bT++Jw (QG (jw e.Content))++enc e.Hash++Jw e.o7.Server++enc e.o7.Sum
def aYx (l:A8 Int):(QG l).size=l.length:=by
 have key:∀(l:A8 Int) (r:BA),(l.foldl (fun r n=>r.push (UInt8.ofNat n.toNat)) r).size=r.size+l.length:=by
  intro l
  induction l with
  |nil=>intro r;rfl
  |cons x l j=>intro r;rw[Gm,j,ByteArray.size_push,GZ];omega
 unfold QG;rw[key];simp
def aAc {S α:Type} {body:(Int->S->AO S)->Int->S->AO S} (l:A8 α) (hl:l.length<1000) (f:S->α->AO S)
 (u:∀k (i:Nat) (h:i<l.length) s,body k (i:Int) s=(f s l[i]).bind fun x=>k (Ar ((i:Int)+1)) x) (z:∀k s,body k (l.length:Int) s=some s) (s:S):aU body Az 0 s=l.foldlM f s:=by
 have J:Az=9223372036854775808:=rfl
 have key:∀n (i:Nat) s,i+n=l.length->∀m,n<m->aU body m (i:Int) s=(l.drop i).foldlM f s:=by
  intro n
  induction n with
  |zero=>
   intro i s hi m hm;obtain⟨m,rfl⟩:∃q,m=q+1:=⟨m-1,AB⟩
   have :i=l.length:=AB
   subst this;rw[PE];exact z _ _
  |succ n I=>
   intro i s hi m hm;obtain⟨m,rfl⟩:∃q,m=q+1:=⟨m-1,AB⟩
   have j:i<l.length:=AB
   rw[Ku j,Ud];show body (aU body m) _ _=(f s l[i]).bind _;rw[u _ i j,wrap_succ i AB];congr 1;funext x;exact I (i+1) x AB m AB
 exact key l.length 0 s AB Az AB
def aWn (w:Fp) (l:A8 Int) (hl:l.length<1000):TP w l=l.foldlM lQ w:=by
 unfold TP aQd;exact aAc l hl _ (fun k i h s=>by simp only[aNX,dec_lt h,Bq,D5 h,Af]) (fun k s=>by simp only[aNX,Dq,BZ]) w
def aXq (w:Fp) (l:A8 BA) (hl:l.length<1000):XH w l=l.foldlM nT w:=by
 unfold XH aRK;exact aAc l hl _ (fun k i h s=>by simp only[aMd,dec_lt h,Bq,D5 h,Af]) (fun k s=>by simp only[aMd,Dq,BZ]) w
def adp (w:Fp) (l:A8 Ad) (hl:l.length<1000):xH w l=l.foldlM uh w:=by
 unfold xH aQe;exact aAc l hl _ (fun k i h s=>by simp only[aOB,dec_lt h,Bq,D5 h,Af]) (fun k s=>by simp only[aOB,Dq,BZ]) w
def aZi (w:Fp) (l:A8 (A8 Int)) (hl:l.length<1000):tH w l=l.foldlM jX w:=by
 unfold tH aXe;exact aAc l hl _ (fun k i h s=>by simp only[aHB,dec_lt h,Bq,D5 h,Af]) (fun k s=>by simp only[aHB,Dq,BZ]) w
def aNh {b c:A8 Int} {n:Int} (h:OI b n=some c):lQ ⟨b⟩ n=some ⟨c⟩:=by unfold lQ;rw[h];rfl
def aGX {b c:A8 Int} {n:BA} (h:Rh b n=some c):nT ⟨b⟩ n=some ⟨c⟩:=by unfold nT;rw[h];rfl
def ae9 {b c:A8 Int} {n:Ad} (h:Xp b n=some c):uh ⟨b⟩ n=some ⟨c⟩:=by unfold uh;rw[h];rfl
def aRo {b c:A8 Int} {n:A8 Int} (h:Yb b n=some c):jX ⟨b⟩ n=some ⟨c⟩:=by unfold jX;rw[h];rfl
def aEa {b c:A8 Int} {n:Int} (h:OI b n=some c):TP ⟨b⟩ [n]=some ⟨c⟩:=by
 rw[aWn _ _ Bj,Ud,aNh h];rfl
def amJ {b c d:A8 Int} {n m:Int} (h:OI b n=some c) (k:OI c m=some d):TP ⟨b⟩ [n,m]=some ⟨d⟩:=by
 rw[aWn _ _ Bj,Ud,aNh h];show(lQ ⟨c⟩ m).bind _=_;rw[aNh k];rfl
def aHo {b c:A8 Int} {n:BA} (h:Rh b n=some c):XH ⟨b⟩ [n]=some ⟨c⟩:=by
 rw[aXq _ _ Bj,Ud,aGX h];rfl
def ahP {b c d:A8 Int} {n m:BA} (h:Rh b n=some c) (k:Rh c m=some d):XH ⟨b⟩ [n,m]=some ⟨d⟩:=by
 rw[aXq _ _ Bj,Ud,aGX h];show(nT ⟨c⟩ m).bind _=_;rw[aGX k];rfl
def afN {b c:A8 Int} {n:Ad} (h:Xp b n=some c):xH ⟨b⟩ [n]=some ⟨c⟩:=by
 rw[adp _ _ Bj,Ud,ae9 h];rfl
def agx {b c d:A8 Int} {n m:A8 Int} (h:Yb b n=some c) (k:Yb c m=some d):tH ⟨b⟩ [n,m]=some ⟨d⟩:=by
 rw[aZi _ _ Bj,Ud,aRo h];show(jX ⟨c⟩ m).bind _=_;rw[aRo k];rfl
def acf {e:AX} (j:FV e):uU e=some (aBM e)/\um e=some (aBM e)/\(aBM e).length<=1000000:=by
 obtain⟨ac,bc,hc⟩:=aRz j.content;obtain⟨a1,b1,h1⟩:=UK (b:=[]) (k:=0) (EX _) AB e.Id;obtain⟨a2,b2,h2⟩:=XK h1 AB 2000 j.room AB;obtain⟨a3,b3,h3⟩:=XK h2 AB 2000 j.sender AB;obtain⟨a4,b4,h4⟩:=UK h3 AB e.Kind;obtain⟨a5,b5,h5⟩:=aPI h4 AB e.State;obtain⟨a6,b6,h6⟩:=XK h5 AB 2000 j.key AB;obtain⟨a7,b7,h7⟩:=UK h6 AB e.Time;obtain⟨a8,b8,h8⟩:=UK h7 AB e.Depth;obtain⟨a9,b9,h9⟩:=aOh h8 AB (FC j.prev AB);obtain⟨q,u,z⟩:=aOh h9 AB (FC j.auth AB);obtain⟨I,J,L⟩:=XK z AB (s:=QG (jw e.Content)) 700000 (by rw[aYx];exact hc) AB;obtain⟨M,O,U⟩:=UK L AB e.Hash;obtain⟨Y,Z,h13⟩:=XK U AB 2000 j.server AB;obtain⟨a14,b14,h14⟩:=UK h13 AB e.o7.Sum;refine⟨?_,?_,FC h14 AB⟩
 ·unfold uU
  rw[show TP aDM [e.Id]=_ from aEa a1,Af,ahP a2 a3,Af,aEa a4,Af,afN a5,Af,aHo a6,Af,amJ a7 a8,Af,agx a9 q,Af,
   ac,Af,aHo I,Af,aEa M,Af,aHo Y,Af,aEa a14,Af]
  rfl
 unfold um;rw[b1,Af,b2,Af,b3,Af,b4,Af,b5,Af,b6,Af,b7,Af,b8,Af,b9,Af,u,Af,bc,Af,J,Af,O,Af,Z,Af,b14,Af];rfl
def a2v (l:A8 Int):Int:=Ar (l.foldl wS ((IntKind.u64.wrap 860922984064492325).tmod 4611686018427387904))
def aP0 {l:A8 Int} (hl:l.length<=1000000):xg l=some (a2v l):=by
 unfold xg aJn;rw[Af];unfold aNL aVM
 rw[aE8 _ _ _ _ (.inl rfl),aWU,Ia l AB wS (fun _ _=>True) (fun s=>some (Ar s)) trivial (fun k s i h _=>⟨trivial,by
  simp only[aI9,dec_lt h,Bq,D5 h,Af,aE8 _ _ _ _ (.inl rfl),aE8 _ _ _ _ (.inr (.inr rfl)),ah9]⟩) fun k s _=>by
  simp only[aI9,Dq,BZ]]
 rfl
def aRw {l:A8 Int} (hl:l.length<=1000000):rY l=some (a2v l):=by
 unfold rY;rw[show aKh=some 860922984064492325 from rfl,Af];unfold aGc aOX
 rw[show Vx (IntKind.u64.wrap 860922984064492325) 4611686018427387904=some ((IntKind.u64.wrap 860922984064492325).tmod 4611686018427387904)from rfl,Af,Ia l AB wS (fun _ _=>True) (fun s=>some (Ar s)) trivial (fun k s i h _=>⟨trivial,by
  have e:Vx (IntKind.u64.wrap ((Eu .xor .u64 s (IntKind.u64.wrap l[i]))*1099511628211)) 4611686018427387904=some (wS s l[i]):=rfl
  simp only[aLj,dec_lt h,Bq,D5 h,Af,e]⟩) fun k s _=>by
  simp only[aLj,Dq,BZ]]
 rfl
def YV (k:Int) (c:DI):DI:=
 if k=1 then c else if k=2 then{ EC with N:=c.N,Via:=c.Via }else if k=3 then{ EC with Levels:=c.Levels }else if k=4 then{ EC with N:=c.N,Allow:=c.Allow }else
 if k=5 then{ EC with N:=c.N }else if k=6 then{ EC with Allow:=c.Allow,iK:=c.iK }else if k=14 then{ EC with Target:=c.Target }else EC
def aW0 {R:Type} (a b:Int) (x y:R):(bif a==b then x else y)=if a=b then x else y:=by
 by_cases h:a=b
 ·subst h;simp
 have :(a==b)=false:=KC
 rw[this,Dk h];rfl
def aXE {R:Type} (p:Prop) [Decidable p] (x y:R):(if p then some x else some y)=some (if p then x else y):=by split<;>rfl
def aOV (k:Int) (c:DI):uP k c=some (YV k c):=by
 unfold uP YV;simp only[aW0,aXE]
def texts_eq {l:A8 BA} (h:l.length<=100):TF l=some l:=by
 unfold TF;rw[OB AB aCz];rfl
def aSZ {l:Cx} (q:l.Users.length<=100) (j:l.Kinds.length<=100):Zq l=some l:=by
 unfold Zq;rw[OB AB aCz,Af,OB AB (by rw[Ik];exact FC j AB)];rfl
def a1h (k:Int):Int:=if k=2 then 18 else if k=3 then 128 else if k=4 then 34 else if k=5 then 2 else if k=6 then 96 else if k=14 then 4 else 0
def amC (k:Int):iH k=some (a1h k):=by
 by_cases q:k=2
 ·subst q;rfl
 by_cases u:k=3
 ·subst u;rfl
 by_cases z:k=4
 ·subst z;rfl
 by_cases I:k=5
 ·subst I;rfl
 by_cases j:k=6
 ·subst j;rfl
 unfold iH nO a1h;simp only[aW0,q,u,z,I,j,KT,show(k==6)=false from by simpa using j,BZ,aXE]
def aUL (k:Int) {c:DI} (j:Qr c):uq k c=some (YV k c):=by
 by_cases u:k=1
 ·subst u;show(TF c.Allow).bind (fun O=>(TF c.iK).bind fun U=>(Zq c.Levels).bind fun Y=>some ({ { { c with Allow:=O }with iK:=U }with Levels:=Y }))=_;rw[texts_eq j.allow,Af,texts_eq j.deny,Af,aSZ j.users j.kinds];rfl
 unfold uq;rw[show(k==1)=false from by simpa using u,BZ,amC,Af];by_cases z:k=2
 ·subst z;rfl
 by_cases I:k=3
 ·subst I;show(Zq c.Levels).bind (fun x=>some { EC with Levels:=x })=_;rw[aSZ j.users j.kinds];rfl
 by_cases J:k=4
 ·subst J;show(TF c.Allow).bind (fun x=>some { EC with N:=c.N,Allow:=x })=_;rw[texts_eq j.allow];rfl
 by_cases L:k=5
 ·subst L;rfl
 by_cases M:k=6
 ·subst M;show(TF c.Allow).bind (fun x=>(TF c.iK).bind fun y=>some { EC with Allow:=x,iK:=y })=_;rw[texts_eq j.allow,Af,texts_eq j.deny];rfl
 by_cases q:k=14
 ·subst q;rfl
 have Z:a1h k=0:=by unfold a1h;simp only[z,I,J,L,M,q,KT]
 have e2:YV k c=EC:=by unfold YV;simp only[u,z,I,J,L,M,q,KT]
 rw[Z,e2];rfl
def Qr.strip {c:DI} (h:Qr c) (k:Int):Qr (YV k c):=by
 have j:(0:Nat)<=2000:=AB
 unfold YV
 repeat' split
 all_goals first|exact h|exact⟨by simp[EC,Jq,h.allow],by simp[EC,Jq,h.deny],by simp[EC,Jq,h.users],by simp[EC,Jq,h.kinds],by first|exact h.text|exact j,by first|exact h.via|exact j,by first|exact h.allows|simp[EC],by first|exact h.denies|simp[EC],by first|exact h.names|simp[EC,Jq]⟩
def aL3 (e:AX):AX:={ e with Content:=YV e.Kind e.Content }
def UF (e:AX):Prop:=FV { e with o7:=dH }
def UF.content {e:AX} (h:UF e):Qr e.Content:=FV.content (e:={ e with o7:=dH }) h
def FV.x {e:AX} (h:FV e):UF e:=⟨h.prev,h.auth,h.allow,h.deny,h.users,h.kinds,h.room,h.sender,h.key,h.text,h.via,Du _,h.allows,h.denies,h.names⟩
def ae2 {e:AX} (j:UF e):aF3 e=some (aL3 e)/\aCt e=some (aL3 e):=by
 unfold aF3 aCt;rw[aUL _ j.content,aOV];exact⟨rfl,rfl⟩
def UN (e:AX):Int:=a2v (jw e.Content)
def a0S (e:AX):AX:={ { aL3 e with Id:=0 }with o7:=dH }
def zF (e:AX):Int:=a2v (aBM (a0S e))
def UF.bare {e:AX} (h:UF e):FV (a0S e):=by
 have j:=h.content.strip e.Kind;exact⟨h.prev,h.auth,j.allow,j.deny,j.users,j.kinds,h.room,h.sender,h.key,j.text,j.via,by show(0:Nat)<=2000;omega,j.allows,j.denies,j.names⟩
def aJm {e:AX} (j:UF e):vJ e=some (UN e)/\xq e=some (UN e):=by
 obtain⟨a,b,h⟩:=aRz j.content;unfold vJ xq;rw[a,b,Af,Af,aP0 AB,aRw AB];exact⟨rfl,rfl⟩
def aKR {e:AX} (j:UF e):zS e=some (zF e)/\Agr e=some (zF e):=by
 obtain⟨a,b⟩:=ae2 j;obtain⟨c,d,h⟩:=acf j.bare;unfold zS Agr;rw[a,b,Af,Af];show(uU (a0S e)).bind _=_/\(um (a0S e)).bind _=_;rw[c,d,Af,Af,aP0 AB,aRw AB];exact⟨rfl,rfl⟩
def U1 (e:AX) (s:BA):AX:={ e with Hash:=UN e,Id:=zF { e with Hash:=UN e },o7:=⟨s,zF { e with Hash:=UN e }⟩ }
def FV.hash {e:AX} (h:FV e) (n:Int):FV { e with Hash:=n }:=⟨h.prev,h.auth,h.allow,h.deny,h.users,h.kinds,h.room,h.sender,h.key,h.text,h.via,h.server,h.allows,h.denies,h.names⟩
def aNq {e:AX} (j:FV e) (s:BA):aB4 e s=some (U1 e s)/\eY e s=some (U1 e s):=by
 obtain⟨a,b⟩:=aJm j.x;obtain⟨c,d⟩:=aKR (j.hash (UN e)).x;unfold aB4 eY U1;rw[a,b,Af,Af];obtain⟨n,q⟩:∃n,n=zF { e with Hash:=UN e }:=⟨_,rfl⟩
 obtain⟨m,hm⟩:∃m,m=UN e:=⟨_,rfl⟩
 rw[←q]at c d ⊢;rw[←hm]at c d ⊢;rw[c,d];exact⟨rfl,rfl⟩
end
end Go.Proofs.YtkkdimcnpacjhaaGreat
