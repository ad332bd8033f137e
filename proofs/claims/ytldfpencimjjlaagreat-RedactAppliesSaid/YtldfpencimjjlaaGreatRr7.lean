/- Part 7 of what the laws' proofs lean on: states of the walk, typed functions of the program and their laws (short forms written by wip/shrink.py; no condition). -/
import Derived.Test.YtldfpencimjjlaaGreatRr6
set_option linter.defProp false
set_option linter.unnecessarySimpa false
set_option linter.unusedVariables false
set_option linter.unusedSimpArgs false
section
namespace Go.Proofs.YtldfpencimjjlaaGreat
open Go.RowKit
structure Du where
 id:Int
 before:List Aq
 after:List Aq
 err:Int
def FW (t:List Du) (x:Int):Option Du:=t.find? fun y=>y.id==x
def Me (t:List Du) (x:Int):List Aq:=((FW t x).map (·.after)).getD []
def errOf (t:List Du) (x:Int):Int:=((FW t x).map (·.err)).getD 0
def Xy (l:List AQ) (e:AQ):Int:=bif Px l e != 0 then Px l e else Nh e (Sz l e)
def Ld (l:List AQ) (t:List Du) (e:AQ) (s:List Aq):Int:=
 bif Xy l e != 0 then Xy l e else bif e.bK.any (fun x=>errOf t x != 0)then 16 else Nh e (G9 l s)
def stB (l:List AQ) (t:List Du) (e:AQ):List Aq:=Yg l (e.bM.map (Me t))
def XU (e:AQ) (s:List Aq) (r:Int):Du:=⟨e.Id,s,bif r==0&&Ho e.Kind then Fg s e.Kind e.Key e.Id else s,r⟩
def Lm (l:List AQ) (t:List Du) (e:AQ):Du:=XU e (stB l t e) (Ld l t e (stB l t e))
def N8 (l:List AQ) (ids:List Int):List Du:=ids.foldl (fun t id=>t++[Lm l t (ev l id)]) []
def Ll (l:List AQ):List Du:=N8 l (P8 l)
def abt (l:List AQ) {ids:List Int} {i:Nat} (h:i<ids.length):N8 l (ids.take (i+1))=N8 l (ids.take i)++[Lm l (N8 l (ids.take i)) (ev l ids[i])]:=aN9 h
def aSZ {t:List Du} {x:Int}:FW t x=none↔x∉t.map (·.id):=by
 unfold FW;rw[aCY,FH];exact⟨fun h ⟨y,j,e⟩=>h y j SB,fun h y j e=>h ⟨y,j,SB⟩⟩
def aEe {t:List Du} {y:Du} (h:FW t y.id=none) (x:Int):FW (t++[y]) x=bif x==y.id then some y else FW t x:=by
 unfold FW at h ⊢;rw[rF];cases j:x==y.id with
 |true=>
  have e:=eq_of_beq j;subst e;rw[h];simp
 |false=>
  have :(y.id==x)=false:=by rw[←j,Qm,Qo,Qo];exact eq_comm
  simp[this]
def aiU {t:List Du} {x:Int} {y:Du} (h:FW t x=some y):y.id=x:=by have :=zh h;simpa using this
def aJb (l:List AQ):∀(ids:List Int) (t:List Du),(∀x∈ids,dQ l x=true)→(ids.foldl (fun t id=>t++[Lm l t (ev l id)]) t).map (·.id)=t.map (·.id)++ids
 | [],t,_=>BP
 |x::ids,t,h=>by
  have j:(Lm l t (ev l x)).id=x:=(LZ (h x (FY ..))).2;rw[FZ,aJb l ids _ fun y m=>h y (Gf _ m),JM,LC,List.map_nil,j,Ht];rfl
def KX (l:List AQ) (t:List Du):Prop:=∀y∈t,J4 l y.before∧J4 l y.after
def KX.after {l:List AQ} {t:List Du} (h:KX l t) (x:Int):J4 l (Me t x):=by
 unfold Me;cases hl:FW t x with
 |none=>exact .nil l
 |some y=>exact(h y (U3 hl)).2
def KX.states {l:List AQ} {t:List Du} (h:KX l t) (ids:List Int):∀s∈ids.map (Me t),J4 l s:=fun s hs=>by
 obtain⟨x,_,rfl⟩:=FH.1 hs;exact h.after x
def KX.okay {l:List AQ} {t:List Du} (h:KX l t) (hl:l.length≤100) (hs:Dl l) (ids:List Int) (hi:ids.length≤100):Ln l (ids.map (Me t)):=J4.okay hl hs aNY (h.states ids)
def KX.stB {l:List AQ} {t:List Du} (h:KX l t) (hl:l.length≤100) (hs:Dl l) {e:AQ} (j:e.bM.length≤40):J4 l (stB l t e):=J4.resolve (h.okay hl hs _ AB) (h.states _)
def KX.line {l:List AQ} {t:List Du} (h:KX l t) (hl:l.length≤100) (hs:Dl l) {e:AQ} (u:e.bM.length≤40) (z:Ho e.Kind=true→dQ l e.Id=true∧ev l e.Id=e):KX l (t++[Lm l t e]):=fun y j=>by
 rcases Gw.1 j with j|j
 ·exact h y j
 rw[IK.1 j];have m:=h.stB hl hs u;refine⟨m,?_⟩;show J4 l (bif Ld l t e (Go.Proofs.YtldfpencimjjlaaGreat.stB l t e)==0&&Ho e.Kind then Fg _ e.Kind e.Key e.Id else _);cases q:(Ld l t e (Go.Proofs.YtldfpencimjjlaaGreat.stB l t e)==0&&Ho e.Kind)with
 |false=>exact m
 |true=>
  have hst:Ho e.Kind=true:=by rw[DT]at q;exact q.2
  obtain⟨I,k2⟩:=z hst;exact m.set I k2 hst
def aje {l:List AQ} {id:Int} (h:Ho (ev l id).Kind=true):dQ l (ev l id).Id=true∧ev l (ev l id).Id=ev l id:=by
 cases j:EC l id with
 |none=>unfold ev at h;rw[Rq j]at h;exact absurd h BU
 |some e=>
  have m:dQ l id=true:=by unfold dQ;rw[j];rfl
  have :=(LZ m).2;rw[this];exact⟨m,rfl⟩
def agm :Gl F9:=⟨El _,El _,El _,El _,El _,El _,El _,El _,El _,El _,El _,El _,fun _ h=>absurd h Fe,fun _ h=>absurd h Fe,fun _ h=>absurd h Fe⟩
def aCG {l:List AQ} (hs:Dl l) (id:Int):Gl (ev l id):=by
 unfold ev Gg;cases h:EC l id with
 |none=>exact agm
 |some e=>exact hs e (QH h)
def aAR {l:List AQ} (hl:l.length≤100) (hs:Dl l):∀(ids:List Int) (t:List Du),KX l t→KX l (ids.foldl (fun t id=>t++[Lm l t (ev l id)]) t)
 | [],t,h=>h
 |x::ids,t,h=>by rw[FZ];exact aAR hl hs ids _ (h.line hl hs (aCG hs x).prev aje)
structure Ou (t:List Du) (m1 m2:List (Int×List Aq)) (m3:List (Int×Int)):Prop where
 b:∀x,D6 m1 x=(FW t x).map (·.before)
 a:∀x,D6 m2 x=(FW t x).map (·.after)
 r:∀x,D6 m3 x=(FW t x).map (·.err)
def Ou.after {t:List Du} {m j:List (Int×List Aq)} {q:List (Int×Int)} (h:Ou t m j q) (x:Int):(D6 j x).getD []=Me t x:=by rw[h.a];rfl
def Ou.err {t:List Du} {m q:List (Int×List Aq)} {j:List (Int×Int)} (h:Ou t m q j) (x:Int):(D6 j x).getD 0=errOf t x:=by rw[h.r];rfl
def atX {t:List Du} {m q:List (Int×List Aq)} {u:List (Int×Int)} (h:Ou t m q u) (l:List AQ) (e:AQ) (s:List Aq) (hl:l.length≤100) (hs:Dl l) (j:Gl e) (z:s.length≤100):
 aEP m q u l e s=some (Ld l t e s):=by
 have J:=j.auth;have L:=Zn l s;unfold aEP Ld Xy;rw[ai4 l e hl j,Aa];cases I:Px l e != 0 with
 |true=>simp only[BZ];rw[I];rfl
 |false=>
  simp only[BM];rw[aaH l e AB AB,Aa,aOQ e _ (F6 (aE3 l e) AB) (hs.from e) j,Aa];cases ha:Nh e (Sz l e) != 0 with
  |true=>rfl
  |false=>
   simp only[BM];unfold abW;rw[Gz e.bK (fuel_lt AB) (fun x=>errOf t x != 0) 16 (some (Nh e (G9 l s)))]
   ·cases e.bK.any (fun x=>errOf t x != 0)<;>rfl
   ·intro k i hi;unfold aPq;rw[Ce hi,h.err]
   intro k;unfold aPq;rw[Dq,aQy l s hl AB,Aa,aOQ e (G9 l s) AB (aFd hs _) j];rfl
def Ou.snoc {t:List Du} {z I j m:List (Int×List Aq)} {J q:List (Int×Int)} (h:Ou t z I J) {y:Du} (u:FW t y.id=none)
 (L:∀x,D6 j x=bif x==y.id then some y.before else D6 z x) (M:∀x,D6 m x=bif x==y.id then some y.after else D6 I x) (O:∀x,D6 q x=bif x==y.id then some y.err else D6 J x):Ou (t++[y]) j m q:=by
 refine⟨fun x=>?_,fun x=>?_,fun x=>?_⟩
 ·rw[L,aEe u,h.b];cases x==y.id<;>rfl
 ·rw[M,aEe u,h.a];cases x==y.id<;>rfl
 rw[O,aEe u,h.r];cases x==y.id<;>rfl
def add_eq {t:List Du} {u z:List (Int×List Aq)} {I:List (Int×Int)} (h:Ou t u z I) (l:List AQ) (e:AQ) (hl:l.length≤100) (hs:Dl l) (J:Gl e) (L:KX l t) (M:FW t e.Id=none):
 eX (aE9 u z I l e) (fun r=>Ou (t++[Lm l t e]) r.1 r.2.1 r.2.2):=by
 have O:=J.prev;unfold aE9 aTy;refine Jy e.bM.length (fuel_lt AB) (fun i a=>a=(e.bM.take i).map (Me t)) rfl (fun i a k hi ha U=>?_) fun a k ha=>?_
 ·have Y:a.length≤i:=mY
  unfold aMq;rw[Ce hi,Dk G7,Aa,wrap_succ i AB,h.after];exact U _ aHB
 rw[Gm]at ha;subst ha;unfold aMq;have Z:J4 l (stB l t e):=L.stB hl hs O;have hpl:=Z.length;have q:oG l (e.bM.map (Me t))=some (stB l t e):=ahZ (L.okay hl hs _ AB);rw[Dq,q,Aa,atX h l e _ hl hs J AB,Aa];have j:Lm l t e=XU e (stB l t e) (Ld l t e (stB l t e)):=rfl;rw[j];generalize Ld l t e (stB l t e)=r;have m:∀(c d f:Bool) {R:Type} (g:Bool→Option R),((bif c then some d else some false).bind fun x9=>(bif x9 then some f else some false).bind g)=g (c&&(d&&f)):=fun c d f R g=>by cases c<;>cases d<;>rfl
 rw[m];show eX (bif (r==0&&Ho e.Kind)then _ else _) _;unfold XU;cases hc:(r==0&&Ho e.Kind)with
 |true=>
  simp only[BZ];rw[YO _ _ _ _ AB,Aa];refine .ret (h.snoc M (fun x=>Rw ..) (fun x=>?_) fun x=>Rw ..);rw[Rw,Rw];cases x==e.Id<;>rfl
 |false=>exact .ret (h.snoc M (fun x=>Rw ..) (fun x=>Rw ..) fun x=>Rw ..)
def run_go (l:List AQ) (ids:List Int) (hl:l.length≤100) (hs:Dl l) (q:∀x∈ids,dQ l x=true) (z:ids.Nodup) (J:ids.length≤1000):eX (aOW ids l 0 [] [] []) (fun o=>∃T,o=some T∧Ou (N8 l ids) T.1 T.2.1 T.2.2):=by
 unfold aOW;refine aMD (body:=aKm ids l) (Q:=fun o=>∃T,o=some T∧Ou (N8 l ids) T.1 T.2.1 T.2.2) (fun n a b c d=>∃i:Nat,a=i∧i+n=ids.length∧Ou (N8 l (ids.take i)) b c d) ?_ Aj ids.length 0 [] [] [] (fuel_lt AB) ⟨0,rfl,AB,⟨fun x=>rfl,fun x=>rfl,fun x=>rfl⟩⟩;rintro n a b c d k ⟨i,rfl,Z,u⟩ L;unfold aKm;by_cases hi:i<ids.length
 ·have I:=q _ (EU hi)
  have m:FW (N8 l (ids.take i)) (ev l ids[i]).Id=none:=by
   rw[aSZ,(LZ I).2];unfold N8;rw[aJb l _ _ fun x M=>q x (nT M),List.map_nil,IV];intro u;obtain⟨j,O,e⟩:=Ia u;rw[Fr]at O;rw[aCu]at e;have :=MO.1 (aPp.1 z) j i AB hi AB;exact this e
  rw[Ce hi,NZ l _ AB,Aa];refine(add_eq u l _ hl hs (aCG hs ids[i]) (aAR hl hs _ _ fun y U=>absurd U Fe) m).bind fun r Y=>?_;exact L (n-1) _ _ _ _ AB ⟨i+1,wrap_succ i AB,AB,by rw[abt l hi];exact Y⟩
 have :i=ids.length:=AB
 subst this;rw[Dq];exact .ret ⟨_,rfl,by rw[Gm]at u;exact u⟩
structure U0 (l:List AQ):Prop where
 len:l.length≤100
 small:Dl l
 nodup:(l.map (·.Id)).Nodup
 dep:lM l
def bP {l:List AQ} {x:Int}:dQ l x=true↔x∈l.map (·.Id):=by
 unfold dQ EC;rw[List.find?_isSome,FH];exact⟨fun⟨e,j,h⟩=>⟨e,j,LJ⟩,fun⟨e,j,h⟩=>⟨e,j,LJ⟩⟩
def ae4 (l:List AQ):(P8 l).Perm (l.map (·.Id)):=(yK l).map _
def aIV {l:List AQ} {x:Int}:x∈P8 l↔dQ l x=true:=by rw[(ae4 l).mem_iff,bP]
def aJS (l:List AQ):(P8 l).length=l.length:=by unfold P8;rw[Cm,pW]
def U0.order {l:List AQ} (h:U0 l):(P8 l).Nodup:=(ae4 l).nodup_iff.2 h.nodup
def RG (l:List AQ) (c:Int):List Du:=bif c==0&&TF l==0 then Ll l else[]
def run_eq (l:List AQ) {c:Int} (u:QL l=some c) (h:c=0→U0 l):
 eX (wY l) (fun o=>(RG l c=[]∧o=none)∨(RG l c=Ll l∧U0 l∧∃T,o=some T∧Ou (Ll l) T.1 T.2.1 T.2.2)):=by
 unfold wY RG;rw[u,Aa];by_cases q:c=0
 ·subst q;have j:=h rfl;rw[aog l j.len j.small j.dep];cases hd:TF l==0 with
  |false=>
   have m:(TF l != 0)=true:=by unfold bne;rw[hd];rfl
   simp only[Yj,BM,Aa,m,BZ];exact .ret (.inl ⟨rfl,rfl⟩)
  |true=>
   have m:(TF l != 0)=false:=by unfold bne;rw[hd];rfl
   simp only[Yj,BM,Aa,m];rw[ao2 l (by have :=j.len;omega),Aa];exact(run_go l (P8 l) j.len j.small (fun x z=>aIV.1 z) j.order (by rw[aJS];have :=j.len;omega)).mono fun o I=>.inr ⟨rfl,j,I⟩
 have J:(c != 0)=true:=PL
 have L:(c==0)=false:=PL
 rw[J,L];exact .ret (.inl ⟨rfl,rfl⟩)
def atJ {l:List AQ} (h:U0 l):KX l (Ll l):=aAR h.len h.small _ _ fun y j=>absurd j Fe
def asb (l:List AQ):(Ll l).map (·.id)=P8 l:=by
 have :=aJb l (P8 l) [] fun x j=>aIV.1 j;simpa[Ll,N8]using this
def ae8 {l:List AQ} {x:Int} (h:dQ l x=true):∃y,FW (Ll l) x=some y:=by
 cases hl:FW (Ll l) x with
 |some y=>exact⟨y,rfl⟩
 |none=>rw[aSZ,asb]at hl;exact absurd (aIV.2 h) hl
def H8 (t:List Du) (x:Int):Bool:=match FW t x with
 |some y=>y.err==0
 |none=>false
def QV (l:List AQ) (t:List Du):List Int:=(l.filter fun e=>H8 t e.Id).map (·.Id)
def aof (l:List AQ) (t:List Du):(QV l t).length≤l.length:=by unfold QV;rw[Cm];exact Jq _ _
def aht (l:List AQ):QV l []=[]:=by
 unfold QV;rw[kH.2 fun e _=>by unfold H8 FW;simp];rfl
def abh {l:List AQ} {t:List Du} {i:Nat} (h:i<l.length):QV (l.take (i+1)) t=QV (l.take i) t++bif H8 t l[i].Id then[l[i].Id]else[]:=by
 unfold QV;rw[aK1 h,JM];cases H8 t l[i].Id<;>rfl
def af4 {l:List AQ} {x:Int} (h:dQ l x=true):H8 (Ll l) x=(errOf (Ll l) x==0):=by
 obtain⟨y,j⟩:=ae8 h;unfold H8 errOf;rw[j];rfl
def amb {l:List AQ} {j m:List (Int×List Aq)} {q:List (Int×Int)} (h:Ou (Ll l) j m q) (hl:l.length≤100):pI j m q l=some (QV l (Ll l)):=by
 unfold pI
 have I:aFQ l j m q=some (QV l (Ll l)):=by
  unfold aFQ aUi;refine eX.eq (Jy l.length (fuel_lt AB) (fun i a=>a=QV (l.take i) (Ll l)) rfl (fun i a k hi ha u=>?_) fun a k ha=>?_)
  ·have J:a.length≤i:=by rw[ha];exact F6 (aof _ _) (by rw[Fr];omega)
   unfold aOI aPm aEU;rw[Ce hi,Aa,h.err,←af4 (bP.2 (FH.2 ⟨_,EU hi,rfl⟩)),wrap_succ i AB];cases z:H8 (Ll l) l[i].Id with
   |true=>
    rw[BZ,CV hi,Aa,Dk G7,Aa];exact u _ (by rw[abh hi,z,ha];rfl)
   |false=>exact u _ (by rw[abh hi,z,ha];simp)
  unfold aOI;rw[Dq];exact .ret oZ
 rw[I];rfl
def arO {α:Type} {lt:α→α→Bool} (L:∀a b c,lt b a=false→lt c b=false→lt c a=false) (ha:∀a b,lt a b=true→lt b a=false) (x:α):
 ∀n (A:List α),A.length=n→A.Pairwise (fun a b=>lt b a=false)→(Ju lt A x).Pairwise fun a b=>lt b a=false:=by
 intro n
 induction n with
 |zero=>
  intro A m _;obtain rfl:=H9 m;exact aOV ..
 |succ n M=>
  intro A m u;rcases List.eq_nil_or_concat A with rfl|⟨B,a,rfl⟩
  ·cases m
  rw[List.concat_eq_append]at m u ⊢;have m:B.length=n:=Xb
  obtain⟨O,_,J⟩:=Zz.1 u;cases q:lt x a with
  |true=>
   rw[aU8 q];refine Zz.2 ⟨M B m O,aOV ..,fun y j z I=>?_⟩;rw[IK.1 I];rcases F8.1 ((aSR B x).mem_iff.1 j)with rfl|j
   ·exact ha _ _ q
   exact J y j a (IK.2 rfl)
  |false=>
   rw[aSz q,show B++a::[x]=(B++[a])++[x] by simp];refine Zz.2 ⟨u,aOV ..,fun y j z I=>?_⟩;rw[IK.1 I];rcases Gw.1 j with j|j
   ·exact L y a x (J y j a (IK.2 rfl)) q
   rw[IK.1 j];exact q
def nZ {a b:AQ}:Hy b a=false↔a.Depth<b.Depth∨(a.Depth=b.Depth∧a.Id≤b.Id):=by
 unfold Hy;rw[jW,aMt,Y7,Y7,Xw];omega
def af8 (l:List AQ):(Tt l).Pairwise fun a b=>Hy b a=false:=by
 have key:∀(l A:List AQ),A.Pairwise (fun a b=>Hy b a=false)→(l.foldl (Ju Hy) A).Pairwise fun a b=>Hy b a=false:=by
  intro l
  induction l with
  |nil=>exact fun A h=>h
  |cons x l j=>
   intro A h;rw[FZ];refine j _ (arO (fun a b c m q=>?_) (fun a b h=>?_) x _ A rfl h)
   ·rw[nZ]at *;omega
   rw[nZ];unfold Hy at h;rw[Yt,DT,Gi,Gi,Qo]at h;omega
 exact key l [] .nil
def aEp {l:List AQ} (M:(l.map (·.Id)).Nodup) {e:AQ} (h:e∈l):ev l e.Id=e:=by
 have O:dQ l e.Id=true:=bP.2 (FH.2 ⟨e,h,rfl⟩);obtain⟨U,z⟩:=LZ O;have Y:=QH U;obtain⟨i,hi,m⟩:=Ia Y;obtain⟨j,I,q⟩:=Ia h;have Z:=MO.1 (aPp.1 M)
 have J:∀a b (ha:a<l.length) (L:b<l.length),a<b→l[a].Id≠l[b].Id:=fun a b ha L u=>by
  have :=Z a b (by simpa using ha) tZ u;simpa using this
 rcases aF6 i j with h|h|h
 ·exact absurd (by rw[m,q,z]) (J i j hi I h)
 ·subst h;rw[←m,q]
 exact absurd (by rw[m,q,z]) (J j i I hi h)
def SA (t:List Du) (s:List Aq):Prop:=∀x∈s,H8 t x.Id=true
structure Qk (l:List AQ) (t:List Du):Prop where
 st:∀y∈t,SA t y.before∧SA t y.after
 au:∀y∈t,y.err=0→∀a∈je l y.id,H8 t a=true
def oz {t:List Du} {x:Int}:H8 t x=true↔∃y,FW t x=some y∧y.err=0:=by
 unfold H8;cases FW t x with
 |none=>simp
 |some y=>simp
def ai9 {t:List Du} {x:Int} {y:Du} (h:FW t x=some y) (z:Du):FW (t++[z]) x=some y:=by
 unfold FW at *;rw[rF,h];rfl
def aGi {t:List Du} {x:Int} (h:H8 t x=true) (z:Du):H8 (t++[z]) x=true:=by
 obtain⟨y,j,m⟩:=oz.1 h;exact oz.2 ⟨y,ai9 j z,m⟩
def SA.nil (t:List Du):SA t []:=fun _ h=>absurd h Fe
def Qk.after {l:List AQ} {t:List Du} (h:Qk l t) (x:Int):SA t (Me t x):=by
 unfold Me;cases hl:FW t x with
 |none=>exact .nil t
 |some y=>exact(h.st y (U3 hl)).2
def Qk.auth {l:List AQ} {t:List Du} (h:Qk l t) {x:Int} (m:H8 t x=true):∀a∈je l x,H8 t a=true:=by
 obtain⟨y,j,q⟩:=oz.1 m;have :=h.au y (U3 j) q
 rwa [aiU j]at this
def Qk.chain {l:List AQ} {t:List Du} (h:Qk l t) {ids:List Int} (hi:∀x∈ids,H8 t x=true) {x:Int} (m:KE l ids x):H8 t x=true:=by
 induction m with
 |one q j _=>exact h.auth (hi _ q) _ j
 |more _ j _ u=>exact h.auth u _ j
def Qk.full {l:List AQ} {t:List Du} (h:Qk l t) {m:List (List Aq)} (hs:∀s∈m,SA t s) {x:Int} (j:x∈Iu l m):H8 t x=true:=by
 have u:∀s∈m,∀y∈Ro s,H8 t y=true:=fun s q y J=>by
  obtain⟨z,I,rfl⟩:=FH.1 J;exact hs s q z I
 unfold Iu at j;rcases TT.1 j with j|j
 ·rw[Ky]at j;unfold PV at j;obtain⟨z,I,rfl⟩:=FH.1 j;obtain⟨s,q,I⟩:=TD.1 I;exact hs s q z (FM.1 I).1
 obtain⟨⟨s,q,j⟩,_⟩:=aUz.1 j;unfold Eu at j;rcases TT.1 j with j|j
 ·exact u s q x j
 exact h.chain (u s q) (bJ.1 j)
def Qk.resolve {l:List AQ} {t:List Du} (h:Qk l t) {j:List (List Aq)} (m:Ln l j) (hs:∀s∈j,SA t s):SA t (Yg l j):=by
 match j,m,hs with
 | [],_,_=>exact .nil t
 | [s],_,hs=>exact hs s (FY ..)
 |s::r::j,m,hs=>
  intro x u;rcases abo u with z|⟨id,q,I,_,J⟩
  ·exact hs s (FY ..) x ((aSP m.states (List.cons_ne_nil _ _)).1 z s (FY ..))
  have L:x.Id=id:=by rw[J];exact(LZ I).2
  rw[L];exact h.full hs q
def Qk.line {l:List AQ} {t:List Du} (h:Qk l t) (Y:KX l t) (hl:l.length≤100) (hs:Dl l) {id:Int} (Z:dQ l id=true) (hn:FW t id=none) (ha:∀a∈je l id,∃y,FW t a=some y):Qk l (t++[Lm l t (ev l id)]):=by
 have z:(ev l id).Id=id:=(LZ Z).2
 have L:SA t (stB l t (ev l id)):=h.resolve (Y.okay hl hs _ (by have :=(aCG hs id).prev;omega)) fun s u=>by
  obtain⟨x,_,rfl⟩:=FH.1 u;exact h.after x
 have j:∀{s:List Aq},SA t s→SA (t++[Lm l t (ev l id)]) s:=fun hs x I=>aGi (hs x I) _;refine⟨fun y m=>?_,fun y m q a u=>?_⟩
 ·rcases Gw.1 m with m|m
  ·exact⟨j (h.st y m).1,j (h.st y m).2⟩
  rw[IK.1 m];refine⟨j L,?_⟩;show SA _ (bif Ld l t (ev l id) (stB l t (ev l id))==0&&Ho (ev l id).Kind then Fg _ (ev l id).Kind (ev l id).Key (ev l id).Id else _);cases O:(Ld l t (ev l id) (stB l t (ev l id))==0&&Ho (ev l id).Kind)with
  |false=>exact j L
  |true=>
   rw[DT]at O;intro x I;rcases Qg I with rfl|I
   ·refine oz.2 ⟨Lm l t (ev l id),?_,eq_of_beq O.1⟩;show FW _ (ev l id).Id=_;have M:FW t (Lm l t (ev l id)).id=none:=by show FW t (ev l id).Id=none;rw[z];exact hn
    rw[aEe M,show((ev l id).Id==(Lm l t (ev l id)).id)=true from Pn _];rfl
   exact aGi (L x I) _
 rcases Gw.1 m with m|m
 ·exact aGi (h.au y m q a u) _
 rw[IK.1 m]at q u;have u:a∈je l id:=by rw[←z];exact u
 have q:Ld l t (ev l id) (stB l t (ev l id))=0:=q;obtain⟨y,m⟩:=ha a u;refine aGi (oz.2 ⟨y,m,?_⟩) _;unfold Ld at q;cases J:Xy l (ev l id) != 0 with
 |true=>rw[J,BZ]at q;rw[q]at J;cases J
 |false=>
  rw[J,BM]at q;cases U:(ev l id).bK.any (fun x=>errOf t x != 0)with
  |true=>rw[U,BZ]at q;cases q
  |false=>
   have h3:=List.any_eq_false.1 U a u;have :errOf t a=0:=by simpa using h3
   unfold errOf at this;rw[m]at this;exact this
structure N7 (x y:AQ):Prop where
 id:y.Id=x.Id
 room:y.Room=x.Room
 sender:y.aY=x.aY
 kind:y.Kind=x.Kind
 key:y.Key=x.Key
 time:y.Time=x.Time
 depth:y.Depth=x.Depth
 prev:y.bM=x.bM
 auth:y.bK=x.bK
 n:x.Kind=2∨x.Kind=4→y.Content.N=x.Content.N
 levels:x.Kind=3→y.Content.Levels=x.Content.Levels
def N7.refl (x:AQ):N7 x x:=⟨rfl,rfl,rfl,rfl,rfl,rfl,rfl,rfl,rfl,fun _=>rfl,fun _=>rfl⟩
inductive IE :List AQ→List AQ→Prop
 |nil:IE [] []
 |cons {x y:AQ} {xs ys:List AQ} (h:N7 x y) (t:IE xs ys):IE (x::xs) (y::ys)
def IE.append {a b c d:List AQ} (h:IE a b) (k:IE c d):IE (a++c) (b++d):=by
 induction h with
 |nil=>exact k
 |cons h _ j=>exact .cons h j
def IE.flat {α:Type} {f g:α→List AQ}:∀(l:List α),(∀x∈l,IE (f x) (g x))→IE (l.flatMap f) (l.flatMap g)
 | [],_=>.nil
 |x::l,h=>by
  rw[Nz,Nz];exact(h x (FY ..)).append (IE.flat l fun y j=>h y (Gf _ j))
def IE.any {p:AQ→Bool} (j:∀x y,N7 x y→p y=p x) {a b:List AQ} (h:IE a b):b.any p=a.any p:=by
 induction h with
 |nil=>rfl
 |cons h _ m=>rw[dM,dM,j _ _ h,m]
def IE.all {p:AQ→Bool} (j:∀x y,N7 x y→p y=p x) {a b:List AQ} (h:IE a b):b.all p=a.all p:=by
 induction h with
 |nil=>rfl
 |cons h _ m=>rw[rC,rC,j _ _ h,m]
def IE.find {p:AQ→Bool} (j:∀x y,N7 x y→p y=p x) {a b:List AQ} (h:IE a b):(a.find? p=none∧b.find? p=none)∨∃x y,a.find? p=some x∧b.find? p=some y∧N7 x y∧p x=true:=by
 induction h with
 |nil=>exact .inl ⟨rfl,rfl⟩
 | @cons x y xs ys h _ m=>
   rw[RS,RS,j _ _ h];cases q:p x with
   |true=>exact .inr ⟨x,y,rfl,rfl,h,q⟩
   |false=>exact m
def IE.one {x y:AQ} (h:N7 x y):IE [x] [y]:=.cons h .nil
def aM1 {k:Aq} {x y:AQ} (h:N7 x y):EX k y=EX k x:=by unfold EX;rw[h.kind,h.key]
def amM {x y:AQ} (h:N7 x y):Oy y=Oy x:=by
 unfold Oy;rw[h.kind,h.key,h.sender];cases j:x.Kind==2 with
 |false=>rfl
 |true=>rw[h.n (.inl (eq_of_beq j))]
def aNk {x y:AQ} (h:N7 x y):keysOf y=keysOf x:=by
 unfold keysOf LU;rw[h.kind,h.key,h.sender];cases j:x.Kind==2 with
 |false=>rfl
 |true=>rw[h.n (.inl (eq_of_beq j))]
section
variable {a b : List AQ}
def al4 (h:IE a b):(Ie b).2=(Ie a).2∧N7 (Ie a).1 (Ie b).1:=by
 unfold Ie;rcases h.find (p:=fun x=>x.Kind==1) (fun x y h=>by rw[h.kind])with⟨j,m⟩|⟨x,y,j,m,q,_⟩
 ·rw[j,m];exact⟨rfl,.refl _⟩
 rw[j,m];exact⟨rfl,q⟩
def aUF {u:ByteArray} {x y:AQ} (h:N7 x y):Ih u y=Ih u x:=by unfold Ih;rw[h.kind,h.key]
def aJz (h:IE a b) (u:ByteArray):Hw b u=Hw a u:=by
 unfold Hw;rcases h.find (p:=Ih u) (fun x y h=>aUF h)with⟨j,m⟩|⟨x,y,j,m,z,q⟩
 ·rw[j,m]
 rw[j,m];unfold Ih at q;rw[DT]at q;exact z.n (.inl (eq_of_beq q.1))
def agU (h:IE a b):UJ b=UJ a:=by
 unfold UJ;rcases h.find (p:=fun x=>x.Kind==1) (fun x y h=>by rw[h.kind])with⟨j,m⟩|⟨x,y,j,m,q,_⟩
 ·rw[j,m]
 rw[j,m];exact q.sender
def aLh (h:IE a b):Em b=Em a:=by
 unfold Em;rcases h.find (p:=fun x=>x.Kind==3) (fun x y h=>by rw[h.kind])with⟨j,m⟩|⟨x,y,j,m,q,u⟩
 ·rw[j,m,agU h]
 rw[j,m];exact q.levels (eq_of_beq u)
def ama (h:IE a b):(Vl b).1=(Vl a).1:=by
 unfold Vl;rcases h.find (p:=fun x=>x.Kind==4) (fun x y h=>by rw[h.kind])with⟨j,m⟩|⟨x,y,j,m,q,u⟩
 ·rw[j,m]
 rw[j,m];exact q.n (.inr (eq_of_beq u))
def aLp {e f:AQ} (j:N7 e f) (h:IE a b):Nh f b=Nh e a:=by
 unfold Nh;obtain⟨J,L⟩:=al4 h;rw[j.kind,j.sender,j.room,J];cases e.Kind==1 with
 |true=>rfl
 |false=>
 cases(Ie a).2 with
 |false=>rfl
 |true=>
 cases M:e.Kind==2 with
 |true=>
  have I:=j.n (.inl (eq_of_beq M));simp only[BM,EL,BZ]
  have q:WX f b=WX e a:=by
   unfold WX;rw[J,j.prev,j.sender,j.key,I,L.id,L.sender,h.any fun x y h=>aUF h]
  have u:∀m now,Xt m now b=Xt m now a:=fun m now=>by unfold Xt;rw[ama h]
  have z:∀now,YS f b now=YS e a now:=fun now=>by
   unfold YS;rw[aJz h,j.sender,j.key,I,aLh h]
  unfold nD;rw[q,j.key,j.sender,I,aJz h,u,z]
 |false=>
  simp only[BM,EL];rw[aJz h]
  have hl:Z4 f b=Z4 e a:=by
   unfold Z4;rw[aLh h,j.sender,j.kind];cases O:e.Kind==3 with
   |false=>rfl
   |true=>rw[j.levels (eq_of_beq O)]
  rw[hl]
end
structure Gy (l l':List AQ) (S:List Int):Prop where
 nodup:S.Nodup
 mem:∀x∈S,dQ l x=true∧dQ l' x=true∧N7 (ev l x) (ev l' x)
 prev:∀x∈S,∀a∈(ev l x).bM,a∈S
 auth:∀x∈S,∀a∈(ev l x).bK,a∈S
section
variable {l l' : List AQ} {S : List Int} (h : Gy l l' S)
include h
def Gy.ids {ids:List Int} (hi:∀x∈ids,x∈S):IE (ofIds l ids) (ofIds l' ids):=by
 induction ids with
 |nil=>exact .nil
 |cons x ids j=>
  obtain⟨m,k2,q⟩:=h.mem x (hi x (FY ..));unfold ofIds at j ⊢;rw[QD,QD,(LZ m).1,(LZ k2).1];exact .cons q (j fun y u=>hi y (Gf _ u))
def Gy.je {x:Int} (j:x∈S):je l' x=je l x:=(h.mem x j).2.2.auth
def Gy.ch {ids:List Int} (hi:∀x∈ids,x∈S) {x:Int} (u:KE l ids x):x∈S∧KE l' ids x:=by
 induction u with
 |one m j _=>
  have hs:=h.auth _ (hi _ m) _ j;exact⟨hs,.one m (by rw[h.je (hi _ m)];exact j) (h.mem _ hs).2.1⟩
 |more _ j _ q=>
  have hs:=h.auth _ q.1 _ j;exact⟨hs,.more q.2 (by rw[h.je q.1];exact j) (h.mem _ hs).2.1⟩
def Gy.ch' {ids:List Int} (hi:∀x∈ids,x∈S) {x:Int} (u:KE l' ids x):x∈S∧KE l ids x:=by
 induction u with
 |one m j _=>
  rw[h.je (hi _ m)]at j;have hs:=h.auth _ (hi _ m) _ j;exact⟨hs,.one m j (h.mem _ hs).1⟩
 |more _ j _ q=>
  rw[h.je q.1]at j;have hs:=h.auth _ q.1 _ j;exact⟨hs,.more q.2 j (h.mem _ hs).1⟩
def Gy.chain {ids:List Int} (hi:∀x∈ids,x∈S):chainOf l' ids=chainOf l ids:=Ee (aD3 _ _) (aD3 _ _) fun x=>by
 rw[bJ,bJ];exact⟨fun j=>(h.ch' hi j).2,fun j=>(h.ch hi j).2⟩
def Gy.aAz {ids:List Int} (hi:∀x∈ids,x∈S):∀x∈chainOf l ids,x∈S:=fun _ j=>(h.ch hi (bJ.1 j)).1
def Gy.from {e f:AQ} (q:N7 e f) (hi:∀x∈e.bK,x∈S):IE (Sz l e) (Sz l' f):=by
 unfold Sz;rw[aNk q,q.auth];refine IE.flat _ fun k _=>?_;rcases(h.ids hi).find (p:=EX k) (fun x y h=>aM1 h)with⟨j,m⟩|⟨x,y,j,m,u,_⟩
 ·rw[j,m];exact .nil
 rw[j,m];exact .one u
def Gy.fits {e f:AQ} (J:N7 e f) (hi:∀x∈e.bK,x∈S):Px l' f=Px l e:=by
 have hs:=h.ids hi
 have O:e.bK.all (dQ l')=e.bK.all (dQ l):=by
  rw[Qm,Ea,Ea];exact⟨fun _ x q=>(h.mem x (hi x q)).1,fun _ x q=>(h.mem x (hi x q)).2.1⟩
 have U:∀(z:List Aq) {xs ys:List AQ},IE xs ys→∀{m j:List AQ},IE m j→Ji z j ys=Ji z m xs:=by
  intro z xs ys L
  induction L with
  |nil=>intro m j _;rfl
  | @cons x y xs ys q _ Y=>
    intro m j M;have Z:(z.any fun k=>EX k y)=z.any fun k=>EX k x:=BL (fun p=>z.any p) (funext fun k=>aM1 q)
    have hl:j.any (SE y)=m.any (SE x):=by
     rw[show SE y=SE x from funext fun u=>by unfold SE;rw[q.kind,q.key]];exact M.any fun u v I=>by unfold SE;rw[I.kind,I.key]
    unfold Ji;rw[Y (M.append (.one q)),Z,hl]
 unfold Px;rw[J.auth,J.kind,J.room,aNk J,O,hs.all (fun x y h=>by rw[h.room]),U _ hs .nil,hs.any (fun x y h=>by unfold PW;rw[h.kind,h.key])]
omit h in
def find_congr {p q:Int→Bool}:∀(l:List Int),(∀x∈l,p x=q x)→l.find? p=l.find? q
 | [],_=>rfl
 |x::l,h=>by rw[RS,RS,h x (FY ..),find_congr l fun y j=>h y (Gf _ j)]
omit h in
def aFZ :∀{a b:List Int},a.Nodup→(∀x∈a,x∈b)→a.length≤b.length
 | [],_,_,_=>El _
 |x::a,b,q,hs=>by
  have j:=hs x (FY ..);obtain⟨u,z⟩:=MJ.1 q;have :=aFZ (b:=b.erase x) z fun y m=>(List.mem_erase_of_ne fun e=>u (by rw[←e];exact m)).2 (hs y (Gf _ m));rw[List.length_erase_of_mem j]at this;have I:0<b.length:=List.length_pos_of_mem j;rw[GI];omega
def Gy.power {x:Int} (j:x∈S):OG l' (ev l' x)=OG l (ev l x):=by
 unfold OG;rw[(h.mem x j).2.2.auth];refine find_congr _ fun a ha=>?_;obtain⟨m,k2,q⟩:=h.mem a (h.auth x j a ha);rw[m,k2,q.kind]
def Gy.BA:∀(n m:Nat) (seen:List Int) (id:Int),id∈S→seen.Nodup→(∀x∈seen,x∈S)→S.length≤seen.length+n→S.length≤seen.length+m→BA l' m seen id=BA l n seen id:=by
 have q:∀(seen:List Int) (id:Int),id∈S→seen.Nodup→(∀x∈seen,x∈S)→S.length≤seen.length→id∈seen:=fun seen id j I hs hl=>by
  refine XG fun z=>?_
  have :=aFZ (a:=id::seen) (b:=S) (MJ.2 ⟨z,I⟩) fun x J=>by
   rcases F8.1 J with rfl|J
   ·exact j
   exact hs x J
  rw[GI]at this;omega
 have u:∀(l:List AQ) (n:Nat) (seen:List Int) (id:Int),id∈seen→Go.Proofs.YtldfpencimjjlaaGreat.BA l n seen id=seen:=fun l n seen id j=>by
  cases n with
  |zero=>rfl
  |succ n=>unfold Go.Proofs.YtldfpencimjjlaaGreat.BA;rw[Jm.2 j];rfl
 intro n
 induction n with
 |zero=>
  intro m seen id j I hs M _;have :=q seen id j I hs AB;rw[u l' m seen id this,u l 0 seen id this]
 |succ n O=>
  intro m seen id j I hs M h2;by_cases z:id∈seen
  ·rw[u l' m seen id z,u l (n+1) seen id z]
  obtain⟨m,rfl⟩:∃U,m=U+1:=by
   cases m with
   |zero=>exact absurd (q seen id j I hs AB) z
   |succ m=>exact⟨m,rfl⟩
  obtain⟨Y,k2,k3⟩:=h.mem id j;unfold Go.Proofs.YtldfpencimjjlaaGreat.BA;rw[OH.2 z,Y,k2,h.power j];cases Z:OG l (ev l id)with
  |none=>rfl
  |some x=>
   have J:x∈S:=h.auth id j x (U3 Z);refine O m (seen++[id]) x J (xG.2 ⟨I,BP,fun a ha b hb=>?_⟩) (fun y L=>?_) (by rw[EP,OV];omega) (by rw[EP,OV];omega)
   ·rw[IK.1 hb];exact fun e=>z (e▸ha)
   rcases Gw.1 L with L|L
   ·exact hs y L
   rw[IK.1 L];exact j
def Gy.way {x:Int} (j:x∈S):ZB l' x=ZB l x:=by
 have m:S.length≤l.length:=by
  have :=aFZ (b:=l.map (·.Id)) h.nodup fun x j=>bP.1 (h.mem x j).1
  rwa [Cm]at this
 have q:S.length≤l'.length:=by
  have :=aFZ (b:=l'.map (·.Id)) h.nodup fun x j=>bP.1 (h.mem x j).2.1
  rwa [Cm]at this
 exact h.BA _ _ [] x j .nil (fun _ h=>absurd h Fe) Xb PL
def Gy.item {j:List Int} {x:Int} (m:x∈S):Eh l' j x=Eh l j x:=by
 unfold Eh MI;rw[h.way m,(h.mem x m).2.2.time]
def Gy.Af {j ids:List Int} (hi:∀x∈ids,x∈S):Af l' j ids=Af l j ids:=by
 unfold Go.Proofs.YtldfpencimjjlaaGreat.Af;rw[wX (q:=dQ l) fun x m=>by rw[(h.mem x (hi x m)).1,(h.mem x (hi x m)).2.1],aAw fun x m=>h.item (hi x (FM.1 m).1)]
def Gy.DK {full:List Int} (hi:∀x∈full,x∈S):DK l' full=DK l full:=by
 unfold Go.Proofs.YtldfpencimjjlaaGreat.DK;refine wX fun x j=>?_;obtain⟨m,k2,q⟩:=h.mem x (hi x j);unfold X8;rw[m,k2,amM q]
def Gy.Uz {full:List Int} (hi:∀x∈full,x∈S):Uz l' full=Uz l full:=by
 unfold Go.Proofs.YtldfpencimjjlaaGreat.Uz;rw[h.DK hi,h.chain (ids:=Go.Proofs.YtldfpencimjjlaaGreat.DK l full) fun x j=>hi x (FM.1 j).1]
def Gy.iE {ids:List Int} (hi:∀x∈ids,x∈S):iE l' ids=iE l ids:=by
 unfold Go.Proofs.YtldfpencimjjlaaGreat.iE;exact wX fun x j=>by rw[(h.mem x (hi x (Ky.1 j))).1,(h.mem x (hi x (Ky.1 j))).2.1]
def Gy.one {x:Int} (j:x∈S):chainOf l' [x]=chainOf l [x]:=h.chain fun y m=>by rw[IK.1 m];exact j
def Gy.node {x:Int} (j:x∈S):FC l' x=FC l x:=by
 obtain⟨_,_,m⟩:=h.mem x j;unfold FC lH;rw[aLh (h.from m (h.auth x j)),m.sender,m.time,h.one j]
omit h in
def an3 (l:List AQ) (left:List Int) (b:Option Int) (x:Int):Gu l left b x=some x∨Gu l left b x=b:=by
 unfold Gu;cases b with
 |none=>cases Vh l left x<;>simp
 |some y=>
  simp only[];cases Vh l left x<;>cases Ya (FC l x) (FC l y)<;>simp
def Gy.best {left:List Int}:∀(xs:List Int) (b:Option Int),(∀x∈xs,x∈S)→(∀y,b=some y→y∈S)→xs.foldl (Gu l' left) b=xs.foldl (Gu l left) b
 | [],_,_,_=>rfl
 |x::xs,b,u,z=>by
  have m:=u x (FY ..)
  have e:Gu l' left b x=Gu l left b x:=by
   unfold Gu Vh;rw[h.one m];cases b with
   |none=>rfl
   |some y=>simp only[h.node m,h.node (z y rfl)]
  rw[FZ,FZ,e];refine Gy.best xs _ (fun y j=>u y (Gf _ j)) fun y j=>?_;rcases an3 l left b x with q|q
  ·rw[q]at j;rw[←D5 j];exact m
  rw[q]at j;exact z y j
def Gy.sD:∀(n:Nat) (left:List Int),(∀x∈left,x∈S)→sD l' n left=sD l n left
 |0,_,_=>rfl
 |n+1,left,hi=>by
  unfold Go.Proofs.YtldfpencimjjlaaGreat.sD Tm;rw[h.best left none hi fun _ h=>Gh];cases left.foldl (Gu l left) none with
  |none=>rfl
  |some b=>exact BL _ (Gy.sD n _ fun x j=>hi x (FM.1 j).1)
def Ls (S:List Int) (s:List Aq):Prop:=∀x∈s,x.Id∈S
def Gy.pick {s:List Aq} (hs:Ls S s) {e f:AQ} (q:N7 e f) (hi:∀x∈e.bK,x∈S):IE (St l s e) (St l' s f):=by
 unfold St;rw[aNk q];refine IE.flat _ fun k _=>?_;unfold SL aJ;cases u:(GH s k.Kind k.Key).2 with
 |true=>
  have z:=aLi (s:=s) (k:=k.Kind) (key:=k.Key) (n:=(GH s k.Kind k.Key).1) (Prod.ext rfl u);obtain⟨I,k2,J⟩:=h.mem _ (hs _ z)
  have L:Gg l (GH s k.Kind k.Key).1=(ev l (GH s k.Kind k.Key).1,true):=by
   have :=(LZ I).1;unfold ev Gg at this ⊢;rw[this]
  have M:Gg l' (GH s k.Kind k.Key).1=(ev l' (GH s k.Kind k.Key).1,true):=by
   have :=(LZ k2).1;unfold ev Gg at this ⊢;rw[this]
  simp only[BZ];rw[L,M];exact .one J
 |false=>
  simp only[BM];unfold Zx;rw[q.auth];rcases(h.ids hi).find (p:=EX k) (fun x y h=>aM1 h)with⟨j,m⟩|⟨x,y,j,m,O,_⟩
  ·rw[j,m];exact .nil
  rw[j,m];exact .one O
def Gy.apply {s:List Aq} (hs:Ls S s) {x:Int} (m:x∈S):OJ l' s x=OJ l s x∧Ls S (OJ l s x):=by
 obtain⟨u,k2,j⟩:=h.mem x m
 have e:Ru l' s x=Ru l s x:=by
  unfold Ru;rw[u,k2,j.kind,aLp j (h.pick hs j (h.auth x m))]
 unfold OJ;rw[e,j.kind,j.key,j.id];refine⟨rfl,?_⟩;cases Ru l s x with
 |false=>exact hs
 |true=>
  intro y q;rcases Qg q with rfl|q
  ·show(ev l x).Id∈S;rw[(LZ u).2];exact m
  exact hs y q
def Gy.applies:∀(ids:List Int) (s:List Aq),Ls S s→(∀x∈ids,x∈S)→OC l' s ids=OC l s ids∧Ls S (OC l s ids)
 | [],_,hs,_=>⟨rfl,hs⟩
 |x::ids,s,hs,hi=>by
  obtain⟨j,m⟩:=h.apply hs (hi x (FY ..));unfold OC;rw[FZ,FZ,j];exact Gy.applies ids _ m fun y q=>hi y (Gf _ q)
def Gy.closure {s:List Aq} (hs:Ls S s):Eu l' s=Eu l s∧∀x∈Eu l s,x∈S:=by
 have hi:∀x∈Ro s,x∈S:=fun x j=>by
  obtain⟨y,m,rfl⟩:=FH.1 j;exact hs y m
 unfold Eu;refine⟨by rw[h.chain hi],fun x j=>?_⟩;rcases TT.1 j with j|j
 ·exact hi x j
 exact h.aAz hi x j
def Gy.full {j:List (List Aq)} (hs:∀s∈j,Ls S s):Iu l' j=Iu l j∧∀x∈Iu l j,x∈S:=by
 have I:∀(u:List (List Aq)) (a:List Int),(∀s∈u,Ls S s)→u.foldl (fun a s=>IB a (Eu l' s)) a=u.foldl (fun a s=>IB a (Eu l s)) a:=by
  intro u
  induction u with
  |nil=>exact fun _ _=>rfl
  |cons s u O=>
   intro a M;rw[FZ,FZ,(h.closure (M s (FY ..))).1];exact O _ fun s q=>M s (Gf _ q)
 have J:∀x,Iq l' j x=Iq l j x:=fun x=>by
  unfold Iq;exact List.countP_congr fun s q=>by rw[(h.closure (hs s q)).1]
 have hd:O8 l' j=O8 l j:=by
  unfold O8 allOf;rw[I j [] hs];exact wX fun x _=>by rw[J]
 unfold Iu;rw[hd];refine⟨rfl,fun x m=>?_⟩;rcases TT.1 m with m|m
 ·rw[Ky]at m;unfold PV at m;obtain⟨z,L,rfl⟩:=FH.1 m;obtain⟨s,q,L⟩:=TD.1 L;exact hs s q z (FM.1 L).1
 obtain⟨⟨s,q,m⟩,_⟩:=aUz.1 m;exact(h.closure (hs s q)).2 x m
omit h in
def ajL {j:List (List Aq)} (hs:∀s∈j,Ls S s):Ls S (I4 j):=by
 cases j with
 |nil=>exact fun _ h=>absurd h Fe
 |cons s j=>exact fun x m=>hs s (FY ..) x (FM.1 m).1
def Gy.last {j:List (List Aq)} (hs:∀s∈j,Ls S s):lastOf l' j=lastOf l j∧Ls S (lastOf l j):=by
 obtain⟨f1,Z⟩:=h.full hs;have u:=ajL hs;have J:KG l' j=KG l j:=by unfold KG;rw[f1,h.Uz Z]
 have I:∀x∈KG l j,x∈S:=fun x m=>Z x (aFA.1 m).1
 have hpo:KY l' j=KY l j:=by
  unfold KY;rw[J,h.iE I];exact h.sD _ _ fun x m=>I x (MZ.1 m).1
 have M:∀x∈KY l j,x∈S:=fun x m=>I x (MZ.1 (aPu l _ _ m)).1;obtain⟨a1,a2⟩:=h.applies (KY l j) (I4 j) u M;have q:I7 l' j=I7 l j:=by unfold I7;rw[hpo,a1]
 have O:U1 l' j=U1 l j:=by
  unfold U1;rw[q];cases hg:(GH (I7 l j) 3 Bv).2 with
  |false=>rfl
  |true=>exact h.way (a2 _ (aLi (n:=(GH (I7 l j) 3 Bv).1) (Prod.ext rfl hg)))
 have L:∀x∈Og (Iu l j) (KG l j),x∈S:=fun x m=>Z x (aKH.1 m).1
 have U:Jt l' j=Jt l j:=by
  unfold Jt;rw[O,f1,J,h.Af L]
 have Y:∀x∈Jt l j,x∈S:=fun x m=>by
  unfold Jt Go.Proofs.YtldfpencimjjlaaGreat.Af at m;obtain⟨y,hy,rfl⟩:=FH.1 m;obtain⟨z,hz,rfl⟩:=FH.1 ((dP ..).mem_iff.1 hy);exact L z (FM.1 hz).1
 obtain⟨b1,b2⟩:=h.applies (Jt l j) (I7 l j) a2 Y;unfold lastOf;rw[q,U,b1];refine⟨rfl,fun x m=>?_⟩;rcases aJk _ _ m with m|m
 ·exact u x m
 exact b2 x m
def Gy.resolve {j:List (List Aq)} (hs:∀s∈j,Ls S s):Yg l' j=Yg l j∧Ls S (Yg l j):=by
 match j,hs with
 | [],_=>exact⟨rfl,fun _ h=>absurd h Fe⟩
 | [s],hs=>exact⟨rfl,hs s (FY ..)⟩
 |s::r::j,hs=>exact h.last hs
def Gy.verdict {t t':List Du} {x:Int} (q:x∈S) {s:List Aq} (hs:Ls S s) (I:∀a∈(ev l x).bK,errOf t' a=errOf t a):Ld l' t' (ev l' x) s=Ld l t (ev l x) s:=by
 obtain⟨O,k2,j⟩:=h.mem x q
 have J:Xy l' (ev l' x)=Xy l (ev l x):=by
  unfold Xy;rw[h.fits j (h.auth x q),aLp j (h.from j (h.auth x q))]
 have m:(ev l' x).bK.any (fun x=>errOf t' x != 0)=(ev l x).bK.any (fun x=>errOf t x != 0):=by
  rw[j.auth,Qm,IJ,IJ];exact⟨fun⟨a,ha,e⟩=>⟨a,ha,by rw[←I a ha];exact e⟩,fun⟨a,ha,e⟩=>⟨a,ha,by rw[I a ha];exact e⟩⟩
 have u:Nh (ev l' x) (G9 l' s)=Nh (ev l x) (G9 l s):=aLp j (h.ids fun y L=>by
  obtain⟨z,M,rfl⟩:=FH.1 L
  exact hs z M)
 unfold Ld;rw[J,m,u]
def Gy.line {t t':List Du} {x:Int} (q:x∈S) (z:∀a∈(ev l x).bM,Me t' a=Me t a∧Ls S (Me t a)) (I:∀a∈(ev l x).bK,errOf t' a=errOf t a):
 Lm l' t' (ev l' x)=Lm l t (ev l x)∧Ls S (Lm l t (ev l x)).before∧Ls S (Lm l t (ev l x)).after:=by
 obtain⟨J,k2,m⟩:=h.mem x q
 have j:stB l' t' (ev l' x)=stB l t (ev l x)∧Ls S (stB l t (ev l x)):=by
  have L:(ev l x).bM.map (Me t')=(ev l x).bM.map (Me t):=aAw fun a ha=>(z a ha).1;unfold stB;rw[m.prev,L]
  exact h.resolve fun s hs=>by
   obtain⟨a,ha,rfl⟩:=FH.1 hs;exact(z a ha).2
 unfold Lm XU;rw[j.1,h.verdict q j.2 I,m.id,m.kind,m.key];refine⟨rfl,j.2,?_⟩;show Ls S (bif Ld l t (ev l x) (stB l t (ev l x))==0&&Ho (ev l x).Kind then _ else _);cases(Ld l t (ev l x) (stB l t (ev l x))==0&&Ho (ev l x).Kind)with
 |false=>exact j.2
 |true=>
  intro y u;rcases Qg u with rfl|u
  ·show(ev l x).Id∈S;rw[(LZ J).2];exact q
  exact j.2 y u
end
end Go.Proofs.YtldfpencimjjlaaGreat
end
section
namespace Go.Proofs.YtldfpencimjjlaaGreat
def Tv (n:Int):Int:=if n<0 then bits .xor .u64 IntKind.u64.max (IntKind.u64.wrap (IntKind.u64.wrap n*2))else IntKind.u64.wrap (IntKind.u64.wrap n*2)
def sQ (n:Int):0≤Tv n∧Tv n<18446744073709551616:=by
 unfold Tv;have j:∀x:Int,0≤IntKind.u64.wrap x∧IntKind.u64.wrap x<18446744073709551616:=fun x=>by rw[kT];omega
 split
 ·obtain⟨m,u⟩:=j (IntKind.u64.wrap n*2);generalize IntKind.u64.wrap (IntKind.u64.wrap n*2)=y at *;obtain⟨k,rfl⟩:=Int.eq_ofNat_of_zero_le m;have :(IntKind.u64.max:Int)=((18446744073709551615:Nat):Int):=BU
  rw[this,bits_xor_u64_nat _ _ AB AB];have :18446744073709551615^^^k<2^64:=Nat.xor_lt_two_pow AB AB;constructor
  ·exact aJ3 _
  have q:(2:Nat)^64=18446744073709551616:=BU
  omega
 exact j _
def OU (u:Nat):List Int:=if u<128 then[(u:Int)]else((u % 128+128:Nat):Int)::OU (u/128)
termination_by u
decreasing_by omega
def er {u:Nat} (h:u<128):OU u=[(u:Int)]:=by rw[OU,D9 h]
def aIe {u:Nat} (h:¬u<128):OU u=((u % 128+128:Nat):Int)::OU (u/128):=by rw[OU,DL h]
def ab6 :∀(j u:Nat),u<128^(j+1)→(OU u).length≤j+1
 |0,u,h=>by rw[er LJ];simp
 |j+1,u,h=>by
  by_cases m:u<128
  ·rw[er m];simp
  rw[aIe m]
  have :u/128<128^(j+1):=by
   rw[Nat.div_lt_iff_lt_mul AB];rw[Nat.pow_succ]at h;exact h
  have :=ab6 j (u/128) this;simp;omega
def enc (n:Int):List Int:=OU (Tv n).toNat
def Oq (n:Int):(enc n).length≤10:=by
 have h:=(sQ n).2;refine ab6 9 _ ?_;have :(128:Nat)^10=1180591620717411303424:=BU
 rw[this];have :=(sQ n).1;omega
def ag4 (k:Nat):bits .or .u8 ((k:Int) % 256) 128=((k % 128+128:Nat):Int):=by
 have h:=u8_or_nat (k % 256) 128 AB AB;rw[show((k:Int) % 256)=((k % 256:Nat):Int)from by omega];have j:(128:Int)=((128:Nat):Int):=rfl;rw[j,h];congr 1;have key:∀x,x<256→x|||128=x % 128+128:=OT
 rw[key _ AB];omega
def qN (u c:Int):Int:=(IntKind.u64.wrap (bits .xor .u64 u (IntKind.u64.wrap c)*1099511628211)).tmod 4611686018427387904
def acT (x:Int):bits .and .u64 (IntKind.u64.wrap x) 4611686018427387903=(IntKind.u64.wrap x).tmod 4611686018427387904:=by
 rw[kT];have h:=bits_mask .u64 64 BU (fun n m q=>by rw[kT];omega) 62 BU (x % 18446744073709551616) AB AB;have e:((2:Int)^62-1)=4611686018427387903:=BU
 have j:((2:Int)^62)=4611686018427387904:=BU
 rw[aT7 AB];simpa[e,j]using h
def arE (u c:Int):bits .and .u64 (IntKind.u64.wrap (bits .xor .u64 u (IntKind.u64.wrap c)*1099511628211)) 4611686018427387903=qN u c:=acT _
def aHJ (op:BinOp) (k:IntKind) (x y:Int) (h:op=.and∨op=.or∨op=.xor):Ec op k x y=bits op k x y:=by
 rcases h with rfl|rfl|rfl<;>rfl
def Np {α:Type} {b:Nat} {l m:List α} (j:b≤100) (h:(l++m).length≤1099511627776):Ci b l m=some (l++m):=by
 refine Dk ?_;rw[EP]at h;have :(l.length+m.length)*b≤1099511627776*100:=aAK h j;omega
def anm (u:Nat):Ec .or .u8 (IntKind.u8.wrap (u:Int)) 128=((u % 128+128:Nat):Int):=by
 rw[aHJ _ _ _ _ (.inr (.inl rfl)),show IntKind.u8.wrap (u:Int)=(u:Int) % 256 from by rw[kY],ag4]
def aeb (u:Nat):PE .shr .u64 (u:Int) 7=some ((u/128:Nat):Int):=by
 unfold PE;rw[DL AB];show some ((u:Int).fdiv (2^7))=_;rw[aUS _ BU];congr 1
def aTC {u n:Nat} (h:u<128^(n+1+1)):u/128<128^(n+1):=by
 rw[Nat.div_lt_iff_lt_mul AB];rw[Nat.pow_succ]at h;exact h
def anY :∀(n u:Nat),u<128^(n+1)→∀m b,n<m→(b++OU u).length≤1099511627776→aU Vt m b (u:Int)=some (b++OU u):=by
 intro n
 induction n with
 |zero=>
  intro u q m b J j;obtain⟨m,rfl⟩:∃z,m=z+1:=⟨m-1,AB⟩
  have h:u<128:=PL
  rw[er h]at j ⊢;show Vt (aU Vt m) b (u:Int)=_;simp only[Vt,show decide ((u:Int)≥128)=false from by simp;omega,BM];rw[show IntKind.u8.wrap (u:Int)=(u:Int)from by rw[kY];omega,Np AB j];rfl
 |succ n L=>
  intro u q m b J j;obtain⟨m,rfl⟩:∃z,m=z+1:=⟨m-1,AB⟩
  show Vt (aU Vt m) b (u:Int)=_;by_cases h:u<128
  ·rw[er h]at j ⊢;simp only[Vt,show decide ((u:Int)≥128)=false from by simp;omega,BM];rw[show IntKind.u8.wrap (u:Int)=(u:Int)from by rw[kY];omega,Np AB j];rfl
  rw[aIe h]at j ⊢;have e:(b++((u % 128+128:Nat):Int)::OU (u/128))=(b++[((u % 128+128:Nat):Int)])++OU (u/128):=BP
  have I:(b++[((u % 128+128:Nat):Int)]).length≤1099511627776:=by simp only[EP,GI,NK]at j ⊢;omega
  simp only[Vt,show decide ((u:Int)≥128)=true from by simp;omega,BZ,anm,Np (show 1≤100 by omega) I,aeb,Aa];rw[e];exact L (u/128) (aTC q) m _ AB (by rw[←e];exact j)
def apc :∀(n u:Nat),u<128^(n+1)→u<18446744073709551616→∀m b,n<m→(b++OU u).length≤1099511627776→aU VX m (u:Int) b=some (b++OU u):=by
 intro n
 induction n with
 |zero=>
  intro u q _ m b J j;obtain⟨m,rfl⟩:∃z,m=z+1:=⟨m-1,AB⟩
  have h:u<128:=PL
  rw[er h]at j ⊢;show VX (aU VX m) (u:Int) b=_;simp only[VX,show decide ((u:Int)≥128)=false from by simp;omega,BM];rw[show IntKind.u8.wrap (u:Int)=(u:Int)from by rw[kY];omega,Np AB j];rfl
 |succ n L=>
  intro u q M m b J j;obtain⟨m,rfl⟩:∃z,m=z+1:=⟨m-1,AB⟩
  show VX (aU VX m) (u:Int) b=_;by_cases h:u<128
  ·rw[er h]at j ⊢;simp only[VX,show decide ((u:Int)≥128)=false from by simp;omega,BM];rw[show IntKind.u8.wrap (u:Int)=(u:Int)from by rw[kY];omega,Np AB j];rfl
  rw[aIe h]at j ⊢;have e:(b++((u % 128+128:Nat):Int)::OU (u/128))=(b++[((u % 128+128:Nat):Int)])++OU (u/128):=BP
  have I:(b++[((u % 128+128:Nat):Int)]).length≤1099511627776:=by simp only[EP,GI,NK]at j ⊢;omega
  have O:Wu (u:Int) 128=some ((u % 128:Nat):Int):=by unfold Wu;rw[DL AB,aT7 AB];congr 1
  have U:sO .u64 (u:Int) 128=some ((u/128:Nat):Int):=by
   unfold sO;rw[DL AB,Int.tdiv_eq_ediv_of_nonneg AB];congr 1;rw[kT];omega
  have Y:IntKind.u8.wrap (IntKind.u64.wrap (((u % 128:Nat):Int)+128))=((u % 128+128:Nat):Int):=by rw[kT,kY];omega
  simp only[VX,show decide ((u:Int)≥128)=true from by simp;omega,BZ,O,Y,U,Np (show 1≤100 by omega) I,Aa];rw[e];exact L (u/128) (aTC q) AB m _ AB (by rw[←e];exact j)
def aVL (x:Int):PE .shl .u64 x 1=some (IntKind.u64.wrap (x*2)):=rfl
def aVG (x:Int):ZM .u64 x=bits .xor .u64 IntKind.u64.max x:=rfl
def aVA (n:Int):(Tv n).toNat<128^(9+1):=by
 have j:=sQ n;have :(128:Nat)^(9+1)=1180591620717411303424:=BU
 rw[this];omega
def aTp :9<Aj:=ig
def number_eq {b:List Int} {n:Int} (h:(b++enc n).length≤1099511627776):YT b n=some (b++enc n):=by
 have q:=sQ n
 have j:aUa b (Tv n)=some (b++enc n):=by
  have :=anY 9 (Tv n).toNat (aVA n) Aj b aTp h
  rwa [Int.toNat_of_nonneg q.1]at this
 unfold YT;rw[aVL,Aa];unfold aDW;unfold Tv at j;by_cases m:n<0
 ·rw[D9 m]at j;rw[show decide (n<0)=true by simpa using m,BZ,aVG];exact j
 rw[DL m]at j;rw[show decide (n<0)=false by simpa using m,BM];exact j
def ai1 (n:Int):([]++enc n).length≤1099511627776:=by have :=Oq n;simp only[IV];omega
def acv (n:Int):yu n=some (enc n):=by
 have q:=sQ n
 have j:aRx (Tv n) []=some (enc n):=by
  have :=apc 9 (Tv n).toNat (aVA n) AB Aj [] aTp (ai1 n)
  rwa [Int.toNat_of_nonneg q.1]at this
 unfold yu;rw[aVL,Aa];unfold aAd;unfold Tv at j;by_cases m:n<0
 ·rw[D9 m]at j;rw[show decide (n<0)=true by simpa using m,BZ,aVG];exact j
 rw[DL m]at j;rw[show decide (n<0)=false by simpa using m,BM];exact j
def rE {b:List Int} {m:Nat} (h:b.length+m≤1099511627776):Yv b (m:Int)=some b:=by
 unfold Yv;rw[Po AB AB];unfold JV;rw[D9 ⟨AB,AB,AB⟩];simp[gCopy]
def aFU {a b:List Int} (h:(a++b).length≤1099511627776):a.length≤1099511627776:=by rw[EP]at h;omega
def JR (s:ByteArray):List Int:=enc s.size++Bo s
def text_eq {b:List Int} {s:ByteArray} (h:(b++JR s).length≤1099511627776):zS b s=some (b++JR s):=by
 unfold JR at h ⊢;rw[←Ht]at h ⊢;unfold zS;rw[number_eq (aFU h),Aa,Np AB h];rfl
def xg {b:List Int} {n:Int} (h:b.length+10≤1099511627776):Nw b n=some (b++enc n):=by
 have :=Oq n;unfold Nw;rw[show(10:Int)=((10:Nat):Int)from rfl,rE AB,Aa,number_eq Kr];rfl
def YN {b:List Int} {n:Int} (h:b.length+10≤1099511627776):Kt b n=some (b++enc n):=by
 have :=Oq n;unfold Kt;rw[Np AB aA9,Aa,acv,Aa,IV,Np AB Kr];rfl
def nC (s:ByteArray):(JR s).length≤s.size+10:=by
 have :=Oq s.size;unfold JR;rw[EP,IQ];omega
def akB {b:List Int} {s:ByteArray} (h:b.length+s.size+10≤1099511627776):SG b s=some (b++JR s):=by
 have :=nC s;unfold SG;rw[Po AB AB,show(s.size:Int)+10=((s.size+10:Nat):Int) by omega,rE AB,Aa,text_eq Kr];rfl
def adS {b:List Int} {s:ByteArray} (h:b.length+s.size+10≤1099511627776):Qw b s=some (b++JR s):=by
 have :=nC s;unfold Qw;rw[YN AB,Aa,Np AB (by unfold JR at this;rw[EP]at this;rw[EP,EP];omega)];simp[JR]
def aeI {b:List Int} {j:Bool} (h:b.length+10≤1099511627776):YM b j=some (b++[bif j then 1 else 0]):=by
 unfold YM;rw[show(1:Int)=((1:Nat):Int)from rfl,rE AB,Aa];cases j<;>simp only[BZ,BM]<;>rw[Np AB aId]<;>rfl
def amY {b:List Int} {j:Bool} (h:b.length+10≤1099511627776):mP b j=some (b++[bif j then 1 else 0]):=by
 unfold mP;rw[Np AB aA9,Aa,IV];cases j<;>simp only[BZ,BM]<;>rw[Np AB aId]<;>rfl
def aOv {α:Type} {body:(List Int→Int→Option (List Int))→List Int→Int→Option (List Int)} (l:List α) (hl:l.length<Aj) (g:α→List Int)
 (z:∀k b (i:Nat) (h:i<l.length),(b++g l[i]).length≤1099511627776→body k b (i:Int)=k (b++g l[i]) (Am ((i:Int)+1))) (I:∀k b,body k b (l.length:Int)=some b) (b:List Int) (j:(b++l.flatMap g).length≤1099511627776):
 aU body Aj b 0=some (b++l.flatMap g):=by
 have M:Aj=9223372036854775808:=rfl
 have key:∀n (i:Nat) b,i+n=l.length→(b++(l.drop i).flatMap g).length≤1099511627776→∀m,n<m→aU body m b (i:Int)=some (b++(l.drop i).flatMap g):=by
  intro n
  induction n with
  |zero=>
   intro i b hi j m J;obtain⟨m,rfl⟩:∃u,m=u+1:=⟨m-1,AB⟩
   have :i=l.length:=AB
   subst this;show body (aU body m) _ _=_;rw[I,PK];simp
  |succ n L=>
   intro i b hi j m J;obtain⟨m,rfl⟩:∃u,m=u+1:=⟨m-1,AB⟩
   have q:i<l.length:=AB
   rw[La q,Nz,←Ht]at j ⊢;show body (aU body m) _ _=_;rw[z _ _ i q (aFU j),wrap_succ i AB];exact L (i+1) _ AB j m AB
 exact key l.length 0 b AB j Aj hl
def Q5 (l:List Int):List Int:=enc l.length++l.flatMap enc
def Q8 (l:List ByteArray):List Int:=enc l.length++l.flatMap JR
def arl {b:List Int} {l:List Int} (h:(b++Q5 l).length≤1099511627776) (hl:l.length≤1000):aCf b l=some (b++Q5 l):=by
 have m:Aj=9223372036854775808:=rfl;unfold Q5 at h ⊢;rw[←Ht]at h ⊢;unfold aCf;rw[number_eq (aFU h),Aa];unfold aRp;refine aOv l AB enc (fun k b i hi j=>?_) (fun k b=>?_) _ h
 ·simp only[aJK,dec_lt hi,BZ,CV hi,number_eq j,Aa]
 simp only[aJK,DV,BM]
def aff {b:List Int} {l:List ByteArray} (h:(b++Q8 l).length≤1099511627776) (hl:l.length≤1000000000):aFi b l=some (b++Q8 l):=by
 have m:Aj=9223372036854775808:=rfl;unfold Q8 at h ⊢;rw[←Ht]at h ⊢;unfold aFi;rw[number_eq (aFU h),Aa];unfold aQB;refine aOv l AB JR (fun k b i hi j=>?_) (fun k b=>?_) _ h
 ·simp only[aLx,dec_lt hi,BZ,CV hi,text_eq j,Aa]
 simp only[aLx,DV,BM]
def aF7 {α:Type} {g:α→List Int} {m:Nat}:∀{l:List α},(∀x∈l,(g x).length≤m)→(l.flatMap g).length≤l.length*m
 | [],_=>BP
 |x::l,h=>by
  rw[Nz,EP,GI,Un];have :=h x FY;have :=aF7 (l:=l) (fun y j=>h y (Gf _ j));omega
def aJi (l:List Int):(Q5 l).length≤l.length*10+10:=by
 have j:=Oq l.length;have q:=aF7 (g:=enc) (m:=10) (l:=l) (fun x _=>Oq x);unfold Q5;rw[EP];omega
def aLC {l:List ByteArray} {m:Nat} (h:∀s∈l,s.size≤m):(Q8 l).length≤l.length*(m+10)+10:=by
 have j:=Oq l.length;have q:=aF7 (g:=JR) (m:=m+10) (l:=l) (fun s hs=>by have :=nC s;have :=h s hs;omega);unfold Q8;rw[EP];omega
def agL {b:List Int} {l:List Int} (j:b.length+20000≤1099511627776) (hl:l.length≤1000):YI b l=some (b++Q5 l):=by
 have m:=aJi l;unfold YI;rw[Po (x:=2*(l.length:Int)) AB AB,Po AB AB,show 2*(l.length:Int)+10=((2*l.length+10:Nat):Int) by omega,rE AB,Aa,arl Kr hl];rfl
def apq {b:List Int} {l:List Int} (m:b.length+20000≤1099511627776) (hl:l.length≤1000):jl b l=some (b++Q5 l):=by
 have q:Aj=9223372036854775808:=rfl;have u:=aJi l;have h:(b++Q5 l).length≤1099511627776:=Kr
 unfold Q5 at h ⊢;rw[←Ht]at h ⊢;unfold jl;rw[YN AB,Aa];unfold aTk;refine aOv l AB enc (fun k b i hi j=>?_) (fun k b=>?_) _ h
 ·simp only[aJ8,dec_lt hi,BZ,CV hi,acv,Np (show 1≤100 by omega) j,Aa]
 simp only[aJ8,DV,BM]
def aru {b:List Int} {l:List ByteArray} (j:b.length+3000000≤1099511627776) (hl:l.length≤1000) (hs:∀s∈l,s.size≤2000):jQ b l=some (b++Q8 l):=by
 have m:=aLC hs;unfold jQ;rw[Po (x:=8*(l.length:Int)) AB AB,Po AB AB,show 8*(l.length:Int)+10=((8*l.length+10:Nat):Int) by omega,rE AB,Aa,aff Kr AB];rfl
def ahM {b:List Int} {l:List ByteArray} (J:b.length+3000000≤1099511627776) (hl:l.length≤1000) (hs:∀s∈l,s.size≤2000):jB b l=some (b++Q8 l):=by
 have L:Aj=9223372036854775808:=rfl;have M:=aLC hs;have h:(b++Q8 l).length≤1099511627776:=Kr
 have key:∀n (i:Nat) b,i+n=l.length→b.length+(n*2020)≤1099511620000→∀m,n<m→aU (Xm l) m b (i:Int)=some (b++(l.drop i).flatMap JR):=by
  intro n
  induction n with
  |zero=>
   intro i b hi u m z;obtain⟨m,rfl⟩:∃q,m=q+1:=⟨m-1,AB⟩
   have :i=l.length:=AB
   subst this;show Xm l (aU (Xm l) m) _ _=_;simp only[Xm,DV,BM,PK];simp
  |succ n I=>
   intro i b hi u m z;obtain⟨m,rfl⟩:∃q,m=q+1:=⟨m-1,AB⟩
   have j:i<l.length:=AB
   have O:=hs l[i] (EU j);have U:=nC l[i];rw[La j,Nz,←Ht];show Xm l (aU (Xm l) m) _ _=_;simp only[Xm,dec_lt j,BZ,CV j,Aa];rw[adS AB,Aa,wrap_succ i AB];exact I (i+1) _ AB Kr m AB
 unfold Q8;rw[←Ht];unfold jB;rw[YN AB,Aa];unfold aQY;have :=key l.length 0 (b++enc l.length) AB (by have :=Oq l.length;rw[EP];omega) Aj AB;exact this
structure Qe (c:CW):Prop where
 allow:c.Allow.length≤100
 deny:c.gY.length≤100
 users:c.Levels.Users.length≤100
 kinds:c.Levels.Kinds.length≤100
 text:c.Text.size≤2000
 via:c.Via.size≤2000
 allows:∀x∈c.Allow,x.size≤2000
 denies:∀x∈c.gY,x.size≤2000
 names:∀x∈c.Levels.Users,x.User.size≤2000
def Gl.content {e:AQ} (h:Gl e):Qe e.Content:=⟨h.allow,h.deny,h.users,h.kinds,h.text,h.via,h.allows,h.denies,h.names⟩
section
variable {b : List Int} {k : Nat}
def U2 (h:b.length≤k) (j:k≤1000000000) (n:Int):Nw b n=some (b++enc n)∧Kt b n=some (b++enc n)∧(b++enc n).length≤k+10:=by
 have :=Oq n;exact⟨xg AB,YN AB,Kr⟩
def aUK (h:b.length≤k) (m:k≤1000000000) (j:Bool):YM b j=some (b++[bif j then 1 else 0])∧mP b j=some (b++[bif j then 1 else 0])∧(b++[bif j then(1:Int)else 0]).length≤k+10:=
 ⟨aeI AB,amY AB,aId⟩
def XB (h:b.length≤k) (j:k≤1000000000) {s:ByteArray} (m:Nat) (hs:s.size≤m) (q:m≤1000000000):SG b s=some (b++JR s)∧Qw b s=some (b++JR s)∧(b++JR s).length≤k+m+10:=by
 have :=nC s;exact⟨akB AB,adS AB,Kr⟩
def ad3 (h:b.length≤k) (j:k≤1000000000) {l:List Int} (hl:l.length≤100):YI b l=some (b++Q5 l)∧jl b l=some (b++Q5 l)∧(b++Q5 l).length≤k+1010:=by
 have :=aJi l;exact⟨agL AB AB,apq AB AB,Kr⟩
def aQp (h:b.length≤k) (j:k≤1000000000) {l:List ByteArray} (hl:l.length≤100) (hs:∀s∈l,s.size≤2000):jQ b l=some (b++Q8 l)∧jB b l=some (b++Q8 l)∧(b++Q8 l).length≤k+201010:=by
 have :=aLC hs;exact⟨aru AB AB hs,ahM AB AB hs,Kr⟩
end
def Sr (u:H6):List Int:=JR u.User++enc u.N
def Rt (u:Ir):List Int:=enc u.Kind++enc u.N
def Jf (l:CB):List Int:=[l.User,l.Message,l.State,l.gW,l.jL,l.mO,l.gy]
def ahs (b:List Int) (l:CB):List Int:=b++enc l.Users.length++l.Users.flatMap Sr++enc l.Kinds.length++l.Kinds.flatMap Rt++(Jf l).flatMap enc
def lq (c:CW):List Int:=ahs ([]++JR c.Text++enc c.N++enc c.Target++[bif c.Thread then 1 else 0]++JR c.Via++Q8 c.Allow++Q8 c.gY) c.Levels
def apm {u:H6} (h:u.User.size≤2000):(Sr u).length≤2020:=by
 have :=nC u.User;have :=Oq u.N;unfold Sr;rw[EP];omega
def aSA (u:Ir):(Rt u).length≤20:=by
 have :=Oq u.Kind;have :=Oq u.N;unfold Rt;rw[EP];omega
def jw {R α:Type} {body:(List Int→Int→Option R)→List Int→Int→Option R} (l:List α) (hl:l.length≤1000) (g:α→List Int) (m:Nat) (q:∀x∈l,(g x).length≤m) (j:List Int→Option R) (b:List Int)
 (u:∀k a (i:Nat) (h:i<l.length),a.length≤b.length+i*m→body k a (i:Int)=k (a++g l[i]) (Am ((i:Int)+1)))
 (z:∀k a,a.length≤b.length+l.length*m→body k a (l.length:Int)=j a):aU body Aj b 0=j (b++l.flatMap g)∧(b++l.flatMap g).length≤b.length+l.length*m:=by
 constructor
 ·rw[Hu l AB (fun a x=>a++g x) (fun i a=>a.length≤b.length+i*m) j AB (fun k a i h I=>⟨?_,u k a i h I⟩) z,foldl_append g];have :=q l[i] (EU h);rw[EP,Un];omega
 have :=aF7 q;rw[EP];omega
def ait (c:CW) (b:List Int) (I:b.length≤900000):(aMs c b 0=some (b++(Jf c.Levels).flatMap enc)∧aPk (Jf c.Levels) b 0=some (b++(Jf c.Levels).flatMap enc))∧(b++(Jf c.Levels).flatMap enc).length≤b.length+70:=by
 have q:∀i:Nat,(h:i<(Jf c.Levels).length)→Ai ([c.Levels.User,c.Levels.Message,c.Levels.State,c.Levels.gW,c.Levels.jL,c.Levels.mO,c.Levels.gy]:List Int) (i:Int)=some (Jf c.Levels)[i]:=fun i h=>CV h
 have m:=jw (body:=aQ5 c) (Jf c.Levels) (by simp[Jf]) enc 10 (fun x _=>Oq x) some b (fun k a i h j=>by
  have u:i<7:=h;unfold aQ5
  rw[JI (show(i:Int)<7 by omega),BZ,q i h,Aa,xg AB,Aa]) fun k a j=>rfl
 have z:=jw (body:=aBE (Jf c.Levels)) (Jf c.Levels) (by simp[Jf]) enc 10 (fun x _=>Oq x) some b (fun k a i h j=>by
  have u:i<7:=h;unfold aBE
  rw[Ce h,YN AB,Aa]) fun k a j=>by unfold aBE;rw[DV];rfl
 exact⟨⟨m.1,z.1⟩,m.2⟩
def ahq (c:CW) (b:List Int) (J:b.length≤800000) (L:c.Levels.Kinds.length≤100):(aMT c b 0=some (b++c.Levels.Kinds.flatMap Rt++(Jf c.Levels).flatMap enc)∧aO9 c b 0=some (b++c.Levels.Kinds.flatMap Rt++(Jf c.Levels).flatMap enc))∧(b++c.Levels.Kinds.flatMap Rt++(Jf c.Levels).flatMap enc).length≤b.length+2070:=by
 have q:=jw (body:=aAS c) c.Levels.Kinds AB Rt 20 (fun x _=>aSA x) (fun a=>aMs c a 0) b (fun k a i h j=>by
  obtain⟨m,_,z⟩:=U2 (b:=a) (k:=900000) AB AB c.Levels.Kinds[i].Kind;unfold aAS
  rw[Ce h,m,Aa,xg AB,Aa,Ht];rfl) fun k a j=>by unfold aAS;rw[DV];rfl
 have I:=jw (body:=aDC c) c.Levels.Kinds AB Rt 20 (fun x _=>aSA x) (fun a=>aPk (Jf c.Levels) a 0) b (fun k a i h j=>by
  obtain⟨_,m,z⟩:=U2 (b:=a) (k:=900000) AB AB c.Levels.Kinds[i].Kind;unfold aDC
  rw[Ce h,m,Aa,CV h,Aa,YN AB,Aa,Ht];rfl) fun k a j=>by unfold aDC aJR;rw[DV,BM,Aa];rfl
 have hl:=q.2;have u:=ait c (b++c.Levels.Kinds.flatMap Rt) AB;exact⟨⟨q.1.trans u.1.1,I.1.trans u.1.2⟩,AB⟩
def alc (c:CW) (b:List Int) (Y:b.length≤500000) (j:Qe c):(adu c b 0=some (b++c.Levels.Users.flatMap Sr++enc c.Levels.Kinds.length++c.Levels.Kinds.flatMap Rt++(Jf c.Levels).flatMap enc)∧aaE c b 0=some (b++c.Levels.Users.flatMap Sr++enc c.Levels.Kinds.length++c.Levels.Kinds.flatMap Rt++(Jf c.Levels).flatMap enc))∧(b++c.Levels.Users.flatMap Sr++enc c.Levels.Kinds.length++c.Levels.Kinds.flatMap Rt++(Jf c.Levels).flatMap enc).length≤b.length+204080:=by
 have Z:=j.users;have z:∀x∈c.Levels.Users,(Sr x).length≤2020:=fun x J=>apm (j.names x J)
 have I:=jw (body:=aAg c) c.Levels.Users AB Sr 2020 z (fun a=>aMT c (a++enc c.Levels.Kinds.length) 0) b (fun k a i h m=>by
  have hs:=j.names _ (EU h);obtain⟨q,_,L⟩:=XB (b:=a) (k:=900000) AB AB (s:=c.Levels.Users[i].User) 2000 hs AB;unfold aAg
  rw[Ce h,q,Aa,xg AB,Aa,Ht];rfl) fun k a m=>by unfold aAg;rw[DV,BM,xg AB,Aa]
 have M:=jw (body:=aDJ c) c.Levels.Users AB Sr 2020 z (fun a=>aO9 c (a++enc c.Levels.Kinds.length) 0) b (fun k a i h m=>by
  have hs:=j.names _ (EU h);obtain⟨_,q,L⟩:=XB (b:=a) (k:=900000) AB AB (s:=c.Levels.Users[i].User) 2000 hs AB;unfold aDJ
  rw[Ce h,q,Aa,CV h,Aa,YN AB,Aa,Ht];rfl) fun k a m=>by unfold aDJ;rw[DV,BM,YN AB,Aa]
 have hl:=I.2;have he:=Oq (c.Levels.Kinds.length:Int);have O:(b++c.Levels.Users.flatMap Sr++enc c.Levels.Kinds.length).length=(b++c.Levels.Users.flatMap Sr).length+(enc c.Levels.Kinds.length).length:=EP ..;have u:=ahq c (b++c.Levels.Users.flatMap Sr++enc c.Levels.Kinds.length) AB j.kinds;have U:=u.2;rw[O]at U;exact⟨⟨I.1.trans u.1.1,M.1.trans u.1.2⟩,AB⟩
def ad6 {c:CW} (j:Qe c):qG c=some (lq c)∧yc c=some (lq c)∧(lq c).length≤700000:=by
 obtain⟨m,q,u⟩:=XB (b:=[]) (k:=0) (EG _) AB 2000 j.text AB;obtain⟨z,I,J⟩:=U2 u AB c.N;obtain⟨L,M,O⟩:=U2 J AB c.Target;obtain⟨U,Y,Z⟩:=aUK O AB c.Thread;obtain⟨a5,b5,h5⟩:=XB Z AB 2000 j.via AB;obtain⟨a6,b6,h6⟩:=aQp h5 AB j.allow j.allows;obtain⟨a7,b7,h7⟩:=aQp h6 AB j.deny j.denies;obtain⟨a8,b8,h8⟩:=U2 h7 AB (c.Levels.Users.length:Int);obtain⟨⟨a9,b9⟩,h9⟩:=alc c _ (F6 h8 AB) j;refine⟨?_,?_,F6 h9 AB⟩
 ·unfold qG;rw[m,Aa,z,Aa,L,Aa,U,Aa,a5,Aa,a6,Aa,a7,Aa,a8,Aa];exact a9
 unfold yc;rw[q,Aa,I,Aa,M,Aa,Y,Aa,b5,Aa,b6,Aa,b7,Aa,b8,Aa];exact b9
def aDz (e:AQ):List Int:=
 []++enc e.Id++JR e.Room++JR e.aY++enc e.Kind++[bif e.State then 1 else 0]++JR e.Key++enc e.Time++enc e.Depth++Q5 e.bM++Q5 e.bK++JR (Py (lq e.Content))++enc e.Hash++JR e.pz.Server++enc e.pz.Sum
def amA (l:List Int):(Py l).size=l.length:=by
 have key:∀(l:List Int) (r:ByteArray),(l.foldl (fun r n=>r.push (UInt8.ofNat n.toNat)) r).size=r.size+l.length:=by
  intro l
  induction l with
  |nil=>intro r;rfl
  |cons x l j=>intro r;rw[FZ,j,ByteArray.size_push,GI];omega
 unfold Py;rw[key];simp
def aDR {S α:Type} {body:(Int→S→Option S)→Int→S→Option S} (l:List α) (hl:l.length<1000) (f:S→α→Option S)
 (u:∀k (i:Nat) (h:i<l.length) s,body k (i:Int) s=(f s l[i]).bind fun x=>k (Am ((i:Int)+1)) x) (z:∀k s,body k (l.length:Int) s=some s) (s:S):aU body Aj 0 s=l.foldlM f s:=by
 have L:Aj=9223372036854775808:=rfl
 have key:∀n (i:Nat) s,i+n=l.length→∀m,n<m→aU body m (i:Int) s=(l.drop i).foldlM f s:=by
  intro n
  induction n with
  |zero=>
   intro i s hi m I;obtain⟨m,rfl⟩:∃q,m=q+1:=⟨m-1,AB⟩
   have :i=l.length:=AB
   subst this;rw[PK];exact z _ _
  |succ n J=>
   intro i s hi m I;obtain⟨m,rfl⟩:∃q,m=q+1:=⟨m-1,AB⟩
   have j:i<l.length:=AB
   rw[La j,UQ];show body (aU body m) _ _=(f s l[i]).bind _;rw[u _ i j,wrap_succ i AB];congr 1;funext x;exact J (i+1) x AB m AB
 exact key l.length 0 s AB Aj AB
def aU1 (w:FP) (l:List Int) (hl:l.length<1000):UD w l=l.foldlM mM w:=by
 unfold UD aWa;exact aDR l hl _ (fun k i h s=>by simp only[aNz,dec_lt h,BZ,CV h,Aa]) (fun k s=>by simp only[aNz,DV,BM]) w
def aaL (w:FP) (l:List ByteArray) (hl:l.length<1000):X3 w l=l.foldlM eI w:=by
 unfold X3 aUR;exact aDR l hl _ (fun k i h s=>by simp only[aKy,dec_lt h,BZ,CV h,Aa]) (fun k s=>by simp only[aKy,DV,BM]) w
def ale (w:FP) (l:List Bool) (hl:l.length<1000):vO w l=l.foldlM pY w:=by
 unfold vO aV5;exact aDR l hl _ (fun k i h s=>by simp only[aKc,dec_lt h,BZ,CV h,Aa]) (fun k s=>by simp only[aKc,DV,BM]) w
def an9 (w:FP) (l:List (List Int)) (hl:l.length<1000):tC w l=l.foldlM iY w:=by
 unfold tC abP;exact aDR l hl _ (fun k i h s=>by simp only[aKX,dec_lt h,BZ,CV h,Aa]) (fun k s=>by simp only[aKX,DV,BM]) w
def aPU {b c:List Int} {n:Int} (h:Nw b n=some c):mM ⟨b⟩ n=some ⟨c⟩:=by unfold mM;rw[h];rfl
def aJT {b c:List Int} {n:ByteArray} (h:SG b n=some c):eI ⟨b⟩ n=some ⟨c⟩:=by unfold eI;rw[h];rfl
def aif {b c:List Int} {n:Bool} (h:YM b n=some c):pY ⟨b⟩ n=some ⟨c⟩:=by unfold pY;rw[h];rfl
def aUe {b c:List Int} {n:List Int} (h:YI b n=some c):iY ⟨b⟩ n=some ⟨c⟩:=by unfold iY;rw[h];rfl
def aAI {b c:List Int} {n:Int} (h:Nw b n=some c):UD ⟨b⟩ [n]=some ⟨c⟩:=by
 rw[aU1 _ _ BP,UQ,aPU h];rfl
def afc {b c d:List Int} {n m:Int} (h:Nw b n=some c) (k:Nw c m=some d):UD ⟨b⟩ [n,m]=some ⟨d⟩:=by
 rw[aU1 _ _ BP,UQ,aPU h];show(mM ⟨c⟩ m).bind _=_;rw[aPU k];rfl
def aJL {b c:List Int} {n:ByteArray} (h:SG b n=some c):X3 ⟨b⟩ [n]=some ⟨c⟩:=by
 rw[aaL _ _ BP,UQ,aJT h];rfl
def aoQ {b c d:List Int} {n m:ByteArray} (h:SG b n=some c) (k:SG c m=some d):X3 ⟨b⟩ [n,m]=some ⟨d⟩:=by
 rw[aaL _ _ BP,UQ,aJT h];show(eI ⟨c⟩ m).bind _=_;rw[aJT k];rfl
def asx {b c:List Int} {n:Bool} (h:YM b n=some c):vO ⟨b⟩ [n]=some ⟨c⟩:=by
 rw[ale _ _ BP,UQ,aif h];rfl
def aoV {b c d:List Int} {n m:List Int} (h:YI b n=some c) (k:YI c m=some d):tC ⟨b⟩ [n,m]=some ⟨d⟩:=by
 rw[an9 _ _ BP,UQ,aUe h];show(iY ⟨c⟩ m).bind _=_;rw[aUe k];rfl
def amL {e:AQ} (j:Gl e):oQ e=some (aDz e)∧zi e=some (aDz e)∧(aDz e).length≤1000000:=by
 obtain⟨ac,bc,hc⟩:=ad6 j.content;obtain⟨a1,b1,h1⟩:=U2 (b:=[]) (k:=0) (EG _) AB e.Id;obtain⟨a2,b2,h2⟩:=XB h1 AB 2000 j.room AB;obtain⟨a3,b3,h3⟩:=XB h2 AB 2000 j.sender AB;obtain⟨a4,b4,h4⟩:=U2 h3 AB e.Kind;obtain⟨a5,b5,h5⟩:=aUK h4 AB e.State;obtain⟨a6,b6,h6⟩:=XB h5 AB 2000 j.key AB;obtain⟨a7,b7,h7⟩:=U2 h6 AB e.Time;obtain⟨a8,b8,h8⟩:=U2 h7 AB e.Depth;obtain⟨a9,b9,h9⟩:=ad3 h8 AB (F6 j.prev AB);obtain⟨m,q,u⟩:=ad3 h9 AB (F6 j.auth AB);obtain⟨z,I,J⟩:=XB u AB (s:=Py (lq e.Content)) 700000 (by rw[amA];exact hc) AB;obtain⟨L,M,O⟩:=U2 J AB e.Hash;obtain⟨U,Y,Z⟩:=XB O AB 2000 j.server AB;obtain⟨a14,b14,h14⟩:=U2 Z AB e.pz.Sum;refine⟨?_,?_,F6 h14 AB⟩
 ·unfold oQ
  rw[show UD aEy [e.Id]=_ from aAI a1,Aa,aoQ a2 a3,Aa,aAI a4,Aa,asx a5,Aa,aJL a6,Aa,afc a7 a8,Aa,aoV a9 m,Aa,
   ac,Aa,aJL z,Aa,aAI L,Aa,aJL U,Aa,aAI a14,Aa]
  rfl
 unfold zi;rw[b1,Aa,b2,Aa,b3,Aa,b4,Aa,b5,Aa,b6,Aa,b7,Aa,b8,Aa,b9,Aa,q,Aa,bc,Aa,I,Aa,M,Aa,Y,Aa,b14,Aa];rfl
def aD5 (l:List Int):Int:=Am (l.foldl qN ((IntKind.u64.wrap 860922984064492325).tmod 4611686018427387904))
def aTT {l:List Int} (hl:l.length≤1000000):qR l=some (aD5 l):=by
 unfold qR aNK;rw[Aa];unfold aPA adE
 rw[aHJ _ _ _ _ (.inl rfl),acT,Hu l AB qN (fun _ _=>True) (fun s=>some (Am s)) trivial (fun k s i h _=>⟨trivial,by
  simp only[aM9,dec_lt h,BZ,CV h,Aa,aHJ _ _ _ _ (.inl rfl),aHJ _ _ _ _ (.inr (.inr rfl)),arE]⟩) fun k s _=>by
  simp only[aM9,DV,BM]]
 rfl
def aaY {l:List Int} (hl:l.length≤1000000):s0 l=some (aD5 l):=by
 unfold s0;rw[show aKi=some 860922984064492325 from rfl,Aa];unfold aIU aRl
 rw[show Wu (IntKind.u64.wrap 860922984064492325) 4611686018427387904=some ((IntKind.u64.wrap 860922984064492325).tmod 4611686018427387904)from rfl,Aa,Hu l AB qN (fun _ _=>True) (fun s=>some (Am s)) trivial (fun k s i h _=>⟨trivial,by
  have e:Wu (IntKind.u64.wrap ((Ec .xor .u64 s (IntKind.u64.wrap l[i]))*1099511628211)) 4611686018427387904=some (qN s l[i]):=rfl
  simp only[aMF,dec_lt h,BZ,CV h,Aa,e]⟩) fun k s _=>by
  simp only[aMF,DV,BM]]
 rfl
def Ym (k:Int) (c:CW):CW:=
 if k=1 then c else if k=2 then{ EI with N:=c.N,Via:=c.Via }else if k=3 then{ EI with Levels:=c.Levels }else if k=4 then{ EI with N:=c.N,Allow:=c.Allow }else
 if k=5 then{ EI with N:=c.N }else if k=6 then{ EI with Allow:=c.Allow,gY:=c.gY }else if k=14 then{ EI with Target:=c.Target }else EI
def aTH {R:Type} (a b:Int) (x y:R):(bif a==b then x else y)=if a=b then x else y:=by
 by_cases h:a=b
 ·subst h;simp
 have :(a==b)=false:=LJ
 rw[this,DL h];rfl
def aae {R:Type} (p:Prop) [Decidable p] (x y:R):(if p then some x else some y)=some (if p then x else y):=by split<;>rfl
def aTM (k:Int) (c:CW):rH k c=some (Ym k c):=by
 unfold rH Ym;simp only[aTH,aae]
def texts_eq {l:List ByteArray} (h:l.length≤100):Sv l=some l:=by
 unfold Sv;rw[Np AB aA9];rfl
def aVe {l:CB} (m:l.Users.length≤100) (j:l.Kinds.length≤100):dz l=some l:=by
 unfold dz;rw[Np AB aA9,Aa,Np AB (by rw[IV];exact F6 j AB)];rfl
def aAY (k:Int):Int:=if k=2 then 18 else if k=3 then 128 else if k=4 then 34 else if k=5 then 2 else if k=6 then 96 else if k=14 then 4 else 0
def asN (k:Int):iw k=some (aAY k):=by
 by_cases m:k=2
 ·subst m;rfl
 by_cases q:k=3
 ·subst q;rfl
 by_cases u:k=4
 ·subst u;rfl
 by_cases z:k=5
 ·subst z;rfl
 by_cases j:k=6
 ·subst j;rfl
 unfold iw iV aAY;simp only[aTH,m,q,u,z,j,KN,show(k==6)=false from by simpa using j,BM,aae]
def aQL (k:Int) {c:CW} (j:Qe c):uI k c=some (Ym k c):=by
 by_cases q:k=1
 ·subst q;show(Sv c.Allow).bind (fun M=>(Sv c.gY).bind fun O=>(dz c.Levels).bind fun U=>some ({ { { c with Allow:=M }with gY:=O }with Levels:=U }))=_;rw[texts_eq j.allow,Aa,texts_eq j.deny,Aa,aVe j.users j.kinds];rfl
 unfold uI;rw[show(k==1)=false from by simpa using q,BM,asN,Aa];by_cases u:k=2
 ·subst u;rfl
 by_cases z:k=3
 ·subst z;show(dz c.Levels).bind (fun x=>some { EI with Levels:=x })=_;rw[aVe j.users j.kinds];rfl
 by_cases I:k=4
 ·subst I;show(Sv c.Allow).bind (fun x=>some { EI with N:=c.N,Allow:=x })=_;rw[texts_eq j.allow];rfl
 by_cases J:k=5
 ·subst J;rfl
 by_cases L:k=6
 ·subst L;show(Sv c.Allow).bind (fun x=>(Sv c.gY).bind fun y=>some { EI with Allow:=x,gY:=y })=_;rw[texts_eq j.allow,Aa,texts_eq j.deny];rfl
 by_cases m:k=14
 ·subst m;rfl
 have Y:aAY k=0:=by unfold aAY;simp only[u,z,I,J,L,m,KN]
 have Z:Ym k c=EI:=by unfold Ym;simp only[q,u,z,I,J,L,m,KN]
 rw[Y,Z];rfl
def Qe.strip {c:CW} (h:Qe c) (k:Int):Qe (Ym k c):=by
 have j:(0:Nat)≤2000:=AB
 unfold Ym
 repeat' split
 all_goals first|exact h|exact⟨by simp[EI,Jc,h.allow],by simp[EI,Jc,h.deny],by simp[EI,Jc,h.users],by simp[EI,Jc,h.kinds],by first|exact h.text|exact j,by first|exact h.via|exact j,by first|exact h.allows|simp[EI],by first|exact h.denies|simp[EI],by first|exact h.names|simp[EI,Jc]⟩
def Y9 (e:AQ):AQ:={ e with Content:=Ym e.Kind e.Content }
def TI (e:AQ):Prop:=Gl { e with pz:=dK }
def TI.content {e:AQ} (h:TI e):Qe e.Content:=Gl.content (e:={ e with pz:=dK }) h
def Gl.x {e:AQ} (h:Gl e):TI e:=⟨h.prev,h.auth,h.allow,h.deny,h.users,h.kinds,h.room,h.sender,h.key,h.text,h.via,El _,h.allows,h.denies,h.names⟩
def aNA {e:AQ} (j:TI e):tH e=some (Y9 e)∧sJ e=some (Y9 e):=by
 unfold tH sJ;rw[aQL _ j.content,aTM];exact⟨rfl,rfl⟩
def nJ (e:AQ):Int:=aD5 (lq e.Content)
def aAM (e:AQ):AQ:={ { Y9 e with Id:=0 }with pz:=dK }
def abV (e:AQ):Int:=aD5 (aDz (aAM e))
def TI.bare {e:AQ} (h:TI e):Gl (aAM e):=by
 have j:=h.content.strip e.Kind;exact⟨h.prev,h.auth,j.allow,j.deny,j.users,j.kinds,h.room,h.sender,h.key,j.text,j.via,by show(0:Nat)≤2000;omega,j.allows,j.denies,j.names⟩
def aS6 {e:AQ} (j:TI e):xO e=some (nJ e)∧aDN e=some (nJ e):=by
 obtain⟨a,b,h⟩:=ad6 j.content;unfold xO aDN;rw[a,b,Aa,Aa,aTT AB,aaY AB];exact⟨rfl,rfl⟩
def aaG {e:AQ} (j:TI e):yJ e=some (abV e)∧aHZ e=some (abV e):=by
 obtain⟨a,b⟩:=aNA j;obtain⟨c,d,h⟩:=amL j.bare;unfold yJ aHZ;rw[a,b,Aa,Aa];show(oQ (aAM e)).bind _=_∧(zi (aAM e)).bind _=_;rw[c,d,Aa,Aa,aTT AB,aaY AB];exact⟨rfl,rfl⟩
def Qz (s:ByteArray):Int:=bif Gq s 64 then 0 else 3
def Ux (s:ByteArray):Int:=bif Gq s 33 then 0 else 3
def YU {s:ByteArray} (hs:s.size≤9223372036854775807):bQ s=some (Qz s)∧Yc s=some (Qz s):=by
 unfold bQ zB Yc Qz;rw[aIo hs (marks:=nV) (by rw[show Bo nV=[64]from rfl];intro m j;simp only[F8,Fe,eu]at j;omega),aHA hs BU,show((Bo nV).any fun m=>Gq s m)=(Gq s 64||false)from rfl];cases Gq s 64<;>exact⟨rfl,rfl⟩
def vI {s:ByteArray} (hs:s.size≤9223372036854775807):ny s=some (Ux s)∧jy s=some (Ux s):=by
 unfold ny zB jy Ux;rw[aIo hs (marks:=o8) (by rw[show Bo o8=[33]from rfl];intro m j;simp only[F8,Fe,eu]at j;omega),aHA hs BU,show((Bo o8).any fun m=>Gq s m)=(Gq s 33||false)from rfl];cases Gq s 33<;>exact⟨rfl,rfl⟩
def aqU {l:List Int} (h:XK l=true):(58:Int)∉l:=by
 intro j;unfold XK Qv at h;simp only[DT,Ea]at h;have :=h.2 58 j;exact absurd this BU
def aeT (s:ByteArray) (hs:s.size≤2000):(splitB s (Js s)).1.size≤2000∧(58:Int)∉Bo (splitB s (Js s)).1∧(splitB s (Js s)).2.1.size≤2000:=by
 have m:Bv.size≤2000:=BU
 cases h:Js s with
 |false=>exact⟨m,by show(58:Int)∉Bo Bv;decide,m⟩
 |true=>
  have j:U7 s=true:=by
   unfold Js Gq at h;cases j:U7 s with
   |true=>rfl
   |false=>rw[j]at h;simp at h
  refine⟨F6 (extract_size _ _ _) hs,aqU ?_,F6 (extract_size _ _ _) hs⟩;unfold U7 at j;simp only[DT]at j;exact j.1.2
def any_false {α:Type} (l:List α):(l.any fun _=>false)=false:=BP
def aMf {α:Type} {body:(Int→Option Bool)→Int→Option Bool} (l:List α) (hl:l.length≤1000) (rest:Option Bool) (j:∀k (i:Nat) (h:i<l.length),body k (i:Int)=k (Am ((i:Int)+1))) (m:∀k,body k (l.length:Int)=rest):bD body Aj 0=rest:=by
 rw[Gz l (aM5 AB) (fun _=>false) false rest (fun k i h=>by rw[j k i h];rfl) m,any_false];rfl
def ahO {l:List ByteArray} (h:l.length≤1000):U6 l l=some true:=by
 unfold U6 aI6;rw[show((l.length:Int) != (l.length:Int))=false from by simp,BM];exact aMf l h _ (fun k i h=>aQI) (fun k=>aO8)
structure KO (c:CW):Prop where
 allow:c.Allow.length≤9223372036854775807
 deny:c.gY.length≤9223372036854775807
 users:c.Levels.Users.length≤9223372036854775807
 kinds:c.Levels.Kinds.length≤9223372036854775807
 text:c.Text.size≤9223372036854775807
 via:c.Via.size≤9223372036854775807
 allows:∀x∈c.Allow,x.size≤9223372036854775807
 denies:∀x∈c.gY,x.size≤9223372036854775807
 names:∀x∈c.Levels.Users,x.User.size≤9223372036854775807
structure X5 (e:AQ):Prop where
 prev:e.bM.length≤9223372036854775807
 auth:e.bK.length≤9223372036854775807
 room:e.Room.size≤9223372036854775807
 sender:e.aY.size≤9223372036854775807
 key:e.Key.size≤9223372036854775807
 server:e.pz.Server.size≤9223372036854775807
 content:KO e.Content
def Qe.wide {c:CW} (h:Qe c):KO c:=by
 obtain⟨z,I,J,L,M,O,m,q,u⟩:=h;exact⟨AB,AB,AB,AB,AB,AB,fun x j=>by have :=m x j;omega,fun x j=>by have :=q x j;omega,fun x j=>by have :=u x j;omega⟩
def Gl.wide {e:AQ} (h:Gl e):X5 e:=by
 have j:=h.prev;have m:=h.auth;have q:=h.room;have u:=h.sender;have z:=h.key;have I:=h.server;exact⟨AB,AB,AB,AB,AB,AB,h.content.wide⟩
def aHE (k:Int):o9 k=some (decide (k≥1)&&decide (k≤14))∧jg k=some (decide (k≥1)&&decide (k≤14)):=by
 unfold o9 jg;cases decide (k≥1)<;>cases decide (k≤14)<;>exact⟨rfl,rfl⟩
def Sj (n:Int):Bool:=decide (n< -1000)||decide (n>1000)
def aHy (n:Int):nE n=some (Sj n)∧SS n=some (Sj n):=by
 unfold nE SS Sj;cases decide (n< -1000)<;>cases decide (n>1000)<;>exact⟨rfl,rfl⟩
def PD (c:Int):Bool:=decide (c<33)||decide (c>126)
def aH7 (s:ByteArray):(s.toList==Bv.toList)=((s.size:Int)==0):=by
 rw[IZ];by_cases h:s=Bv
 ·subst h;rfl
 have :¬s.size=0:=fun j=>h (bytes_inj (by
  have m:Bo s=[]:=H9 (by rw[IQ];exact j)
  rw[m];rfl))
 rw[Jh h];symm;rw[Xw];omega
def aHV (s:ByteArray):Int:=if s.size=0 then 9 else if s.size>64 then 7 else bif (Bo s).any PD then 3 else 0
def aQ4 {s:ByteArray} (hs:s.size≤9223372036854775807):pV s=some (aHV s)∧lI s=some (aHV s):=by
 have q:aK7 s 0=some (bif (Bo s).any PD then 3 else 0):=by
  unfold aK7;rw[Gz (Bo s) Yr PD 3 (some 0) (fun k i h=>?_) (fun k=>?_),Jo]
  ·have h':i<s.size:=Wp
   simp only[aKs,dec_lt h',BZ,VD h,Aa,PD];cases decide ((Bo s)[i]<33)<;>cases decide ((Bo s)[i]>126)<;>rfl
  simp only[aKs,IQ,DV,BM]
 have u:aOA s 0=some (bif (Bo s).any PD then 3 else 0):=by
  unfold aOA;rw[Gz (Bo s) Yr PD 3 (some 0) (fun k i h=>?_) (fun k=>?_),Jo]
  ·have h':i<s.size:=Wp
   simp only[aPW,dec_lt h',BZ,VD h,Aa,PD];cases decide ((Bo s)[i]<33)<;>cases decide ((Bo s)[i]>126)<;>rfl
  simp only[aPW,IQ,DV,BM]
 unfold pV lI aHV;rw[aH7,q,u];by_cases j:s.size=0
 ·simp[j]
 have :((s.size:Int)==0)=false:=by rw[Xw];omega
 rw[this,DL j];by_cases m:s.size>64
 ·have :decide ((s.size:Int)>64)=true:=Dz
  rw[this,D9 m];exact⟨rfl,rfl⟩
 have :decide ((s.size:Int)>64)=false:=Dz
 rw[this,DL m];exact⟨rfl,rfl⟩
def yj (s:ByteArray):Bool:=decide ((s.size:Int)≥1)&&decide ((s.size:Int)≤32)&& !(Bo s).any PD
def anZ {s:ByteArray} (hs:s.size≤9223372036854775807):aCo s=some (yj s):=by
 unfold aCo aRU;rw[Gz (Bo s) Yr PD false (some (decide ((s.size:Int)≥1)&&decide ((s.size:Int)≤32))) (fun k i h=>?_) (fun k=>?_)]
 ·unfold yj;cases(Bo s).any PD<;>cases decide ((s.size:Int)≥1)<;>cases decide ((s.size:Int)≤32)<;>rfl
 ·have h':i<s.size:=Wp
  simp only[aOk,dec_lt h',BZ,VD h,Aa,PD];cases decide ((Bo s)[i]<33)<;>cases decide ((Bo s)[i]>126)<;>rfl
 simp only[aOk,IQ,DV,BM];cases decide ((s.size:Int)≥1)<;>cases decide ((s.size:Int)≤32)<;>rfl
def VJ (k:Int) (s:ByteArray):Bool:=if k=2 then Qz s==0 else if k=9 then yj s else true
def aav {k:Int} {s:ByteArray} (hs:s.size≤9223372036854775807):aGd k s=some (VJ k s):=by
 have q:aLA s 0=some (bif (Bo s).any PD then false else true):=by
  unfold aLA;rw[Gz (Bo s) Yr PD false (some true) (fun k i h=>?_) (fun k=>?_),Jo]
  ·have h':i<s.size:=Wp
   simp only[aOJ,dec_lt h',BZ,VD h,Aa,PD];cases decide ((Bo s)[i]<33)<;>cases decide ((Bo s)[i]>126)<;>rfl
  simp only[aOJ,IQ,DV,BM]
 unfold aGd VJ;rw[(YU hs).2,q];by_cases j:k=2
 ·subst j;rfl
 rw[show(k==2)=false from by simpa using j,DL j,BM];by_cases m:k=9
 ·subst m;unfold yj;have u:decide ((s.size:Int)≥1)= !decide ((s.size:Int)<1):=aMG
  have z:decide ((s.size:Int)≤32)= !decide ((s.size:Int)>32):=aIj
  rw[u,z];cases decide ((s.size:Int)<1)<;>cases decide ((s.size:Int)>32)<;>cases(Bo s).any PD<;>rfl
 rw[show(k != 9)=true from by simpa using m,DL m];rfl
def alV {e:AQ} (j:X5 e):aDL e=some (Ux e.Room==0&&Qz e.aY==0&&VJ e.Kind e.Key):=by
 have q:=j.room;have u:=j.sender;have z:=j.key;unfold aDL VJ;rw[(vI AB).1,(YU (s:=e.aY) AB).1,(YU (s:=e.Key) AB).1,anZ AB];simp only[Aa,bne];cases Ux e.Room==0 with
 |false=>rfl
 |true=>
  cases Qz e.aY==0 with
  |false=>rfl
  |true=>
   by_cases k2:e.Kind=2
   ·rw[k2];rfl
   by_cases m:e.Kind=9
   ·rw[m];rfl
   rw[show(e.Kind==2)=false from by simpa using k2,show(e.Kind==9)=false from by simpa using m,DL k2,DL m];rfl
def Cj {R:Type} (x y:Option R):Prop:=∃r,x=some r∧y=some r
section
variable {A R : Type}
def Cj.ret (r:R):Cj (some r) (some r):=⟨r,rfl,rfl⟩
def Cj.bind {a b:Option A} {f g:A→Option R} (h:Cj a b) (k:∀x,Cj (f x) (g x)):Cj (a.bind f) (b.bind g):=by
 obtain⟨x,rfl,rfl⟩:=h;exact k x
def Cj.bif {c:Bool} {x y j m:Option R} (q:c=true→Cj x j) (u:c=false→Cj y m):Cj (bif c then x else y) (bif c then j else m):=by
 cases c with
 |true=>exact q rfl
 |false=>exact u rfl
def Cj.of {x y:Option R} {r:R} (j:x=some r) (m:y=some r):Cj x y:=⟨r,j,m⟩
def Cj.loop {f g:(Int→Option R)→Int→Option R} (n:Nat) (u:n≤9223372036854775807) (hs:∀k k' (i:Nat),i<n→Cj (k ((i+1:Nat):Int)) (k' ((i+1:Nat):Int))→Cj (f k (i:Int)) (g k' (i:Int))) (j:∀k k',Cj (f k (n:Int)) (g k' (n:Int))):Cj (bD f Aj 0) (bD g Aj 0):=by
 have z:Aj=9223372036854775808:=rfl
 have key:∀m (i:Nat),i+m=n→∀a,m<a→Cj (bD f a (i:Int)) (bD g a (i:Int)):=by
  intro m
  induction m with
  |zero=>
   intro i hi a ha;obtain⟨a,rfl⟩:∃a',a=a'+1:=⟨a-1,AB⟩
   have :i=n:=AB
   subst this;exact j _ _
  |succ m q=>
   intro i hi a ha;obtain⟨a,rfl⟩:∃a',a=a'+1:=⟨a-1,AB⟩
   exact hs _ _ i AB (q (i+1) AB a AB)
 exact key n 0 AB Aj AB
end
def sU {i:Nat} (h:i≤9223372036854775806):Am ((i:Int)+1)=((i+1:Nat):Int):=wrap_succ i AB
def pR {α:Type} {l:List α} {i:Nat} (h:i<l.length) (hl:l.length≤9223372036854775807) (j:decide ((i:Int)>0)=true):Ai l (Am ((i:Int)-1))=some (l[i-1]' AB):=by
 have j:0<i:=PO
 rw[Po AB AB,show(i:Int)-1=((i-1:Nat):Int) by omega];exact CV AB
def aUj {l:List Int} (hl:l.length≤9223372036854775807):Cj (uz l) (cV l):=by
 unfold uz abZ cV aLl;refine Cj.loop l.length hl (fun k k' i h j=>?_) (fun k k'=>?_)
 ·simp only[aNh,aDi,aB,dec_lt h,BZ,CV h,Aa,sU (show i≤9223372036854775806 by omega)];cases decide (l[i]<0)with
  |true=>exact .ret _
  |false=>
   simp only[BM];cases m:decide ((i:Int)>0)with
   |true=>
    simp only[BZ,pR h hl m,Aa,ge_iff_le];cases decide (l[i]≤l[i-1])with
    |true=>exact .ret _
    |false=>exact j
   |false=>exact j
 simp only[aNh,aDi,DV,BM];exact .ret _
def aWl {l:List ByteArray} (hl:l.length≤9223372036854775807) (hs:∀s∈l,s.size≤9223372036854775807):Cj (XI l) (S9 l):=by
 unfold XI S9;refine Cj.bif (fun _=>.ret _) fun _=>?_;unfold aaO aJj;refine Cj.loop l.length hl (fun k k' i h j=>?_) (fun k k'=>?_)
 ·obtain⟨m,q⟩:=aQ4 (s:=l[i]) (by have :=hs _ (EU h);omega);simp only[aLj,rW,dec_lt h,BZ,CV h,Aa,m,q,sU (show i≤9223372036854775806 by omega)];exact Cj.bif (fun _=>.ret _) fun _=>j
 simp only[aLj,rW,DV,BM];exact .ret _
def ajg {c:CW} (j:KO c):Cj (Vo 4 c) (bg c):=by
 have hl:=j.allow;unfold Vo bg;rw[show((4:Int)==6)=false from rfl,BM];refine Cj.bind (Cj.bif (fun _=>.ret _) fun _=>.ret _) fun x=>Cj.bif (fun _=>.ret _) fun _=>Cj.bif (fun _=>.ret _) fun _=>?_;unfold aar abv;refine Cj.loop c.Allow.length AB (fun k k' i h m=>?_) (fun k k'=>?_)
 ·obtain⟨q,u⟩:=vI (s:=c.Allow[i]) (by have :=j.allows _ (EU h);omega);simp only[aMi,aEv,pO,dec_lt h,BZ,CV h,Aa,q,u,sU (show i≤9223372036854775806 by omega)];refine Cj.bif (fun _=>.ret _) fun _=>?_;cases z:decide ((i:Int)>0)with
  |true=>
   simp only[BZ,pR h (show c.Allow.length≤9223372036854775807 by omega) z,Aa];exact Cj.bif (fun _=>.ret _) fun _=>m
  |false=>exact m
 simp only[aMi,aEv,DV,BM];exact .ret _
def arL {l:List H6} (hl:l.length≤9223372036854775807) (hs:∀u∈l,u.User.size≤9223372036854775807):Cj (aCw l) (Xo l):=by
 unfold aCw Xo;refine Cj.bif (fun _=>.ret _) fun _=>?_;unfold ace aP1;refine Cj.loop l.length hl (fun k k' i h j=>?_) (fun k k'=>?_)
 ·obtain⟨m,q⟩:=YU (s:=l[i].User) (by have :=hs _ (EU h);omega);obtain⟨z,I⟩:=aHy l[i].N;simp only[aIE,xI,aGK,lT,dec_lt h,BZ,CV h,Aa,m,q,z,I,sU (show i≤9223372036854775806 by omega)];refine Cj.bif (fun _=>.ret _) fun _=>?_;cases J:decide ((i:Int)>0)with
  |true=>
   simp only[BZ,pR h hl J,Aa];exact Cj.bif (fun _=>.ret _) fun _=>Cj.bif (fun _=>.ret _) fun _=>j
  |false=>
   simp only[BM];exact Cj.bif (fun _=>.ret _) fun _=>j
 simp only[aIE,xI,DV,BM];exact .ret _
def ajN {l:List Ir} (hl:l.length≤9223372036854775807):Cj (aBh l) (YH l):=by
 unfold aBh YH;refine Cj.bif (fun _=>.ret _) fun _=>?_;unfold adM aMV;refine Cj.loop l.length hl (fun k k' i h j=>?_) (fun k k'=>?_)
 ·obtain⟨m,q⟩:=aHE l[i].Kind;obtain⟨u,z⟩:=aHy l[i].N;simp only[aOg,aEE,aH1,aGR,dec_lt h,BZ,CV h,Aa,m,q,u,z,sU (show i≤9223372036854775806 by omega)];refine Cj.bif (fun _=>.ret _) fun _=>?_;cases I:decide ((i:Int)>0)with
  |true=>
   simp only[BZ,pR h hl I,Aa];exact Cj.bif (fun _=>.ret _) fun _=>Cj.bif (fun _=>.ret _) fun _=>j
  |false=>
   simp only[BM];exact Cj.bif (fun _=>.ret _) fun _=>j
 simp only[aOg,aEE,DV,BM];exact .ret _
def aq8 {l:CB} (z:l.Users.length≤9223372036854775807) (I:l.Kinds.length≤9223372036854775807) (j:∀u∈l.Users,u.User.size≤9223372036854775807):Cj (bT l) (YD l):=by
 have m:aNf l 0=some (bif (Jf l).any Sj then 2 else 0):=by
  unfold aNf;rw[Gz (Jf l) (by have :Aj=9223372036854775808:=rfl;simp[Jf,this]) Sj 2 (some 0) (fun k i h=>?_) (fun k=>rfl),Jo];have J:i<7:=h;have q:Ai ([l.User,l.Message,l.State,l.gW,l.jL,l.mO,l.gy]:List Int) (i:Int)=some ((Jf l)[i]'(h)):=CV h;simp only[aVB,show decide ((i:Int)<7)=true from by simp;omega,BZ,q,Aa,(aHy _).1]
 unfold bT YD;refine Cj.bind (arL AB j) fun x=>Cj.bif (fun _=>.ret _) fun _=>Cj.bind (ajN AB) fun y=>Cj.bif (fun _=>.ret _) fun _=>?_;rw[m];simp only[(aHy _).2,Aa,Jf,dM,List.any_nil];cases Sj l.User<;>cases Sj l.Message<;>cases Sj l.State<;>cases Sj l.gW<;>cases Sj l.jL<;>cases Sj l.mO<;>cases Sj l.gy<;>exact .ret _
def TQ {α:Type} {l:List α} (h:((l.length:Int)==0)=true):l=[]:=H9 aPO
def Nq (l:CB):Bool:=((l.Users.length:Int)==0)&&((l.Kinds.length:Int)==0)&&(l.User==0)&&(l.Message==0)&&(l.State==0)&&(l.gW==0)&&(l.jL==0)&&(l.mO==0)&&(l.gy==0)
def bare_eq (l:CB):aF8 l=some (Nq l):=by
 unfold aF8 Nq;simp only[Jo,Aa,TU]
def aTu (l:CB):WR l Jc=some (Nq l):=by
 unfold WR Nq;show(bif ((l.Users.length:Int) != 0)then some true else some ((l.Kinds.length:Int) != 0)).bind _=_;simp only[bne];cases q:((l.Users.length:Int)==0)with
 |false=>rfl
 |true=>
  cases u:((l.Kinds.length:Int)==0)with
  |false=>rfl
  |true=>
   have j:=TQ q;have m:=TQ u
   have z:YE l Jc 0=some ((l.User==0)&&(l.Message==0)&&(l.State==0)&&(l.gW==0)&&(l.jL==0)&&(l.mO==0)&&(l.gy==0)):=by
    unfold YE;refine aMf l.Kinds (by rw[m];simp) _ (fun k i h=>by rw[m]at h;simp at h) (fun k=>?_);simp only[kS,DV,BM,Jo,Aa,TU];rfl
   have I:zW l Jc 0=some ((l.User==0)&&(l.Message==0)&&(l.State==0)&&(l.gW==0)&&(l.jL==0)&&(l.mO==0)&&(l.gy==0)):=by
    unfold zW;refine aMf l.Users (by rw[j];simp) _ (fun k i h=>by rw[j]at h;simp at h) (fun k=>?_);simp only[eK,DV,BM];exact z
   simp only[EL,BM,Aa,I,GK]
def aoC (l:CB):aHG l=some (Nq l):=by
 unfold aHG;rw[aTu];rfl
def ajr (l:List ByteArray):U6 l []=some ((l.length:Int)==0):=by
 cases h:((l.length:Int)==0)with
 |true=>rw[TQ h];exact ahO (l:=[]) BP
 |false=>
  unfold U6;show(bif ((l.length:Int) != 0)then some false else _)=_;simp only[bne,h,Io,BZ]
def jv (a0 j m q u z I J:Bool):Bool:=a0&&j&&m&&q&&u&&z&&I&&J
def ac8 (c:CW):UO c EI=some (jv (c.Text.toList==Bv.toList) (c.N==0) (c.Target==0) (!c.Thread) (c.Via.toList==Bv.toList) ((c.Allow.length:Int)==0) ((c.gY.length:Int)==0) (Nq c.Levels)):=by
 unfold UO jv;show(bif c.Text.toList==Bv.toList then some (c.N==0)else some false).bind _=_;simp only[show EI.Allow=[]from rfl,show EI.gY=[]from rfl,show EI.Levels=Jc from rfl,show EI.Target=0 from rfl,show EI.Thread=false from rfl,show EI.Via=Bv from rfl,ajr,aTu,Jo,Aa,TU];congr 1;cases c.Thread<;>simp
def aFG (a0 j m q u z I J:Bool):Int:=
 let v:=bif !a0 then Ec .or .i64 0 1 else 0
 let v:=bif !j then Ec .or .i64 v 2 else v
 let v:=bif !m then Ec .or .i64 v 4 else v
 let v:=bif !q then Ec .or .i64 v 8 else v
 let v:=bif !u then Ec .or .i64 v 16 else v
 let v:=bif !z then Ec .or .i64 v 32 else v
 let v:=bif !I then Ec .or .i64 v 64 else v
 bif !J then Ec .or .i64 v 128 else v
def pos_eq {α:Type} (l:List α):decide ((l.length:Int)>0)= !((l.length:Int)==0):=by
 cases h:((l.length:Int)==0)with
 |true=>have :=eq_of_beq h;rw[EL,Y7];omega
 |false=>have :=ne_of_beq_false h;rw[Io,Gi];omega
def agD (c:CW):xC c=some (aFG (c.Text.toList==Bv.toList) (c.N==0) (c.Target==0) (!c.Thread) (c.Via.toList==Bv.toList) ((c.Allow.length:Int)==0) ((c.gY.length:Int)==0) (Nq c.Levels)):=by
 unfold xC aF0 aHv aEN aDK aET aB6 aC0 aAp aFG;rw[bare_eq,pos_eq,pos_eq];simp only[Aa,bne,qB];generalize(c.Text.toList==Bv.toList)=j;generalize(c.N==0)=m;generalize(c.Target==0)=q;generalize c.Thread=u;generalize(c.Via.toList==Bv.toList)=z;generalize((c.Allow.length:Int)==0)=I;generalize((c.gY.length:Int)==0)=J;generalize Nq c.Levels=L;cases j<;>cases m<;>cases q<;>cases u<;>cases z<;>cases I<;>cases J<;>cases L<;>rfl
def asT :∀a0 j m q u z I J:Bool,(aFG a0 j m q u z I J==0)=jv a0 j m q u z I J:=OT
def MF (j m q u z I J L a0 M O U Y Z a6 a7:Bool):Bool:=(a0||j)&&(M||m)&&(O||q)&&(U||u)&&(Y||z)&&(Z||I)&&(a6||J)&&(a7||L)
def aUG {K:Int} {c:CW} {j m q u z I J L:Bool} (M:CM K Ib=some j) (O:CM K J7=some m) (U:CM K Ip=some q) (Y:CM K Le=some u) (Z:CM K LG=some z) (h5:CM K Jz=some I) (h6:CM K LM=some J) (h7:CM K LV=some L):Zp K c=some (MF j m q u z I J L (c.Text.toList==Bv.toList) (c.N==0) (c.Target==0) (!c.Thread) (c.Via.toList==Bv.toList) ((c.Allow.length:Int)==0) ((c.gY.length:Int)==0) (Nq c.Levels)):=by
 unfold Zp MF;simp only[M,O,U,Y,Z,h5,h6,h7,aoC,Jo,Aa,dS,TU]
def Gv (x r:Option Int):Option Int:=x.bind fun v=>bif v != 0 then some v else r
def EN {x r:Option Int} (h:x=some 0):Gv x r=r:=by rw[h];rfl
def NS {x y r s:Option Int} (h:Cj x y) (k:Cj r s):Cj (Gv x r) (Gv y s):=Cj.bind h fun _=>Cj.bif (fun _=>.ret _) fun _=>k
def aFr (x:Option Int):Gv x (some 0)=x:=by
 cases x with
 |none=>rfl
 |some v=>
  show(bif v != 0 then some v else some 0)=some v;by_cases h:v=0
  ·subst h;rfl
  rw[show(v != 0)=true from by simpa using h];rfl
def aDO {A:Type} (x:Option A):(x.bind fun v=>some v)=x:=by cases x<;>rfl
def Nu (K:Int) (c:CW):Option Int:=Gv (Xx K c) (Gv (Nc K c.N) (Gv (W9 K c) (Gv (Yi c) (bif K==4 then bg c else Gv (S9 c.Allow) (Gv (S9 c.gY) (YD c.Levels))))))
def frame {K M kp:Int} {br:Bool} {c:CW} {m q u z I J L O:Bool} (hU:jI K=some M) (hk:(decide (K≥1)&&decide (K≤14))=true) (U:iw K=some kp) (hb:aD1 K=some br) (h0:CM K Ib=some m) (h1:CM K J7=some q) (h2:CM K Ip=some u) (h3:CM K Le=some z) (h4:CM K LG=some I) (h5:CM K Jz=some J) (h6:CM K LM=some L) (h7:CM K LV=some O)
 (hM:∀a0 a1 a2 a3 a4 a5 a6 a7:Bool,(Ec .andNot .i64 (aFG a0 a1 a2 a3 a4 a5 a6 a7) M != 0)= !MF m q u z I J L O a0 a1 a2 a3 a4 a5 a6 a7) (Y:(br=true→kp=0)) (hA:kp=0→br=false→ML M K 0 c=some 0)
 (j:MF m q u z I J L O (c.Text.toList==Bv.toList) (c.N==0) (c.Target==0) (!c.Thread) (c.Via.toList==Bv.toList) ((c.Allow.length:Int)==0) ((c.gY.length:Int)==0) (Nq c.Levels)=true→Cj (ML M K 0 c) (Nu K c)):Cj (LH K c) (JH K c):=by
 have ht:JH K c=(jg K).bind fun x1=>(bif (!x1)then some true else(Zp K c).bind fun x4=>some (!x4)).bind fun x2=>(bif x2 then some 1 else(aD1 K).bind fun x6=>(bif x6 then(UO c EI).bind fun x9=>some x9 else some false).bind fun x7=>(bif x7 then some 0 else Nu K c)):=by
  unfold JH Nu Gv;simp only[aDO]
 rw[ht];unfold LH;obtain⟨k1,k2⟩:=aHE K;rw[hk]at k1 k2;rw[hU,k1,k2,agD,U,hb,aUG h0 h1 h2 h3 h4 h5 h6 h7,ac8];simp only[Aa,EL,BM,hM,asT];cases ho:MF m q u z I J L O (c.Text.toList==Bv.toList) (c.N==0) (c.Target==0) (!c.Thread) (c.Via.toList==Bv.toList) ((c.Allow.length:Int)==0) ((c.gY.length:Int)==0) (Nq c.Levels)with
 |false=>exact .ret _
 |true=>
  simp only[EL,BM];have j:=j ho;cases ha:jv (c.Text.toList==Bv.toList) (c.N==0) (c.Target==0) (!c.Thread) (c.Via.toList==Bv.toList) ((c.Allow.length:Int)==0) ((c.gY.length:Int)==0) (Nq c.Levels)with
  |false=>
   simp only[BM,Aa];cases br<;>exact j
  |true=>
   simp only[BZ,Aa];cases Z:kp==0 with
   |false=>
    cases br with
    |false=>exact j
    |true=>rw[Y rfl]at Z;cases Z
   |true=>
    cases br with
    |true=>exact .ret _
    |false=>
     have e:=hA (eq_of_beq Z) rfl;rw[e]at j;exact j
def Sl (M b:Int) (x r:Option Int):Option Int:=bif Ec .and .i64 M b==0 then r else Gv x r
def Zb {S B R:Type} (body:(S→B→Option R)→S→B→Option R) (n:Nat) (a:S) (b:B):aU body (n+1) a b=body (aU body n) a b:=rfl
def asf (M K:Int) (c:CW):ML M K 0 c=Sl M 1 (Qq K c) (Sl M 2 (OW K c) (Sl M 4 (Rs K c) (Sl M 8 (ZL K c) (Sl M 16 (Zu K c) (Sl M 32 (Vo K c)
 (bif Ec .and .i64 M 64 != 0 then XI c.gY else bif Ec .and .i64 M 128 != 0 then bT c.Levels else some 0)))))):=by
 have j:Aj=9223372036854775801+1+1+1+1+1+1+1:=rfl;have m:∀k,Xn M K k 0 c=Sl M 1 (Qq K c) (k 1 c):=fun k=>rfl;have q:∀k,Xn M K k 1 c=Sl M 2 (OW K c) (k 2 c):=fun k=>rfl;have u:∀k,Xn M K k 2 c=Sl M 4 (Rs K c) (k 3 c):=fun k=>rfl;have z:∀k,Xn M K k 3 c=Sl M 8 (ZL K c) (k 4 c):=fun k=>rfl;have I:∀k,Xn M K k 4 c=Sl M 16 (Zu K c) (k 5 c):=fun k=>rfl;have J:∀k,Xn M K k 5 c=Sl M 32 (Vo K c) (k 6 c):=fun k=>rfl;have L:∀k,Xn M K k 6 c=(bif Ec .and .i64 M 64 != 0 then(XI c.gY).bind fun x=>some x else bif Ec .and .i64 M 128 != 0 then(bT c.Levels).bind fun x=>some x else some 0):=fun k=>rfl;unfold ML;rw[j,Zb,m,Zb,q,Zb,u,Zb,z,Zb,I,Zb,J,Zb,L,aDO,aDO]
section
variable {c : CW} {K : Int}
def text0 (h:(c.Text.toList==Bv.toList)=true) (j:K≠12):Xx K c=some 0:=by
 have m:(c.Text.size:Int)=0:=by rw[aH7]at h;exact eq_of_beq h
 unfold Xx;rw[h,m,show(K==12)=false from by simpa using j];cases K==9<;>rfl
def Us (h:CM K Ip=some false) (j:(!c.Thread)=true):W9 K c=some 0:=by
 unfold W9;rw[h,show c.Thread=false from by simpa using j];rfl
def Qj (h:(c.Via.toList==Bv.toList)=true):Yi c=some 0:=by unfold Yi;rw[h];rfl
def JQ {l:List ByteArray} (h:((l.length:Int)==0)=true):S9 l=some 0:=by
 rw[TQ h];unfold S9 aJj;show bD (rW []) Aj 0=some 0;rw[Gz ([]:List ByteArray) BU (fun _=>false) 0 (some 0) (fun k i h=>IU) (fun k=>rfl)];rfl
def RP {l:CB} (h:Nq l=true):YD l=some 0:=by
 unfold Nq at h;simp only[DT]at h;obtain⟨⟨⟨⟨⟨⟨⟨⟨j,m⟩,q⟩,u⟩,z⟩,I⟩,J⟩,L⟩,M⟩:=h
 have O:Xo []=some 0:=by
  unfold Xo aP1;show bD (xI []) Aj 0=some 0;rw[Gz ([]:List ByteArray) BU (fun _=>false) 0 (some 0) (fun k i h=>IU) (fun k=>rfl)];rfl
 have U:YH []=some 0:=by
  unfold YH aMV;show bD (aEE []) Aj 0=some 0;rw[Gz ([]:List ByteArray) BU (fun _=>false) 0 (some 0) (fun k i h=>IU) (fun k=>rfl)];rfl
 unfold YD;rw[TQ j,TQ m,O,U,eq_of_beq q,eq_of_beq u,eq_of_beq z,eq_of_beq I,eq_of_beq J,eq_of_beq L,eq_of_beq M];rfl
def eB (m:KO c):Cj (Qq K c) (Xx K c):=by
 have I:=m.text;obtain⟨q,u⟩:=aQ4 (s:=c.Text) AB;unfold Qq aEK Xx;rw[q,u];have e:=aH7 c.Text;by_cases j:K=9
 ·subst j;cases h:(c.Text.toList==Bv.toList)with
  |false=>exact .ret _
  |true=>
   have z:(c.Text.size:Int)=0:=by rw[e]at h;exact eq_of_beq h
   rw[z];exact .ret _
 rw[show(K==9)=false from by simpa using j];cases K==12<;>cases(c.Text.toList==Bv.toList)<;>cases decide ((c.Text.size:Int)>32)<;>cases decide ((c.Text.size:Int)>400)<;>exact .ret _
def agk (j:KO c):Cj (Zu K c) (Yi c):=by
 have u:=j.via;obtain⟨m,q⟩:=YU (s:=c.Via) AB;unfold Zu Yi;rw[m,q];exact Cj.bif (fun _=>.ret _) fun _=>Cj.bif (fun _=>.ret _) fun _=>.ret _
def aNs (h:CM K Ip=some true) (j:(!c.Thread)=true):Cj (Rs K c) (W9 K c):=by
 unfold Rs W9;rw[h,show c.Thread=false from by simpa using j];cases decide (c.Target<0)<;>cases c.Target==0<;>cases K != 11<;>exact .ret _
def anG (h:CM K Ip=some true):Cj (Gv (Rs K c) (ZL K c)) (W9 K c):=by
 unfold Rs ZL W9 Gv;rw[h];cases decide (c.Target<0)<;>cases c.Target==0<;>cases K != 11<;>cases c.Thread<;>exact .ret _
def ah8 (j:KO c):Cj (Vo 6 c) (S9 c.Allow):=by
 have m:=j.allow;have :=aWl (l:=c.Allow) AB j.allows;show Cj ((XI c.Allow).bind fun x=>some x) _;rw[aDO];exact this
end
def sZ (a b:Int):decide (a≥b)= !decide (a<b):=by by_cases h:a<b<;>simp[h]<;>omega
def sW (a b:Int):decide (a≤b)= !decide (a>b):=by by_cases h:a>b<;>simp[h]<;>omega
def alL {c:CW} (hc:KO c):Cj (LH 1 c) (JH 1 c):=by
 have q:CM 1 Ib=some false:=AA
 have u:CM 1 J7=some false:=AA
 have m:CM 1 Ip=some false:=AA
 have z:CM 1 Le=some false:=AA
 have I:CM 1 LG=some false:=AA
 have J:CM 1 Jz=some false:=AA
 have L:CM 1 LM=some false:=AA
 have O:CM 1 LV=some false:=AA
 refine frame (M:=0) (kp:=0) (br:=false) rfl rfl rfl rfl q u m z I J L O OT (fun h=>Gh) (fun h h'=>rfl) fun j=>?_;unfold MF at j;simp only[OE,LQ,OM,GK,DT]at j;obtain⟨⟨⟨⟨⟨⟨⟨U,e1⟩,e2⟩,Y⟩,Z⟩,e5⟩,e6⟩,e7⟩:=j;have hL:ML 0 1 0 c=(some 0):=QC
 rw[hL];unfold Nu;rw[EN (text0 U BU),EN (show Nc 1 c.N=some 0 from rfl),EN (Us m Y),EN (Qj Z),show((1:Int)==4)=false from rfl,BM,EN (JQ e5),EN (JQ e6),RP e7];exact .ret _
def aq9 (c:CW):Cj (OW 2 c) (Nc 2 c.N):=by
 show Cj ((bif decide (c.N<0)then some true else some (decide (c.N>4))).bind fun j=>(bif j then some 2 else some 0)) ((bif decide (c.N≥0)then some (decide (c.N≤4))else some false).bind fun m=>(bif (!m)then some 2 else some 0));rw[sZ,sW];cases decide (c.N<0)<;>cases decide (c.N>4)<;>exact .ret _
def ai0 {c:CW} (m:KO c):Cj (LH 2 c) (JH 2 c):=by
 have u:CM 2 Ib=some true:=AA
 have z:CM 2 J7=some true:=AA
 have q:CM 2 Ip=some false:=AA
 have I:CM 2 Le=some false:=AA
 have J:CM 2 LG=some true:=AA
 have L:CM 2 Jz=some false:=AA
 have O:CM 2 LM=some false:=AA
 have U:CM 2 LV=some false:=AA
 refine frame (M:=19) (kp:=18) (br:=false) rfl rfl rfl rfl u z q I J L O U OT (fun h=>Gh) (fun h h'=>Gh) fun j=>?_;unfold MF at j;simp only[OE,LQ,OM,GK,DT]at j;obtain⟨⟨⟨⟨e2,Y⟩,Z⟩,e6⟩,e7⟩:=j;have hL:ML 19 2 0 c=(Gv (Qq 2 c) (Gv (OW 2 c) (Gv (Zu 2 c) (some 0)))):=QC
 rw[hL];unfold Nu;rw[EN (Us q Y),show((2:Int)==4)=false from rfl,BM,EN (JQ Z),EN (JQ e6),RP e7];exact NS (eB m) (NS (aq9 c) (NS (agk m) (.ret _)))
def anO {c:CW} (j:KO c):Cj (LH 3 c) (JH 3 c):=by
 have u:CM 3 Ib=some false:=AA
 have z:CM 3 J7=some false:=AA
 have q:CM 3 Ip=some false:=AA
 have I:CM 3 Le=some false:=AA
 have J:CM 3 LG=some false:=AA
 have L:CM 3 Jz=some false:=AA
 have O:CM 3 LM=some false:=AA
 have U:CM 3 LV=some true:=AA
 refine frame (M:=128) (kp:=128) (br:=false) rfl rfl rfl rfl u z q I J L O U OT (fun h=>Gh) (fun h h'=>Gh) fun m=>?_;unfold MF at m;simp only[OE,LQ,OM,GK,DT]at m;obtain⟨⟨⟨⟨⟨⟨Y,e1⟩,e2⟩,Z⟩,e4⟩,e5⟩,e6⟩:=m;have hL:ML 128 3 0 c=(bT c.Levels):=QC
 rw[hL];unfold Nu;rw[EN (text0 Y BU),EN (show Nc 3 c.N=some 0 from rfl),EN (Us q Z),EN (Qj e4),show((3:Int)==4)=false from rfl,BM,EN (JQ e5),EN (JQ e6)];exact aq8 j.users j.kinds j.names
def afr (c:CW):Cj (OW 4 c) (Nc 4 c.N):=by
 show Cj ((bif decide (c.N<0)then some true else some (decide (c.N>3))).bind fun j=>(bif j then some 2 else some 0)) ((bif decide (c.N≥0)then some (decide (c.N≤3))else some false).bind fun m=>(bif (!m)then some 2 else some 0));rw[sZ,sW];cases decide (c.N<0)<;>cases decide (c.N>3)<;>exact .ret _
def ajB {c:CW} (q:KO c):Cj (LH 4 c) (JH 4 c):=by
 have u:CM 4 Ib=some false:=AA
 have z:CM 4 J7=some true:=AA
 have m:CM 4 Ip=some false:=AA
 have I:CM 4 Le=some false:=AA
 have J:CM 4 LG=some false:=AA
 have L:CM 4 Jz=some true:=AA
 have O:CM 4 LM=some false:=AA
 have U:CM 4 LV=some false:=AA
 refine frame (M:=34) (kp:=34) (br:=false) rfl rfl rfl rfl u z m I J L O U OT (fun h=>Gh) (fun h h'=>Gh) fun j=>?_;unfold MF at j;simp only[OE,LQ,OM,GK,DT]at j;obtain⟨⟨⟨⟨⟨Y,e2⟩,Z⟩,e4⟩,e6⟩,e7⟩:=j;have hL:ML 34 4 0 c=(Gv (OW 4 c) (Gv (Vo 4 c) (some 0))):=QC
 rw[hL];unfold Nu;rw[EN (text0 Y BU),EN (Us m Z),EN (Qj e4),show((4:Int)==4)=true from rfl,BZ];rw[aFr];exact NS (afr c) (ajg q)
def ahm (c:CW):Cj (OW 5 c) (Nc 5 c.N):=by
 show Cj ((bif decide (c.N<0)then some true else some (decide (c.N>3))).bind fun j=>(bif j then some 2 else some 0)) ((bif decide (c.N≥0)then some (decide (c.N≤3))else some false).bind fun m=>(bif (!m)then some 2 else some 0));rw[sZ,sW];cases decide (c.N<0)<;>cases decide (c.N>3)<;>exact .ret _
def ar1 {c:CW} (hc:KO c):Cj (LH 5 c) (JH 5 c):=by
 have q:CM 5 Ib=some false:=AA
 have u:CM 5 J7=some true:=AA
 have m:CM 5 Ip=some false:=AA
 have z:CM 5 Le=some false:=AA
 have I:CM 5 LG=some false:=AA
 have J:CM 5 Jz=some false:=AA
 have L:CM 5 LM=some false:=AA
 have O:CM 5 LV=some false:=AA
 refine frame (M:=2) (kp:=2) (br:=false) rfl rfl rfl rfl q u m z I J L O OT (fun h=>Gh) (fun h h'=>Gh) fun j=>?_;unfold MF at j;simp only[OE,LQ,OM,GK,DT]at j;obtain⟨⟨⟨⟨⟨⟨U,e2⟩,Y⟩,Z⟩,e5⟩,e6⟩,e7⟩:=j;have hL:ML 2 5 0 c=(Gv (OW 5 c) (some 0)):=QC
 rw[hL];unfold Nu;rw[EN (text0 U BU),EN (Us m Y),EN (Qj Z),show((5:Int)==4)=false from rfl,BM,EN (JQ e5),EN (JQ e6),RP e7];exact NS (ahm c) (.ret _)
def ae9 {c:CW} (j:KO c):Cj (LH 6 c) (JH 6 c):=by
 have z:CM 6 Ib=some false:=AA
 have q:CM 6 J7=some false:=AA
 have u:CM 6 Ip=some false:=AA
 have I:CM 6 Le=some false:=AA
 have J:CM 6 LG=some false:=AA
 have L:CM 6 Jz=some true:=AA
 have O:CM 6 LM=some true:=AA
 have U:CM 6 LV=some false:=AA
 refine frame (M:=96) (kp:=96) (br:=false) rfl rfl rfl rfl z q u I J L O U OT (fun h=>Gh) (fun h h'=>Gh) fun m=>?_;unfold MF at m;simp only[OE,LQ,OM,GK,DT]at m;obtain⟨⟨⟨⟨⟨Y,e1⟩,e2⟩,Z⟩,e4⟩,e7⟩:=m;have hL:ML 96 6 0 c=(Gv (Vo 6 c) (XI c.gY)):=QC
 rw[hL];unfold Nu;rw[EN (text0 Y BU),EN (show Nc 6 c.N=some 0 from rfl),EN (Us u Z),EN (Qj e4),show((6:Int)==4)=false from rfl,BM,RP e7];have q:=j.deny;rw[aFr];exact NS (ah8 j) (aWl AB j.denies)
def ajz {c:CW} (q:KO c):Cj (LH 7 c) (JH 7 c):=by
 have u:CM 7 Ib=some true:=AA
 have z:CM 7 J7=some false:=AA
 have m:CM 7 Ip=some false:=AA
 have I:CM 7 Le=some false:=AA
 have J:CM 7 LG=some false:=AA
 have L:CM 7 Jz=some false:=AA
 have O:CM 7 LM=some false:=AA
 have U:CM 7 LV=some false:=AA
 refine frame (M:=1) (kp:=0) (br:=true) rfl rfl rfl rfl u z m I J L O U OT (fun h=>rfl) (fun h h'=>dN) fun j=>?_;unfold MF at j;simp only[OE,LQ,OM,GK,DT]at j;obtain⟨⟨⟨⟨⟨⟨e1,e2⟩,Y⟩,Z⟩,e5⟩,e6⟩,e7⟩:=j;have hL:ML 1 7 0 c=(Gv (Qq 7 c) (some 0)):=QC
 rw[hL];unfold Nu;rw[EN (show Nc 7 c.N=some 0 from rfl),EN (Us m Y),EN (Qj Z),show((7:Int)==4)=false from rfl,BM,EN (JQ e5),EN (JQ e6),RP e7];exact NS (eB q) (.ret _)
def afH (c:CW):Cj (OW 8 c) (Nc 8 c.N):=by
 show Cj ((bif decide (c.N<0)then some true else some (decide (c.N>1000000000))).bind fun j=>(bif j then some 2 else some 0)) ((bif decide (c.N≥0)then some (decide (c.N≤1000000000))else some false).bind fun m=>(bif (!m)then some 2 else some 0));rw[sZ,sW];cases decide (c.N<0)<;>cases decide (c.N>1000000000)<;>exact .ret _
def aoR {c:CW} (hc:KO c):Cj (LH 8 c) (JH 8 c):=by
 have q:CM 8 Ib=some false:=AA
 have u:CM 8 J7=some true:=AA
 have m:CM 8 Ip=some false:=AA
 have z:CM 8 Le=some false:=AA
 have I:CM 8 LG=some false:=AA
 have J:CM 8 Jz=some false:=AA
 have L:CM 8 LM=some false:=AA
 have O:CM 8 LV=some false:=AA
 refine frame (M:=2) (kp:=0) (br:=true) rfl rfl rfl rfl q u m z I J L O OT (fun h=>rfl) (fun h h'=>dN) fun j=>?_;unfold MF at j;simp only[OE,LQ,OM,GK,DT]at j;obtain⟨⟨⟨⟨⟨⟨U,e2⟩,Y⟩,Z⟩,e5⟩,e6⟩,e7⟩:=j;have hL:ML 2 8 0 c=(Gv (OW 8 c) (some 0)):=QC
 rw[hL];unfold Nu;rw[EN (text0 U BU),EN (Us m Y),EN (Qj Z),show((8:Int)==4)=false from rfl,BM,EN (JQ e5),EN (JQ e6),RP e7];exact NS (afH c) (.ret _)
def asa (c:CW):Cj (OW 9 c) (Nc 9 c.N):=by
 show Cj ((bif (c.N==1)then some true else some (c.N==2)).bind fun j=>(bif j then some true else some (c.N==6)).bind fun m=>(bif m then some 0 else some 2)) ((bif (c.N==1)then some true else some (c.N==2)).bind fun q=>(bif q then some true else some (c.N==6)).bind fun u=>(bif (!u)then some 2 else some 0));cases c.N==1<;>cases c.N==2<;>cases c.N==6<;>exact .ret _
def ahh {c:CW} (q:KO c):Cj (LH 9 c) (JH 9 c):=by
 have u:CM 9 Ib=some true:=AA
 have z:CM 9 J7=some true:=AA
 have m:CM 9 Ip=some false:=AA
 have I:CM 9 Le=some false:=AA
 have J:CM 9 LG=some false:=AA
 have L:CM 9 Jz=some false:=AA
 have O:CM 9 LM=some false:=AA
 have U:CM 9 LV=some false:=AA
 refine frame (M:=3) (kp:=0) (br:=true) rfl rfl rfl rfl u z m I J L O U OT (fun h=>rfl) (fun h h'=>dN) fun j=>?_;unfold MF at j;simp only[OE,LQ,OM,GK,DT]at j;obtain⟨⟨⟨⟨⟨e2,Y⟩,Z⟩,e5⟩,e6⟩,e7⟩:=j;have hL:ML 3 9 0 c=(Gv (Qq 9 c) (Gv (OW 9 c) (some 0))):=QC
 rw[hL];unfold Nu;rw[EN (Us m Y),EN (Qj Z),show((9:Int)==4)=false from rfl,BM,EN (JQ e5),EN (JQ e6),RP e7];exact NS (eB q) (NS (asa c) (.ret _))
def anf (c:CW):Cj (OW 10 c) (Nc 10 c.N):=by
 show Cj ((bif decide (c.N<1)then some true else some (decide (c.N>10000))).bind fun j=>(bif j then some 2 else some 0)) ((bif decide (c.N≥1)then some (decide (c.N≤10000))else some false).bind fun m=>(bif (!m)then some 2 else some 0));rw[sZ,sW];cases decide (c.N<1)<;>cases decide (c.N>10000)<;>exact .ret _
def atH {c:CW} (hc:KO c):Cj (LH 10 c) (JH 10 c):=by
 have q:CM 10 Ib=some false:=AA
 have u:CM 10 J7=some true:=AA
 have m:CM 10 Ip=some false:=AA
 have z:CM 10 Le=some false:=AA
 have I:CM 10 LG=some false:=AA
 have J:CM 10 Jz=some false:=AA
 have L:CM 10 LM=some false:=AA
 have O:CM 10 LV=some false:=AA
 refine frame (M:=2) (kp:=0) (br:=true) rfl rfl rfl rfl q u m z I J L O OT (fun h=>rfl) (fun h h'=>dN) fun j=>?_;unfold MF at j;simp only[OE,LQ,OM,GK,DT]at j;obtain⟨⟨⟨⟨⟨⟨U,e2⟩,Y⟩,Z⟩,e5⟩,e6⟩,e7⟩:=j;have hL:ML 2 10 0 c=(Gv (OW 10 c) (some 0)):=QC
 rw[hL];unfold Nu;rw[EN (text0 U BU),EN (Us m Y),EN (Qj Z),show((10:Int)==4)=false from rfl,BM,EN (JQ e5),EN (JQ e6),RP e7];exact NS (anf c) (.ret _)
def ah3 {c:CW} (q:KO c):Cj (LH 11 c) (JH 11 c):=by
 have u:CM 11 Ib=some true:=AA
 have z:CM 11 J7=some false:=AA
 have m:CM 11 Ip=some true:=AA
 have I:CM 11 Le=some true:=AA
 have J:CM 11 LG=some false:=AA
 have L:CM 11 Jz=some false:=AA
 have O:CM 11 LM=some false:=AA
 have U:CM 11 LV=some false:=AA
 refine frame (M:=13) (kp:=0) (br:=true) rfl rfl rfl rfl u z m I J L O U OT (fun h=>rfl) (fun h h'=>dN) fun j=>?_;unfold MF at j;simp only[OE,LQ,OM,GK,DT]at j;obtain⟨⟨⟨⟨e1,Y⟩,Z⟩,e6⟩,e7⟩:=j;have hL:ML 13 11 0 c=(Gv (Qq 11 c) (Gv (Rs 11 c) (Gv (ZL 11 c) (some 0)))):=QC
 rw[hL];unfold Nu;rw[EN (show Nc 11 c.N=some 0 from rfl),EN (Qj Y),show((11:Int)==4)=false from rfl,BM,EN (JQ Z),EN (JQ e6),RP e7];rw[aFr,aFr];exact NS (eB q) (anG m)
def apo {c:CW} (q:KO c):Cj (LH 12 c) (JH 12 c):=by
 have u:CM 12 Ib=some true:=AA
 have z:CM 12 J7=some false:=AA
 have m:CM 12 Ip=some true:=AA
 have I:CM 12 Le=some false:=AA
 have J:CM 12 LG=some false:=AA
 have L:CM 12 Jz=some false:=AA
 have O:CM 12 LM=some false:=AA
 have U:CM 12 LV=some false:=AA
 refine frame (M:=5) (kp:=0) (br:=true) rfl rfl rfl rfl u z m I J L O U OT (fun h=>rfl) (fun h h'=>dN) fun j=>?_;unfold MF at j;simp only[OE,LQ,OM,GK,DT]at j;obtain⟨⟨⟨⟨⟨e1,Y⟩,Z⟩,e5⟩,e6⟩,e7⟩:=j;have hL:ML 5 12 0 c=(Gv (Qq 12 c) (Gv (Rs 12 c) (some 0))):=QC
 rw[hL];unfold Nu;rw[EN (show Nc 12 c.N=some 0 from rfl),EN (Qj Z),show((12:Int)==4)=false from rfl,BM,EN (JQ e5),EN (JQ e6),RP e7];exact NS (eB q) (NS (aNs m Y) (.ret _))
def akM {c:CW} (q:KO c):Cj (LH 13 c) (JH 13 c):=by
 have u:CM 13 Ib=some true:=AA
 have z:CM 13 J7=some false:=AA
 have m:CM 13 Ip=some true:=AA
 have I:CM 13 Le=some false:=AA
 have J:CM 13 LG=some false:=AA
 have L:CM 13 Jz=some false:=AA
 have O:CM 13 LM=some false:=AA
 have U:CM 13 LV=some false:=AA
 refine frame (M:=5) (kp:=0) (br:=true) rfl rfl rfl rfl u z m I J L O U OT (fun h=>rfl) (fun h h'=>dN) fun j=>?_;unfold MF at j;simp only[OE,LQ,OM,GK,DT]at j;obtain⟨⟨⟨⟨⟨e1,Y⟩,Z⟩,e5⟩,e6⟩,e7⟩:=j;have hL:ML 5 13 0 c=(Gv (Qq 13 c) (Gv (Rs 13 c) (some 0))):=QC
 rw[hL];unfold Nu;rw[EN (show Nc 13 c.N=some 0 from rfl),EN (Qj Z),show((13:Int)==4)=false from rfl,BM,EN (JQ e5),EN (JQ e6),RP e7];exact NS (eB q) (NS (aNs m Y) (.ret _))
def ajb {c:CW} (q:KO c):Cj (LH 14 c) (JH 14 c):=by
 have u:CM 14 Ib=some true:=AA
 have z:CM 14 J7=some false:=AA
 have m:CM 14 Ip=some true:=AA
 have I:CM 14 Le=some false:=AA
 have J:CM 14 LG=some false:=AA
 have L:CM 14 Jz=some false:=AA
 have O:CM 14 LM=some false:=AA
 have U:CM 14 LV=some false:=AA
 refine frame (M:=5) (kp:=4) (br:=false) rfl rfl rfl rfl u z m I J L O U OT (fun h=>Gh) (fun h h'=>Gh) fun j=>?_;unfold MF at j;simp only[OE,LQ,OM,GK,DT]at j;obtain⟨⟨⟨⟨⟨e1,Y⟩,Z⟩,e5⟩,e6⟩,e7⟩:=j;have hL:ML 5 14 0 c=(Gv (Qq 14 c) (Gv (Rs 14 c) (some 0))):=QC
 rw[hL];unfold Nu;rw[EN (show Nc 14 c.N=some 0 from rfl),EN (Qj Z),show((14:Int)==4)=false from rfl,BM,EN (JQ e5),EN (JQ e6),RP e7];exact NS (eB q) (NS (aNs m Y) (.ret _))
def anD (k:Int) {c:CW} (j:KO c):Cj (LH k c) (JH k c):=by
 cases m:decide (k≥1)&&decide (k≤14)with
 |false=>
  obtain⟨q,k2⟩:=aHE k;rw[m]at q k2
  have f:∀n:Int,1≤n→n≤14→(k==n)=false:=fun n u z=>by
   rw[Xw];rintro rfl;rw[JI (show k≥1 from u),JI z]at m;cases m
  have I:jI k=some 0:=by
   unfold jI tq xw;rw[f 2 BU BU,f 3 BU BU,f 4 BU BU,f 5 BU BU,f 8 BU BU,f 10 BU BU,f 6 BU BU,f 7 BU BU,f 9 BU BU,f 11 BU BU,f 12 BU BU,f 13 BU BU,f 14 BU BU];rfl
  unfold LH JH;rw[I,q,k2];exact .ret _
 |true=>
  simp only[DT,Gi]at m;have :k=1∨k=2∨k=3∨k=4∨k=5∨k=6∨k=7∨k=8∨k=9∨k=10∨k=11∨k=12∨k=13∨k=14:=AB
  rcases this with rfl|rfl|rfl|rfl|rfl|rfl|rfl|rfl|rfl|rfl|rfl|rfl|rfl|rfl
  ·exact alL j
  ·exact ai0 j
  ·exact anO j
  ·exact ajB j
  ·exact ar1 j
  ·exact ae9 j
  ·exact ajz j
  ·exact aoR j
  ·exact ahh j
  ·exact atH j
  ·exact ah3 j
  ·exact apo j
  ·exact akM j
  exact ajb j
def OL {α:Type} (p:α→α→Bool) (a b:List α):Bool:=((a.length:Int)==(b.length:Int))&& !((a.zip b).any fun x=> !p x.1 x.2)
def nH {α R:Type} {body:(Int→Option R)→Int→Option R} (p:α→α→Bool) (a b:List α) (ha:a.length≤1000) (j:a.length=b.length) (bad:R) (rest:Option R)
 (m:∀k (i:Nat) (h:i<a.length) (h':i<b.length),body k (i:Int)=bif !p a[i] b[i]then some bad else k (Am ((i:Int)+1))) (q:∀k,body k (a.length:Int)=rest):bD body Aj 0=bif (a.zip b).any fun x=> !p x.1 x.2 then some bad else rest:=by
 have hl:(a.zip b).length=a.length:=Dz
 refine Gz (a.zip b) (by rw[hl];exact aM5 AB) (fun x=> !p x.1 x.2) bad rest (fun k i h=>?_) (fun k=>by rw[hl];exact q k);have u:i<a.length:=AB
 have z:i<b.length:=AB
 rw[m k i u z,aQ8]
def len_eq {α:Type} {a b:List α} (h:((a.length:Int)==(b.length:Int))=true):a.length=b.length:=aPO
def Ve (x y:ByteArray):Bool:=x.toList==y.toList
def XC (x y:H6):Bool:=x.User.toList==y.User.toList&&x.N==y.N
def Uc (x y:Ir):Bool:=x.Kind==y.Kind&&x.N==y.N
def aFm {a b:List ByteArray} (ha:a.length≤1000):vF a b=some (OL Ve a b)∧U6 a b=some (OL Ve a b):=by
 unfold vF U6 OL;simp only[bne];cases h:((a.length:Int)==(b.length:Int))with
 |false=>exact⟨rfl,rfl⟩
 |true=>
  have j:=len_eq h;simp only[EL,BM,GK];unfold aTo aI6
  rw[nH Ve a b ha j false (some true) (fun k i h h'=>by simp only[aLH,dec_lt h,BZ,CV h,CV h',Aa];rfl) (fun k=>by simp only[aLH,DV,BM]),
   nH Ve a b ha j false (some true) (fun k i h h'=>by simp only[aA0,dec_lt h,BZ,CV h,CV h',Aa];rfl) (fun k=>aO8)]
  cases(a.zip b).any fun x=> !Ve x.1 x.2<;>exact⟨rfl,rfl⟩
def amd {a b:List H6} (ha:a.length≤1000):aCg a b=some (OL XC a b):=by
 unfold aCg OL;simp only[bne];cases h:((a.length:Int)==(b.length:Int))with
 |false=>rfl
 |true=>
  have j:=len_eq h;simp only[EL,BM,GK];unfold aUQ;rw[nH XC a b ha j false (some true) (fun k i h h'=>by simp only[aPd,dec_lt h,BZ,CV h,CV h',Aa,aEg,XC,OM]) (fun k=>by simp only[aPd,DV,BM])];cases(a.zip b).any fun x=> !XC x.1 x.2<;>rfl
def ajm {a b:List Ir} (ha:a.length≤1000):aCs a b=some (OL Uc a b):=by
 unfold aCs OL;simp only[bne];cases h:((a.length:Int)==(b.length:Int))with
 |false=>rfl
 |true=>
  have j:=len_eq h;simp only[EL,BM,GK];unfold aSe;rw[nH Uc a b ha j false (some true) (fun k i h h'=>by simp only[aNd,dec_lt h,BZ,CV h,CV h',Aa,aFJ,Uc,OM]) (fun k=>by simp only[aNd,DV,BM])];cases(a.zip b).any fun x=> !Uc x.1 x.2<;>rfl
def aA5 (a b:CB):Bool:=(a.User==b.User)&&(a.Message==b.Message)&&(a.State==b.State)&&(a.gW==b.gW)&&(a.jL==b.jL)&&(a.mO==b.mO)&&(a.gy==b.gy)
def aGc (a b:CB):Bool:=OL XC a.Users b.Users&&(OL Uc a.Kinds b.Kinds&&aA5 a b)
def ani {a b:CB} (j:a.Users.length≤1000) (m:a.Kinds.length≤1000):WR a b=some (aGc a b):=by
 unfold WR aGc OL;simp only[bne];cases q:((a.Users.length:Int)==(b.Users.length:Int))with
 |false=>rfl
 |true=>
  cases u:((a.Kinds.length:Int)==(b.Kinds.length:Int))with
  |false=>simp
  |true=>
   have z:=len_eq q;have ek:=len_eq u
   have I:YE a b 0=bif (a.Kinds.zip b.Kinds).any fun x=> !Uc x.1 x.2 then some false else some (aA5 a b):=by
    unfold YE;refine nH Uc a.Kinds b.Kinds m ek false (some (aA5 a b)) (fun k i h h'=>?_) (fun k=>?_)
    ·simp only[kS,dec_lt h,BZ,CV h,CV h',Aa,oO,Uc,bne];cases a.Kinds[i].Kind==b.Kinds[i].Kind<;>cases a.Kinds[i].N==b.Kinds[i].N<;>rfl
    simp only[kS,DV,BM,Jo,Aa,TU];rfl
   simp only[EL,BM,Aa,GK];unfold zW
   rw[nH XC a.Users b.Users j z false (YE a b 0) (fun k i h h'=>by
    simp only[eK,dec_lt h,BZ,CV h,CV h',Aa,xU,XC,bne]
    cases a.Users[i].User.toList==b.Users[i].User.toList<;>cases a.Users[i].N==b.Users[i].N<;>rfl) (fun k=>by simp only[eK,DV,BM]),I]
   cases(a.Users.zip b.Users).any fun x=> !XC x.1 x.2<;>cases(a.Kinds.zip b.Kinds).any fun x=> !Uc x.1 x.2<;>rfl
def aEl (a b:CW):Bool:=(a.Text.toList==b.Text.toList)&&(a.N==b.N)&&(a.Target==b.Target)&&(a.Thread==b.Thread)&&(a.Via.toList==b.Via.toList)&&OL Ve a.Allow b.Allow&&OL Ve a.gY b.gY&&aGc a.Levels b.Levels
def alg {a:CW} (b:CW) (ha:Qe a):UO a b=some (aEl a b):=by
 have j:=ha.allow;have m:=ha.deny;have q:=ha.users;have u:=ha.kinds;unfold UO aEl;rw[(aFm (a:=a.Allow) AB).2,(aFm (a:=a.gY) AB).2,ani (a:=a.Levels) AB AB];simp only[Jo,Aa,TU]
def amG {a:CW} (b:CW) (ha:Qe a):aF4 a b=some (aEl a b):=by
 have L:=ha.allow;have M:=ha.deny;have O:=ha.users;have U:=ha.kinds;unfold aF4 aEl aGc aA5;rw[(aFm (a:=a.Allow) AB).1,(aFm (a:=a.gY) AB).1,amd (a:=a.Levels.Users) AB,ajm (a:=a.Levels.Kinds) AB];simp only[Jo,Aa,TU,dS,bne];generalize(a.Text.toList==b.Text.toList)=j;generalize(a.N==b.N)=m;generalize(a.Target==b.Target)=q;generalize(a.Thread==b.Thread)=u;generalize(a.Via.toList==b.Via.toList)=z;generalize OL Ve a.Allow b.Allow=I;generalize OL Ve a.gY b.gY=J;generalize OL XC a.Levels.Users b.Levels.Users=Y;generalize OL Uc a.Levels.Kinds b.Levels.Kinds=Z;cases j<;>cases m<;>cases q<;>cases u<;>cases z<;>cases I<;>cases J<;>first|rfl|(simp only[EL,Bool.or_self,BM,GK,Bool.and_self,Bool.and_assoc])
def alS {e:AQ} (j:X5 e) (v:Bool):Cj (Xv e v) ((SH e v).bind fun m=>(bif (m != 0)then some m else(JH e.Kind e.Content).bind fun I=>some I)):=by
 have h1:=j.room;have h2:=j.sender;have h3:=j.key;have h4:=j.prev;have h5:=j.auth;unfold Xv SH;rw[alV j,(vI (s:=e.Room) AB).2,(YU (s:=e.aY) AB).2,aav AB];cases v with
 |true=>exact .ret _
 |false=>
  simp only[BM,Aa,bne,Jo,dS];generalize(Ux e.Room==0)=a;generalize(Qz e.aY==0)=b;generalize VJ e.Kind e.Key=J;cases a with
  |false=>exact .ret _
  |true=>
   cases b with
   |false=>exact .ret _
   |true=>
    cases J with
    |false=>exact .ret _
    |true=>
     simp only[EL,Bool.or_self,Bool.and_self,BM,aCr];refine Cj.bif (fun _=>.ret _) fun _=>Cj.bif (fun _=>.ret _) fun hlen=>?_;simp only[jW,Y7]at hlen;obtain⟨L,M,O⟩:=aUj (l:=e.bM) AB;obtain⟨U,Y,Z⟩:=aUj (l:=e.bK) AB;rw[M,Y,O,Z];simp only[Aa,Jo,dS,aCr];cases L with
     |false=>exact .ret _
     |true=>
     cases U with
     |false=>exact .ret _
     |true=>
     simp only[EL,BM]
     have hs:decide ((Am ((e.bM.length:Int)+(e.bK.length:Int)))>0)=(decide ((e.bM.length:Int)>0)||decide ((e.bK.length:Int)>0)):=by
      rw[Po AB AB];by_cases u:(e.bM.length:Int)>0
      ·rw[JI u,JI AB];rfl
      by_cases z:(e.bK.length:Int)>0
      ·rw[JI z,JI AB,OE]
      rw[Jh u,Jh z,Jh AB];rfl
     rw[hs];generalize(bif ((e.bM.length:Int)==0)then !e.Kind==1 else false)=p;generalize(bif (e.Kind==1)then(decide ((e.bM.length:Int)>0)||decide ((e.bK.length:Int)>0))else false)=q;cases p with
     |true=>exact .ret _
     |false=>
      cases q with
      |true=>exact .ret _
      |false=>exact Cj.bind (anD e.Kind j.content) fun x=>.ret _
def aj2 {e:AQ} (m:X5 e):Cj (aBz e) (gJ e):=by
 have j:=alS m;unfold aBz gJ aB9;rw[show dF e.Kind=TW e.Kind from rfl];simp only[aCr,bne,Jo,Aa];refine Cj.bif (fun _=>j _) fun _=>Cj.bif (fun _=>j _) fun _=>?_;have hs:∃b,TW e.Kind=some b:=by unfold TW;cases decide (e.Kind≥1)<;>cases decide (e.Kind≤10)<;>exact⟨_,rfl⟩
 obtain⟨b,q⟩:=hs;rw[q];simp only[Aa,aCr];refine Cj.bif (fun _=>j _) fun _=>Cj.bif (fun _=>?_) fun _=>j _;cases e.Kind==2 with
 |true=>exact j _
 |false=>exact j _
def aRH {e:AQ} (j:TI e):kK e=some (nJ e==e.Hash)∧aE1 e=some (nJ e==e.Hash):=by
 unfold kK aE1;rw[(aS6 j).1,(aS6 j).2];exact⟨rfl,rfl⟩
def ajX {e:AQ} (j:TI e) (v:Bool):Cj (dJ e v) (lU e v):=by
 have I:e.aY.size≤2000:=j.sender;unfold dJ lU;obtain⟨m,q⟩:=aaG j;obtain⟨u,z⟩:=jF (s:=e.aY) AB;rw[m,q,u,z];refine Cj.bif (fun _=>.ret _) fun _=>?_;simp only[Aa];refine Cj.bif (fun _=>.ret _) fun _=>?_;unfold SPr aAe;show Cj (bif !((e.pz.Server.toList==(splitB e.aY (Js e.aY)).2.1.toList)&&((e.pz.Sum==e.Id)&&true))then some 12 else some 0) _;simp only[bne];cases(e.pz.Server.toList==(splitB e.aY (Js e.aY)).2.1.toList)<;>cases(e.pz.Sum==e.Id)<;>exact .ret _
def JZ {a:Int} {c:Bool} {X:Option Int} (h:(bif c then some a else X)=some 0) (ha:a≠0):c=false∧X=some 0:=by
 cases c with
 |true=>exact absurd (D5 h) ha
 |false=>exact⟨rfl,h⟩
def Tj {a:Int} {x:Option Int} (h:(bif a != 0 then some a else x)=some 0):a=0∧x=some 0:=by
 by_cases ha:a=0
 ·subst ha;exact⟨rfl,h⟩
 rw[show(a != 0)=true from by simpa using ha]at h;exact absurd (D5 h) ha
def firsts {α R:Type} {body:(Int→Option R)→Int→Option R} {ok:R} (l:List α) (hl:l.length≤9223372036854775807) (P:Nat→Prop)
 (I:∀k (i:Nat),i<l.length→body k (i:Int)=some ok→P i∧k ((i+1:Nat):Int)=some ok) (u:Nat) (h:bD body Aj (u:Int)=some ok):∀i,u≤i→i<l.length→P i:=by
 have key:∀n (i:Nat) m,i+n=l.length→n<m→bD body m (i:Int)=some ok→∀j,i≤j→j<l.length→P j:=by
  intro n
  induction n with
  |zero=>intro i m hi _ _ j q z;omega
  |succ n J=>
   intro i m hi O L j q z;obtain⟨m,rfl⟩:∃M,m=M+1:=⟨m-1,AB⟩
   obtain⟨a,b⟩:=I (bD body m) i AB L;rcases aKb q with rfl|q
   ·exact a
   exact J (i+1) m AB AB b j q z
 intro i q z;have U:Aj=9223372036854775808:=rfl;exact key (l.length-u) u Aj AB AB h i q z
def qO {α:Type} {l:List α} {Q:α→Prop} (h:∀i,0≤i→i<l.length→∀x,l[i]? =some x→Q x):∀x∈l,Q x:=fun x j=>by
 obtain⟨i,hi,rfl⟩:=Ia j;exact h i (El _) hi _ (Dj hi)
def aqs (s:ByteArray) (a b:Nat) (j:b≤s.size):(s.extract a b).size=b-a:=by rw[aN6];omega
def aT8 {l:List Int} {p:Int→Bool} (h:Qv l p=true):l.length≤32:=(aR8 h).2
def wI {s:ByteArray} {m:Int} (h:Gq s m=true):s.size≤100:=by
 unfold Gq U7 at h;simp only[DT,Gi]at h;have u:=h.2.1.1;have j:=aT8 h.2.1.2
 have q:(Bo (RQ s)).length≤32:=by
  have :=h.2.2;unfold YZ at this;simp only[DT]at this;exact aT8 this.1.1
 rw[IQ]at j q;unfold Ua at j;unfold RQ at q;rw[aqs _ _ _ AB]at j q;omega
def adV {s:ByteArray} (hs:s.size≤9223372036854775807) (h:Yc s=some 0):s.size≤100∧Gq s 64=true:=by
 rw[(YU hs).2]at h;have h:=D5 h;unfold Qz at h;cases j:Gq s 64 with
 |true=>exact⟨wI j,rfl⟩
 |false=>rw[j]at h;cases h
def aeO {s:ByteArray} (hs:s.size≤9223372036854775807) (h:jy s=some 0):s.size≤100∧Gq s 33=true:=by
 rw[(vI hs).2]at h;have h:=D5 h;unfold Ux at h;cases j:Gq s 33 with
 |true=>exact⟨wI j,rfl⟩
 |false=>rw[j]at h;cases h
def ad8 {s:ByteArray} (hs:s.size≤9223372036854775807) (h:lI s=some 0):s.size≤100:=by
 rw[(aQ4 hs).2]at h;have h:=D5 h;unfold aHV at h;split at h
 ·omega
 split at h
 ·cases h
 omega
def abO {l:List ByteArray} (hl:l.length≤9223372036854775807) (hs:∀s∈l,s.size≤9223372036854775807) (h:S9 l=some 0):l.length≤100∧∀s∈l,s.size≤100:=by
 unfold S9 at h;obtain⟨q,h⟩:=JZ h BU;refine⟨by have :=Jk q;omega,qO (firsts l hl (fun i=>∀x,l[i]? =some x→x.size≤100) (fun k i hi j=>?_) 0 h)⟩;unfold rW at j;rw[Ce hi]at j;obtain⟨x,u,j⟩:=Dh j;obtain⟨e,j⟩:=Tj j;subst e;rw[wrap_succ i AB]at j;exact⟨fun y m=>by rw[Dj hi]at m;obtain rfl:=D5 m;exact ad8 (hs _ (EU hi)) u,j⟩
def ajV {c:CW} (hl:c.Allow.length≤9223372036854775807) (hs:∀s∈c.Allow,s.size≤9223372036854775807) (h:bg c=some 0):c.Allow.length≤100∧∀s∈c.Allow,s.size≤100:=by
 unfold bg at h;obtain⟨x,_,h⟩:=Dh h;obtain⟨_,h⟩:=JZ h BU;obtain⟨I,h⟩:=JZ h BU;refine⟨by have :=Jk I;omega,qO (firsts c.Allow hl (fun i=>∀x,c.Allow[i]? =some x→x.size≤100) (fun k i hi j=>?_) 0 h)⟩;unfold aEv pO at j;rw[Ce hi]at j;obtain⟨x,J,j⟩:=Dh j;obtain⟨e,j⟩:=JZ j BU;have m:x=0:=SB
 subst m;refine⟨fun y q=>by rw[Dj hi]at q;obtain rfl:=D5 q;exact(aeO (hs _ (EU hi)) J).1,?_⟩;cases u:decide ((i:Int)>0)with
 |true=>
  rw[u,BZ]at j;obtain⟨y,_,j⟩:=Dh j;obtain⟨z,_,j⟩:=Dh j;obtain⟨_,j⟩:=JZ j BU
  rwa [wrap_succ i AB]at j
 |false=>
  rw[u,BM,BM]at j
  rwa [wrap_succ i AB]at j
def aez {l:List H6} (hl:l.length≤9223372036854775807) (hs:∀u∈l,u.User.size≤9223372036854775807) (h:Xo l=some 0):l.length≤100∧∀u∈l,u.User.size≤100:=by
 unfold Xo at h;obtain⟨O,h⟩:=JZ h BU;refine⟨by have :=Jk O;omega,qO (firsts l hl (fun i=>∀x,l[i]? =some x→x.User.size≤100) (fun k i hi m=>?_) 0 h)⟩
 have I:∀v,lT l (i:Int) k v=some 0→k ((i+1:Nat):Int)=some 0:=fun v j=>by
  unfold lT at j;obtain⟨_,j⟩:=JZ j BU;obtain⟨y,_,j⟩:=Dh j;obtain⟨z,_,j⟩:=Dh j;obtain⟨_,j⟩:=JZ j BU
  rwa [wrap_succ i AB]at j
 unfold xI at m;rw[Ce hi]at m;obtain⟨x,J,U⟩:=Dh m;obtain⟨e,hd⟩:=JZ U BU;have q:x=0:=SB
 rw[q]at J;refine⟨fun y L=>by rw[Dj hi]at L;obtain rfl:=D5 L;exact(adV (hs _ (EU hi)) J).1,?_⟩;cases M:decide ((i:Int)>0)with
 |true=>
  rw[M,BZ]at hd;obtain⟨y,_,Y⟩:=Dh hd;obtain⟨z,_,Z⟩:=Dh Y;exact I _ Z
 |false=>
  rw[M,BM]at hd;exact I _ hd
def afQ {l:List Ir} (h:YH l=some 0):l.length≤100:=by
 unfold YH at h;obtain⟨j,_⟩:=JZ h BU;have :=Jk j;omega
def empty_of {s:ByteArray} (h:(s.toList==Bv.toList)=true):s.size≤100:=by rw[aH7]at h;have :=eq_of_beq h;omega
def aSk {l:CB} (h:Nq l=true):l.Users=[]∧l.Kinds=[]:=by
 unfold Nq at h;simp only[DT]at h;exact⟨TQ h.1.1.1.1.1.1.1.1,TQ h.1.1.1.1.1.1.1.2⟩
def aqI {k:Int} {c:CW} (J:KO c) (h:JH k c=some 0):Qe c:=by
 unfold JH at h;rw[(aHE k).2,Aa]at h;obtain⟨x2,M,h⟩:=Dh h;obtain⟨e2,h⟩:=JZ h BU;subst e2
 have I:Zp k c=some true:=by
  cases hk:(decide (k≥1)&&decide (k≤14))with
  |false=>rw[hk]at M;cases M
  |true=>
   rw[hk]at M;obtain⟨y,O,L⟩:=Dh (show(Zp k c).bind (fun x4=>some (!x4))=some false from M);have L:=D5 L;cases y with
   |true=>exact O
   |false=>cases L
 obtain⟨x6,_,h⟩:=Dh h;obtain⟨x7,U,h⟩:=Dh h;cases x7 with
 |true=>
  have L:jv (c.Text.toList==Bv.toList) (c.N==0) (c.Target==0) (!c.Thread) (c.Via.toList==Bv.toList) ((c.Allow.length:Int)==0) ((c.gY.length:Int)==0) (Nq c.Levels)=true:=by
   cases x6 with
   |false=>cases U
   |true=>rw[ac8]at U;exact D5 U
  unfold jv at L;simp only[DT]at L;obtain⟨⟨⟨⟨⟨⟨⟨t1,_⟩,_⟩,_⟩,t5⟩,t6⟩,t7⟩,t8⟩:=L;have p:=aSk t8;have q1:=empty_of t1;have q2:=empty_of t5;have a1:=TQ t6;have a2:=TQ t7;refine⟨?_,?_,?_,?_,AB,AB,?_,?_,?_⟩<;>first|rw[a1]|rw[a2]|rw[p.1]|rw[p.2]
  all_goals first|exact El _|exact fun x hx=>absurd hx Fe
 |false=>
  rw[BM]at h;obtain⟨x11,j,h⟩:=Dh h;obtain⟨e,h⟩:=Tj h;subst e;obtain⟨uH,_,h⟩:=Dh h;obtain⟨_,h⟩:=Tj h;obtain⟨x15,_,h⟩:=Dh h;obtain⟨_,h⟩:=Tj h;obtain⟨x17,q,h⟩:=Dh h;obtain⟨e,h⟩:=Tj h;subst e
  have ht:c.Text.size≤2000:=by
   unfold Xx at j;cases h9:k==9 with
   |true=>
    rw[h9,BZ]at j;cases Z:(c.Text.toList==Bv.toList)with
    |true=>have :=empty_of Z;omega
    |false=>
     rw[Z,BM]at j;obtain⟨y,O,j⟩:=Dh j;obtain rfl:=D5 j;have :=ad8 J.text O;omega
   |false=>
    rw[h9,BM]at j;obtain⟨y,_,j⟩:=Dh j;obtain⟨_,j⟩:=JZ j BU;obtain⟨z,L,j⟩:=Dh j;obtain⟨e,_⟩:=JZ j BU;subst e;cases hd:decide ((c.Text.size:Int)>400)with
    |true=>rw[hd]at L;cases L
    |false=>have :=Jk hd;omega
  have hv:c.Via.size≤2000:=by
   unfold Yi at q;cases Z:(c.Via.toList==Bv.toList)with
   |true=>have :=empty_of Z;omega
   |false=>
    rw[Z,BM]at q;obtain⟨_,q⟩:=JZ q BU;obtain⟨y,O,q⟩:=Dh q;obtain rfl:=D5 q;have :=(adV J.via O).1;omega
  have Y:∀{l:List ByteArray},(∀s∈l,s.size≤100)→∀s∈l,s.size≤2000:=fun h s hs=>F6 (h s hs) AB;cases h4:k==4 with
  |true=>
   have e4:=eq_of_beq h4;subst e4;rw[Pn,BZ]at h;obtain⟨y,O,h⟩:=Dh h;obtain rfl:=D5 h;obtain⟨r1,r2⟩:=ajV J.allow J.allows O;rw[aUG (K:=4) (c:=c) (show _=some false by kernel_rfl) (show _=some true by kernel_rfl) (show _=some false by kernel_rfl) (show _=some false by kernel_rfl) (show _=some false by kernel_rfl) (show _=some true by kernel_rfl) (show _=some false by kernel_rfl) (show _=some false by kernel_rfl)]at I;have ho:=D5 I;unfold MF at ho;simp only[DT,LQ]at ho;have d:=TQ ho.1.2;have p:=aSk ho.2;refine⟨r1,?_,?_,?_,ht,hv,Y r2,?_,?_⟩<;>first|rw[d]|rw[p.1]|rw[p.2]
   all_goals first|exact El _|exact fun x hx=>absurd hx Fe
  |false=>
   rw[h4,BM]at h;obtain⟨y1,hy1,h⟩:=Dh h;obtain⟨e,h⟩:=Tj h;subst e;obtain⟨y2,hy2,h⟩:=Dh h;obtain⟨e,h⟩:=Tj h;subst e;obtain⟨y3,m,h⟩:=Dh h;obtain rfl:=D5 h;unfold YD at m;obtain⟨z1,hz1,m⟩:=Dh m;obtain⟨e,m⟩:=Tj m;subst e;obtain⟨z2,hz2,m⟩:=Dh m;obtain⟨e,m⟩:=Tj m;subst e;obtain⟨a1,a2⟩:=abO J.allow J.allows hy1;obtain⟨d1,d2⟩:=abO J.deny J.denies hy2;obtain⟨u1,u2⟩:=aez J.users J.names hz1;exact⟨a1,d1,u1,afQ hz2,ht,hv,Y a2,Y d2,fun u hu=>F6 (u2 u hu) AB⟩
structure yQ (e:AQ):Prop where
 kind:1≤e.Kind∧e.Kind≤14
 state:e.State=Ho e.Kind
 keyed:e.Key=Bv∨e.Kind=2∨e.Kind=9
 room:Gq e.Room 33=true
 sender:Gq e.aY 64=true
 key:VJ e.Kind e.Key=true
 time:0≤e.Time∧e.Time≤1000000000
 depth:1≤e.Depth∧e.Depth≤100000
 prev:e.bM.length≤10∧Inc e.bM∧∀x∈e.bM,0≤x
 auth:e.bK.length≤8∧Inc e.bK∧∀x∈e.bK,0≤x
 short:e.bM=[]→e.Kind=1
 form:e.Kind=1→e.bM=[]∧e.bK=[]
 content:JH e.Kind e.Content=some 0
 small:TI e
def acE {l:List Int} (hl:l.length≤9223372036854775807) (h:cV l=some true):Inc l∧∀x∈l,0≤x:=by
 unfold cV aLl at h
 have q:=firsts l hl (fun i=>∀x,l[i]? =some x→0≤x∧∀y,0<i→l[i-1]? =some y→y<x) (fun k i hi m=>by
  have I:∀v,aB k (i:Int) v=some true→v=false∧k ((i+1:Nat):Int)=some true:=fun v J=>by
   unfold aB at J;cases v with
   |true=>cases J
   |false=>rw[BM,wrap_succ i AB]at J;exact⟨rfl,J⟩
  unfold aDi at m;rw[Ce hi]at m;cases M:decide (l[i]<0)with
  |true=>rw[M,BZ]at m;cases(I _ m).1
  |false=>
   have h0:=Jk M;rw[M,BM]at m;cases L:decide ((i:Int)>0)with
   |false=>
    have hp0:=Jk L;rw[L,BM]at m;refine⟨fun x u=>?_,(I _ m).2⟩;rw[Dj hi]at u;obtain rfl:=D5 u;exact⟨AB,fun y h0 O=>AB⟩
   |true=>
    rw[L,BZ,CV hi,Aa,pR hi hl L,Aa]at m;obtain⟨U,Y⟩:=I _ m;refine⟨fun x u=>?_,Y⟩;rw[Dj hi]at u;obtain rfl:=D5 u;refine⟨AB,fun y h0 O=>?_⟩;rw[Dj AB]at O;obtain rfl:=D5 O
    have :=Jk U;omega) 0 h
 have z:∀i,(hi:i+1<l.length)→l[i]<l[i+1]:=fun i hi=>(q (i+1) AB hi _ (Dj hi)).2 _ AB (Dj AB);refine⟨?_,fun x u=>?_⟩
 ·rw[Inc,MO];intro i j hi I Z
  induction j with
  |zero=>omega
  |succ j ih=>
   have U:=z j I;rcases aKb (Nat.le_of_lt_succ Z)with rfl|Y
   ·exact U
   have :=ih AB Y;omega
 obtain⟨i,hi,rfl⟩:=Ia u;exact(q i (El _) hi _ (Dj hi)).1
def tN {c:Bool} {X:Option Bool} {f:Bool→Option Int} {v:Int} (j:f true≠some v) (h:((bif c then some true else X).bind f)=some v):c=false∧X.bind f=some v:=by
 cases c with
 |true=>exact absurd h j
 |false=>exact⟨rfl,h⟩
def aoP {e:AQ} (M:X5 e) (h:gJ e=some 0):yQ e:=by
 unfold gJ at h;obtain⟨x1,j,h⟩:=Dh h;obtain⟨e1,h⟩:=Tj h;subst e1;obtain⟨x3,h3,h⟩:=Dh h;obtain rfl:=D5 h;have J:=aqI M.content h3
 have O:∀v,SH e v=some 0→v=false:=fun v hv=>by
  cases v with
  |true=>cases hv
  |false=>rfl
 have hj2:SH e false=some 0∧(1≤e.Kind∧e.Kind≤14)∧e.State=Ho e.Kind∧(e.Key=Bv∨e.Kind=2∨e.Kind=9):=by
  unfold aB9 at j;cases Z:decide (e.Kind<1)with
  |true=>rw[Z,BZ]at j;cases O _ j
  |false=>
   cases c2:decide (e.Kind>14)with
   |true=>rw[Z,c2,BM,BZ]at j;cases O _ j
   |false=>
    rw[Z,c2,BM,BM,aHU,Aa]at j;have k1:=Jk Z;have k2:=Jk c2;cases c3:(e.State==Ho e.Kind)with
    |false=>rw[c3,Io,BZ]at j;cases O _ j
    |true=>
     rw[c3,EL,BM]at j;refine⟨?_,⟨AB,AB⟩,eq_of_beq c3,?_⟩
     all_goals cases c4:(e.Key.toList==Bv.toList)with
     |true=>rw[c4,EL,BM]at j;first|exact j|exact .inl (toList_inj (eq_of_beq c4))
     |false=>
      rw[c4,Io,BZ]at j;cases c5:(e.Kind != 2)with
      |false=>rw[c5,BM]at j;first|exact j|exact .inr (.inl (by simpa using c5))
      |true=>
       rw[c5,BZ]at j;have :=O _ j;rw[this]at j
       first|exact j|exact .inr (.inr aLZ)
 clear j O;obtain⟨j,hk,hst,U⟩:=hj2;unfold SH at j;rw[BM,(vI (s:=e.Room) M.room).2,(YU (s:=e.aY) M.sender).2,aav M.key]at j;simp only[Aa]at j
 have u:Gq e.Room 33=true:=by
  cases L:Gq e.Room 33 with
  |true=>rfl
  |false=>unfold Ux at j;rw[L]at j;cases j
 have r0:Ux e.Room=0:=by unfold Ux;rw[u];rfl
 rw[r0,Yj,BM,Aa]at j
 have z:Gq e.aY 64=true:=by
  cases L:Gq e.aY 64 with
  |true=>rfl
  |false=>unfold Qz at j;rw[L]at j;cases j
 have u0:Qz e.aY=0:=by unfold Qz;rw[z];rfl
 rw[u0,Yj,BM,Aa]at j
 have m:VJ e.Kind e.Key=true:=by
  cases L:VJ e.Kind e.Key with
  |true=>rfl
  |false=>rw[L]at j;cases j
 rw[m,EL,BM]at j;obtain⟨t1,j⟩:=tN yI j;rw[Aa]at j;obtain⟨t2,j⟩:=tN yI j;rw[Aa]at j;obtain⟨t3,j⟩:=tN yI j;rw[Aa]at j;obtain⟨t4,j⟩:=JZ j BU;obtain⟨t5,j⟩:=tN yI j;rw[Aa]at j;obtain⟨t6,j⟩:=JZ j BU;obtain⟨x21,h21,j⟩:=Dh j;obtain⟨t7,j⟩:=tN yI j;rw[Option.bind_assoc]at j;obtain⟨x24,h24,j⟩:=Dh j;rw[Aa]at j;obtain⟨t8,j⟩:=JZ j BU;obtain⟨Bd,Y,j⟩:=Dh j;obtain⟨t9,j⟩:=JZ j BU;obtain⟨x29,I,j⟩:=Dh j;obtain⟨t10,_⟩:=JZ j BU;have e21:x21=true:=by simpa using t7
 have e24:x24=true:=by simpa using t8
 subst e21 e24 t9 t10;have p1:=Jk t5;have p2:=Jk t6;have r1:=acE M.prev h21;have r2:=acE M.auth h24;have d1:=Jk t1;have d2:=Jk t2;have d3:=Jk t3;have d4:=Jk t4
 have hkz:e.Key.size≤2000:=by
  rcases U with h|h|h
  ·rw[h];exact El _
  ·unfold VJ at m;rw[D9 h]at m;have :Qz e.Key=0:=Xb
   unfold Qz at this;cases L:Gq e.Key 64 with
   |true=>have :=wI L;omega
   |false=>rw[L]at this;cases this
  unfold VJ at m;rw[DL AB,D9 h]at m;unfold yj at m;simp only[DT,Gi]at m;have :=m.1.2;omega
 have z1:=wI u;have z2:=wI z;refine⟨hk,hst,U,u,z,m,⟨AB,AB⟩,⟨AB,AB⟩,⟨AB,r1⟩,⟨AB,r2⟩,fun hp=>?_,fun hk1=>?_,h3,⟨?_,?_,J.allow,J.deny,J.users,J.kinds,?_,?_,hkz,J.text,J.via,El _,J.allows,J.denies,J.names⟩⟩
 ·rw[hp]at Y;have :=D5 Y;simpa using this
 ·rw[hk1]at I;have I:((bif decide ((e.bM.length:Int)>0)then some true else some (decide ((e.bK.length:Int)>0))).bind fun x31=>some x31)=some false:=I;cases q:decide ((e.bM.length:Int)>0)with
  |true=>rw[q]at I;cases I
  |false=>
   rw[q]at I;have q2:=D5 I;have :=Jk q;have :=Jk q2;exact⟨H9 AB,H9 AB⟩
 ·show e.bM.length≤40;omega
 ·show e.bK.length≤40;omega
 ·show e.Room.size≤2000;omega
 show e.aY.size≤2000;omega
def abx {e:AQ} (J:X5 e):∃c,aEj e=some c∧aFR e=some c∧(c=0→yQ e∧Gl e):=by
 obtain⟨x,z,m⟩:=aj2 J;unfold aEj aFR;rw[z,m,Aa,Aa];cases u:x != 0 with
 |true=>exact⟨x,rfl,rfl,fun h=>by subst h;cases u⟩
 |false=>
  obtain rfl:x=0:=MS
  have L:=aoP J m;have hs:=L.small;have I:e.aY.size≤2000:=hs.sender;rw[BM,BM,(aRH hs).1,(aRH hs).2,aQL _ hs.content,aTM];simp only[Aa];rw[amG _ hs.content,alg _ hs.content];simp only[Aa]
  have key:∀v,∃c,dJ e v=some c∧lU e v=some c∧(c=0→yQ e∧Gl e):=fun v=>by
   obtain⟨c,j,O⟩:=ajX hs v;refine⟨c,j,O,fun U=>⟨L,?_⟩⟩;subst U;unfold dJ at j;obtain⟨_,j⟩:=JZ j BU;rw[(aaG hs).1,Aa]at j;obtain⟨_,j⟩:=JZ j BU;rw[(jF (s:=e.aY) AB).1,Aa]at j;obtain⟨M,_⟩:=JZ (show(bif !((e.pz.Server.toList==(splitB e.aY (Js e.aY)).2.1.toList)&&((e.pz.Sum==e.Id)&&true))then some 12 else some 0)=some (0:Int)from j) BU
   have Y:e.pz.Server=(splitB e.aY (Js e.aY)).2.1:=by
    cases q:(e.pz.Server.toList==(splitB e.aY (Js e.aY)).2.1.toList)with
    |true=>exact toList_inj (eq_of_beq q)
    |false=>rw[q]at M;cases M
   have Z:=(aeT e.aY I).2.2;exact⟨hs.prev,hs.auth,hs.allow,hs.deny,hs.users,hs.kinds,hs.room,hs.sender,hs.key,hs.text,hs.via,by rw[Y];exact Z,hs.allows,hs.denies,hs.names⟩
  cases(!(nJ e==e.Hash))with
  |true=>rw[BZ,BZ];exact key _
  |false=>rw[BM,BM];exact key _
def aLo {f g:(Int→Option Int)→Int→Option Int} (N lo:Nat) (hs:∀k k' (i:Nat),lo≤i→i<N→Cj (k ((i+1:Nat):Int)) (k' ((i+1:Nat):Int))→Cj (f k (i:Int)) (g k' (i:Int))) (z:∀k k',Cj (f k (N:Int)) (g k' (N:Int))):
 ∀n (i:Nat),lo≤i→i+n=N→∀m j,n<m→n<j→Cj (bD f m (i:Int)) (bD g j (i:Int)):=by
 intro n
 induction n with
 |zero=>
  intro i u hi m j I J;obtain⟨m,rfl⟩:∃q,m=q+1:=⟨m-1,AB⟩
  obtain⟨j,rfl⟩:∃q,j=q+1:=⟨j-1,AB⟩
  have :i=N:=AB
  subst this;exact z _ _
 |succ n L=>
  intro i u hi m j I J;obtain⟨m,rfl⟩:∃q,m=q+1:=⟨m-1,AB⟩
  obtain⟨j,rfl⟩:∃q,j=q+1:=⟨j-1,AB⟩
  exact hs _ _ i u AB (L (i+1) AB AB m j AB AB)
def lasts {R:Type} {body:(Int→Option R)→Int→Option R} {ok:R} (N:Nat) (U:N≤9223372036854775807) (P:Nat→Prop)
 (L:∀k (i:Nat),i<N→body k (i:Int)=some ok→P i∧k ((i+1:Nat):Int)=some ok) (q:Nat) (Y:q≤N) (h:bD body Aj (q:Int)=some ok):(∀i,q≤i→i<N→P i)∧∃k,body k (N:Int)=some ok:=by
 have key:∀n (i:Nat) m,i+n=N→n<m→bD body m (i:Int)=some ok→(∀j,i≤j→j<N→P j)∧∃k,body k (N:Int)=some ok:=by
  intro n
  induction n with
  |zero=>
   intro i m hi M z;obtain⟨m,rfl⟩:∃I,m=I+1:=⟨m-1,AB⟩
   have :i=N:=AB
   subst this;exact⟨fun j u J=>AB,_,z⟩
  |succ n O=>
   intro i m hi M z;obtain⟨m,rfl⟩:∃I,m=I+1:=⟨m-1,AB⟩
   obtain⟨a,b⟩:=L (bD body m) i AB z;obtain⟨c,d⟩:=O (i+1) m AB AB b;refine⟨fun j u J=>?_,d⟩;rcases aKb u with rfl|u
   ·exact a
   exact c j u J
 have Z:Aj=9223372036854775808:=rfl;exact key (N-q) q Aj AB AB h
def aQE {α:Type} {l:List α} {i:Nat} (h:i+1<l.length) (hl:l.length≤1000000):Ai l (Am (((i+1:Nat):Int)-1))=some l[i]:=by
 rw[show Am (((i+1:Nat):Int)-1)=(i:Int) by rw[ZQ];omega,CV AB]
def aly {l:List AQ} (J:∀e∈l,X5 e) (hl:l.length≤1000):Cj (QL l) (Vz l):=by
 by_cases z:l=[]
 ·subst z;exact⟨0,AA,AA⟩
 have m:0<l.length:=jq.2 z;have L:Aj=9223372036854775807+1:=rfl
 have M:Cj (aDQ l 1) (aKW l 1):=by
  unfold aDQ aKW;refine aLo l.length 1 (fun k k' i u hi q=>?_) (fun k k'=>?_) (l.length-1) 1 (EG _) AB Aj Aj AB AB
  ·obtain⟨i,rfl⟩:∃j,i=j+1:=⟨i-1,AB⟩
   unfold aCN aKC;rw[Ce hi,dec_lt hi,BZ,aQE hi AB,Aa,Aa,CV hi,Aa,wrap_succ (i+1) AB];show Cj (bif decide (l[i+1].Id≤l[i].Id)then some 8 else k _) (bif decide (l[i].Id≥l[i+1].Id)then some 8 else k' _);exact Cj.bif (fun _=>.ret _) fun _=>q
  unfold aCN aKC;rw[DV];exact .ret _
 have I:Ai l 0=some l[0]:=CV (i:=0) m
 have O:Cj (vT l 0) (aJV l 1):=by
  have U:∀k,Z5 l k 0=k 1:=fun k=>by
   unfold Z5;rw[show decide ((0:Int)<(l.length:Int))=true by simpa using m,BZ,I,Aa,Aa,Pn];rfl
  have Y:vT l 0=bD (Z5 l) 9223372036854775807 1:=by
   unfold vT;rw[L];exact U _
  rw[Y];unfold aJV;refine aLo l.length 1 (fun k k' i u hi q=>?_) (fun k k'=>?_) (l.length-1) 1 (EG _) AB _ Aj AB AB
  ·unfold Z5 aJI;rw[Ce hi,Ce hi,I,Aa,Aa,wrap_succ i AB];exact Cj.bif (fun _=>.ret _) fun _=>q
  unfold Z5 aJI;rw[DV];exact M
 unfold QL Vz;rw[Jh (show ¬(l.length:Int)>2000 by omega),BM,BM];unfold aLR aTE;refine aLo l.length 0 (fun k k' i _ hi q=>?_) (fun k k'=>?_) l.length 0 (EG _) AB Aj Aj AB AB
 ·unfold uY aMH;obtain⟨c,Z,c2,_⟩:=abx (J _ (EU hi));rw[Ce hi,Ce hi,Z,c2,Aa,Aa,wrap_succ i AB];exact Cj.bif (fun _=>.ret _) fun _=>q
 unfold uY aMH;rw[DV];exact O
structure Xz (l:List AQ):Prop where
 ev:∀e∈l,yQ e∧Gl e
 room:∀x∈l,∀y∈l,x.Room=y.Room
 inc:Inc (l.map (·.Id))
def apy {f:Nat→Int}:∀(n i j:Nat),(∀k,i≤k→k<j→f k<f (k+1))→i+n=j→0<n→f i<f j:=by
 intro n
 induction n with
 |zero=>intro i j _ _ h;omega
 |succ n u=>
  intro i j h m _;rcases Yp n with q|q
  ·subst q;rw[←m];exact h i (EG _) AB
  have a:=h i (EG _) AB;have b:=u (i+1) j (fun k I z=>h k AB z) AB q;omega
def arf {l:List AQ} (hw:∀e∈l,X5 e) (hl:l.length≤1000) (h:QL l=some 0):Xz l:=by
 unfold QL at h;rw[Jh (show ¬(l.length:Int)>2000 by omega),BM]at h;unfold aLR at h
 obtain⟨p1,k1,h⟩:=lasts l.length AB (fun i=>∀x,l[i]? =some x→yQ x∧Gl x) (fun k i hi m=>by
  unfold uY at m;obtain⟨c,c1,_,c3⟩:=abx (hw _ (EU hi));rw[Ce hi,c1,Aa,wrap_succ i AB]at m;obtain⟨e,m⟩:=Tj m
  exact⟨fun x u=>by rw[Dj hi]at u;obtain rfl:=D5 u;exact c3 e,m⟩) 0 (El _) h
 unfold uY at h;rw[DV,BM]at h;unfold vT at h
 obtain⟨p2,k2,h⟩:=lasts l.length AB (fun i=>∀x y,l[i]? =some x→l[0]? =some y→x.Room=y.Room) (fun k i hi m=>by
  unfold Z5 at m;have g0:Ai l 0=some l[0]:=CV (i:=0) AB;rw[Ce hi,g0,Aa,wrap_succ i AB]at m;obtain⟨e,m⟩:=JZ m BU;refine⟨fun x y u I=>?_,m⟩;rw[Dj hi]at u;rw[Dj AB]at I;obtain rfl:=D5 u;obtain rfl:=D5 I
  exact toList_inj SB) 0 (El _) h
 unfold Z5 at h;rw[DV,BM]at h;refine⟨qO p1,fun x u y I=>?_,?_⟩
 ·have key:∀x∈l,∀y,l[0]? =some y→x.Room=y.Room:=qO fun i hi L x u y I=>p2 i hi L x y u I;have h0:0<l.length:=List.length_pos_of_mem u;have U:l[0]? =some l[0]:=Dj h0;rw[key x u _ U,key y I _ U]
 by_cases Y:l=[]
 ·subst Y;exact .nil
 have J:0<l.length:=jq.2 Y;unfold aDQ at h
 obtain⟨p3,_⟩:=lasts l.length AB (fun i=>∀j x y,i=j+1→l[i]? =some x→l[j]? =some y→y.Id<x.Id) (fun k i hi m=>by
  unfold aCN at m;rw[Ce hi]at m;obtain⟨z,Z,m⟩:=Dh m;obtain⟨e,m⟩:=JZ m BU;rw[wrap_succ i AB]at m;refine⟨fun j x y M u I=>?_,m⟩;subst M;rw[aQE hi AB]at Z;rw[Dj hi]at u;rw[Dj AB]at I;obtain rfl:=D5 u;obtain rfl:=D5 I;obtain rfl:=D5 Z
  have :=Jk e;omega) 1 J h
 rw[Inc,aPc,MO];intro i j hi M hij
 have :=apy (f:=fun q=>(l.getD q F9).Id) (j-i) i j (fun k h1 h2=>by
  have O:k+1<l.length:=AB
  have :=p3 (k+1) AB O k l[k+1] l[k] rfl (Dj O) (Dj AB)
  simpa[List.getD,Dj O,Dj (show k<l.length by omega)]using this) AB AB
 simpa[List.getD,Dj hi,Dj M]using this
def Xz.ok {l:List AQ} (h:Xz l) (hl:l.length≤100):U0 l:=⟨hl,fun e j=>(h.ev e j).2,YC h.inc,fun e j=>(h.ev e j).1.depth⟩
def aky {l:List AQ} (j:∀e∈l,X5 e) (hl:l.length≤100):∃c,QL l=some c∧Vz l=some c∧(c=0→Xz l):=by
 obtain⟨c,m,q⟩:=aly j AB;exact⟨c,m,q,fun h=>arf j AB (by rw[m,h])⟩
def ang {e:AQ} (h:Gl e):Gl (Y9 e):=by
 have j:=h.content.strip e.Kind;exact⟨h.prev,h.auth,j.allow,j.deny,j.users,j.kinds,h.room,h.sender,h.key,j.text,j.via,h.server,j.allows,j.denies,j.names⟩
structure atd (l k:List AQ):Prop where
 len:k.length=l.length
 at_:∀i (h:i<l.length) (h':i<k.length),k[i]=l[i]∨k[i]=Y9 l[i]
structure ate (l k:List AQ):Prop where
 ref:Vz k=some 0
 prog:QL k=some 0
 facts:Xz k
 deep:TF k=0
 ids:k.map (·.Id)=l.map (·.Id)
 agr:Gy l k (l.map (·.Id))
def KJ (x:Du):IG:=⟨x.id,x.before,x.after,x.err⟩
def P9 (t:List Du) (x:Int):IG×Bool:=match FW t x with
 |some y=>(KJ y,true)
 |none=>(UU,false)
def agy (t:List Du) (x:Int):(P9 t x).1.After=Me t x:=by unfold P9 Me;cases FW t x<;>rfl
def ahA (t:List Du) (x:Int):(P9 t x).1.Err=errOf t x:=by unfold P9 errOf;cases FW t x<;>rfl
def zl (t:List Du) (x:Int) (O:t.length≤1000000):mV (t.map KJ) x=some (P9 t x):=by
 unfold mV aUq;have J:(t.map KJ).length=t.length:=Cm ..;refine eX.eq (Y3 (body:=aPQ (t.map KJ) x) (Q:=(· =P9 t x)) (fun n a _=>∃i:Nat,a=i∧i+n=t.length∧∀j,(m:j<i)→(hl:j<t.length)→¬(t[j].id==x)=true) ?_ Aj t.length 0 _ (fuel_lt AB) ⟨0,rfl,AB,fun j m=>AB⟩);rintro n a b k ⟨i,rfl,U,u⟩ L;unfold aPQ;by_cases hi:i<t.length
 ·have q:i<(t.map KJ).length:=AB
  rw[Ce q,CV q,Aa,QI];show eX (bif t[i].id==x then some (KJ t[i],true)else k _ b) _;cases I:t[i].id==x with
  |true=>
   have z:FW t x=some t[i]:=by
    unfold FW;rw[List.find?_eq_some_iff_getElem];exact⟨I,i,hi,rfl,fun j m=>by have :=u j m AB;simpa using this⟩
   exact .ret (by unfold P9;rw[z])
  |false=>
   refine L (n-1) _ _ AB ⟨i+1,wrap_succ i AB,AB,fun j m hl=>?_⟩;by_cases e:j=i
   ·subst e;rw[I];simp
   exact u j AB hl
 have :i=t.length:=AB
 subst this;rw[←J,DV]
 have z:FW t x=none:=by
  unfold FW;rw[aCY];intro y M;obtain⟨j,m,rfl⟩:=Ia M;exact u j m m
 exact .ret (by unfold P9;rw[z])
def aRz (t:List IG) (x:Int):aDm t x=mV t x:=rfl
def aev (l:List AQ) (t:List Du) (e:AQ) (s:List Aq) (hl:l.length≤100) (hs:Dl l) (u:Gl e) (L:s.length≤100) (Y:t.length≤1000):xX l (t.map KJ) e s=some (Ld l t e s):=by
 have Z:=u.auth;have h2:=Zn l s
 have z:∀v,rU e (t.map KJ) l s v=some (bif v != 0 then v else bif e.bK.any (fun x=>errOf t x != 0)then 16 else Nh e (G9 l s)):=fun v=>by
  unfold rU abT
  refine eX.eq (Jy e.bK.length (fuel_lt AB) (fun i a=>a=bif v != 0 then v else bif (e.bK.take i).any (fun x=>errOf t x != 0)then 16 else 0) (by cases m:v != 0 with
   |true=>rfl
   |false=>exact Xb) (fun i a k hi ha I=>?_) fun a k ha=>?_)
  ·unfold aPD aD2;rw[Ce hi,aRz,zl _ _ AB,Aa,ahA,wrap_succ i AB];have M:(bif a==0 then some (errOf t e.bK[i] != 0)else some false)=some (a==0&&errOf t e.bK[i] != 0):=by cases a==0<;>rfl
   rw[M,Aa]
   have j:∀b:Int,b=(bif a==0&&errOf t e.bK[i] != 0 then 16 else a)→b=bif v != 0 then v else bif (e.bK.take (i+1)).any (fun x=>errOf t x != 0)then 16 else 0:=fun b O=>by
    rw[aP0 hi,O,ha];cases m:v != 0 with
    |true=>
     have :(v==0)=false:=Xb
     simp only[BZ,this,Bool.false_and,BM]
    |false=>
     simp only[BM];cases(e.bK.take i).any (fun x=>errOf t x != 0)<;>cases errOf t e.bK[i] != 0<;>rfl
   cases J:(a==0&&errOf t e.bK[i] != 0)with
   |true=>exact I _ (j 16 (by rw[J];rfl))
   |false=>exact I _ (j a (by rw[J];rfl))
  unfold aPD;rw[DV,BM,ha,Gm,aSC l s hl AB,Aa,aKx e (G9 l s) AB (aFd hs _) u];cases m:v != 0 with
  |true=>simp only[BZ,m];exact .ret rfl
  |false=>
   cases e.bK.any (fun x=>errOf t x != 0)with
   |true=>exact .ret rfl
   |false=>exact .ret rfl
 unfold xX Ld Xy;rw[aiF l e hl u,Aa,aUW l e AB AB,Aa,aKx e _ (F6 (aE3 l e) AB) (hs.from e) u,Aa,z,z];have q:(Px l e != 0)= !(Px l e==0):=rfl;rw[q];cases U:Px l e==0 with
 |true=>rfl
 |false=>rw[Io,BZ,BZ,q,U];rfl
def aNI (l:List AQ):∀(ids:List Int) (t:List Du),(ids.foldl (fun t id=>t++[Lm l t (ev l id)]) t).length=t.length+ids.length
 | [],t=>rfl
 |x::ids,t=>by rw[FZ,aNI l ids,EP,GI];simp;omega
def an7 {l:List AQ} (h:U0 l):aBV l=some ((Ll l).map KJ):=by
 have hl:=h.len;have hs:=h.small;have L:=aJS l;unfold aBV;rw[aTd l AB,Aa];unfold Ll;generalize P8 l=ids at L;unfold acR;refine eX.eq (Jy ids.length (fuel_lt AB) (fun i a=>a=(N8 l (ids.take i)).map KJ) rfl (fun i a k hi ha hk=>?_) fun a k ha=>?_)
 ·have M:KX l (N8 l (ids.take i)):=aAR hl hs _ _ fun y O=>absurd O Fe
  have U:(N8 l (ids.take i)).length≤100:=by
   have :=aNI l (ids.take i) [];unfold N8;rw[this,Fr,NK];omega
  have m:=abt l hi;have he:=aCG hs ids[i];have Y:=he.prev;generalize N8 l (ids.take i)=t at ha M U m;subst ha;unfold aPf;rw[Ce hi,MH l _ AB,Aa];have z:(Gg l ids[i]).1=ev l ids[i]:=rfl;unfold aT1;refine Ul (body:=aNl (Gg l ids[i]) l k (i:Int)) (Q:=_) (fun n a b c=>∃j:Nat,b=j∧j+n=(ev l ids[i]).bM.length∧c=t.map KJ∧a=((ev l ids[i]).bM.take j).map (Me t)) ?_ Aj (ev l ids[i]).bM.length [] 0 (t.map KJ) (fuel_lt AB) ⟨0,rfl,AB,rfl,rfl⟩;rintro n a b c k2 ⟨j,rfl,hn,rfl,ha⟩ Z;unfold aNl;rw[z];by_cases hj:j<(ev l ids[i]).bM.length
  ·have hal:a.length≤j:=mY
   rw[Ce hj,aRz,zl _ _ AB,Aa,agy,Dk G7,Aa,wrap_succ j AB];exact Z (n-1) _ _ _ AB ⟨j+1,rfl,AB,rfl,by rw[map_take hj,ha]⟩
  have :j=(ev l ids[i]).bM.length:=AB
  subst this;rw[Gm]at ha;subst ha;rw[DV,BM];have hp:=M.stB hl hs Y;have I:=hp.length
  have hJ:eX (ng l (Gg l ids[i]) k (i:Int) (t.map KJ) ⟨(ev l ids[i]).Id,stB l t (ev l ids[i]),[],0⟩) (fun x=>x=(N8 l ids).map KJ):=by
   unfold ng;rw[z];show eX ((xX l (t.map KJ) (ev l ids[i]) (stB l t (ev l ids[i]))).bind _) _;rw[aev l t (ev l ids[i]) _ hl hs he AB AB,Aa];have q:Lm l t (ev l ids[i])=XU (ev l ids[i]) (stB l t (ev l ids[i])) (Ld l t (ev l ids[i]) (stB l t (ev l ids[i]))):=rfl;rw[q]at m;generalize Ld l t (ev l ids[i]) (stB l t (ev l ids[i]))=r at m;generalize stB l t (ev l ids[i])=s at m I
   have J:∀y:Du,y=XU (ev l ids[i]) s r→eX (yV k (i:Int) (t.map KJ) (KJ y)) (fun x=>x=(N8 l ids).map KJ):=fun y O=>by
    unfold yV;rw[Dk (by simp only[OV,Cm];omega),Aa,wrap_succ i AB];exact hk _ (by rw[m,O,JM];rfl)
   show eX ((bif r==0 then(TW (ev l ids[i]).Kind).bind fun u=>some u else some false).bind _) _;rw[aHU,show(bif r==0 then(some (Ho (ev l ids[i]).Kind)).bind fun u=>some u else some false)=some (r==0&&Ho (ev l ids[i]).Kind) by cases r==0<;>rfl,Aa];cases hc:(r==0&&Ho (ev l ids[i]).Kind)with
   |true=>
    rw[BZ];show eX ((eA s (ev l ids[i]).Kind (ev l ids[i]).Key (ev l ids[i]).Id).bind _) _;rw[aJo _ _ _ _ AB,Aa];exact J ⟨(ev l ids[i]).Id,s,Fg s (ev l ids[i]).Kind (ev l ids[i]).Key (ev l ids[i]).Id,r⟩ (by unfold XU;rw[hc];rfl)
   |false=>
    rw[BM];exact J ⟨(ev l ids[i]).Id,s,s,r⟩ (by unfold XU;rw[hc];rfl)
  by_cases hz:(ev l ids[i]).bM=[]
  ·have hst:stB l t (ev l ids[i])=[]:=by unfold stB;rw[hz];rfl
   rw[hst]at hJ;rw[hz];exact hJ
  have hpos:0<(ev l ids[i]).bM.length:=jq.2 hz;rw[JI VA,BZ,amT (M.okay hl hs _ AB),Aa];exact hJ
 unfold aPf;rw[DV];exact .ret oZ
def aqo {l:List AQ} {c:Int} (q:Vz l=some c) (h:c=0→U0 l):nI l=some ((RG l c).map KJ)∧KX l (RG l c)∧(RG l c).length≤l.length:=by
 unfold nI aMg RG;rw[q,Aa];cases u:c==0 with
 |false=>exact⟨rfl,fun y m=>absurd m Fe,El _⟩
 |true=>
  have j:=h (eq_of_beq u);have hlen:(Ll l).length=l.length:=by rw[←aJS l];have :=aNI l (P8 l) [];simpa[Ll,N8]using this
  rw[BZ,ame l j.len j.small j.dep,Aa,Aa,Aa,GK];cases hd:TF l==0 with
  |false=>exact⟨rfl,fun y m=>absurd m Fe,El _⟩
  |true=>
   rw[EL,BM,an7 j,Aa,BZ];exact⟨rfl,atJ j,ZW hlen⟩
def Kw (t:List Du) (x:Int):List Aq×Int:=match FW t x with
 |some y=>(y.before,bif y.err != 0 then 2 else 4)
 |none=>([],0)
section
variable {l : List AQ} {c : Int}
def ahn (q:QL l=some c) (h:c=0→U0 l) (id:Int):ZH l id=some (Kw (RG l c) id):=by
 unfold ZH;refine eX.eq ((run_eq l q h).bind fun o u=>?_);rcases u with⟨j,rfl⟩|⟨j,_,T,rfl,m⟩
 ·rw[j];exact .ret rfl
 rw[j];simp only[uS];unfold aOi aMK Kw;rw[m.r,m.b];cases FW (Ll l) id with
 |none=>exact .ret rfl
 |some y=>
  show eX ((bif y.err != 0 then some 2 else some 4).bind fun z=>some (y.before,z)) (fun r=>r=(y.before,bif y.err != 0 then 2 else 4));cases y.err != 0<;>exact .ret rfl
def agh (q:QL l=some c) (h:c=0→U0 l):zN l=some (QV l (RG l c)):=by
 unfold zN;refine eX.eq ((run_eq l q h).bind fun o j=>?_);rcases j with⟨m,rfl⟩|⟨m,j,T,rfl,u⟩
 ·rw[m,aht];exact .ret rfl
 rw[m];show eX ((pI T.1 T.2.1 T.2.2 l).bind _) _;rw[amb u j.len];exact .ret rfl
end
def afO {l:List AQ} {t:List Du} (h:KX l t) {x:Int} {y:Du} (j:FW t x=some y):J4 l y.before∧J4 l y.after:=h y (U3 j)
def PU (l:List AQ) (s:List Aq) (j:AQ):Int:=
 bif !(j.Kind==14)then 1 else bif !dQ l j.Content.Target then 5 else bif !(Hw (G9 l s) j.aY==3)then 18 else
 bif !decide (j.aY=(ev l j.Content.Target).aY)&&decide (EF (Em (G9 l s)) j.aY<(Em (G9 l s)).gy)then 20 else 0
def Rz (l:List AQ) (t:List Du) (e:AQ):Bool:=H8 t e.Id&&(e.Kind==14&&PU l (Kw t e.Id).1 e==0)
def Oz (l:List AQ) (t:List Du):List AQ:=l.filter (Rz l t)
def UF (l:List AQ) (t:List Du):List AQ:=(Tt l).filter (Rz l t)
def VY (l:List AQ):List Int:=l.map (·.Content.Target)
def RJ (l:List AQ) (t:List Du):List Int:=Eo (VY (Oz l t))
def UA (g:List Int) (e:AQ):AQ:=bif Di g e.Id then Y9 e else e
def iq (l:List AQ) (t:List Du) (id:Int):Option AQ:=(UF l t).find? fun e=>e.Content.Target==id
def alO (l:List AQ) (t:List Du):Eo (VY (UF l t))=RJ l t:=Ee (LY _) (LY _) fun x=>by
 unfold RJ;rw[Ky,Ky];unfold VY UF Oz;rw[FH,FH];constructor
 ·rintro⟨e,j,h⟩;obtain⟨m,q⟩:=FM.1 j;exact⟨e,FM.2 ⟨(yK l).mem_iff.1 m,q⟩,h⟩
 rintro⟨e,j,h⟩;obtain⟨m,q⟩:=FM.1 j;exact⟨e,FM.2 ⟨(yK l).mem_iff.2 m,q⟩,h⟩
def aNS (l:List AQ) (t:List Du):(Oz l t).length≤l.length:=Jq ..
def aco (l:List AQ) (t:List Du):(UF l t).length≤l.length:=by
 have :=Jq (Rz l t) (Tt l);rw[pW]at this;exact this
def aRc (l:List AQ) (e:AQ):Rz l [] e=false:=by unfold Rz H8 FW;rfl
def aha (l:List AQ):Oz l []=[]:=kH.2 fun e _=>by rw[aRc];decide
def ady (l:List AQ):UF l []=[]:=kH.2 fun e _=>by rw[aRc];decide
def QG (id:Int) (b:Option AQ) (e:AQ):Option AQ:=bif e.Content.Target==id&&(match b with |none=>true|some y=>Hy e y)then some e else b
def aaM (id:Int) (b:Option AQ) (e:AQ):(QG id b e=some e∧e.Content.Target=id∧∀y,b=some y→Hy e y=true)∨(QG id b e=b∧(e.Content.Target=id→∃y,b=some y∧Hy e y=false)):=by
 unfold QG;cases j:e.Content.Target==id with
 |false=>exact .inr ⟨rfl,fun h=>by rw[h,Pn]at j;cases j⟩
 |true=>
  have j:=eq_of_beq j;cases b with
  |none=>exact .inl ⟨rfl,j,fun y h=>Gh⟩
  |some y=>
   simp only[GK];cases hl:Hy e y with
   |true=>exact .inl ⟨rfl,j,fun z h=>by rw[←D5 h];exact hl⟩
   |false=>exact .inr ⟨rfl,fun _=>⟨y,rfl,hl⟩⟩
def arV {a b c:AQ} (j:Hy b a=false) (m:Hy c b=false):Hy c a=false:=by rw[nZ]at *;omega
def aI9 {a b:AQ} (h:Hy a b=true):Hy b a=false:=by
 rw[nZ];unfold Hy at h;rw[Yt,DT,Gi,Gi,Qo]at h;omega
def Least (id:Int) (xs:List AQ) (b:Option AQ):Prop:=(∀y,b=some y→y∈xs∧y.Content.Target=id)∧∀e∈xs,e.Content.Target=id→∃y,b=some y∧Hy e y=false
def acO (id:Int):∀(xs j:List AQ) (b:Option AQ),Least id j b→Least id (j++xs) (xs.foldl (QG id) b)
 | [],j,b,h=>by rw[PS];exact h
 |x::xs,j,b,h=>by
  rw[FZ,show j++x::xs=(j++[x])++xs by simp];refine acO id xs (j++[x]) _ ⟨fun y m=>?_,fun e q z=>?_⟩
  ·rcases aaM id b x with⟨u,I,_⟩|⟨u,_⟩
   ·rw[u]at m;obtain rfl:=D5 m;exact⟨Gw.2 (.inr (IK.2 rfl)),I⟩
   rw[u]at m;exact⟨Gw.2 (.inl (h.1 y m).1),(h.1 y m).2⟩
  rcases aaM id b x with⟨u,_,J⟩|⟨u,I⟩
  ·refine⟨x,u,?_⟩;rcases Gw.1 q with q|q
   ·obtain⟨y,m,hl⟩:=h.2 e q z;exact arV (aI9 (J y m)) hl
   rw[IK.1 q];cases hl:Hy x x with
   |false=>rfl
   |true=>have :=aI9 hl;rw[hl]at this;cases this
  rcases Gw.1 q with q|q
  ·obtain⟨y,m,hl⟩:=h.2 e q z;exact⟨y,by rw[u];exact m,hl⟩
  rw[IK.1 q]at z ⊢;obtain⟨y,m,hl⟩:=I z;exact⟨y,by rw[u];exact m,hl⟩
def aR7 (id:Int):∀(xs:List AQ),xs.Pairwise (fun a b=>Hy b a=false)→Least id xs (xs.find? fun e=>e.Content.Target==id)
 | [],_=>⟨fun y h=>Gh,fun e h=>absurd h Fe⟩
 |x::xs,I=>by
  obtain⟨J,L⟩:=PG.1 I;obtain⟨z,M⟩:=aR7 id xs L;rw[RS];cases u:x.Content.Target==id with
  |true=>
   refine⟨fun y q=>?_,fun e j m=>⟨x,rfl,?_⟩⟩
   ·obtain rfl:=D5 q;exact⟨FY ..,eq_of_beq u⟩
   rcases F8.1 j with rfl|j
   ·cases hl:Hy e e with
    |false=>rfl
    |true=>have :=aI9 hl;rw[hl]at this;cases this
   exact J e j
  |false=>
   refine⟨fun y q=>⟨Gf _ (z y q).1,(z y q).2⟩,fun e j m=>?_⟩;rcases F8.1 j with rfl|j
   ·rw[m,Pn]at u;cases u
   exact M e j m
def arB {id:Int} {xs ys:List AQ} {a b:Option AQ} (j:∀e,e∈xs↔e∈ys) (q:∀x∈xs,∀y∈xs,x.Id=y.Id→x=y) (ha:Least id xs a) (u:Least id ys b):a=b:=by
 cases a with
 |none=>
  cases b with
  |none=>rfl
  |some y=>
   obtain⟨m,I⟩:=u.1 y rfl;obtain⟨z,J,_⟩:=ha.2 y ((j y).2 m) I;cases J
 |some x=>
  obtain⟨m,I⟩:=ha.1 x rfl;obtain⟨y,U,L⟩:=u.2 x ((j x).1 m) I;subst U;obtain⟨O,Y⟩:=u.1 y rfl;obtain⟨z,J,M⟩:=ha.2 y ((j y).2 O) Y;obtain rfl:=D5 J;rw[nZ]at L M;rw[q x m y ((j y).2 O) AB]
def arA {l:List AQ} (j:(l.map (·.Id)).Nodup) (t:List Du) (id:Int):(Oz l t).foldl (QG id) none=iq l t id:=by
 have m:=acO id (Oz l t) [] none ⟨fun y h=>Gh,fun e h=>absurd h Fe⟩;rw[IV]at m;refine arB (ys:=UF l t) (fun e=>?_) (fun x q y u e=>?_) m (aR7 id _ ((af8 l).sublist Tz))
 ·unfold Oz UF;rw[FM,FM,(yK l).mem_iff]
 rw[←aEp j (FM.1 q).1,←aEp j (FM.1 u).1,e]
def aqh (g:List Int) (e:AQ):UA g e=e∨UA g e=Y9 e:=by
 unfold UA;cases Di g e.Id with
 |true=>exact .inr rfl
 |false=>exact .inl rfl
structure atf (l k:List AQ):Prop where
 prog:QL k=some 0
 facts:Xz k
 deep:TF k=0
 agr:Gy k l (k.map (·.Id))
def apQ {α:Type} {v:List α} {i:Nat} {x:α} (h:v[i]? =some x):v.set i x=v:=by
 apply bU;intro j;rw[aIb];split
 ·rename_i e;subst e;split
  ·rw[h]
  rename_i q;rw[IC AB]
 rfl
def agK {R α:Type} (q:Nat→Int→List α→Option R) (l:List α) (f:α→α) (j:List α→Option R) (hl:l.length≤1099511627776)
 (M:∀m (i:Nat) v (h:i<l.length),v.length=l.length→v[i]? =some l[i]→q (m+1) (i:Int) v=q m (Am ((i:Int)+1)) (v.set i (f l[i])))
 (O:∀m v,v.length=l.length→q (m+1) (l.length:Int) v=j v):q Aj 0 l=j (l.map f):=by
 have key:∀n (i:Nat) (v:List α),i+n=l.length→v=(l.take i).map f++l.drop i→∀m,n<m→q m (i:Int) v=j (l.map f):=by
  intro n
  induction n with
  |zero=>
   intro i v hi z m U;obtain⟨m,rfl⟩:∃k,m=k+1:=⟨m-1,AB⟩
   have I:i=l.length:=AB
   subst I;have e:v=l.map f:=by rw[z];simp
   rw[O m v (by rw[e];simp),e]
  |succ n Y=>
   intro i v hi z m U;obtain⟨m,rfl⟩:∃k,m=k+1:=⟨m-1,AB⟩
   have h:i<l.length:=AB
   have J:((l.take i).map f).length=i:=Dz
   have L:v=(l.take i).map f++l[i]::l.drop (i+1):=by rw[z,La h]
   have hlen:v.length=l.length:=by rw[z];simp;omega
   have u:v[i]? =some l[i]:=by rw[L,Jr AB,J];simp
   rw[M m i v h hlen u,wrap_succ i AB];refine Y (i+1) _ AB ?_ m AB;rw[L,List.set_append_right _ _ AB,J,Nat.sub_self,List.set_cons_zero,Ox h,JM,Ht];rfl
 exact key l.length 0 l AB BP Aj (fuel_lt hl)
def kG {α:Type} {body:(Int→Option Bool)→Int→Option Bool} (l:List α) (hl:l.length≤1000) (rest:Option Bool) (j:∀k (i:Nat) (h:i<l.length),body k (i:Int)=k (Am ((i:Int)+1))) (q:∀k,body k (l.length:Int)=rest):bD body Aj 0=rest:=by
 have key:∀n (i:Nat),i+n=l.length→∀m,n<m→bD body m (i:Int)=rest:=by
  intro n
  induction n with
  |zero=>
   intro i hi m u;obtain⟨m,rfl⟩:∃k,m=k+1:=⟨m-1,AB⟩
   rw[show i=l.length by omega];exact q _
  |succ n z=>
   intro i hi m u;obtain⟨m,rfl⟩:∃k,m=k+1:=⟨m-1,AB⟩
   have :=j (bD body m) i AB;rw[wrap_succ i AB]at this;exact this.trans (z (i+1) AB m AB)
 exact key l.length 0 AB Aj (fuel_lt AB)
def jD (n:Int):(n != n)=false:=BP
def aRe {l:List Int} (h:l.length≤1000):uJ l l=some true:=by
 unfold uJ aVq;rw[jD,BM];exact kG l h _ (fun k i h=>by simp only[aND,dec_lt h,BZ,CV h,Aa,Yj,BM]) (fun k=>by simp only[aND,DV,BM])
def aUU {l:List ByteArray} (h:l.length≤1000):U6 l l=some true:=by
 unfold U6 aI6;rw[jD,BM];exact kG l h _ (fun k i h=>aQI) (fun k=>aO8)
def anx {l:CB} (j:l.Users.length≤1000) (m:l.Kinds.length≤1000):WR l l=some true:=by
 have q:YE l l 0=some true:=by
  unfold YE;exact kG l.Kinds m _ (fun k i h=>by simp only[kS,dec_lt h,BZ,CV h,Aa,Yj,BM,oO]) (fun k=>by simp only[kS,DV,BM,Pn,BZ,Aa])
 unfold WR;rw[jD,jD,BM,Aa,BM];unfold zW;exact kG l.Users j _ (fun k i h=>by simp only[eK,dec_lt h,BZ,CV h,Aa,Pn,EL,Yj,BM,xU]) (fun k=>by simp only[eK,DV,BM];exact q)
def ajQ {c:CW} (j:c.Allow.length≤1000) (m:c.gY.length≤1000) (q:c.Levels.Users.length≤1000) (u:c.Levels.Kinds.length≤1000):UO c c=some true:=by
 unfold UO;simp only[Pn,BZ,Aa,aUU j,aUU m,anx q u]
def am1 {e:AQ} (h:Gl e):aFq e e=some true:=by
 have :=h.prev;have :=h.auth;have j:=h.allow;have m:=h.deny;have q:=h.users;have u:=h.kinds;unfold aFq;simp only[Pn,BZ,Aa,aRe (l:=e.bM) AB,aRe (l:=e.bK) AB,ajQ (c:=e.Content) AB AB AB AB]
def ahW {l:List AQ} (h:l.length≤1000) (hs:∀e∈l,Gl e):aDE l l=some true:=by
 unfold aDE aTZ;rw[jD,BM];exact kG l h _ (fun k i h=>by simp only[aOB,dec_lt h,BZ,CV h,Aa,am1 (hs _ (EU h)),EL,BM]) (fun k=>by simp only[aOB,DV,BM])
end Go.Proofs.YtldfpencimjjlaaGreat
end
section
namespace Go.Proofs.YtldfpencimjjlaaGreat
open Go.RowKit
set_option maxRecDepth 20000
set_option maxHeartbeats 1000000
def aGO :ZE=some true:=AA
def amw (l:List AQ) (s:List Aq) (u:ByteArray):Hw (G9 l s) u=match s.find? (fun x=>(EC l x.Id).any (Ih u))with |some x=>(ev l x.Id).Content.N|none=>0:=by
 unfold Hw G9 ofIds;rw[List.find?_filterMap,List.find?_map];have e:((fun a=>(EC l a).any (Ih u))∘fun x:Aq=>x.Id)=fun x=>(EC l x.Id).any (Ih u):=rfl;rw[e];cases m:s.find? fun x=>(EC l x.Id).any (Ih u)with
 |none=>rfl
 |some x=>
  have h:=zh m;simp only[Ic,Aa];cases j:EC l x.Id with
  |none=>rw[j]at h;cases h
  |some y=>unfold ev;rw[Lh j]
def ajG (l:List AQ) (x:Aq) (u:ByteArray) (k:Int→Option Int) (v:Int) (hl:l.length≤1000):aLE l x u k v 0=bif (EC l x.Id).any (Ih u)then some (ev l x.Id).Content.N else kQ k v:=by
 unfold aLE;rw[JC l (fuel_lt AB) (fun e=>e.Id==x.Id) (fun i=>match l[i]? with |some e=>(bif Ih u e then some e.Content.N else kQ k v)|none=>none) (kQ k v)]
 ·by_cases h:l.findIdx (fun e=>e.Id==x.Id)<l.length
  ·have j:EC l x.Id=some l[l.findIdx (fun e=>e.Id==x.Id)]:=by unfold EC;rw[JE,Dj h]
   rw[D9 h,Dj h];unfold ev;rw[Lh j,j];rfl
  have j:EC l x.Id=none:=by unfold EC;rw[JE,IC AB]
  rw[DL h,j];rfl
 ·intro k i h;unfold aOx;rw[Ce h,CV h,Dj h];simp only[Aa];rw[pU,Aa];unfold bne;cases l[i].Id==x.Id<;>rfl
 intro k;unfold aOx;rw[DV];rfl
def aoI (l:List AQ) (s:List Aq) (u:ByteArray) (hl:l.length≤1000) (hs:s.length≤1000):wC l s u=some (Hw (G9 l s) u):=by
 rw[amw];unfold wC aUJ;rw[JC s (fuel_lt AB) (fun x=>(EC l x.Id).any (Ih u)) (fun i=>some (match s[i]? with |some x=>(ev l x.Id).Content.N|none=>0)) (some 0)]
 ·rw[JE];by_cases h:s.findIdx (fun x=>(EC l x.Id).any (Ih u))<s.length
  ·rw[D9 h]
  rw[DL h,IC AB]
 ·intro k i h;unfold aJP;rw[Ce h,ajG _ _ _ _ _ hl,Dj h];rfl
 intro k;unfold aJP;rw[DV];rfl
def atS (l:List AQ) (s:List Aq) (u:ByteArray) (hl:l.length≤1000) (hs:s.length≤1000):zn l s u=some (Hw (G9 l s) u):=by
 unfold zn aSf;refine eX.eq (Jy s.length (fuel_lt AB) (fun i a=>a=(s.take i).map (·.Id)) rfl (fun i a k hi ha j=>?_) fun a k ha=>?_)
 ·have m:a.length≤1000:=mY
  unfold aLU;rw[Ce hi,Dk G7,Aa,wrap_succ i AB];exact j _ aHB
 rw[Gm]at ha;unfold aLU;rw[DV,BM,ha,aCa l _ hl VA,Aa,aBF _ _ (by have :=Zn l s;unfold G9 at this;omega)];exact .ret rfl
section
variable {l : List AQ} {s : List Aq} (hl : l.length ≤ 100) (hsm : Dl l) (hs : s.length ≤ 100)
include hl hsm hs
def aoA {j:AQ} {st:Int} (q:ZH l j.Id=some (s,st)):XH l j=some (PU l s j):=by
 have z:=Zn l s;have m:Dl (G9 l s):=aFd hsm _;have I:=(Fn1 m).users;unfold XH PU;show(bif !(j.Kind==14)then _ else _)=_;cases j.Kind==14 with
 |false=>rfl
 |true=>
  have u:(Gg l j.Content.Target).2=dQ l j.Content.Target:=O5 ..;rw[EL,BM,BM,NZ l _ AB,Aa,u];cases dQ l j.Content.Target with
  |false=>rfl
  |true=>
   rw[EL,BM,BM,q,Aa];show(wC l s j.aY).bind _=_;rw[aoI l s _ AB AB,Aa];show(bif !(Hw (G9 l s) j.aY==3)then _ else _)=_;cases Hw (G9 l s) j.aY==3 with
   |false=>rfl
   |true=>
    rw[EL,BM,BM];show(iK l s).bind _=_;rw[aQy l s hl AB,Aa,aHw _ AB m,Aa,IZ];show(bif !decide (j.aY=(ev l j.Content.Target).aY)then _ else _)=_;cases decide (j.aY=(ev l j.Content.Target).aY)with
    |true=>rfl
    |false=>
     rw[Io,BZ];show(Qh (Em (G9 l s)) j.aY).bind _=_;rw[YQ _ _ AB,Aa];unfold aCt;show(bif decide (EF (Em (G9 l s)) j.aY<(Em (G9 l s)).gy)then _ else _)=_;cases decide (EF (Em (G9 l s)) j.aY<(Em (G9 l s)).gy)<;>rfl
def aVc (j:AQ):kJ l s j=some (PU l s j):=by
 have z:=Zn l s;have m:Dl (G9 l s):=aFd hsm _;have I:=(Fn1 m).users;unfold kJ PU;show(bif !(j.Kind==14)then _ else _)=_;cases j.Kind==14 with
 |false=>rfl
 |true=>
  have q:(Gg l j.Content.Target).2=dQ l j.Content.Target:=O5 ..;rw[EL,BM,BM,MH l _ AB,Aa,q];cases dQ l j.Content.Target with
  |false=>rfl
  |true=>
   rw[EL,BM,BM,atS l s _ AB AB,Aa];show(bif !(Hw (G9 l s) j.aY==3)then _ else _)=_;cases Hw (G9 l s) j.aY==3 with
   |false=>rfl
   |true=>
    rw[EL,BM,BM,aSC l s hl AB,Aa,aGP _ AB,Aa,IZ];have u:decide ((Gg l j.Content.Target).1.aY=j.aY)=decide (j.aY=(ev l j.Content.Target).aY):=lC.2 ⟨fun h=>h.symm,fun h=>h.symm⟩;rw[u];cases decide (j.aY=(ev l j.Content.Target).aY)with
    |true=>rfl
    |false=>
     rw[Io,BZ];show(QX (Em (G9 l s)) j.aY).bind _=_;rw[Vd _ _ AB,Aa];unfold aFo;show(bif decide (EF (Em (G9 l s)) j.aY<(Em (G9 l s)).gy)then _ else _)=_;cases decide (EF (Em (G9 l s)) j.aY<(Em (G9 l s)).gy)<;>rfl
end
structure Ns (l:List AQ) (t:List Du):Prop where
 len:l.length≤100
 small:Dl l
 at_:∀id,ZH l id=some (Kw t id)
 acc:zN l=some (QV l t)
 tbl:nI l=some (t.map KJ)
 tok:KX l t
 aFs:t.length≤l.length
 nd:t≠[]→(l.map (·.Id)).Nodup
def aoE {l:List AQ} {c:Int} (hs:Dl l) (hl:l.length≤100) (u:QL l=some c) (z:Vz l=some c) (I:c=0→Xz l):Ns l (RG l c):=by
 have j:c=0→U0 l:=fun m=>(I m).ok hl;obtain⟨J,L,M⟩:=aqo z j;refine⟨hl,hs,ahn u j,agh u j,J,L,M,fun q=>?_⟩;unfold RG at q;by_cases m:c=0
 ·exact(j m).nodup
 rw[Xw.2 m]at q;exact absurd rfl q
def aKT {l:List AQ} (hs:Dl l) (hl:l.length≤100):∃c,Ns l (RG l c)∧QL l=some c∧Vz l=some c∧(c=0→Xz l):=by
 obtain⟨c,j,m,q⟩:=aky (fun e u=>(hs e u).wide) hl;exact⟨c,aoE hs hl j m q,j,m,q⟩
def aq7 {l:List AQ} {t:List Du} (h:KX l t) (x:Int):J4 l (Kw t x).1:=by
 unfold Kw;cases j:FW t x with
 |none=>exact .nil l
 |some y=>exact(afO h j).1
def NR (e:AQ):Ob:=⟨e.Depth,e.Id,e.Content.Target⟩
def arQ (a b:AQ):dY (NR a) (NR b)=some (Hy a b):=by
 unfold dY Hy NR;cases decide (a.Depth<b.Depth)<;>cases(a.Depth==b.Depth)<;>rfl
def aHr (id:Int) (b:Option AQ) (e:AQ):Bool:=e.Content.Target==id&&(match b with |none=>true|some y=>Hy e y)
def yC (b:Option AQ):Int×Bool:=match b with
 |some e=>(e.Id,true)
 |none=>(0,false)
section
variable {l : List AQ} {t : List Du} (h : Ns l t)
include h
def Ns.at_len (x:Int):(Kw t x).1.length≤100:=by have :=(aq7 h.tok x).length;have :=h.len;omega
def Ns.may (j:AQ):XH l j=some (PU l (Kw t j.Id).1 j):=aoA h.len h.small (h.at_len _) (st:=(Kw t j.Id).2) (h.at_ _)
def Ns.rAt (id:Int):aCP l id=some (Kw t id):=by
 have :=h.aFs;have :=h.len;unfold aCP;rw[h.tbl,Aa,zl _ _ AB,Aa];unfold P9 Kw aJl;cases FW t id with
 |none=>rfl
 |some y=>simp only[KJ];cases y.err != 0<;>rfl
def Ns.aHd (j:AQ):aBQ l j=some (PU l (Kw t j.Id).1 j):=by
 unfold aBQ;rw[h.rAt,Aa,aVc h.len h.small (h.at_len _)];rfl
def Ns.known {e:AQ} (j:e∈l) (m:H8 t e.Id=true):Gg l e.Id=(e,true):=by
 have u:=h.nd (fun z=>by rw[z]at m;cases m);have I:dQ l e.Id=true:=bP.2 (FH.2 ⟨e,j,rfl⟩);have q:=(LZ I).1;rw[aEp u j]at q;exact Lh q
def Ns.effective:rY l=some ((Oz l t).map NR):=by
 have hlen:=h.len;unfold rY;rw[h.acc,Aa];unfold QV aSE;have M:(l.filter fun e=>H8 t e.Id).length≤l.length:=Jq ..
 have hE:Oz l t=(l.filter fun e=>H8 t e.Id).filter fun e=>e.Kind==14&&PU l (Kw t e.Id).1 e==0:=by
  unfold Oz;rw[List.filter_filter];congr 1;funext e;unfold Rz;rw[Bool.and_comm]
 have u:∀x∈l.filter (fun e=>H8 t e.Id),Gg l x.Id=(x,true):=fun x z=>h.known (FM.1 z).1 (FM.1 z).2;rw[hE];generalize(l.filter fun e=>H8 t e.Id)=X at M u;have m:(X.map (·.Id)).length=X.length:=Cm ..;refine eX.eq (Jy (X.map (·.Id)).length (fuel_lt AB) (fun i a=>a=((X.take i).filter fun e=>e.Kind==14&&PU l (Kw t e.Id).1 e==0).map NR) rfl (fun i a k hi ha I=>?_) fun a k ha=>?_)
 ·have j:i<X.length:=AB
  have O:a.length≤1000:=by
   rw[ha,Cm];have :=Jq (fun e=>e.Kind==14&&PU l (Kw t e.Id).1 e==0) (X.take i);rw[Fr]at this;omega
  unfold aPR;rw[Ce hi,QI,NZ l _ AB,u _ (EU j),Aa];simp only[BZ,Aa];rw[h.may];have U:(bif X[i].Kind==14 then(some (PU l (Kw t X[i].Id).1 X[i])).bind fun q=>some (q==0)else some false)=some (X[i].Kind==14&&PU l (Kw t X[i].Id).1 X[i]==0):=by cases X[i].Kind==14<;>rfl
  rw[U,Aa];have J:=aK1 (p:=fun e=>e.Kind==14&&PU l (Kw t e.Id).1 e==0) j;cases L:X[i].Kind==14&&PU l (Kw t X[i].Id).1 X[i]==0 with
  |true=>
   rw[BZ,Dk G7,Aa];unfold rV;rw[wrap_succ i AB];exact I _ (by rw[J,L,ha,JM];rfl)
  |false=>
   rw[BM];unfold rV;rw[wrap_succ i AB];exact I _ (by rw[J,L,ha,JM];simp)
 rw[m,Gm]at ha;unfold aPR;rw[DV,BM,ha];exact .ret rfl
def Ns.gone:aV l=some (RJ l t):=by
 have hlen:=h.len;have j:=aNS l t;unfold aV;rw[h.effective,Aa];unfold RJ VY aU9;generalize Oz l t=E at j;have m:(E.map NR).length=E.length:=Cm ..;refine eX.eq (Jy (E.map NR).length (fuel_lt AB) (fun i a=>a=(E.take i).map (·.Content.Target)) rfl (fun i a k hi ha z=>?_) fun a k ha=>?_)
 ·have q:i<E.length:=AB
  have u:a.length≤1000:=mY
  unfold aOY;rw[Ce hi,QI,Dk G7,Aa,wrap_succ i AB];exact z _ (by rw[map_take q,ha];rfl)
 rw[m,Gm]at ha;have u:a.length≤1000:=by rw[ha,Cm];omega
 unfold aOY;rw[DV,BM,←ha];have I:(QZ a).length≤1099511627776:=by rw[(V4 a).length_eq];omega
 unfold O4 UK;rw[D9 AB,Aa,D9 I,aAA,aBd];exact .ret rfl
def Ns.by_ (id:Int):iR l id=some (yC (iq l t id)):=by
 have hlen:=h.len;have J:=aNS l t;unfold iR;rw[h.effective,Aa]
 have hb:(Oz l t).foldl (QG id) none=iq l t id:=by
  by_cases Y:t=[]
  ·subst Y;unfold iq;rw[aha,ady];rfl
  exact arA (h.nd Y) t id
 rw[←hb];unfold aSO;generalize Oz l t=E at J;have L:(E.map NR).length=E.length:=Cm ..;have hz:∀b:Option AQ,(some ((((b.map NR).getD dH).Id,b.isSome)):Option (Int×Bool))=some (yC b):=fun b=>by cases b<;>rfl
 refine eX.eq (Ul (body:=aIz (E.map NR) id) (Q:=(· =yC (E.foldl (QG id) none))) (fun m M Z O=>∃i:Nat,Z=i∧i+m=E.length∧M=((E.take i).foldl (QG id) none).isSome∧O=(((E.take i).foldl (QG id) none).map NR).getD dH) ?_ Aj E.length false 0 dH (fuel_lt AB) ⟨0,rfl,AB,rfl,rfl⟩);rintro m M Z O k ⟨i,rfl,hm,z,I⟩ hk;unfold aIz;by_cases hi:i<E.length
 ·have U:i<(E.map NR).length:=AB
  rw[Ce U,QI];have j:(E.take (i+1)).foldl (QG id) none=bif aHr id ((E.take i).foldl (QG id) none) E[i]then some E[i]else(E.take i).foldl (QG id) none:=aN9 (f:=QG id) (b:=none) hi
  generalize(E.take i).foldl (QG id) none=b at z I j
  have e1:(bif (NR E[i]).Target==id then(bif (!M)then some true else((fun a0 a1=>dY a0 a1) (NR E[i]) O).bind fun q=>some q).bind fun u=>some u else some false)=some (aHr id b E[i]):=by
   unfold aHr;show(bif E[i].Content.Target==id then _ else _)=_;cases E[i].Content.Target==id with
   |false=>rfl
   |true=>
    cases b with
    |none=>rw[z];rfl
    |some y=>
     rw[z,I];show((dY (NR E[i]) (NR y)).bind fun q=>some q).bind (fun u=>some u)=_;rw[arQ];rfl
  rw[e1,Aa];unfold aGG;cases hq:aHr id b E[i]with
  |true=>
   rw[hq]at j;rw[BZ];exact hk (m-1) _ _ _ AB ⟨i+1,wrap_succ i AB,AB,(BL Option.isSome j).symm,(BL (fun b=>(Option.map NR b).getD dH) j).symm⟩
  |false=>
   rw[hq]at j;rw[BM];exact hk (m-1) _ _ _ AB ⟨i+1,wrap_succ i AB,AB,by rw[z];exact(BL Option.isSome j).symm,by rw[I];exact(BL (fun b=>(Option.map NR b).getD dH) j).symm⟩
 have :i=E.length:=AB
 subst this;rw[←L,DV,BM,z,I];rw[Gm,hz];exact .ret rfl
def Ns.effects:qp l=some (UF l t):=by
 have hlen:=h.len;have htl:=h.aFs;unfold qp;rw[h.tbl,Aa];by_cases u:t=[]
 ·rw[u,ady];rfl
 have z:=h.nd u
 have I:((t.map KJ).length:Int)≠0:=by
  rw[Cm];intro e;exact u (H9 AB)
 rw[Xw.2 I,BM,aTd l AB,Aa];unfold P8 UF aSc;have J:=pW l;have Y:∀x∈Tt l,x∈l:=fun x q=>(yK l).mem_iff.1 q;generalize Tt l=X at J Y;have L:(X.map (·.Id)).length=X.length:=Cm ..;refine eX.eq (Jy (X.map (·.Id)).length (fuel_lt AB) (fun i a=>a=(X.take i).filter (Rz l t)) rfl (fun i a k hi ha Z=>?_) fun a k ha=>?_)
 ·have m:i<X.length:=AB
  have hal:a.length≤1000:=by
   rw[ha];have :=Jq (Rz l t) (X.take i);rw[Fr]at this;omega
  have q:=Y _ (EU m)
  have hg:Gg l X[i].Id=(X[i],true):=by
   have h1:=(LZ (bP.2 (FH.2 ⟨_,q,rfl⟩))).1;rw[aEp z q]at h1;exact Lh h1
  unfold aPL;rw[Ce hi,CV hi,QI,MH l _ AB,hg,Aa,Aa,zl _ _ AB,Aa]
  have j:(bif (P9 t X[i].Id).2 then some ((P9 t X[i].Id).1.Err==0)else some false)=some (H8 t X[i].Id):=by
   unfold P9 H8;cases FW t X[i].Id<;>rfl
  rw[j,Aa];have M:(bif H8 t X[i].Id then some (X[i].Kind==14)else some false)=some (H8 t X[i].Id&&X[i].Kind==14):=by cases H8 t X[i].Id<;>rfl
  rw[M,Aa]
  have O:(bif H8 t X[i].Id&&X[i].Kind==14 then(kJ l (P9 t X[i].Id).1.Before X[i]).bind fun U=>some (U==0)else some false)=some (Rz l t X[i]):=by
   unfold Rz;cases hy:FW t X[i].Id with
   |none=>unfold H8;rw[hy];rfl
   |some y=>
    have e1:(P9 t X[i].Id).1.Before=(Kw t X[i].Id).1:=by unfold P9 Kw;rw[hy];rfl
    rw[e1,aVc h.len h.small (h.at_len _)];cases H8 t X[i].Id<;>cases X[i].Kind==14<;>rfl
  rw[O,Aa];have hf:=aK1 (p:=Rz l t) m;cases hq:Rz l t X[i]with
  |true=>
   rw[BZ,Dk G7,Aa];unfold vW;rw[wrap_succ i AB];exact Z _ (by rw[hf,hq,ha];rfl)
  |false=>
   rw[BM];unfold vW;rw[wrap_succ i AB];exact Z _ (by rw[hf,hq,ha];simp)
 rw[L,Gm]at ha;unfold aPL;rw[DV,BM,ha];exact .ret rfl
def Ns.aCV:wH l=some (RJ l t):=by
 have hlen:=h.len;have j:=aco l t;unfold wH;rw[h.effects,Aa,←alO];unfold VY aS1;generalize UF l t=E at j;refine eX.eq (Jy E.length (fuel_lt AB) (fun i a=>a=Eo ((E.take i).map (·.Content.Target))) rfl (fun i a k hi ha m=>?_) fun a k ha=>?_)
 ·have q:a.length≤1000:=by
   rw[ha];have :=NU ((E.take i).map (·.Content.Target));rw[Cm,Fr]at this;omega
  unfold aL7;rw[Ce hi,aCO _ _ (by rw[ha];exact LY _) AB,Aa,wrap_succ i AB];exact m _ (by rw[ha,map_take hi];unfold Eo;rw[V6];rfl)
 rw[Gm]at ha;unfold aL7;rw[DV,BM,ha];exact .ret rfl
def Ns.rBy (id:Int):aHR l id=some (yC (iq l t id)):=by
 have hlen:=h.len;have j:=aco l t;unfold aHR;rw[h.effects,Aa];unfold iq aaN;generalize UF l t=E at j;rw[JC E (fuel_lt AB) (fun e=>e.Content.Target==id) (fun i=>some (yC E[i]?)) (some (0,false))]
 ·rw[JE];by_cases h:E.findIdx (fun e=>e.Content.Target==id)<E.length
  ·rw[D9 h]
  rw[DL h,IC AB];rfl
 ·intro k i h;unfold aKv;rw[Ce h,CV h,Dj h];rfl
 intro k;unfold aKv;rw[DV];rfl
end
end Go.Proofs.YtldfpencimjjlaaGreat
end
section
namespace Go.Proofs.YtldfpencimjjlaaGreat
open Go.RowKit
set_option maxRecDepth 20000
set_option maxHeartbeats 1000000
def ao6 {l:List Int} (h:l.length≤1000):qH l l=some true:=by
 unfold qH ab8;rw[jD,BM];exact kG l h _ (fun k i h=>by simp only[aKa,dec_lt h,BZ,CV h,Aa,Yj,BM]) (fun k=>by simp only[aKa,DV,BM])
def aNU (l:List AQ) (t:List Du):(RJ l t).length≤l.length:=by
 have j:=NU (VY (Oz l t));have m:=aNS l t;unfold VY at j;rw[Cm]at j;unfold RJ VY;omega
def al1 {l:List AQ} (hs:Dl l) (g:List Int):Dl (l.map (UA g)):=fun e m=>by
 obtain⟨x,j,rfl⟩:=FH.1 m;rcases aqh g x with h|h<;>rw[h]
 ·exact hs x j
 exact ang (hs x j)
def asz {g:List Int} {x:Int} {j:Nat} (h:j<g.length):Di (g.take (j+1)) x=(Di (g.take j) x||g[j]==x):=by
 rw[Qm,Jm,Yt,Jm,Qo,Ox h,Gw,IK];exact or_congr Iff.rfl ⟨fun e=>e.symm,fun e=>e.symm⟩
section
variable {l : List AQ} {t : List Du} (h : Ns l t)
include h
def Ns.apply:wE l=some (l.map (UA (RJ l t))):=by
 have hlen:=h.len;have I:=aNU l t;have hi:=LY (VY (Oz l t));unfold wE;rw[h.gone,Aa]
 have J:iZ l=some l:=by
  unfold iZ;rw[Dk TM];rfl
 rw[J,Aa]
 change Inc (RJ l t)at hi
 generalize RJ l t=g at I hi;unfold abz
 have step:∀(k:Int→List AQ→Option (List AQ)) (i:Nat) (v:List AQ) (j:i<l.length),v.length=l.length→v[i]? =some l[i]→iL l g k (i:Int) v=k (Am ((i:Int)+1)) (v.set i (UA g l[i])):=fun k i v j u q=>by
  obtain⟨r,L,z⟩:=aVU g l[i].Id hi AB;unfold iL;rw[dec_lt j,BZ,qC,q,Aa,L,Aa,z];unfold aCK UA;cases Di g l[i].Id with
  |true=>
   rw[BZ,BZ,(aNA (h.small _ (EU j)).x).1,Aa,Aa,Xl]
  |false=>rw[BM,BM,apQ q]
 exact agK (fun m=>aU (iL l g) m) l (UA g) some AB (fun m i v j u q=>step _ i v j u q) (fun m v u=>by
  show iL l g _ _ v=_;unfold iL
  rw[DV];rfl)
def Ns.aFt:aDM l=some (l.map (UA (RJ l t))):=by
 have hlen:=h.len;have hg:=aNU l t;unfold aDM;rw[h.aCV,Aa];generalize RJ l t=g at hg;unfold adW
 have inner:∀(k:List AQ→Int→Option (List AQ)) (a:List AQ) (i:Nat) (hi:i<l.length) (Q:List AQ→Prop),a.length≤1000→eX (k (a++[UA g l[i]]) (Am ((i:Int)+1))) Q→eX (aMP g l (i:Int) k 0 a l[i]) Q:=fun k a i hi Q ha u=>by
  unfold aMP;refine Ul (body:=aLz g l (i:Int) k) (Q:=Q) (fun m L M z=>∃j:Nat,L=j∧j+m=g.length∧M=a∧z=bif Di (g.take j) l[i].Id then Y9 l[i]else l[i]) ?_ Aj g.length 0 a l[i] (fuel_lt AB) ⟨0,rfl,AB,rfl,rfl⟩;rintro m L M z f ⟨j,rfl,hm,rfl,q⟩ O;have I:z.Id=l[i].Id:=by rw[q];cases Di (g.take j) l[i].Id<;>rfl
  unfold aLz;by_cases U:j<g.length
  ·rw[Ce U,I];have Y:=asz (x:=l[i].Id) U;unfold aAq;cases Z:g[j]==l[i].Id with
   |true=>
    rw[BZ,CV hi,Aa,(aNA (h.small _ (EU hi)).x).2,Aa];exact O (m-1) _ _ _ AB ⟨j+1,wrap_succ j AB,AB,rfl,by rw[Y,Z,OE];rfl⟩
   |false=>
    rw[BM];exact O (m-1) _ _ _ AB ⟨j+1,wrap_succ j AB,AB,rfl,by rw[Y,Z,LQ];exact q⟩
  have :j=g.length:=AB
  subst this;rw[Gm]at q;rw[DV,BM,Dk G7,Aa,q];exact u
 refine eX.eq (Jy l.length (fuel_lt AB) (fun i a=>a=(l.take i).map (UA g)) rfl (fun i a k hi ha u=>?_) fun a k ha=>?_)
 ·have J:a.length≤1000:=mY
  unfold aLb;rw[Ce hi];refine inner k a i hi _ J ?_;rw[wrap_succ i AB];exact u _ aHB
 rw[Gm]at ha;unfold aLb;rw[DV,BM,ha];exact .ret rfl
end
def aml (l:List AQ) (j:AQ):aPh l j=some true:=by
 unfold aPh;refine eX.eq ((aNb l).bind fun b m=>eX.bind (P:=fun x=>x=false→l.length≤14∧Dl l) (eX.bif (fun _=>.ret fun e=>by cases e) fun e=>(aTe j).bind fun x _=>.ret fun _=>m e) fun u q=>eX.bif (fun _=>aNX) fun e=>?_);obtain⟨hl,hs⟩:=q e;obtain⟨c,h,_⟩:=aKT hs AB;rw[h.may,Aa,h.aHd,Aa,Pn,BZ,aGO];exact .ret rfl
def ak7 (l:List AQ) (id:Int):aJm l id=some true:=by
 unfold aJm;refine eX.eq ((aNb l).bind fun b j=>eX.bif (fun _=>aNX) fun e=>?_);obtain⟨hl,hs⟩:=j e;obtain⟨c,h,_⟩:=aKT hs AB;have m:=aNU l (RG l c);rw[h.by_,Aa,h.rBy,Aa,h.gone,Aa,h.aCV,Aa,ao6 AB,aGO];simp only[Aa,BZ,Pn];exact .ret rfl
def aku (l:List AQ):aIA l=some true:=by
 unfold aIA;refine eX.eq ((aNb l).bind fun b j=>eX.bif (fun _=>aNX) fun e=>?_);obtain⟨hl,hs⟩:=j e;obtain⟨c,h,_⟩:=aKT hs AB;rw[h.apply,Aa,h.aFt,Aa,ahW VA (al1 hs _),aGO];exact .ret rfl
end Go.Proofs.YtldfpencimjjlaaGreat
end
