/- Part 6 of what the laws' proofs lean on: states of the walk, typed functions of the program and their laws (short forms written by wip/shrink.py; no condition). -/
import Derived.Test.YtldfpencimjjlaaGreatRr5
set_option linter.defProp false
set_option linter.unnecessarySimpa false
set_option linter.unusedVariables false
set_option linter.unusedSimpArgs false
section
namespace Go.Proofs.YtldfpencimjjlaaGreat
open Go.RowKit
def dQ (l:List AQ) (id:Int):Bool:=(EC l id).isSome
def XT (l:List AQ) (ids:List Int):List Int:=ids.foldl (fun r id=>bif dQ l id then r else put r id) []
def iE (l:List AQ) (ids:List Int):List Int:=(Eo ids).filter (dQ l)
def MZ {l:List AQ} {ids:List Int} {x:Int}:x∈iE l ids↔x∈ids∧dQ l x=true:=by unfold iE;rw[FM,Ky]
def Zf (l:List AQ) (ids:List Int):Inc (iE l ids):=(LY ids).sublist Tz
def atE (l:List AQ) (ids:List Int):(iE l ids).length≤ids.length:=F6 (Jq _ _) (NU ids)
def aPB (l:List AQ):∀(ids r:List Int),Inc r→Inc (ids.foldl (fun r id=>bif dQ l id then r else put r id) r)∧∀x,x∈ids.foldl (fun r id=>bif dQ l id then r else put r id) r↔x∈r∨x∈ids∧dQ l x=false
 | [],r,h=>⟨h,fun x=>BP⟩
 |id::ids,r,h=>by
  rw[FZ];cases u:dQ l id with
  |true=>
   obtain⟨m,q⟩:=aPB l ids r h;refine⟨m,fun x=>(q x).trans ⟨fun h=>?_,fun h=>?_⟩⟩
   ·rcases h with h|h
    ·exact .inl h
    exact .inr ⟨Gf _ h.1,h.2⟩
   rcases h with h|⟨h,j⟩
   ·exact .inl h
   rcases F8.1 h with rfl|h
   ·rw[u]at j;cases j
   exact .inr ⟨h,j⟩
  |false=>
   obtain⟨m,q⟩:=aPB l ids (put r id) (Sm h);refine⟨m,fun x=>(q x).trans ?_⟩;rw[Vu,F8];constructor
   ·rintro((h|rfl)|h)
    ·exact .inl h
    ·exact .inr ⟨.inl rfl,u⟩
    exact .inr ⟨.inr h.1,h.2⟩
   rintro(h|⟨rfl|h,j⟩)
   ·exact .inl (.inl h)
   ·exact .inl (.inr rfl)
   exact .inr ⟨h,j⟩
def aPj {l:List AQ} {ids:List Int} {x:Int}:x∈XT l ids↔x∈ids∧dQ l x=false:=by
 unfold XT;rw[(aPB l ids [] .nil).2 x];simp
def aT2 (l:List AQ) (ids:List Int):(XT l ids).length≤ids.length:=by
 have key:∀(ids r:List Int),(ids.foldl (fun r id=>bif dQ l id then r else put r id) r).length≤r.length+ids.length:=by
  intro ids
  induction ids with
  |nil=>intro r;simp
  |cons id ids j=>
   intro r;rw[FZ];have m:=j (bif dQ l id then r else put r id)
   have q:(bif dQ l id then r else put r id).length≤r.length+1:=by
    cases dQ l id with
    |true=>exact Nat.le_succ _
    |false=>exact jf r id
   simp only[GI];omega
 have :=key ids [];simpa[XT]using this
def aJE (l:List AQ) (ids:List Int) (hl:l.length≤1000) (hi:ids.length≤100000):kV l ids=some (XT l ids):=by
 unfold kV ae6;rw[Hu ids AB (fun r id=>bif dQ l id then r else put r id) (fun i r=>Inc r∧r.length≤i) (fun r=>some r) ⟨.nil,EG _⟩]
 ·rfl
 ·intro k a i h j;have u:=aWf l ids[i] AB
  have q:dQ l ids[i]=decide (l.findIdx (fun e=>e.Id==ids[i])<l.length):=by
   unfold dQ EC;rw[JE];by_cases h:l.findIdx (fun e=>e.Id==ids[i])<l.length
   ·rw[Dj h,JI h];rfl
   rw[IC AB,Jh h];rfl
  refine⟨?_,?_⟩
  ·cases dQ l ids[i]with
   |true=>exact⟨j.1,by have :=j.2;show a.length≤i+1;omega⟩
   |false=>exact⟨Sm j.1,by have :=jf a ids[i];have :=j.2;show(put a ids[i]).length≤i+1;omega⟩
  unfold aMM aC5;rw[Ce h,u];simp only[Aa];by_cases m:l.findIdx (fun e=>e.Id==ids[i])<l.length
  ·rw[D9 m,q,JI m,show decide (((l.findIdx (fun e=>e.Id==ids[i]):Nat):Int)<0)=false by simp];rfl
  rw[DL m,q,Jh m,CV h];simp only[show decide ((-1:Int)<0)=true by decide,BZ,BM,Aa];rw[aCO a _ j.1 (by have :=j.2;omega)];rfl
 intro k a j;unfold aMM;rw[Dq]
def aFI (a b:List Int) (h:a.length≤274877906944) (u:b.length≤274877906944):Zc a b=some (Og a b):=by
 unfold Zc;rw[aUh a h];simp only[Aa];have ha:=NU a;unfold aQK;rw[Hu (Eo a) AB (fun r x=>bif Di b x then r else r++[x]) (fun i r=>r.length≤i) (fun r=>some r) (EG _)]
 ·congr 1;unfold Og;generalize Eo a=S
  have key:∀(S r:List Int),S.foldl (fun r x=>bif Di b x then r else r++[x]) r=r++S.filter (fun x=> !Di b x):=by
   intro S
   induction S with
   |nil=>intro r;simp
   |cons x S j=>
    intro r;rw[FZ,j,Rl];cases Di b x<;>simp
  simpa using key S []
 ·intro k r i h m;have q:=XP b (Eo a)[i] AB;refine⟨?_,?_⟩
  ·cases Di b (Eo a)[i]with
   |true=>show r.length≤i+1;omega
   |false=>show(r++[(Eo a)[i]]).length≤i+1;simp;omega
  unfold aKZ aHe;rw[Ce h,q];simp only[Aa];cases Di b (Eo a)[i]with
  |true=>rfl
  |false=>
   simp only[Io,BZ,BM];rw[CV h];simp only[Aa];rw[Dk G7];rfl
 intro k r m;unfold aKZ;rw[Dq]
def acH (l:List AQ) (ids:List Int):Og ids (XT l ids)=iE l ids:=
 Ee (aOm _ _) (Zf _ _) fun x=>by
  rw[aKH,aPj,MZ];cases dQ l x<;>simp
def ahI (l:List AQ) (ids:List Int) (hl:l.length≤1000) (hi:ids.length≤100000):aFf l ids=some (iE l ids):=by
 unfold aFf;rw[aJE l ids hl hi];simp only[Aa];have :=aT2 l ids;rw[aFI _ _ AB AB,acH];rfl
def adK (l:List AQ) (ids:List Int) (hl:l.length≤1000) (hi:ids.length≤100000):og l ids=some (iE l ids):=by
 unfold og;rw[aJE l ids hl hi];simp only[Aa];have :=aT2 l ids;rw[aFI _ _ AB AB,acH];rfl
def je (l:List AQ) (id:Int):List Int:=(Gg l id).1.bK
def TR (l:List AQ) (r:List Int) (x:Int):List Int:=bif dQ l x then put r x else r
def Ja (l:List AQ) (ids:List Int):List Int:=ids.foldl (fun r id=>(je l id).foldl (TR l) r) []
def aI4 (l:List AQ):∀(xs r:List Int),Inc r→Inc (xs.foldl (TR l) r)∧(∀x,x∈xs.foldl (TR l) r↔x∈r∨x∈xs∧dQ l x=true)∧(xs.foldl (TR l) r).length≤r.length+xs.length
 | [],r,h=>⟨h,fun x=>BP,BP⟩
 |y::xs,r,h=>by
  rw[FZ];unfold TR;cases z:dQ l y with
  |true=>
   obtain⟨q,u,j⟩:=aI4 l xs (put r y) (Sm h);refine⟨q,fun x=>(u x).trans ?_,?_⟩
   ·rw[Vu,F8];constructor
    ·rintro((h|rfl)|h)
     ·exact .inl h
     ·exact .inr ⟨.inl rfl,z⟩
     exact .inr ⟨.inr h.1,h.2⟩
    rintro(h|⟨rfl|h,m⟩)
    ·exact .inl (.inl h)
    ·exact .inl (.inr rfl)
    exact .inr ⟨h,m⟩
   have :=jf r y;simp only[GI,BZ]at j ⊢;exact F6 j AB
  |false=>
   obtain⟨q,u,j⟩:=aI4 l xs r h;refine⟨q,fun x=>(u x).trans ⟨fun h=>?_,fun h=>?_⟩,?_⟩
   ·rcases h with h|h
    ·exact .inl h
    exact .inr ⟨Gf _ h.1,h.2⟩
   ·rcases h with h|⟨h,m⟩
    ·exact .inl h
    rcases F8.1 h with rfl|h
    ·rw[z]at m;cases m
    exact .inr ⟨h,m⟩
   simp only[GI,BM]at j ⊢;exact F6 j AB
def aPI (l:List AQ):∀(ids r:List Int),Inc r→Inc (ids.foldl (fun r id=>(je l id).foldl (TR l) r) r)∧∀x,x∈ids.foldl (fun r id=>(je l id).foldl (TR l) r) r↔x∈r∨dQ l x=true∧∃id∈ids,x∈je l id
 | [],r,h=>⟨h,fun x=>BP⟩
 |id::ids,r,h=>by
  rw[FZ];obtain⟨m,q,_⟩:=aI4 l (je l id) r h;obtain⟨u,z⟩:=aPI l ids _ m;refine⟨u,fun x=>(z x).trans ?_⟩;rw[q x];constructor
  ·rintro((h|h)|⟨h3,i,j,h5⟩)
   ·exact .inl h
   ·exact .inr ⟨h.2,id,FY ..,h.1⟩
   exact .inr ⟨h3,i,Gf _ j,h5⟩
  rintro(h|⟨h3,i,j,h5⟩)
  ·exact .inl (.inl h)
  rcases F8.1 j with rfl|j
  ·exact .inl (.inr ⟨h5,h3⟩)
  exact .inr ⟨h3,i,j,h5⟩
def uX (l:List AQ) (ids:List Int):Inc (Ja l ids):=(aPI l ids [] .nil).1
def SI {l:List AQ} {ids:List Int} {x:Int}:x∈Ja l ids↔dQ l x=true∧∃id∈ids,x∈je l id:=by
 unfold Ja;rw[(aPI l ids [] .nil).2 x];simp
def chainOf (l:List AQ) (ids:List Int):List Int:=l.foldl (fun s _=>IB s (Ja l s)) (Ja l (iE l ids))
inductive KE (l:List AQ) (ids:List Int):Int→Prop
 |one {i x:Int} (h:i∈ids) (hx:x∈je l i) (hk:dQ l x=true):KE l ids x
 |more {y x:Int} (h:KE l ids y) (hx:x∈je l y) (hk:dQ l x=true):KE l ids x
def aqJ {l:List AQ} {i x:Int} (h:x∈je l i):dQ l i=true:=by
 unfold je at h;unfold dQ;cases j:EC l i with
 |none=>rw[Rq j]at h;cases h
 |some e=>rfl
def uG {s t:List Int} (hs:Inc s) (m:Inc t) (h:∀x∈s,x∈t):s.length≤t.length∧(t.length≤s.length→s=t):=by
 have e:s=t.filter (fun x=>Di s x):=Ee hs (m.sublist Tz) fun x=>by
  rw[FM,Jm];exact⟨fun j=>⟨h x j,j⟩,fun j=>j.2⟩
 have hl:=Jq (fun x=>Di s x) t;refine⟨by rw[e];exact hl,fun q=>?_⟩;have u:(t.filter (fun x=>Di s x)).length=t.length:=by have :=BL List.length e;omega
 rw[e];exact vg.2 (List.length_filter_eq_length_iff.1 u)
def Rx (l:List AQ):List Int:=Eo (l.map (·.Id))
def uQ {l:List AQ} {x:Int} (h:dQ l x=true):x∈Rx l:=by
 unfold dQ at h;obtain⟨e,j⟩:=TL.1 h;exact Ky.2 (FH.2 ⟨e,QH j,aay j⟩)
def aH3 (l:List AQ):∀(l':List AQ) (s:List Int),Inc s→(∀x∈s,dQ l x=true)→
 Inc (l'.foldl (fun s _=>IB s (Ja l s)) s)∧(∀x∈l'.foldl (fun s _=>IB s (Ja l s)) s,dQ l x=true)∧(∀x∈s,x∈l'.foldl (fun s _=>IB s (Ja l s)) s)∧
 ((Rx l).length≤s.length+l'.length→∀x∈Ja l (l'.foldl (fun s _=>IB s (Ja l s)) s),x∈l'.foldl (fun s _=>IB s (Ja l s)) s)
 | [],s,hs,z=>⟨hs,z,fun _ h=>h,fun hlen x m=>by
     have I:=(uG hs (LY _) (fun x m=>uQ (z x m))).2 (by show(Rx l).length≤s.length;simpa using hlen);have q:=uQ (SI.1 m).1;unfold Rx at q
     rw[←I]at q;exact q⟩
 |e::l',s,hs,z=>by
  rw[FZ]
  have J:∀x∈IB s (Ja l s),dQ l x=true:=fun x m=>by
   rcases TT.1 m with h|h
   ·exact z x h
   exact(SI.1 h).1
  obtain⟨I,q,L,M⟩:=aH3 l l' (IB s (Ja l s)) (vJ _ _) J;refine⟨I,q,fun x m=>L x (TT.2 (.inl m)),fun hlen=>?_⟩;have u:=uG hs (vJ s (Ja l s)) fun x m=>TT.2 (.inl m);by_cases j:s=IB s (Ja l s)
  ·
   have hst:∀(l':List AQ),l'.foldl (fun s _=>IB s (Ja l s)) s=s:=by
    intro l'
    induction l' with
    |nil=>rfl
    |cons e l' O=>rw[FZ,←j,O]
   rw[←j,hst];intro x m;rw[j];exact TT.2 (.inr m)
  ·refine M ?_
   have :s.length<(IB s (Ja l s)).length:=by
    rcases bf s.length (IB s (Ja l s)).length with h|h
    ·exact h
    exact absurd (u.2 h) j
   simp only[GI]at hlen;omega
def aD3 (l:List AQ) (ids:List Int):Inc (chainOf l ids):=(aH3 l l _ (uX _ _) fun _ j=>(SI.1 j).1).1
def ajP {l:List AQ} {ids:List Int} {x:Int} (h:x∈chainOf l ids):dQ l x=true:=(aH3 l l _ (uX _ _) fun _ j=>(SI.1 j).1).2.1 x h
def aQb (l:List AQ) (ids:List Int):∀(l':List AQ) (s:List Int),(∀x∈s,KE l ids x)→∀x∈l'.foldl (fun s _=>IB s (Ja l s)) s,KE l ids x
 | [],s,h=>h
 |e::l',s,h=>by
  rw[FZ];refine aQb l ids l' _ fun x j=>?_;rcases TT.1 j with j|j
  ·exact h x j
  obtain⟨m,y,q,u⟩:=SI.1 j;exact .more (h y q) u m
def bJ {l:List AQ} {ids:List Int} {x:Int}:x∈chainOf l ids↔KE l ids x:=by
 constructor
 ·refine aQb l ids l _ (fun x j=>?_) x;obtain⟨u,y,z,m⟩:=SI.1 j;exact .one (MZ.1 z).1 m u
 obtain⟨u,z,m,I⟩:=aH3 l l _ (uX l (iE l ids)) fun _ j=>(SI.1 j).1
 have hlen:(Rx l).length≤(Ja l (iE l ids)).length+l.length:=by
  have :=NU (l.map (·.Id));unfold Rx;simp only[Cm]at this;omega
 have J:=I hlen;intro h
 induction h with
 |one h j q=>exact m _ (SI.2 ⟨q,_,MZ.2 ⟨h,aqJ j⟩,j⟩)
 |more h j q L=>exact J _ (SI.2 ⟨q,_,L,j⟩)
def bH (l:List AQ) (ids:List Int):(chainOf l ids).length≤l.length:=by
 have j:=(uG (t:=Rx l) (aD3 l ids) (LY _) fun x m=>uQ (ajP m)).1;have q:=NU (l.map fun e:AQ=>e.Id);unfold Rx at j;simp only[Cm]at q;omega
def RD (l:List AQ):Prop:=∀e∈l,e.bK.length≤40
def aCj {l:List AQ} (h:RD l) (id:Int):(je l id).length≤40:=by
 unfold je;cases j:EC l id with
 |none=>rw[Rq j];exact El _
 |some e=>rw[Lh j];exact h e (QH j)
def apF (l:List AQ) (ids:List Int):(Ja l ids).length≤l.length:=by
 have j:=(uG (t:=Rx l) (uX l ids) (LY _) fun x m=>uQ (SI.1 m).1).1;have q:=NU (l.map fun e:AQ=>e.Id);unfold Rx at j;simp only[Cm]at q;omega
def lQ {l:List AQ} {r:List Int} (hi:Inc r) (h:∀x∈r,dQ l x=true):r.length≤l.length:=by
 have j:=(uG (t:=Rx l) hi (LY _) fun x m=>uQ (h x m)).1;have q:=NU (l.map fun e:AQ=>e.Id);unfold Rx at j;simp only[Cm]at q;omega
def aSY (l:List AQ) (ids:List Int) (hl:l.length≤1000) (ha:RD l) (hi:ids.length≤100000):tY l ids true=some (Ja l ids):=by
 unfold tY aUX;rw[Hu ids AB (fun r id=>(je l id).foldl (TR l) r) (fun i r=>Inc r∧∀x∈r,dQ l x=true) (fun r=>some r) ⟨.nil,fun x q=>by cases q⟩]
 ·rfl
 ·intro k r i h u;obtain⟨J,L,_⟩:=aI4 l (je l ids[i]) r u.1;refine⟨⟨J,fun x q=>?_⟩,?_⟩
  ·rcases(L x).1 q with h|h
   ·exact u.2 x h
   exact h.2
  unfold aKq aER;rw[Ce h,MH l _ AB];simp only[Aa,BZ];show aOl (je l ids[i]) l k (i:Int) r 0=_;have M:=aCj ha ids[i];unfold aOl;rw[Hu (je l ids[i]) AB (TR l) (fun _ r=>Inc r∧∀x∈r,dQ l x=true) (fun r=>k r (Am ((i:Int)+1))) u]
  ·intro k2 O j z m;refine⟨?_,?_⟩
   ·unfold TR;cases I:dQ l (je l ids[i])[j]with
    |true=>exact⟨Sm m.1,fun x q=>(Vu.1 q).elim (m.2 x) fun e=>e▸I⟩
    |false=>exact m
   unfold aNQ aBU;rw[Ce z,MH l _ AB];simp only[Aa,O5];show(bif dQ l (je l ids[i])[j]then _ else _)=_;unfold TR;cases I:dQ l (je l ids[i])[j]with
   |true=>
    simp only[BZ];rw[CV z];simp only[Aa];have :=lQ m.1 m.2;rw[mQ _ _ AB];rfl
   |false=>rfl
  intro k2 O _;unfold aNQ;rw[Dq]
 intro k r u;unfold aKq;rw[Dq]
def aei (l:List AQ) (ids:List Int) (hl:l.length≤1000) (ha:RD l) (m:Inc ids) (q:∀x∈ids,dQ l x=true):aF9 l ids true=some (l.foldl (fun s _=>IB s (Ja l s)) ids):=by
 unfold aF9 aa4;rw[Hu l AB (fun s _=>IB s (Ja l s)) (fun _ r=>Inc r∧∀x∈r,dQ l x=true) (fun r=>some r) ⟨m,q⟩]
 ·intro k r i h j;refine⟨⟨vJ _ _,fun x u=>(TT.1 u).elim (j.2 x) fun h=>(SI.1 h).1⟩,?_⟩;have z:=lQ j.1 j.2;have I:=apF l r;unfold aKI;rw[dec_lt h];simp only[BZ];rw[aSY l r hl ha AB];simp only[Aa];rw[aCJ _ _ AB AB];rfl
 intro k r j;unfold aKI;rw[DV];rfl
def aKo (l:List AQ) (ids:List Int) (hl:l.length≤1000) (ha:RD l) (hi:ids.length≤100000):bV l ids=some (chainOf l ids):=by
 unfold bV;have m:=atE l ids;rw[ahI l ids hl hi];simp only[Aa];rw[aSY l _ hl ha AB];simp only[Aa];rw[aei l _ hl ha (uX _ _) fun x j=>(SI.1 j).1];rfl
section
variable {R A B C D E F G : Type} {Q : R → Prop}
def Ul {body:(A→B→C→Option R)→A→B→C→Option R} (I:Nat→A→B→C→Prop) (hs:∀m a b c k,I m a b c→(∀j a' q u,j<m→I j a' q u→eX (k a' q u) Q)→eX (body k a b c) Q):
 ∀n m a b c,m<n→I m a b c→eX (jM body n a b c) Q
 |0,m,_,_,_,h,_=>AB
 |n+1,m,a,b,c,h,hi=>hs m a b c _ hi fun j a' q u h' z=>Ul I hs n j a' q u AB z
def aIy {body:(A→B→C→D→E→Option R)→A→B→C→D→E→Option R} (I:Nat→A→B→C→D→E→Prop) (hs:∀m a b c d e k,I m a b c d e→(∀j a' q u z e',j<m→I j a' q u z e'→eX (k a' q u z e') Q)→eX (body k a b c d e) Q):
 ∀n m a b c d e,m<n→I m a b c d e→eX (FT body n a b c d e) Q
 |0,m,_,_,_,_,_,h,_=>AB
 |n+1,m,a,b,c,d,e,h,hi=>hs m a b c d e _ hi fun j a' q u z e' h' J=>aIy I hs n j a' q u z e' AB J
def aLk {body:(A→B→C→D→E→F→Option R)→A→B→C→D→E→F→Option R} (I:Nat→A→B→C→D→E→F→Prop) (hs:∀m a b c d e f k,I m a b c d e f→(∀j a' q u z e' J,j<m→I j a' q u z e' J→eX (k a' q u z e' J) Q)→eX (body k a b c d e f) Q):
 ∀n m a b c d e f,m<n→I m a b c d e f→eX (FU body n a b c d e f) Q
 |0,m,_,_,_,_,_,_,h,_=>AB
 |n+1,m,a,b,c,d,e,f,h,hi=>hs m a b c d e f _ hi fun j a' q u z e' J h' L=>aLk I hs n j a' q u z e' J AB L
def aQr {body:(A→B→C→D→E→F→G→Option R)→A→B→C→D→E→F→G→Option R} (I:Nat→A→B→C→D→E→F→G→Prop) (hs:∀m a b c d e f g k,I m a b c d e f g→(∀j a' q u z e' J L,j<m→I j a' q u z e' J L→eX (k a' q u z e' J L) Q)→eX (body k a b c d e f g) Q):
 ∀n m a b c d e f g,m<n→I m a b c d e f g→eX (abD body n a b c d e f g) Q
 |0,m,_,_,_,_,_,_,_,h,_=>AB
 |n+1,m,a,b,c,d,e,f,g,h,hi=>hs m a b c d e f g _ hi fun j a' q u z e' J L h' M=>aQr I hs n j a' q u z e' J L AB M
end
def Rw {V:Type}:∀(m:List (Int×V)) (k k':Int) (v:V),D6 (Et m k v) k'=bif k'==k then some v else D6 m k'
 | [],k,k',v=>by
   unfold Et D6;rfl
 |p::m,k,k',v=>by
  unfold Et;cases h:k==p.1 with
  |true=>
   have j:k=p.1:=LJ
   subst j;simp only[BZ,D6];cases k'==p.1<;>rfl
  |false=>
   have j:k≠p.1:=LJ
   simp only[BM,D6,Rw m k k' v];cases q:k'==p.1 with
   |true=>
    have u:k'=p.1:=PL
    subst u;have :(p.1==k)=false:=by simpa using fun e:p.1=k=>j e.symm
    rw[this];rfl
   |false=>rfl
def Xi (l:List AQ) (m:List (Int×Int)):Prop:=∀id,(D6 m id=none∧EC l id=none)∨∃(n:Nat) (e:AQ),D6 m id=some (n:Int)∧EC l id=some e∧l[n]? =some e
def Xi.isSome {l:List AQ} {m:List (Int×Int)} (h:Xi l m) (id:Int):(D6 m id).isSome=dQ l id:=by
 unfold dQ;rcases h id with⟨j,q⟩|⟨n,e,j,q,_⟩<;>rw[j,q]<;>rfl
def Xi.get {l:List AQ} {m:List (Int×Int)} (h:Xi l m) {id:Int} {e:AQ} (q:EC l id=some e):Ai l ((D6 m id).getD 0)=some e:=by
 rcases h id with⟨_,j⟩|⟨n,e',u,j,z⟩
 ·rw[q]at j;cases j
 rw[q]at j;cases j;rw[u];show Ai l (n:Int)=_;rw[qC,z]
def aEw (l:List AQ) (hl:l.length≤1000):eX (aA l) (Xi l):=by
 unfold aA adX
 refine Y3 (fun m a b=>∃i:Nat,a=(i:Int)-1∧m=i∧i≤l.length∧∀id,(D6 b id=none∧(l.drop i).find? (fun e=>e.Id==id)=none)∨∃(n:Nat) (e:AQ),D6 b id=some (n:Int)∧(l.drop i).find? (fun e=>e.Id==id)=some e∧l[n]? =some e) ?_ Aj l.length _ _ (fuel_lt AB)
  ⟨l.length,QY,rfl,EG _,fun id=>.inl ⟨rfl,BP⟩⟩
 rintro m a b k ⟨i,rfl,L,hi,h⟩ z;unfold aUE;refine eX.bif (fun e=>?_) fun e=>?_
 ·have u:0<i:=by have :=Rh e;omega
  have j:i-1<l.length:=AB
  have I:(i:Int)-1=((i-1:Nat):Int):=AB
  rw[I,CV j];simp only[Aa];refine z (i-1) _ _ AB ⟨i-1,QY,rfl,AB,fun id=>?_⟩;rw[Rw,La j,show i-1+1=i by omega,RS];cases q:l[i-1].Id==id with
  |true=>
   have :(id==l[i-1].Id)=true:=by have :l[i-1].Id=id:=PL
                                  simp[this]
   rw[this];exact .inr ⟨i-1,l[i-1],rfl,rfl,mD⟩
  |false=>
   have :(id==l[i-1].Id)=false:=by have :l[i-1].Id≠id:=PL
                                   simpa using fun e:id=l[i-1].Id=>this e.symm
   rw[this];exact h id
 have J:i=0:=by have :=Jk e;omega
 subst J;refine .ret fun id=>?_;have :=h id;rw[oJ]at this;exact this
inductive Uy (l:List AQ) (from_:List Int):Int→Prop
 |one {x:Int} (h:x∈from_) (hk:dQ l x=true):Uy l from_ x
 |more {y x:Int} (h:Uy l from_ y) (hx:x∈je l y) (hk:dQ l x=true):Uy l from_ x
def Uy.dQ {l:List AQ} {f:List Int} {x:Int} (h:Uy l f x):dQ l x=true:=by cases h<;>assumption
def anQ {r:List Int} {x:Int} (h:x∉r):(put r x).length=r.length+1:=by
 unfold put;rw[DL (by rw[Jm];exact h),EP,GI];have :=BL List.length (yT (p:=(decide<| · <x)) (l:=r));rw[EP]at this;omega
def aao (r:List Int) (x:Int):Eo (r++[x])=put (Eo r) x:=by unfold Eo;rw[V6];rfl
structure apj (l:List AQ) (from_ next ayq:List Int) (i:Nat) (out later:List Int) (found level:List (Int×Bool)):Prop where
 found:∀x,(D6 found x).getD false=true↔x∈out
 level:∀x,(D6 level x).getD false=true→x∈out
 nodup:(Eo out).length=out.length
 rch:∀x∈out,Uy l from_ x
 seen:∀x∈next.take i,dQ l x=true→x∈out
 sub:∀x∈ayq,x∈out
 ref:∀y∈out,y∈ayq∨∀x∈je l y,x∈later
 back:∀x∈later,∃y∈out,x∈je l y
 size:later.length+40*ayq.length≤40*out.length
 same:out.length=ayq.length→later=[]
def aNH {l:List AQ} {j:List Int} (h:(Eo j).length=j.length) (m:∀x∈j,dQ l x=true):j.length≤l.length:=by
 rw[←h];exact lQ (LY j) fun x q=>m x (Ky.1 q)
def apM (l:List AQ) {x:Int} {e:AQ} (h:EC l x=some e):YB e=some (je l x):=by
 unfold YB je;rw[Lh h]
def ag0 (l:List AQ) (q:List Int) (hl:l.length≤1000) (ha:RD l) (hf:q.length≤10000000):
 eX (qM l q fun a0=>YB a0) (fun r=>Inc r∧∀x,x∈r↔Uy l q x):=by
 unfold qM;refine(aEw l hl).bind fun at_ Z=>?_;unfold aQe
 refine aIy (fun m z next at' found level=>at'=at_∧m=2*(l.length-z.length)+(if next=[]then 0 else 1)∧next.length≤10000000∧(∀x,(D6 found x).getD false=true↔x∈z)∧(Eo z).length=z.length∧
  (∀x∈z,Uy l q x)∧(∀x∈next,dQ l x=true→Uy l q x)∧(∀x∈q,dQ l x=true→x∈z∨x∈next)∧(∀y∈z,∀x∈je l y,dQ l x=true→x∈z∨x∈next)) ?_ Aj (2*(l.length-([]:List Int).length)+(if q=[]then 0 else 1)) _ _ _ _ _ ?_ ?_
 ·rintro m z next at2 found level k ⟨aG8,rfl,hn,h1,h2,h3,h4,h5,h6⟩ M;subst aG8;unfold aat;have hol:=aNH h2 fun x j=>(h3 x j).dQ;refine eX.bif (fun e=>?_) fun e=>?_
  ·have hne:next≠[]:=by
    rintro rfl;simp at e
   unfold aaS;refine aLk (body:=aLg next l (fun a0=>YB a0) k) (fun(m:Nat) (o la:List Int) (c:Int) (d:List (Int×Int)) (fo le:List (Int×Bool))=>∃i:Nat,c=i∧i+m=next.length∧d=at2∧apj l q next z i o la fo le) ?_ Aj next.length _ _ _ _ _ _ ig ?_
   ·rintro m o la c d fo le k2 ⟨i,rfl,hm,rfl,u⟩ U;unfold aLg;refine eX.bif (fun e=>?_) fun e=>?_
    ·have hi:i<next.length:=SB
     have w:=wrap_succ i AB;have aG9:=aNH u.nodup fun x j=>(u.rch x j).dQ;rw[CV hi];simp only[Aa];rw[Z.isSome];unfold aA3;have J:next.take (i+1)=next.take i++[next[i]]:=by rw[Ox hi]
     cases Y:dQ l next[i]with
     |false=>
      simp only[Io,BZ,Aa,w];refine U (m-1) _ _ _ _ _ _ AB ⟨i+1,rfl,AB,rfl,{ u with seen:=fun x j M=>?_ }⟩;rw[J,Gw]at j;rcases j with j|j
      ·exact u.seen x j M
      rw[IK.1 j,Y]at M;cases M
     |true=>
      simp only[EL,BM,Aa];by_cases O:next[i]∈o
      ·rw[(u.found next[i]).2 O];simp only[BZ,Aa,w];refine U (m-1) _ _ _ _ _ _ AB ⟨i+1,rfl,AB,rfl,{ u with seen:=fun x j M=>?_ }⟩;rw[J,Gw]at j;rcases j with j|j
       ·exact u.seen x j M
       rw[IK.1 j];exact O
      have f1:(D6 fo next[i]).getD false=false:=by
       cases h:(D6 fo next[i]).getD false with
       |false=>rfl
       |true=>exact absurd ((u.found _).1 h) O
      have f2:(D6 le next[i]).getD false=false:=by
       cases h:(D6 le next[i]).getD false with
       |false=>rfl
       |true=>exact absurd (u.level _ h) O
      rw[f1,f2];simp only[BM,Aa];obtain⟨ev,hev⟩:=TL.1 (show(EC l next[i]).isSome=true from Y);rw[Dk G7];simp only[Aa];rw[Z.get hev];simp only[Aa];rw[apM l hev];simp only[Aa];have hau:=aCj ha next[i];have hsz:=u.size;rw[Dk AB];simp only[Aa,w];refine U (m-1) _ _ _ _ _ _ AB ⟨i+1,rfl,AB,rfl,?_⟩;have hnx:Uy l q next[i]:=h4 _ (EU hi) Y;refine⟨fun x=>?_,fun x j=>?_,?_,fun x j=>?_,fun x j M=>?_,fun x j=>lR _ (u.sub x j),fun y L=>?_,fun x j=>?_,?_,fun h=>?_⟩
      ·rw[Rw,Gw,IK];cases j:x==next[i]with
       |true=>simp only[BZ,Nr,true_iff];exact .inr PO
       |false=>simp only[BM];rw[u.found x];exact⟨.inl,fun h=>h.elim id fun h=>by simp[h]at j⟩
      ·rw[Rw]at j;rw[Gw,IK];cases hxe:x==next[i]with
       |true=>exact .inr (by simpa using hxe)
       |false=>rw[hxe]at j;exact .inl (u.level x j)
      ·rw[aao,anQ (fun h=>O (Ky.1 h)),u.nodup];simp
      ·rcases Gw.1 j with j|j
       ·exact u.rch x j
       rw[IK.1 j];exact hnx
      ·rw[J,Gw]at j;rcases j with j|j
       ·exact lR _ (u.seen x j M)
       exact Mid _ j
      ·rcases Gw.1 L with L|L
       ·exact(u.ref y L).imp id fun h x j=>lR _ (h x j)
       rw[IK.1 L];exact .inr fun x j=>Mid _ j
      ·rcases Gw.1 j with j|j
       ·obtain⟨y,L,h⟩:=u.back x j;exact⟨y,lR _ L,h⟩
       exact⟨next[i],Mid _ (IK.2 rfl),j⟩
      ·simp only[EP,OV];omega
      have :=u.size;simp only[EP,OV]at h;omega
    have hi:i=next.length:=by have :¬i<next.length:=SB
                              omega
    subst hi;have aG9:=aNH u.nodup fun x j=>(u.rch x j).dQ;have hsz:=u.size;refine M (2*(l.length-o.length)+(if la=[]then 0 else 1)) _ _ _ _ _ ?_ ⟨rfl,rfl,AB,u.found,u.nodup,u.rch,fun x j I=>?_,fun x j I=>?_,fun y L x j I=>?_⟩
    ·rw[DL hne];have hle:z.length≤o.length:=AB
     rcases bf z.length o.length with h|h
     ·split<;>omega
     have :=u.same AB;rw[D9 this];omega
    ·obtain⟨y,L,h⟩:=u.back x j;exact .more (u.rch y L) h I
    ·rcases h5 x j I with h|h
     ·exact .inl (u.sub x h)
     exact .inl (u.seen x (by rw[Gm];exact h) I)
    rcases u.ref y L with h|h
    ·rcases h6 y h x j I with h|h
     ·exact .inl (u.sub x h)
     exact .inl (u.seen x (by rw[Gm];exact h) I)
    exact .inr (h x j)
   exact⟨0,rfl,AB,rfl,⟨h1,fun x j=>by simp[D6]at j,h2,h3,fun x j=>oI,fun _ h=>h,fun y L=>.inl L,fun x j=>(Fe j).elim,BP,fun _=>rfl⟩⟩
  have hz:next=[]:=by
   cases next with
   |nil=>rfl
   |cons a b=>simp at e
  subst hz;rw[iU z AB];refine .ret ⟨LY _,fun x=>?_⟩;rw[Ky];refine⟨h3 x,fun h=>?_⟩
  induction h with
  |one h I=>exact(h5 _ h I).elim id fun h=>(Fe h).elim
  |more h j I ih=>exact(h6 _ ih _ j I).elim id fun h=>(Fe h).elim
 ·have :Aj=9223372036854775808:=rfl;split<;>(simp only[NK];omega)
 exact⟨rfl,rfl,hf,fun x=>by simp[D6],rfl,fun x j=>(Fe j).elim,fun x j M=>.one j M,fun x j _=>.inr j,fun y L=>(Fe L).elim⟩
def aKG (l:List AQ) (ids:List Int) (hl:l.length≤1000) (ha:RD l) (hi:ids.length≤100000):Z9 l ids=some (chainOf l ids):=by
 refine eX.eq ?_;unfold Z9;refine(aEw l hl).bind fun at_ m=>?_;unfold aSl;rw[Hu ids AB (fun r id=>r++je l id) (fun i r=>r.length≤40*i) (fun r=>(qM l r fun a0=>YB a0).bind fun I=>some I) BP]
 ·rw[foldl_append (je l),IV]
  have hlen:(ids.flatMap (je l)).length≤40*ids.length:=by
   have key:∀ids:List Int,(ids.flatMap (je l)).length≤40*ids.length:=by
    intro ids
    induction ids with
    |nil=>simp
    |cons x ids z=>have :=aCj ha x;rw[Nz,EP,GI];omega
   exact key ids
  refine(ag0 l _ hl ha AB).bind fun r J=>.ret ?_;refine Ee J.1 (aD3 l ids) fun x=>(J.2 x).trans (Iff.trans ?_ bJ.symm);constructor
  ·intro h
   induction h with
   |one h j=>
    obtain⟨i,hi,h⟩:=TD.1 h;exact .one hi h j
   |more h q j z=>exact .more z q j
  intro h
  induction h with
  |one h q j=>exact .one (TD.2 ⟨_,h,q⟩) j
  |more h q j z=>exact .more z q j
 ·intro k r i h M;have L:=aCj ha ids[i];refine⟨by simp only[EP];omega,?_⟩;unfold aJn aDl;rw[Ce h,m.isSome];cases j:dQ l ids[i]with
  |false=>
   have :je l ids[i]=[]:=by
    unfold je;rw[Rq (by unfold dQ at j;simpa using j)];rfl
   rw[this,PS];rfl
  |true=>
   obtain⟨ev,u⟩:=TL.1 (show(EC l ids[i]).isSome=true from j);simp only[BZ];rw[m.get u];simp only[Aa];have :je l ids[i]=ev.bK:=by unfold je;rw[Lh u]
   rw[←this,Dk AB];rfl
 intro k r _;unfold aJn;rw[Dq]
def aKr :∀x:List UInt8,Op.bytesLess x x=false
 | []=>rfl
 |a::x=>by
  unfold Op.bytesLess;rw[aKr x];simp
def aSL :∀{x y z:List UInt8},Op.bytesLess x y=true→Op.bytesLess y z=true→Op.bytesLess x z=true
 |_,_,[],_,h=>aBM
 | [],_,_::_,_,_=>rfl
 |_::_,[],_::_,h,_=>aBM
 |a::x,b::y,c::z,h,k=>by
  simp only[Op.bytesLess,Yt,DT,Gi,Qo]at h k ⊢;rcases h with h|⟨rfl,h⟩<;>rcases k with k|⟨rfl,k⟩
  ·exact .inl (UInt8.lt_trans h k)
  ·exact .inl h
  ·exact .inl k
  exact .inr ⟨rfl,aSL h k⟩
def aTl :∀{x y:List UInt8},Op.bytesLess x y=false→Op.bytesLess y x=false→x=y
 | [],[],_,_=>rfl
 | [],_::_,h,_=>aBM
 |_::_,[],_,h=>aBM
 |a::x,b::y,h,k=>by
  simp only[Op.bytesLess,jW,aMt,Y7,Xw]at h k;have e:a=b:=UInt8.le_antisymm (UInt8.not_lt.1 k.1) (UInt8.not_lt.1 h.1);subst e;have j:=h.2.resolve_left (fun h=>h rfl);have k2:=k.2.resolve_left (fun h=>h rfl);rw[aTl j k2]
def FN (a b:Aq):Bool:=decide (a.Kind<b.Kind)||(a.Kind==b.Kind&&Op.bytesLess a.Key.toList b.Key.toList)
def Ii (a b:Aq):Bool:=a.Kind==b.Kind&&decide (a.Key=b.Key)
def aeD (a:Aq):FN a a=false:=by unfold FN;rw[aKr];simp
def aQt {a b c:Aq} (h:FN a b=true) (k:FN b c=true):FN a c=true:=by
 unfold FN at *;simp only[Yt,DT,Gi,Qo]at *;rcases h with h|⟨m,j⟩<;>rcases k with k|⟨q,k2⟩
 ·exact .inl AB
 ·exact .inl AB
 ·exact .inl AB
 exact .inr ⟨AB,aSL j k2⟩
def WT {a b:Aq}:Ii a b=true↔a.Kind=b.Kind∧a.Key=b.Key:=by unfold Ii;simp
def aRh {a b:Aq} (h:FN a b=false) (k:FN b a=false):Ii a b=true:=by
 unfold FN at *;simp only[jW,aMt,Y7,Xw]at *;have e:a.Kind=b.Kind:=AB
 rw[WT];exact⟨e,toList_inj (aTl (h.2.resolve_left fun n=>n e) (k.2.resolve_left fun n=>n e.symm))⟩
def oh {a b:Aq} (h:Ii a b=true):FN a b=false:=by
 obtain⟨j,m⟩:=WT.1 h;unfold FN;rw[j,m,aKr];simp
def wo {a b c:Aq} (h:Ii a b=true):FN a c=FN b c∧FN c a=FN c b:=by
 obtain⟨j,m⟩:=WT.1 h;unfold FN;rw[j,m];exact⟨rfl,rfl⟩
def aj1 (a b:Aq):rD a b=some (FN a b):=by
 unfold rD FN;cases j:decide (a.Kind<b.Kind)<;>cases m:a.Kind==b.Kind<;>rfl
def aeQ (k:Int) (key:ByteArray) (m:Int) (o:ByteArray) (i j:Int):aCm k key m o=some (FN ⟨k,key,i⟩ ⟨m,o,j⟩):=by
 unfold aCm FN;cases q:decide (k<m)<;>cases u:k==m<;>simp_all
def Ey (s:List Aq) (e:Aq):Nat:=s.findIdx fun x=> !FN x e
def KI (s:List Aq) (e:Aq):Bool:=match s[Ey s e]? with
 |some x=>Ii x e
 |none=>false
def l7 (s:List Aq) (e:Aq):Ey s e≤s.length:=aEI
def acB {s:List Aq} {e:Aq} (h:Ey s e<s.length):FN s[Ey s e] e=false:=by
 have :=aIt (w:=h);unfold Ey;simpa using this
def aVi (s:List Aq) (k:Int) (key:ByteArray) (hs:s.length≤1000000):wB s k key=some (((Ey s ⟨k,key,0⟩:Nat):Int),KI s ⟨k,key,0⟩):=by
 unfold wB aLc aSD;generalize z:(⟨k,key,0⟩:Aq)=e
 have m:bD (aEu s (fun a0=>oq a0 e) (fun a0=>vS a0 e)) Aj 0=some (((Ey s e:Nat):Int),KI s e):=by
  rw[JC s (fuel_lt AB) (fun x=> !FN x e) (fun i=>some (((i:Nat):Int),match s[i]? with |some x=> !FN e x|none=>false)) (some (((s.length:Nat):Int),false))]
  ·split
   ·rename_i h;congr 2;unfold KI Ey;rw[Dj h];have q:FN s[s.findIdx fun x=> !FN x e] e=false:=acB h;show(!FN e s[s.findIdx fun x=> !FN x e])=Ii s[s.findIdx fun x=> !FN x e] e;cases j:FN e s[s.findIdx fun x=> !FN x e]with
    |false=>rw[aRh q j];rfl
    |true=>
     cases u:Ii s[s.findIdx fun x=> !FN x e] e with
     |false=>rfl
     |true=>rw[(wo u).2,aeD]at j;cases j
   rename_i h;have h':Ey s e=s.length:=by have :=l7 s e;unfold Ey at *;omega
   have j:KI s e=false:=by unfold KI;rw[h',IC (EG _)]
   rw[h',j]
  ·intro k2 i h;unfold aEu;rw[Ce h,Ce h];simp only[oq,vS,aj1,Aa];rw[Dj h];cases FN s[i] e<;>rfl
  intro k2;unfold aEu;rw[Dq,Dq];rfl
 rw[m];rfl
def JG (s:List Aq):Prop:=s.Pairwise fun a b=>FN a b=true
def GH (s:List Aq) (k:Int) (key:ByteArray):Int×Bool:=match s.find? fun x=>Ii x ⟨k,key,0⟩with
 |some x=>(x.Id,true)
 |none=>(0,false)
def aOe (s:List Aq) (k:Int) (key:ByteArray) (hs:s.length≤1000000):fQ s k key=some (GH s k key):=by
 unfold fQ aSB;rw[JC s (fuel_lt AB) (fun x=>Ii x ⟨k,key,0⟩) (fun i=>(Ai s (i:Int)).bind fun j=>some (j.Id,true)) (some (0,false))]
 ·unfold GH;rw[JE];split
  ·rename_i h;rw[CV h,Dj h];rfl
  rename_i h;rw[IC AB]
 ·intro k2 i h;unfold aIH;rw[Ce h,CV h];simp only[Aa];unfold Ii;rw[IZ];cases s[i].Kind==k<;>rfl
 intro k2;unfold aIH;rw[Dq]
def akF {s:List Aq} (h:JG s) (e:Aq):s.find? (fun x=>Ii x e)=match s[Ey s e]? with |some x=>if Ii x e then some x else none|none=>none:=by
 induction s with
 |nil=>rfl
 |cons a s q=>
  have h':=PG.1 h;unfold Ey;rw[RS,TJ];cases j:FN a e with
  |true=>
   have hs:Ii a e=false:=by
    cases hs:Ii a e with
    |false=>rfl
    |true=>rw[oh hs]at j;cases j
   rw[hs];simp only[EL,BM,aHI];exact q h'.2
  |false=>
   simp only[Io,BZ,aIk];cases hs:Ii a e with
   |true=>rfl
   |false=>
    simp only[RX,KN];refine aCY.2 fun x u z=>?_;have m:=h'.1 x u;rw[(wo z).2,j]at m;cases m
def aLq (s:List Aq) (k:Int) (key:ByteArray) (hs:s.length≤1000000) (h:JG s):gU s k key=some (GH s k key):=by
 unfold gU;rw[aVi s k key hs];simp only[Aa];unfold GH KI;rw[akF h];by_cases hl:Ey s ⟨k,key,0⟩<s.length
 ·rw[Dj hl];simp only;cases j:Ii s[Ey s ⟨k,key,0⟩] ⟨k,key,0⟩with
  |true=>simp only[BZ,Jv];rw[CV hl];rfl
  |false=>rfl
 rw[IC AB];rfl
def Fg (s:List Aq) (k:Int) (key:ByteArray) (id:Int):List Aq:=
 s.take (Ey s ⟨k,key,0⟩)++⟨k,key,id⟩::s.drop (Ey s ⟨k,key,0⟩+bif KI s ⟨k,key,0⟩then 1 else 0)
def akV {s:List Aq} {e:Aq} (h:KI s e=true):Ey s e<s.length:=by
 unfold KI at h;by_cases hl:Ey s e<s.length
 ·exact hl
 rw[IC AB]at h;cases h
def xk {α:Type} {l:List α} {i:Nat} (hi:i≤l.length):I5 l 0 (i:Int)=some (l.take i):=by
 have :=jT (l:=l) (lo:=0) (hi:=i) AB hi;simpa using this
def Wq {α:Type} {l:List α} {i:Nat} (hi:i≤l.length):I5 l (i:Int) (l.length:Int)=some (l.drop i):=by
 rw[jT (l:=l) (lo:=i) (hi:=l.length) hi AB];congr 1;exact Ql BP
def YO (s:List Aq) (k:Int) (key:ByteArray) (id:Int) (hs:s.length≤1000000):Rf s k key id=some (Fg s k key id):=by
 unfold Rf;rw[aVi s k key hs];simp only[Aa];have j:=l7 s ⟨k,key,0⟩;unfold aDq Fg;rw[xk j];simp only[Aa];rw[Dk Dz];simp only[Aa,IV];rw[Dk Dz];simp only[Aa];cases m:KI s ⟨k,key,0⟩with
 |true=>
  have hl:=akV m;simp only[BZ];rw[wrap_succ _ AB,Wq hl];simp only[Aa];rw[Dk Dz];simp
 |false=>
  simp only[BM];rw[Wq j];simp only[Aa];rw[Dk Dz];simp
def aJo (s:List Aq) (k:Int) (key:ByteArray) (id:Int) (hs:s.length≤1000000):eA s k key id=some (Fg s k key id):=by
 unfold eA aQU
 have j:∀(k2:Int→Option (List Aq)),Yw k2 ((Ey s ⟨k,key,0⟩:Nat):Int) s k key id false=some (Fg s k key id):=by
  intro k2;have q:=l7 s ⟨k,key,0⟩;unfold Yw aCZ Fg;simp only[BM];rw[xk q];simp only[Aa];rw[Dk Dz];simp only[Aa,IV];rw[Dk Dz];simp only[Aa];by_cases hl:Ey s ⟨k,key,0⟩<s.length
  ·rw[dec_lt hl,CV hl];simp only[BZ,Aa]
   have u:KI s ⟨k,key,0⟩=(s[Ey s ⟨k,key,0⟩].Kind==k&&decide (s[Ey s ⟨k,key,0⟩].Key=key)):=by
    unfold KI;rw[Dj hl];rfl
   rw[u,IZ,←TU];cases z:s[Ey s ⟨k,key,0⟩].Kind==k with
   |false=>
    simp only[BM,Aa];rw[Wq q];simp only[Aa];rw[Dk Dz];simp
   |true=>
    simp only[BZ,Aa];cases decide (s[Ey s ⟨k,key,0⟩].Key=key)with
    |true=>
     simp only[BZ];rw[wrap_succ _ AB,Wq hl];simp only[Aa];rw[Dk Dz];simp
    |false=>
     simp only[BM];rw[Wq q];simp only[Aa];rw[Dk Dz];simp
  have m:Ey s ⟨k,key,0⟩=s.length:=AB
  have u:KI s ⟨k,key,0⟩=false:=by unfold KI;rw[m,IC (EG _)]
  rw[u,m,DV];simp only[BM,Aa];rw[Wq (EG _)];simp only[Aa];rw[Dk Dz];simp
 rw[JC s (fuel_lt AB) (fun x=> !FN x ⟨k,key,0⟩) (fun i=>Yw (fun _=>none) (i:Int) s k key id false) (Yw (fun _=>none) (s.length:Int) s k key id false)]
 ·split
  ·exact j _
  rename_i h;have m:Ey s ⟨k,key,0⟩=s.length:=aQs
  have :=j fun _=>none;rw[m]at this;exact this
 ·intro k2 i h;unfold aO6;rw[dec_lt h,CV h];simp only[BZ,Aa];rw[aeQ _ _ _ _ s[i].Id 0];simp only[Aa];show Yw k2 _ s k key id (FN s[i] ⟨k,key,0⟩)=_;cases FN s[i] ⟨k,key,0⟩<;>rfl
 intro k2;unfold aO6;rw[DV];rfl
def QB (s:List Aq) (k:Int) (key:ByteArray) (id:Int):(Fg s k key id).length≤s.length+1:=by
 unfold Fg;have :=l7 s ⟨k,key,0⟩;simp only[EP,GI,Fr,LP];omega
def alk {s:List Aq} {e x:Aq} (h:x∈s.take (Ey s e)):FN x e=true:=by
 obtain⟨i,hi,rfl⟩:=Ia h;have j:i<Ey s e:=by simp at hi;omega
 have :=List.not_of_lt_findIdx j;rw[aCu];simpa using this
def aQn {s:List Aq} (hs:JG s) {e x:Aq} (h:x∈s.drop (Ey s e+bif KI s e then 1 else 0)):FN e x=true:=by
 generalize m:(Ey s e+bif KI s e then 1 else 0)=n at h;obtain⟨i,hi,rfl⟩:=Ia h;rw[List.getElem_drop];rw[LP]at hi;by_cases hl:Ey s e<s.length
 ·have I:=acB hl;cases j:KI s e with
  |true=>
   rw[j]at m;simp only[BZ]at m;have q:Ii s[Ey s e] e=true:=aUo
   rw[←(wo q).1];exact MO.1 hs _ _ hl AB AB
  |false=>
   rw[j]at m;simp only[BM,P5]at m;subst m;have q:Ii s[Ey s e] e=false:=aUo
   have u:FN e s[Ey s e]=true:=by
    cases h:FN e s[Ey s e]with
    |true=>rfl
    |false=>rw[aRh I h]at q;cases q
   rcases Yp i with z|z
   ·subst z;simpa using u
   exact aQt u (MO.1 hs _ _ hl AB AB)
 omega
def Wx {s:List Aq} (h:JG s) (k:Int) (key:ByteArray) (id:Int):JG (Fg s k key id):=by
 have q:Ii ⟨k,key,id⟩ ⟨k,key,0⟩=true:=WT.2 ⟨rfl,rfl⟩;unfold Fg JG;refine Zz.2 ⟨h.sublist (List.take_sublist ..),PG.2 ⟨fun x j=>?_,h.sublist (List.drop_sublist ..)⟩,fun x j y m=>?_⟩
 ·rw[(wo q).1];exact aQn h j
 have u:FN x ⟨k,key,0⟩=true:=alk j;rcases F8.1 m with rfl|m
 ·rw[(wo q).2];exact u
 exact aQt u (aQn h m)
structure Oe (l:List (List Aq)):Prop where
 len:l.length≤100
 each:∀s∈l,s.length≤100∧JG s
def Iw (l:List (List Aq)) (x:Aq):Bool:=l.all fun s=>(GH s x.Kind x.Key).2&&(GH s x.Kind x.Key).1==x.Id
def aiq (l:List (List Aq)) (x:Aq) (h:Oe l):aC6 l x=some (Iw l x):=by
 unfold aC6 aRW;rw[Gz l (fuel_lt (by have :=h.len;omega)) (fun s=> !((GH s x.Kind x.Key).2&&(GH s x.Kind x.Key).1==x.Id)) false (some true)]
 ·unfold Iw;rw[Jo,xR]
 ·intro k i hi;obtain⟨m,j⟩:=h.each l[i] (EU hi);unfold aKS;rw[Ce hi,aLq _ _ _ AB j];simp only[Aa];cases(GH l[i] x.Kind x.Key).2<;>simp[bne]
 intro k;unfold aKS;rw[Dq]
def ald (l:List (List Aq)) (x:Aq) (h:Oe l):Mem l x=some (Iw l x):=by
 unfold Mem aQo;rw[Gz l (fuel_lt (by have :=h.len;omega)) (fun s=> !((GH s x.Kind x.Key).2&&(GH s x.Kind x.Key).1==x.Id)) false (some true)]
 ·unfold Iw;rw[Jo,xR]
 ·intro k i hi;obtain⟨j,m⟩:=h.each l[i] (EU hi);unfold aNp;rw[Ce hi,aOe _ _ _ AB];simp only[Aa];cases(GH l[i] x.Kind x.Key).2<;>simp[bne]
 intro k;unfold aNp;rw[Dq]
def I4 (l:List (List Aq)):List Aq:=match l with
 | []=>[]
 |s::_=>s.filter (Iw l)
def PV (l:List (List Aq)):List Int:=(l.flatMap fun s=>s.filter fun x=> !Iw l x).map (·.Id)
def Qu (l:List (List Aq)) (i:Nat):List Aq:=if i=0 then[]else I4 l
def Nb (l:List (List Aq)) (i:Nat):List Int:=((l.take i).flatMap fun s=>s.filter fun x=> !Iw l x).map (·.Id)
def aRY {l:List (List Aq)} {i:Nat} (h:i<l.length):Qu l (i+1)=Qu l i++(if i=0 then l[i].filter (Iw l)else[]):=by
 unfold Qu I4;cases l with
 |nil=>simp at h
 |cons s l=>cases i<;>simp
def aIf {l:List (List Aq)} {i:Nat} (h:i<l.length):Nb l (i+1)=Nb l i++(l[i].filter fun x=> !Iw l x).map (·.Id):=by
 unfold Nb;rw[Ox h,List.flatMap_append,JM];simp
def aLG (l:List (List Aq)):Nb l l.length=PV l:=by unfold Nb PV;rw[Gm]
def aSj (l:List (List Aq)):Qu l l.length=I4 l:=by
 unfold Qu;cases l with
 |nil=>rfl
 |cons s l=>simp
def aNo {l:List (List Aq)} (h:Oe l) (i:Nat):(Nb l i).length≤100*i:=by
 induction i with
 |zero=>simp[Nb]
 |succ i j=>
  by_cases hi:i<l.length
  ·rw[aIf hi,EP,Cm];have :=(h.each _ (EU hi)).1;have :=Jq (fun x=> !Iw l x) l[i];omega
  have :Nb l (i+1)=Nb l i:=by unfold Nb;rw[Ql AB,Ql AB]
  rw[this];omega
def aHq {l:List (List Aq)} (h:Oe l):(PV l).length≤10000:=by
 have :=aNo h l.length;rw[aLG]at this;have :=h.len;omega
def aF {l:List (List Aq)} (h:Oe l):(I4 l).length≤100:=by
 unfold I4;cases l with
 |nil=>exact El _
 |cons s l=>exact F6 (Jq _ _) (h.each s (FY ..)).1
def aQM {l:List (List Aq)} (h:Oe l):JG (I4 l):=by
 unfold I4;cases l with
 |nil=>exact .nil
 |cons s l=>exact(h.each s (FY ..)).2.sublist Tz
def aSM (l:List (List Aq)) (h:Oe l):ru l=some (I4 l,Eo (PV l)):=by
 have hlen:=h.len;refine eX.eq ?_;unfold ru abX;refine aLk (body:=aOh l) (fun(m:Nat) (a:List Aq) (b:List Int) (c:Int) (d:List (List Aq)) (_:List Aq) (_:List Int)=>∃i:Nat,c=i∧i+m=l.length∧d=l∧a=Qu l i∧b=Nb l i) ?_ Aj l.length [] [] 0 l [] [] (fuel_lt AB) ⟨0,rfl,AB,rfl,rfl,by simp[Nb]⟩;rintro m a b c d e f k ⟨i,rfl,hm,rfl,rfl,rfl⟩ U;unfold aOh;refine eX.bif (fun hi=>?_) fun hi=>?_
 ·have hi:i<d.length:=GR
  have hs:=(h.each d[i] (EU hi)).1;have Y:=aNo h i;rw[CV hi];simp only[Aa,zT];unfold aVu
  refine aQr (body:=aKL d[i] k (i:Int)) (fun(J:Nat) (a:List Aq) (b:List Int) (c:Int) (u:List (List Aq)) (_:List Aq) (_:List Int) (g:Int)=>
   ∃j:Nat,c=j∧j+J=d[i].length∧u=d∧g=i∧a=Qu d i++(if i=0 then(d[i].take j).filter (Iw d)else[])∧b=Nb d i++((d[i].take j).filter fun x=> !Iw d x).map (·.Id)) ?_ Aj d[i].length _ _ _ _ _ _ _ (fuel_lt AB) ⟨0,rfl,AB,rfl,rfl,BP,BP⟩
  rintro J a b c u e2 f2 g k2 ⟨j,rfl,Z,rfl,rfl,rfl,rfl⟩ I;unfold aKL;refine eX.bif (fun z=>?_) fun z=>?_
  ·have z:j<u[i].length:=VN
   have q:u[i].take (j+1)=u[i].take j++[u[i][j]]:=by rw[Ox z]
   rw[CV z];simp only[Aa];rw[aiq u _ h];simp only[Aa];have w:=wrap_succ j AB;have L:=Jq (fun x=> !Iw u x) (u[i].take j);have M:=Jq (Iw u) (u[i].take j)
   have hst:(Qu u i).length≤100:=by unfold Qu;split; ·exact El _
                                    ·exact aF h
   rw[Fr]at L M;cases ha:Iw u u[i][j]with
   |false=>
    simp only[Io,BZ];rw[Dk (by simp only[EP,Cm,OV];omega)];simp only[Aa,w];refine I (J-1) _ _ _ _ _ _ _ AB ⟨j+1,rfl,AB,rfl,rfl,?_,?_⟩
    ·rw[q,Q7];simp[ha]
    rw[q,Q7];simp[ha]
   |true=>
    simp only[EL,BM];by_cases O:i=0
    ·subst O;simp only[show(((0:Nat):Int)==0)=true from rfl,BZ,Jv];rw[Dk Uw];simp only[Aa,w];refine I (J-1) _ _ _ _ _ _ _ AB ⟨j+1,rfl,AB,rfl,rfl,?_,?_⟩
     ·rw[q,Q7];simp[ha]
     rw[q,Q7];simp[ha]
    have :((i:Int)==0)=false:=by simpa using O
    rw[this];simp only[BM,w];refine I (J-1) _ _ _ _ _ _ _ AB ⟨j+1,rfl,AB,rfl,rfl,?_,?_⟩
    ·simp[O]
    rw[q,Q7];simp[ha]
  have z:j=u[i].length:=by have :¬j<u[i].length:=VN
                           omega
  subst z;rw[wrap_succ i AB,Gm];exact U (m-1) _ _ _ _ _ _ AB ⟨i+1,rfl,AB,rfl,(aRY hi).symm,(aIf hi).symm⟩
 have hi:i=d.length:=by have :¬i<d.length:=GR
                        omega
 subst hi;have :=aHq h;rw[aLG,aSj,iU _ AB];exact .ret rfl
def aRM (l:List (List Aq)) (h:Oe l):yB l=some (I4 l,Eo (PV l)):=by
 have hlen:=h.len;refine eX.eq ?_;unfold yB aST;refine Ul (body:=aMh l) (fun(m:Nat) (a:List Aq) (b:List Int) (c:Int)=>∃i:Nat,c=i∧i+m=l.length∧a=Qu l i∧b=Eo (Nb l i)) ?_ Aj l.length [] [] 0 (fuel_lt AB) ⟨0,rfl,AB,rfl,by simp[Nb,Eo]⟩;rintro m a b c k ⟨i,rfl,hm,rfl,rfl⟩ U;unfold aMh;refine eX.bif (fun hi=>?_) fun hi=>?_
 ·have hi:i<l.length:=GR
  have hs:=(h.each l[i] (EU hi)).1;have Y:=aNo h i;unfold aaF
  refine Ul (body:=aLm l (i:Int) k) (fun(I:Nat) (a:List Aq) (b:List Int) (c:Int)=>
   ∃j:Nat,c=j∧j+I=l[i].length∧a=Qu l i++(if i=0 then(l[i].take j).filter (Iw l)else[])∧b=Eo (Nb l i++((l[i].take j).filter fun x=> !Iw l x).map (·.Id))) ?_ Aj l[i].length _ _ _ (fuel_lt AB) ⟨0,rfl,AB,BP,BP⟩
  rintro I a b c k2 ⟨j,rfl,Z,rfl,rfl⟩ z;unfold aLm;rw[CV hi];simp only[Aa];refine eX.bif (fun u=>?_) fun u=>?_
  ·have u:j<l[i].length:=MS
   have q:l[i].take (j+1)=l[i].take j++[l[i][j]]:=by rw[Ox u]
   rw[CV u];simp only[Aa];rw[ald l _ h];simp only[Aa];have w:=wrap_succ j AB;have J:=Jq (fun x=> !Iw l x) (l[i].take j);have L:=Jq (Iw l) (l[i].take j)
   have hst:(Qu l i).length≤100:=by unfold Qu;split; ·exact El _
                                    ·exact aF h
   have M:=NU (Nb l i++((l[i].take j).filter fun x=> !Iw l x).map fun e:Aq=>e.Id);rw[EP,Cm]at M;rw[Fr]at J L;cases ha:Iw l l[i][j]with
   |false=>
    simp only[Io,BZ];rw[mQ _ _ AB];unfold fD;simp only[Aa,w];refine z (I-1) _ _ _ AB ⟨j+1,rfl,AB,?_,?_⟩
    ·rw[q,Q7];simp[ha]
    rw[q,Q7,JM,←Ht];simp only[ha,Rl,Io,Jv,List.filter_nil,LC,List.map_nil];rw[aao]
   |true=>
    simp only[EL,BM];unfold fD;by_cases O:i=0
    ·subst O;simp only[show(((0:Nat):Int)==0)=true from rfl,BZ,Jv,Aa];rw[Dk Uw];simp only[Aa,w];refine z (I-1) _ _ _ AB ⟨j+1,rfl,AB,?_,?_⟩
     ·rw[q,Q7];simp[ha]
     rw[q,Q7];simp[ha]
    have :((i:Int)==0)=false:=by simpa using O
    rw[this];simp only[BM,w];refine z (I-1) _ _ _ AB ⟨j+1,rfl,AB,?_,?_⟩
    ·simp[O]
    rw[q,Q7];simp[ha]
  have u:j=l[i].length:=by have :¬j<l[i].length:=MS
                           omega
  subst u;rw[wrap_succ i AB,Gm];exact U (m-1) _ _ _ AB ⟨i+1,rfl,AB,(aRY hi).symm,by rw[←aIf hi]⟩
 have hi:i=l.length:=by have :¬i<l.length:=GR
                        omega
 subst hi;rw[aLG,aSj];exact .ret rfl
def Ro (s:List Aq):List Int:=s.map (·.Id)
def Eu (l:List AQ) (s:List Aq):List Int:=IB (Ro s) (chainOf l (Ro s))
def allOf (l:List AQ) (j:List (List Aq)):List Int:=j.foldl (fun a s=>IB a (Eu l s)) []
def Iq (l:List AQ) (j:List (List Aq)) (x:Int):Nat:=j.countP fun s=>Di (Eu l s) x
def O8 (l:List AQ) (j:List (List Aq)):List Int:=(allOf l j).filter fun x=>decide (Iq l j x<j.length)
def Iu (l:List AQ) (j:List (List Aq)):List Int:=IB (Eo (PV j)) (O8 l j)
def adQ (l:List AQ) (s:List Aq):Inc (Eu l s):=vJ _ _
def aLe (s:List Aq):(Ro s).length=s.length:=Cm _
def sN (l:List AQ) (s:List Aq):(Eu l s).length≤s.length+l.length:=by
 have j:=aNR (Ro s) (chainOf l (Ro s));have m:=bH l (Ro s);rw[aLe]at j;unfold Eu;omega
def aPJ (l:List AQ):∀(j:List (List Aq)) (a:List Int),Inc a→Inc (j.foldl (fun a s=>IB a (Eu l s)) a)∧∀x,x∈j.foldl (fun a s=>IB a (Eu l s)) a↔x∈a∨∃s∈j,x∈Eu l s
 | [],a,h=>⟨h,fun x=>BP⟩
 |s::j,a,h=>by
  rw[FZ];obtain⟨q,u⟩:=aPJ l j (IB a (Eu l s)) (vJ _ _);refine⟨q,fun x=>(u x).trans ?_⟩;rw[TT];constructor
  ·rintro((h|h)|⟨t,m,h4⟩)
   ·exact .inl h
   ·exact .inr ⟨s,FY ..,h⟩
   exact .inr ⟨t,Gf _ m,h4⟩
  rintro(h|⟨t,m,h4⟩)
  ·exact .inl (.inl h)
  rcases F8.1 m with rfl|m
  ·exact .inl (.inr h4)
  exact .inr ⟨t,m,h4⟩
def ahH (l:List AQ) (j:List (List Aq)):Inc (allOf l j):=(aPJ l j [] .nil).1
def aV4 {l:List AQ} {j:List (List Aq)} {x:Int}:x∈allOf l j↔∃s∈j,x∈Eu l s:=by
 unfold allOf;rw[(aPJ l j [] .nil).2 x];simp
def asM (l:List AQ) (j:List (List Aq)):Inc (O8 l j):=(ahH l j).sublist Tz
def cnt_lt {l:List AQ} {j:List (List Aq)} {x:Int}:Iq l j x<j.length↔∃s∈j,x∉Eu l s:=by
 unfold Iq;have h:=List.countP_le_length (p:=fun s=>Di (Eu l s) x) (l:=j);have u:=List.countP_eq_length (p:=fun s=>Di (Eu l s) x) (l:=j);constructor
 ·intro I;by_cases m:∀s∈j,Di (Eu l s) x=true
  ·have :=u.2 m;omega
  simp only[Classical.not_forall]at m;obtain⟨s,hs,q⟩:=m;exact⟨s,hs,fun J=>q (Jm.2 J)⟩
 rintro⟨s,hs,q⟩;rcases bf (j.countP fun s=>Di (Eu l s) x) j.length with z|z
 ·exact z
 exact absurd (Jm.1 (u.1 AB s hs)) q
def aUz {l:List AQ} {j:List (List Aq)} {x:Int}:x∈O8 l j↔(∃s∈j,x∈Eu l s)∧∃s∈j,x∉Eu l s:=by
 unfold O8;rw[FM,aV4,Gi,cnt_lt]
def aU4 {j:List (List Aq)} {x:Aq}:Iw j x=true↔∀s∈j,(GH s x.Kind x.Key).2=true∧(GH s x.Kind x.Key).1=x.Id:=by
 unfold Iw;rw[Ea];simp
def aGh (l:List AQ):∀(j:List (List Aq)) (a:List Int),(∀s∈j,s.length≤100)→(j.foldl (fun a s=>IB a (Eu l s)) a).length≤a.length+j.length*(100+l.length)
 | [],a,_=>BP
 |s::j,a,h=>by
  rw[FZ];have q:=aGh l j (IB a (Eu l s)) fun t m=>h t (Gf _ m);have u:=aNR a (Eu l s);have z:=sN l s;have I:=h s (FY ..);rw[GI,Un];omega
def aTt {l:List AQ} {j:List (List Aq)} (hs:Oe j) (hl:l.length≤1000):(O8 l j).length≤110000:=by
 have m:=aGh l j [] fun s h=>(hs.2 s h).1;have q:=hs.1;have u:=Jq (fun x=>decide (Iq l j x<j.length)) (allOf l j);have z:j.length*(100+l.length)≤100*1100:=aAK q AB;unfold O8;unfold allOf at u ⊢;simp only[NK]at m;omega
def ajH {s:List Aq} (h:JG s) {x:Aq} (z:x∈s):GH s x.Kind x.Key=(x.Id,true):=by
 unfold GH;cases u:s.find? (fun y=>Ii y ⟨x.Kind,x.Key,0⟩)with
 |none=>
  have :=aCY.1 u x z;unfold Ii at this;simp at this
 |some y=>
  have I:=zh u;have M:=U3 u;have J:Ii y x=true:=by unfold Ii at I ⊢;exact I
  have :y=x:=by
   obtain⟨i,hi,rfl⟩:=Ia z;obtain⟨j,L,rfl⟩:=Ia M;rcases aF6 i j with m|m|m
   ·have q:=MO.1 h i j hi L m;have O:Ii s[i] s[j]=true:=by obtain⟨a,b⟩:=WT.1 J;exact WT.2 ⟨a.symm,b.symm⟩
    rw[oh O]at q;cases q
   ·subst m;rfl
   have q:=MO.1 h j i L hi m;rw[oh J]at q;cases q
  rw[this]
def aLi {s:List Aq} {k:Int} {key:ByteArray} {n:Int} (h:GH s k key=(n,true)):(⟨k,key,n⟩:Aq)∈s:=by
 unfold GH at h;cases j:s.find? (fun y=>Ii y ⟨k,key,0⟩)with
 |none=>rw[j]at h;cases h
 |some y=>
  rw[j]at h;have q:Ii y ⟨k,key,0⟩=true:=by have :=zh j;exact this
  have m:=WT.1 q;have u:=U3 j;obtain⟨a,b,c⟩:=y;cases h;simp only at m;rw[←m.1,←m.2];exact u
def asc {j:List (List Aq)} {x:Aq} (m:Iw j x=true) {s:List Aq} (hs:s∈j):x∈s:=by
 obtain⟨q,u⟩:=aU4.1 m s hs;exact aLi (s:=s) (k:=x.Kind) (key:=x.Key) (n:=x.Id) (by rw[←q,←u])
def arp {j:List (List Aq)} (h:Oe j) {x:Aq} (m:∀s∈j,x∈s):Iw j x=true:=
 aU4.2 fun s hs=>by rw[ajH (h.2 s hs).2 (m s hs)];exact⟨rfl,rfl⟩
def aSP {j:List (List Aq)} (h:Oe j) (q:j≠[]) {x:Aq}:x∈I4 j↔∀s∈j,x∈s:=by
 cases j with
 |nil=>exact absurd rfl q
 |cons s j=>
  show x∈s.filter (Iw (s::j))↔_;rw[FM];exact⟨fun m t u=>asc m.2 u,fun m=>⟨m s (FY ..),arp h m⟩⟩
def aUt (l:List Int) (h:l.length≤1099511627776):((O4 l).bind fun x=>(UK x).bind fun y=>some y)=some (Eo l):=by
 unfold O4 UK;have j:(QZ l).length≤1099511627776:=by rw[(V4 l).length_eq];exact h
 simp[h,aAA,aBd]
def adn (s:List Aq):s.foldl (fun r x=>r++[x.Id]) []=Ro s:=by
 rw[foldl_append (fun x:Aq=>[x.Id])];unfold Ro;rw[IV]
 induction s with
 |nil=>rfl
 |cons x s j=>rw[Nz,j];rfl
def akA (l:List AQ) (s:List Aq) (hl:l.length≤1000) (ha:RD l) (hs:s.length≤100):aGS l s=some (Eu l s):=by
 unfold aGS
 have q:JV 8 (0:Int) 0 (s.length:Int)=some []:=by
  unfold JV;rw[D9 aB5];rfl
 rw[q];simp only[Aa];unfold aTD;rw[Hu s AB (fun r x=>r++[x.Id]) (fun i r=>r.length≤i) (fun r=>(Z9 l r).bind fun u=>(Ci 8 r u).bind fun z=>(O4 z).bind fun j=>(UK j).bind fun m=>some m) BP]
 ·have J:=bH l (Ro s);have L:=aLe s;rw[adn,aKG l _ hl ha AB];simp only[Aa];rw[Dk AB];simp only[Aa];rw[aUt _ Kr];unfold Eu;rw[yU]
 ·intro k a i h I;refine⟨aES,?_⟩;unfold aMC;rw[Ce h,Dk G7];rfl
 intro k a I;unfold aMC;rw[Dq]
def agY (l:List AQ) (s:List Aq) (hl:l.length≤1000) (ha:RD l) (hs:s.length≤100):aFW l s=some (Eu l s):=by
 unfold aFW aVS;rw[Hu s AB (fun r x=>r++[x.Id]) (fun i r=>r.length≤i) (fun r=>(bV l r).bind fun j=>(Z8 r j).bind fun m=>some m) BP]
 ·have u:=bH l (Ro s);have z:=aLe s;rw[adn,aKo l _ hl ha AB];simp only[Aa];rw[aCJ _ _ AB AB];rfl
 ·intro k a i h q;refine⟨aES,?_⟩;unfold aIx;rw[dec_lt h,CV h];simp only[BZ,Aa];rw[Dk G7];rfl
 intro k a q;unfold aIx;rw[DV];rfl
def stepM (m:List (Int×Int)) (x:Int):List (Int×Int):=Et m x (Am (((D6 m x).getD 0)+1))
structure MW (m:List (Int×Int)) (f:Int→Nat):Prop where
 nodup:(m.map (·.1)).Nodup
 find:∀x,D6 m x=if f x=0 then none else some (f x:Int)
def aoj {m:List (Int×Int)} {k v y:Int}:y∈(Et m k v).map (·.1)↔y=k∨y∈m.map (·.1):=by
 induction m with
 |nil=>simp[Et]
 |cons p m j=>
  unfold Et;cases h:k==p.1 with
  |true=>
   have q:k=p.1:=LJ
   simp only[BZ,LC,F8];rw[q];simp
  |false=>
   simp only[BM,LC,F8,j];exact⟨fun h=>h.elim (fun e=>.inr (.inl e)) fun h=>h.elim .inl fun h=>.inr (.inr h),fun h=>h.elim (fun e=>.inr (.inl e)) fun h=>h.elim .inl fun h=>.inr (.inr h)⟩
def aqx {m:List (Int×Int)} {k v:Int} (h:(m.map (·.1)).Nodup):((Et m k v).map (·.1)).Nodup:=by
 induction m with
 |nil=>simp[Et]
 |cons p m z=>
  have h':=MJ.1 h;unfold Et;cases u:k==p.1 with
  |true=>
   have j:k=p.1:=MS
   simp only[BZ,LC];rw[j];exact h
  |false=>
   have j:k≠p.1:=MS
   simp only[BM,LC];refine MJ.2 ⟨fun q=>?_,z h'.2⟩;rcases aoj.1 q with e|q
   ·exact j e.symm
   exact h'.1 q
def aoc (m:List (Int×Int)) (k v:Int):(Et m k v).length≤m.length+1:=by
 induction m with
 |nil=>simp[Et]
 |cons p m j=>
  unfold Et;cases k==p.1 with
  |true=>simp
  |false=>simp only[BM,GI];omega
def MW.step {m:List (Int×Int)} {f:Int→Nat} (h:MW m f) (x:Int) (u:f x≤1000000):MW (stepM m x) (fun y=>f y+if y=x then 1 else 0):=by
 refine⟨aqx h.nodup,fun y=>?_⟩;unfold stepM;rw[Rw,h.find x]
 have e:Am (((if f x=0 then none else some (f x:Int)).getD 0)+1)=((f x+1:Nat):Int):=by
  by_cases j:f x=0
  ·rw[D9 j,j];rfl
  rw[DL j];show Am ((f x:Int)+1)=_;exact wrap_succ _ AB
 by_cases q:y=x
 ·subst q;simp only[Pn,BZ,Jv];rw[e,DL AB]
 have :(y==x)=false:=PL
 rw[this];simp only[BM,DL q,P5];exact h.find y
def MW.fold:∀(c:List Int) {m:List (Int×Int)} {f:Int→Nat},c.Nodup→MW m f→(∀x,f x≤1000)→MW (c.foldl stepM m) (fun y=>f y+if y∈c then 1 else 0)
 | [],m,f,_,h,_=>by
   refine⟨h.nodup,fun x=>?_⟩;simp only[List.foldl_nil,Fe,KN,P5];exact h.find x
 |x::c,m,f,q,h,M=>by
  have j:=MJ.1 q
  have key:∀(c:List Int) (m:List (Int×Int)) (g:Int→Nat),c.Nodup→MW m g→(∀x∈c,g x≤1000)→MW (c.foldl stepM m) (fun y=>g y+if y∈c then 1 else 0):=by
   intro c
   induction c with
   |nil=>intro m g _ h _;refine⟨h.nodup,fun x=>?_⟩;simp only[List.foldl_nil,Fe,KN,P5];exact h.find x
   |cons z c O=>
    intro m g q h I;have j:=MJ.1 q
    have J:=O (stepM m z) (fun y=>g y+if y=z then 1 else 0) j.2 (h.step z (by have :=I z (FY ..);omega)) fun y L=>by
     have u:y≠z:=fun e=>j.1 (e▸L);simp only[DL u,P5];exact I y (Gf _ L)
    refine⟨J.nodup,fun y=>?_⟩;rw[FZ,J.find y]
    have :(g y+if y=z then 1 else 0)+(if y∈c then 1 else 0)=g y+if y∈z::c then 1 else 0:=by
     by_cases e:y=z
     ·subst e;simp[j.1]
     simp[e]
    simp only[this]
  exact key (x::c) m f q h fun y _=>M y
def aOO :∀(c:List Int) (m:List (Int×Int)),(c.foldl stepM m).length≤m.length+c.length
 | [],m=>BP
 |x::c,m=>by
  have j:=aOO c (stepM m x);have q:=aoc m x (Am (((D6 m x).getD 0)+1));rw[FZ,GI];unfold stepM at j ⊢;omega
def YC {l:List Int} (h:Inc l):l.Nodup:=h.imp fun h=>AB
def MW.mem {m:List (Int×Int)} {f:Int→Nat} (h:MW m f) {x n:Int}:(x,n)∈m↔f x≠0∧n=f x:=by
 have key:∀m:List (Int×Int),(m.map (·.1)).Nodup→((x,n)∈m↔D6 m x=some n):=by
  intro m
  induction m with
  |nil=>intro _;simp[D6]
  |cons p m I=>
   intro J;have j:=MJ.1 J;unfold D6;rw[F8];cases z:x==p.1 with
   |true=>
    have q:x=p.1:=VN
    simp only[BZ,MK];constructor
    ·rintro(e|hm)
     ·rw[←e]
     exact absurd (FH.2 ⟨_,hm,q⟩) j.1
    intro e;left;rw[q,←e]
   |false=>
    have q:x≠p.1:=VN
    simp only[BM];rw[←I j.2];exact⟨fun h=>h.elim (fun e=>absurd (by rw[←e]) q) id,.inr⟩
 rw[key m h.nodup,h.find x];by_cases u:f x=0
 ·simp[u]
 rw[DL u];simp only[MK,ne_eq,u,not_false_eq_true,true_and];exact eq_comm
def aSI {l:List Int} (h:l.Nodup):QZ l=Eo l:=by
 refine Ee ?_ (LY l) fun x=>by rw[Ky];exact(V4 l).mem_iff
 have j:=aH9 l;have m:(QZ l).Nodup:=(V4 l).nodup_iff.2 h;exact(j.and m).imp fun h=>AB
def aNi (n:Int):∀(m:List (Int×Int)) (r:List Int) (j:List (List Aq)),(j.length:Int)=n→r.length+m.length≤1000000→List.foldlM (Vg j) r m=some (r++(m.filter fun p=>decide (p.2<n)).map (·.1))
 | [],r,j,_,_=>BP
 |p::m,r,j,hs,u=>by
  simp only[GI]at u;have e:Vg j r p=(bif decide (p.2<n)then(Ci 8 r [p.1]).bind fun q=>some q else some r):=by unfold Vg;rw[hs]
  rw[UQ,e];cases hd:decide (p.2<n)with
  |true=>
   simp only[BZ];rw[Dk G7];simp only[Aa];show List.foldlM (Vg j) (r++[p.1]) m=_;rw[aNi n m (r++[p.1]) j hs Uw,Rl,D9 hd];simp
  |false=>
   simp only[BM];show List.foldlM (Vg j) r m=_;rw[aNi n m r j hs AB,Rl,DL (by simp[hd])]
def aSp (l:List AQ) (j:List (List Aq)) (x:Int):Iq l j x≤j.length:=List.countP_le_length
def MW.of_eq {m:List (Int×Int)} {f g:Int→Nat} (h:MW m f) (e:∀x,f x=g x):MW m g:=⟨h.nodup,fun x=>by rw[h.find,e]⟩
def agt (l:List AQ) (q:List (List Aq)) (hl:l.length≤1000) (ha:RD l) (hs:Oe q):sH l q=some (O8 l q):=by
 unfold sH aaZ;have hsl:=hs.len;rw[Src (a0:=[]) q AB (fun m s=>(Eu l s).foldl stepM m) (fun i m=>MW m (Iq l (q.take i))∧m.length≤1100*i) (fun v2=>(JV 8 (0:Int) 0 (v2.length:Int)).bind fun M=>(List.foldlM (Vg q) M v2).bind lY) ⟨⟨aN,fun x=>rfl⟩,El _⟩]
 ·obtain⟨L,hlen⟩:MW (q.foldl (fun m s=>(Eu l s).foldl stepM m) []) (Iq l q)∧(q.foldl (fun m s=>(Eu l s).foldl stepM m) []).length≤1100*q.length:=by
   have key:∀(b a:List (List Aq)) (m:List (Int×Int)),(∀s∈b,s.length≤100)→a.length+b.length≤100→MW m (Iq l a)→m.length≤1100*a.length→MW (b.foldl (fun m s=>(Eu l s).foldl stepM m) m) (Iq l (a++b))∧(b.foldl (fun m s=>(Eu l s).foldl stepM m) m).length≤1100*(a.length+b.length):=by
    intro b
    induction b with
    |nil=>intro a m _ _ I J;simpa using⟨I,J⟩
    |cons s b ih=>
     intro a m hb O I J;rw[FZ,List.append_cons];have hc:=sN l s;have u:=hb s (FY ..);have U:=aOO (Eu l s) m;simp only[GI]at O ⊢;have :=ih (a++[s]) ((Eu l s).foldl stepM m) (fun t ht=>hb t (Gf _ ht)) Uw ?_ Uw
     ·simpa[OD,QU 1]using this
     refine(MW.fold (Eu l s) (YC (adQ l s)) I fun x=>by have :=aSp l a x;omega).of_eq fun x=>?_;unfold Iq;rw[List.countP_append,List.countP_singleton];by_cases z:x∈Eu l s
     ·rw[D9 z,D9 (Jm.2 z)]
     rw[DL z,DL (by rw[OH.2 z];simp)]
   have :=key q [] [] (fun s h=>(hs.each s h).1) (by simpa using hs.len) ⟨aN,fun x=>rfl⟩ (El _);simpa using this
  generalize q.foldl (fun m s=>(Eu l s).foldl stepM m) []=m at L hlen
  have hm:JV 8 (0:Int) 0 (m.length:Int)=some []:=by
   unfold JV;rw[D9 aB5];rfl
  rw[hm];simp only[Aa];rw[aNi (q.length:Int) m [] q rfl TM];simp only[Aa,IV];have Y:((m.filter fun p=>decide (p.2<(q.length:Int))).map (·.1)).Nodup:=L.nodup.sublist (Tz.map _);have hle:((m.filter fun p=>decide (p.2<(q.length:Int))).map (·.1)).length≤m.length:=by rw[Cm];exact Jq _ _
  unfold lY O4;rw[D9 AB];simp only[Aa];congr 1;rw[aSI Y];refine Ee (LY _) (asM _ _) fun x=>?_;rw[Ky,FH];unfold O8;rw[FM,aV4];constructor
  ·rintro⟨⟨y,n⟩,Z,rfl⟩;rw[FM]at Z;obtain⟨I,J⟩:=L.mem.1 Z.1;have U:n<(q.length:Int):=by simpa using Z.2
   subst J;refine⟨?_,Dz⟩;have :0<Iq l q y:=AB
   obtain⟨s,hs1,hs2⟩:=List.countP_pos_iff.1 this;exact⟨s,hs1,Jm.1 hs2⟩
  rintro⟨⟨s,I,J⟩,U⟩;have h4:0<Iq l q x:=List.countP_pos_iff.2 ⟨s,I,Jm.2 J⟩;refine⟨(x,(Iq l q x:Int)),FM.2 ⟨L.mem.2 ⟨AB,rfl⟩,?_⟩,rfl⟩;have h5:Iq l q x<q.length:=cZ
  simp;omega
 ·intro k m i h hI;have hc:=sN l q[i];have u:=(hs.each q[i] (EU h)).1;refine⟨⟨?_,?_⟩,?_⟩
  ·refine(MW.fold (Eu l q[i]) (YC (adQ l q[i])) hI.1 fun x=>by have :=aSp l (q.take i) x;rw[Fr]at this;omega).of_eq fun x=>?_;rw[Ox h];unfold Iq;rw[List.countP_append,List.countP_singleton];by_cases z:x∈Eu l q[i]
   ·rw[D9 z,D9 (Jm.2 z)]
   rw[DL z,DL (by rw[OH.2 z];simp)]
  ·have :=aOO (Eu l q[i]) m;have :=hI.2;omega
  unfold aAc;rw[Ce h,akA l _ hl ha u];simp only[Aa];unfold aRE;rw[Src (Eu l q[i]) AB stepM (fun _ _=>True) (fun v8=>k (Am ((i:Int)+1)) v8) trivial]
  ·intro k2 a j hj _;refine⟨trivial,?_⟩;unfold aFK;rw[Ce hj];rfl
  intro k2 a _;unfold aFK;rw[Dq]
 intro k m hI;unfold aAc;rw[Dq]
def aqr {R A B α:Type} {body:(A→B→Int→Option R)→A→B→Int→Option R} (l:List α) (hl:l.length≤1099511627776) (f:A→B→α→A) (g:A→B→α→B) (I:Nat→A→B→Prop) (j:A→B→Option R) {Q:R→Prop} {a0:A} {q:B} (u:I 0 a0 q)
 (z:∀k a b (i:Nat) (h:i<l.length),I i a b→I (i+1) (f a b l[i]) (g a b l[i])∧body k a b (i:Int)=k (f a b l[i]) (g a b l[i]) (Am ((i:Int)+1)))
 (J:∀k a b,I l.length a b→body k a b (l.length:Int)=j a b) (L:∀a b,I l.length a b→eX (j a b) Q):eX (jM body Aj a0 q 0) Q:=by
 refine Ul (body:=body) (Q:=Q) (fun m a b c=>∃i:Nat,c=i∧i+m=l.length∧I i a b) ?_ Aj l.length a0 q 0 (fuel_lt hl) ⟨0,rfl,AB,u⟩;rintro m a b c k ⟨i,rfl,Y,hi⟩ M;by_cases e:i<l.length
 ·obtain⟨O,U⟩:=z k a b i e hi;rw[U,wrap_succ i AB];exact M (m-1) _ _ _ AB ⟨i+1,rfl,AB,O⟩
 have :i=l.length:=AB
 subst this;rw[J _ _ _ hi];exact L a b hi
def aLs (x:Int):∀(cs:List (List Int)) (n:Nat),n+cs.length≤1000000→cs.foldl (fun(n:Int) c=>bif Di c x then Am (n+1)else n) (n:Int)=((n+cs.countP (fun c=>Di c x):Nat):Int)
 | [],n,_=>BP
 |c::cs,n,h=>by
  rw[GI]at h;rw[FZ,List.countP_cons];cases j:Di c x with
  |true=>
   simp only[BZ,Jv];rw[wrap_succ n AB,aLs x cs (n+1) AB];congr 1;omega
  |false=>
   simp only[BM,RX,KN,P5];exact aLs x cs n AB
def atW (l:List AQ) (m:List (List Aq)) (hl:l.length≤1000) (ha:RD l) (hs:Oe m):aDj l m=some (O8 l m):=by
 refine eX.eq ?_;unfold aDj aQC;have M:=hs.len
 have z:∀i,(allOf l (m.take i)).length≤1100*i:=by
  intro i;have O:=aGh l (m.take i) [] fun s h=>(hs.each s (nT h)).1;rw[Fr,NK]at O;have h2:min i m.length*(100+l.length)≤i*1100:=aAK (aPM _ _) AB;unfold allOf;omega
 refine aqr m AB (fun a _ s=>a++[Eu l s]) (fun _ b s=>IB b (Eu l s)) (fun i a b=>a=(m.take i).map (Eu l)∧b=allOf l (m.take i)) (fun a b=>aJM b a [] 0) ⟨rfl,rfl⟩ ?_ ?_ ?_
 ·rintro k a b i h ⟨rfl,rfl⟩;have U:=sN l m[i];have q:=(hs.each m[i] (EU h)).1;have u:m.take (i+1)=m.take i++[m[i]]:=Ox h;refine⟨⟨by rw[u,JM];rfl,by rw[u];unfold allOf;rw[V6];rfl⟩,?_⟩;unfold aIm;rw[dec_lt h,CV h];simp only[BZ,Aa];rw[agY l _ hl ha q];simp only[Aa];rw[Dk (by simp only[Cm,Fr,OV];omega)];simp only[Aa];have :=z i;rw[aCJ _ _ AB AB];rfl
 ·rintro k a b ⟨rfl,rfl⟩;unfold aIm;rw[DV];rfl
 rintro a b ⟨rfl,rfl⟩;rw[Gm];refine eX.of ?_;have Y:=z m.length;rw[Gm]at Y;unfold aJM;rw[Hu (allOf l m) AB (fun r x=>bif decide (Iq l m x<m.length)then r++[x]else r) (fun i r=>r.length≤i) (fun r=>some r) (EG _)]
 ·congr 1;unfold O8
  have key:∀(S r:List Int),S.foldl (fun r x=>bif decide (Iq l m x<m.length)then r++[x]else r) r=r++S.filter (fun x=>decide (Iq l m x<m.length)):=by
   intro S
   induction S with
   |nil=>intro r;simp
   |cons x S Z=>
    intro r;rw[FZ,Z,Rl];cases decide (Iq l m x<m.length)<;>simp
  simpa using key (allOf l m) []
 ·intro k r i h hI;refine⟨?_,?_⟩
  ·cases decide (Iq l m (allOf l m)[i]<m.length)with
   |false=>show r.length≤i+1;omega
   |true=>show(r++[(allOf l m)[i]]).length≤i+1;simp;omega
  unfold aIY;rw[dec_lt h];simp only[BZ];unfold aUy
  rw[Hu (m.map (Eu l)) VA (fun(n:Int) c=>bif Di c (allOf l m)[i]then Am (n+1)else n) (fun _ _=>True)
   (fun n=>bif decide (n<((m.map (Eu l)).length:Int))then k (r++[(allOf l m)[i]]) (Am ((i:Int)+1))else k r (Am ((i:Int)+1))) trivial]
  ·have I:=aLs (allOf l m)[i] (m.map (Eu l)) 0 VA;rw[show((0:Nat):Int)=0 from rfl]at I;rw[I,List.countP_map,Cm,JJ]
   have e:decide (((m.countP ((fun c=>Di c (allOf l m)[i])∘Eu l):Nat):Int)<(m.length:Int))=decide (Iq l m (allOf l m)[i]<m.length):=by
    unfold Iq;rw[lC];exact Int.ofNat_lt
   rw[e];cases decide (Iq l m (allOf l m)[i]<m.length)<;>rfl
  ·intro k2 n j J _;refine⟨trivial,?_⟩;have L:j<m.length:=by rw[Cm]at J;exact J
   have U:=sN l m[j];have q:=(hs.each m[j] (EU L)).1;unfold aNj;rw[dec_lt J,CV J,CV h];simp only[BZ,Aa];rw[XP _ _ (by rw[QI];omega)];simp only[Aa];cases Di (m.map (Eu l))[j] (allOf l m)[i]<;>rfl
  intro k2 n _;unfold aNj;rw[DV];simp only[BM];rw[CV h];simp only[Aa];rw[Dk G7];cases decide (n<((m.map (Eu l)).length:Int))<;>rfl
 intro k r _;unfold aIY;rw[DV];rfl
def akm (l:List AQ) (j:List (List Aq)) (hl:l.length≤1000) (ha:RD l) (hs:Oe j):aBN l j=some (Iu l j):=by
 have m:=aHq hs;have q:=NU (PV j);have u:=aTt hs hl;unfold aBN;rw[aSM j hs,agt l j hl ha hs];simp only[Aa];rw[Dk AB];simp only[Aa];rw[aUt _ Kr];unfold Iu;rw[yU]
def aqA (l:List AQ) (j:List (List Aq)) (hl:l.length≤1000) (ha:RD l) (hs:Oe j):aHL l j=some (Iu l j):=by
 have m:=aHq hs;have q:=NU (PV j);have u:=aTt hs hl;unfold aHL;rw[aRM j hs,atW l j hl ha hs];simp only[Aa];rw[aCJ _ _ AB AB];rfl
def Dl (l:List AQ):Prop:=∀e∈l,Gl e
def Dl.akC {l:List AQ} (h:Dl l):RD l:=fun e j=>(h e j).auth
def aMw {R A α:Type} {body:(A→Int→Option R)→A→Int→Option R} (l:List α) (hl:l.length<Aj) (p:α→Bool) (g:Nat→Option R) (rest:Option R) (a0:A)
 (u:∀k (i:Nat) (h:i<l.length),body k a0 (i:Int)=bif p l[i]then g i else k a0 (Am ((i:Int)+1))) (z:∀k,body k a0 (l.length:Int)=rest):
 aU body Aj a0 0=if l.findIdx p<l.length then g (l.findIdx p)else rest:=by
 have L:Aj=9223372036854775808:=rfl
 have key:∀n (i:Nat),i+n=l.length→∀m,n<m→aU body m a0 (i:Int)=if(l.drop i).findIdx p+i<l.length then g ((l.drop i).findIdx p+i)else rest:=by
  intro n
  induction n with
  |zero=>
   intro i hi m I;obtain⟨m,rfl⟩:∃q,m=q+1:=⟨m-1,AB⟩
   have :i=l.length:=AB
   subst this;show body (aU body m) _ _=_;rw[z,PK,DL BP]
  |succ n J=>
   intro i hi m I;obtain⟨m,rfl⟩:∃q,m=q+1:=⟨m-1,AB⟩
   have j:i<l.length:=AB
   show body (aU body m) _ _=_;rw[u _ i j,wrap_succ i AB,J (i+1) AB m AB,La j,TJ];cases p l[i]with
   |true=>simp only[BZ,JJ];rw[D9 j]
   |false=>
    simp only[BM];rw[show(l.drop (i+1)).findIdx p+(i+1)=(l.drop (i+1)).findIdx p+1+i by omega]
 have :=key l.length 0 AB Aj hl;simpa using this
def Qg {s:List Aq} {k:Int} {key:ByteArray} {id:Int} {x:Aq} (h:x∈Fg s k key id):x=⟨k,key,id⟩∨x∈s:=by
 unfold Fg at h;rcases Gw.1 h with h|h
 ·exact .inr (nT h)
 rcases F8.1 h with h|h
 ·exact .inl h
 exact .inr (aM4 h)
def tX (s:List Aq):Prop:=∀x∈s,x.Id=0
def Zo {s:List Aq} {k:Int} {key:ByteArray} (h:tX s):tX (Fg s k key 0):=fun x j=>by
 rcases Qg j with rfl|j
 ·rfl
 exact h x j
def pq (l:List Aq) (k:Int) (key:ByteArray) (j:Int):Option BR:=
 (bif decide (j<(l.length:Int))then(Ai l j).bind fun m=>some (m.Kind==k)else some false).bind fun q=>(bif q then(Ai l j).bind fun u=>some (u.Key.toList==key.toList)else some false).bind fun z=>(bif z then some l else(I5 l 0 j).bind fun I=>(Ci 32 [] I).bind fun J=>(Ci 32 J [(⟨k,key,0⟩:Aq)]).bind fun L=>(I5 l j ((l).length)).bind fun M=>(Ci 32 L M).bind fun O=>some O)
def yD (s:List Aq) (k:Int) (key:ByteArray) (hs:s.length≤1000000) (q:tX s):Vx s k key=some (Fg s k key 0):=by
 unfold Vx aRO
 have j:pq s k key ((Ey s ⟨k,key,0⟩:Nat):Int)=some (Fg s k key 0):=by
  have U:=l7 s ⟨k,key,0⟩;unfold pq Fg
  have m:((I5 s 0 ((Ey s ⟨k,key,0⟩:Nat):Int)).bind fun u=>(Ci 32 [] u).bind fun z=>(Ci 32 z [(⟨k,key,0⟩:Aq)]).bind fun I=>(I5 s ((Ey s ⟨k,key,0⟩:Nat):Int) ((s).length)).bind fun J=>(Ci 32 I J).bind fun L=>some L)=some (s.take (Ey s ⟨k,key,0⟩)++⟨k,key,0⟩::s.drop (Ey s ⟨k,key,0⟩)):=by
   rw[xk U];simp only[Aa];rw[Dk Dz];simp only[Aa,IV];rw[Dk Dz];simp only[Aa];rw[Wq U];simp only[Aa];rw[Dk Dz];simp
  rw[m];by_cases hl:Ey s ⟨k,key,0⟩<s.length
  ·rw[dec_lt hl,CV hl];simp only[BZ,Aa]
   have M:KI s ⟨k,key,0⟩=(s[Ey s ⟨k,key,0⟩].Kind==k&&decide (s[Ey s ⟨k,key,0⟩].Key=key)):=by
    unfold KI;rw[Dj hl];rfl
   rw[M,IZ];cases Y:s[Ey s ⟨k,key,0⟩].Kind==k with
   |false=>rfl
   |true=>
    simp only[BZ,Aa,GK];cases hd:decide (s[Ey s ⟨k,key,0⟩].Key=key)with
    |true=>
     simp only[BZ];have Z:s[Ey s ⟨k,key,0⟩].Kind=k:=aGm
     have h2:s[Ey s ⟨k,key,0⟩].Key=key:=by simpa using hd
     have h3:=q _ (EU hl)
     have h4:(⟨k,key,0⟩:Aq)=s[Ey s ⟨k,key,0⟩]:=by
      have :∀(y:Aq),y.Kind=k→y.Key=key→y.Id=0→(⟨k,key,0⟩:Aq)=y:=fun y a b c=>by cases y;simp only at a b c;rw[a,b,c]
      exact this _ Z h2 h3
     congr 1
     conv=>rhs;arg 2;arg 1;rw[h4]
     rw[←La hl,aP]
    |false=>rfl
  have q:Ey s ⟨k,key,0⟩=s.length:=AB
  have M:KI s ⟨k,key,0⟩=false:=by unfold KI;rw[q,IC (EG _)]
  rw[M,q,DV];rfl
 rw[JC s (fuel_lt AB) (fun x=> !FN x ⟨k,key,0⟩) (fun i=>pq s k key (i:Int)) (pq s k key (s.length:Int))]
 ·split
  ·exact j
  rename_i h;have q:Ey s ⟨k,key,0⟩=s.length:=aQs
  rw[q]at j;exact j
 ·intro k2 i h;unfold aPg
  have e:(bif decide ((i:Int)<(s.length:Int))then(Ai s (i:Int)).bind fun x5=>(bif decide (x5.Kind<k)then some true else(Ai s (i:Int)).bind fun x8=>(bif (x8.Kind==k)then(Ai s (i:Int)).bind fun O=>some (Op.bytesLess (O.Key.toList) (key.toList))else some false).bind fun x9=>some x9).bind fun x6=>some x6 else some false)=some (FN s[i] ⟨k,key,0⟩):=by
   rw[dec_lt h,CV h];simp only[BZ,Aa];unfold FN;cases decide (s[i].Kind<k)<;>cases s[i].Kind==k<;>rfl
  rw[e];simp only[Aa];cases FN s[i] ⟨k,key,0⟩<;>rfl
 intro k2;unfold aPg;rw[DV];simp only[BM,Aa];unfold pq;rw[DV];rfl
def LU (e:AQ):List Aq:=Fg (Fg (Fg [] 1 Bv 0) 3 Bv 0) 2 e.aY 0
def keysOf (e:AQ):List Aq:=
 bif e.Kind==1 then[]else bif e.Kind==2 then(bif e.Content.N==3||e.Content.N==1||e.Content.N==2 then Fg (Fg (LU e) 2 e.Key 0) 4 Bv 0 else Fg (LU e) 2 e.Key 0)else LU e
def aM6 (e:AQ):(LU e).length≤3:=by
 have j:=QB [] 1 Bv 0;have m:=QB (Fg [] 1 Bv 0) 3 Bv 0;have q:=QB (Fg (Fg [] 1 Bv 0) 3 Bv 0) 2 e.aY 0;unfold LU;simp only[NK]at j;omega
def aSF (e:AQ):tX (LU e):=Zo (Zo (Zo fun x j=>absurd j Fe))
def XA (e:AQ):(keysOf e).length≤5:=by
 have j:=aM6 e;have m:=QB (LU e) 2 e.Key 0;have q:=QB (Fg (LU e) 2 e.Key 0) 4 Bv 0;unfold keysOf;cases e.Kind==1<;>cases e.Kind==2<;>cases(e.Content.N==3||e.Content.N==1||e.Content.N==2)<;>simp only[BZ,BM,NK]<;>omega
def aaK (e:AQ):vY e=some (keysOf e):=by
 have m:=aM6 e;have q:=QB (LU e) 2 e.Key 0;have j:=QB [] 1 Bv 0;have u:=QB (Fg [] 1 Bv 0) 3 Bv 0;simp only[NK]at j;unfold vY keysOf;rw[YO [] 1 Bv 0 BP];simp only[Aa];rw[YO _ 3 Bv 0 AB];simp only[Aa];rw[YO _ 2 e.aY 0 AB];simp only[Aa];show(bif e.Kind==1 then some []else bif e.Kind==2 then(Rf (LU e) 2 e.Key 0).bind _ else lX (LU e))=_;rw[YO (LU e) 2 e.Key 0 AB];simp only[Aa];rw[YO _ 4 Bv 0 AB];unfold lX;cases e.Kind==1<;>cases e.Kind==2<;>cases e.Content.N==3<;>cases e.Content.N==1<;>cases e.Content.N==2<;>rfl
def aMu (e:AQ):fG e=some (keysOf e):=by
 have u:=aM6 e;have z:=QB (LU e) 2 e.Key 0;have m:=QB [] 1 Bv 0;have I:=QB (Fg [] 1 Bv 0) 3 Bv 0;have z0:tX []:=fun x q=>absurd q Fe;simp only[NK]at m;unfold fG keysOf;rw[yD [] 1 Bv BP z0];simp only[Aa];rw[yD _ 3 Bv AB (Zo z0)];simp only[Aa];rw[yD _ 2 e.aY AB (Zo (Zo z0))];simp only[Aa];show(bif e.Kind==1 then some []else bif e.Kind != 2 then some (LU e)else(Vx (LU e) 2 e.Key).bind _)=_;rw[yD (LU e) 2 e.Key AB (aSF e)];simp only[Aa];rw[yD _ 4 Bv AB (Zo (aSF e))];unfold aEf;have j:(e.Kind != 2)= !(e.Kind==2):=rfl;rw[j];cases e.Kind==1<;>cases e.Kind==2<;>cases e.Content.N==3<;>cases e.Content.N==1<;>cases e.Content.N==2<;>rfl
def EX (k:Aq) (x:AQ):Bool:=x.Kind==k.Kind&&decide (x.Key=k.Key)
def Sz (l:List AQ) (e:AQ):List AQ:=(keysOf e).flatMap fun k=>((ofIds l e.bK).find? (EX k)).toList
def flat_length {α β:Type} {f:α→List β} {n:Nat} (h:∀x,(f x).length≤n):∀l:List α,(l.flatMap f).length≤n*l.length
 | []=>BP
 |x::l=>by
  have j:=h x;have m:=flat_length h l;rw[Nz,EP,GI,Nat.mul_succ];omega
def aE3 (l:List AQ) (e:AQ):(Sz l e).length≤5:=by
 have j:=flat_length (f:=fun k=>((ofIds l e.bK).find? (EX k)).toList) (n:=1) (fun k=>toList_le _) (keysOf e);have m:=XA e;unfold Sz;omega
def aKB {l:List AQ} {ids:List Int} {x:AQ} (h:x∈ofIds l ids):x∈l:=by
 obtain⟨i,_,h⟩:=TK.1 h;exact QH h
def atV {l:List AQ} {e x:AQ} (h:x∈Sz l e):x∈l:=by
 obtain⟨k,_,h⟩:=TD.1 h;have :(ofIds l e.bK).find? (EX k)=some x:=LJ
 exact aKB (U3 this)
def JF (x:Aq):UC:=⟨x.Kind,x.Key⟩
def aai (e:AQ):ni e=some ((keysOf e).map JF):=by
 unfold ni;rw[aaK];simp only[Aa];have m:=XA e;unfold aas;rw[Hu (keysOf e) AB (fun r x=>r++[JF x]) (fun i r=>r.length≤i) (fun r=>some r) (EG _)]
 ·rw[foldl_append (fun x=>[JF x]),IV];congr 1
  induction keysOf e with
  |nil=>rfl
  |cons x s j=>rw[Nz,j];rfl
 ·intro k r i h q;refine⟨aES,?_⟩;unfold aK4;rw[Ce h,Dk G7];rfl
 intro k r _;unfold aK4;rw[Dq]
def aSg (l:List AQ) (p:AQ→Bool):∀ids:List Int,(ofIds l ids).find? p=(ids.find? fun i=>match EC l i with |some x=>p x|none=>false).bind (EC l)
 | []=>rfl
 |i::ids=>by
  have j:=aSg l p ids;unfold ofIds at j ⊢;rw[QD,RS];cases m:EC l i with
  |none=>exact j
  |some x=>
   simp only;rw[RS];cases p x with
   |true=>exact m.symm
   |false=>exact j
def aaH (l:List AQ) (e:AQ) (hl:l.length≤1000) (z:e.bK.length≤40):oH l e=some (Sz l e):=by
 unfold oH;rw[aai];simp only[Aa];have I:=XA e;unfold adl;rw[Hu (a0:=[]) ((keysOf e).map JF) VA (fun r k=>r++((ofIds l e.bK).find? fun x=>x.Kind==k.abM&&decide (x.Key=k.abN)).toList) (fun i r=>r.length≤i) (fun r=>some r) (EG _)]
 ·congr 1;rw[foldl_append (fun k:UC=>((ofIds l e.bK).find? fun x=>x.Kind==k.abM&&decide (x.Key=k.abN)).toList),IV,List.flatMap_map];rfl
 ·intro k r i h J;have L:=toList_le ((ofIds l e.bK).find? fun x=>x.Kind==((keysOf e).map JF)[i].abM&&decide (x.Key=((keysOf e).map JF)[i].abN));refine⟨Kr,?_⟩;have hi:i<5:=by rw[Cm]at h;omega
  unfold aPe;rw[Ce h];generalize((keysOf e).map JF)[i]=K;unfold abS
  rw[aMw e.bK (fuel_lt AB) (fun id=>match EC l id with |some x=>x.Kind==K.abM&&decide (x.Key=K.abN)|none=>false)
   (fun j=>yL k (i:Int) (r++(match e.bK[j]? with |some id=>(EC l id).toList|none=>[]))) (yL k (i:Int) r)]
  ·rw[aSg,JE];by_cases m:e.bK.findIdx (fun id=>match EC l id with |some x=>x.Kind==K.abM&&decide (x.Key=K.abN)|none=>false)<e.bK.length
   ·rw[D9 m,Dj m];rfl
   rw[DL m,IC AB];simp only[Option.bind_none,Option.toList_none,PS];rfl
  ·intro k2 j q;unfold aMO;rw[Ce q,NZ l _ AB,Dj q];simp only[Aa];cases u:EC l e.bK[j]with
   |none=>rw[Rq u];rfl
   |some x=>
    rw[Lh u];simp only[BZ,TA];unfold Vj;rw[IZ];rw[Dk G7];cases x.Kind==K.abM<;>cases decide (x.Key=K.abN)<;>rfl
  intro k2;unfold aMO;rw[Dq]
 intro k r _;unfold aPe;rw[Dq]
def aUW (l:List AQ) (e:AQ) (hl:l.length≤1000) (he:e.bK.length≤40):uV l e=some (Sz l e):=by
 unfold uV;rw[aMu,aCa l _ hl AB];simp only[Aa];have hk:=XA e;have M:=dc l e.bK;unfold aRJ;rw[Hu (a0:=[]) (keysOf e) AB (fun r k=>r++((ofIds l e.bK).find? (EX k)).toList) (fun i r=>r.length≤i) (fun r=>some r) (EG _)]
 ·rw[foldl_append (fun k:Aq=>((ofIds l e.bK).find? (EX k)).toList),IV];rfl
 ·intro k r i h hI;have U:=toList_le ((ofIds l e.bK).find? (EX (keysOf e)[i]));refine⟨Kr,?_⟩;have hi:i<5:=AB
  unfold aMn;rw[dec_lt h];simp only[BZ];generalize ofIds l e.bK=O at M U;unfold ad4
  have u:∀m (a:List AQ) (j:Int),0<m→jM (QN O (keysOf e) (i:Int) k) m a true j=k a (Am ((i:Int)+1)):=by
   intro m a j L;obtain⟨m,rfl⟩:∃I,m=I+1:=⟨m-1,AB⟩
   show QN O (keysOf e) (i:Int) k (jM (QN O (keysOf e) (i:Int) k) m) a true j=_;unfold QN;cases decide (j<(O.length:Int))<;>rfl
  have key:∀n (j:Nat),j+n=O.length→∀m,n+1<m→jM (QN O (keysOf e) (i:Int) k) m r false (j:Int)=k (r++((O.drop j).find? (EX (keysOf e)[i])).toList) (Am ((i:Int)+1)):=by
   intro n
   induction n with
   |zero=>
    intro j Y m L;obtain⟨m,rfl⟩:∃I,m=I+1:=⟨m-1,AB⟩
    have :j=O.length:=AB
    subst this;show QN O (keysOf e) (i:Int) k (jM (QN O (keysOf e) (i:Int) k) m) r false _=_;unfold QN;rw[DV,PK];simp
   |succ n Z=>
    intro j Y m L;obtain⟨m,rfl⟩:∃I,m=I+1:=⟨m-1,AB⟩
    have z:j<O.length:=AB
    have J:=Z (j+1) AB m AB;show QN O (keysOf e) (i:Int) k (jM (QN O (keysOf e) (i:Int) k) m) r false _=_;have q:=u m;generalize jM (QN O (keysOf e) (i:Int) k) m=K at J q;unfold QN aGN aDG;rw[dec_lt z,CV z,CV h];simp only[BZ,Io,Aa];rw[IZ,wrap_succ j AB,La z,RS,J];rw[Dk G7];simp only[Aa];rw[q _ _ AB];unfold EX;cases O[j].Kind==(keysOf e)[i].Kind<;>cases decide (O[j].Key=(keysOf e)[i].Key)<;>rfl
  have :=key O.length 0 AB Aj ig;exact this
 intro k r _;unfold aMn;rw[DV];rfl
def Va (c:ByteArray):CB:=bif !(c.toList==Bv.toList)then{ WA with Users:=[⟨c,100⟩] }else WA
def UJ (l:List AQ):ByteArray:=match l.find? fun x=>x.Kind==1 with |some x=>x.aY|none=>Bv
def Em (l:List AQ):CB:=match l.find? fun x=>x.Kind==3 with |some x=>x.Content.Levels|none=>Va (UJ l)
def ar8 (c:ByteArray):aAa c=some (Va c):=by
 unfold aAa Va aBD;cases c.toList==Bv.toList<;>rfl
def aeL (c:ByteArray):aAU c=some (Va c):=by
 unfold aAU Va aEG;cases c.toList==Bv.toList<;>rfl
def aUb (l:List AQ) (k:Int) (hl:l.length≤1000):wZ l k=some (if l.findIdx (fun e=>e.Kind==k)<l.length then((l.findIdx (fun e=>e.Kind==k):Nat):Int)else -1):=by
 unfold wZ;rw[aLV l AB (fun a0=>aGE a0 k) (fun e=>e.Kind==k) fun _=>rfl];rfl
def aHw (l:List AQ) (hl:l.length≤1000) (hs:Dl l):dX l=some (Em l,UJ l):=by
 have m:∀c,jU l c=some (match l.find? fun x=>x.Kind==3 with |some x=>x.Content.Levels|none=>Va c,c):=by
  intro c;unfold jU;rw[aUb l 3 hl,JE];simp only[Aa];by_cases h:l.findIdx (fun e=>e.Kind==3)<l.length
  ·rw[D9 h,show decide (((l.findIdx (fun e=>e.Kind==3):Nat):Int)≥0)=true by simp,CV h,Dj h];simp only[BZ,Aa];have q:=hs _ (EU h);have u:=q.users;have z:=q.kinds;unfold aHQ aBP;rw[Dk TM,Dk TM];rfl
  rw[DL h,IC AB,ar8];rfl
 unfold dX;rw[aUb l 1 hl];simp only[Aa];by_cases h:l.findIdx (fun e=>e.Kind==1)<l.length
 ·have j:UJ l=l[l.findIdx (fun e=>e.Kind==1)].aY:=by unfold UJ;rw[JE,Dj h]
  rw[D9 h,show decide (((l.findIdx (fun e=>e.Kind==1):Nat):Int)≥0)=true by simp,CV h];simp only[BZ,Aa];rw[m,←j];rfl
 have j:UJ l=Bv:=by unfold UJ;rw[JE,IC AB]
 rw[DL h];show jU l Bv=_;rw[m,←j];rfl
def aGP (l:List AQ) (hl:l.length≤1000):bn l=some (Em l,UJ l):=by
 have I:∀c,aAC l c 0 Jc=some (match l.find? fun x=>x.Kind==3 with |some x=>x.Content.Levels|none=>Va c,c):=by
  intro c;unfold aAC
  have U:∀{R:Type} {body:(Int→CB→Option R)→Int→CB→Option R} (p:AQ→Bool) (g:Nat→Option R) (rest:Option R) (a0:CB)
   (Z:∀k (i:Nat) (h:i<l.length),body k (i:Int) a0=bif p l[i]then g i else k (Am ((i:Int)+1)) a0) (he:∀k,body k (l.length:Int) a0=rest),
   aU body Aj 0 a0=if l.findIdx p<l.length then g (l.findIdx p)else rest:=by
   intro R body p g rest a0 Z he;have hf:Aj=9223372036854775808:=rfl
   have key:∀n (i:Nat),i+n=l.length→∀m,n<m→aU body m (i:Int) a0=if(l.drop i).findIdx p+i<l.length then g ((l.drop i).findIdx p+i)else rest:=by
    intro n
    induction n with
    |zero=>
     intro i hi m M;obtain⟨m,rfl⟩:∃z,m=z+1:=⟨m-1,AB⟩
     have :i=l.length:=AB
     subst this;show body (aU body m) _ _=_;rw[he,PK,DL BP]
    |succ n Y=>
     intro i hi m M;obtain⟨m,rfl⟩:∃z,m=z+1:=⟨m-1,AB⟩
     have q:i<l.length:=AB
     show body (aU body m) _ _=_;rw[Z _ i q,wrap_succ i AB,Y (i+1) AB m AB,La q,TJ];cases p l[i]with
     |true=>simp only[BZ,JJ];rw[D9 q]
     |false=>
      simp only[BM];rw[show(l.drop (i+1)).findIdx p+(i+1)=(l.drop (i+1)).findIdx p+1+i by omega]
   have :=key l.length 0 AB Aj AB;simpa using this
  rw[U (fun x=>x.Kind==3) (fun i=>some ((match l[i]? with |some x=>x.Content.Levels|none=>Jc),c)) (some (Va c,c))]
  ·rw[JE];by_cases h:l.findIdx (fun e=>e.Kind==3)<l.length
   ·rw[D9 h,Dj h]
   rw[DL h,IC AB]
  ·intro k i h;unfold aMo;rw[Ce h,CV h,Dj h];rfl
  intro k;unfold aMo;rw[Dq,aeL];rfl
 unfold bn aaf;obtain⟨F,O⟩:∃F:ByteArray→Option (CB×ByteArray),∀c,aAC l c 0 Jc=F c:=⟨_,fun _=>rfl⟩
 simp only[O]at I
 have J:∀m (c:ByteArray) (j:Int),0<m→jM (QS l) m c true j=F c:=by
  intro m c j M;obtain⟨m,rfl⟩:∃z,m=z+1:=⟨m-1,AB⟩
  show QS l (jM (QS l) m) c true j=_;unfold QS;simp only[O];cases decide (j<(l.length:Int))<;>rfl
 have key:∀n (j:Nat),j+n=l.length→∀m,n+1<m→jM (QS l) m Bv false (j:Int)=F (match(l.drop j).find? fun x=>x.Kind==1 with |some x=>x.aY|none=>Bv):=by
  intro n
  induction n with
  |zero=>
   intro j hj m M;obtain⟨m,rfl⟩:∃z,m=z+1:=⟨m-1,AB⟩
   have :j=l.length:=AB
   subst this;show QS l (jM (QS l) m) Bv false _=_;unfold QS;simp only[O];rw[DV,PK];rfl
  |succ n Y=>
   intro j hj m M;obtain⟨m,rfl⟩:∃z,m=z+1:=⟨m-1,AB⟩
   have q:j<l.length:=AB
   have L:=Y (j+1) AB m AB;show QS l (jM (QS l) m) Bv false _=_;have u:=J m;generalize jM (QS l) m=K at L u;unfold QS aEX;simp only[O];rw[dec_lt q,CV q];simp only[BZ,Io,Aa];rw[wrap_succ j AB,La q,RS,L,u _ _ AB];cases l[j].Kind==1<;>rfl
 have :=key l.length 0 AB Aj ig;rw[show((0:Nat):Int)=0 from rfl]at this;rw[this,I];rfl
def EF (v:CB) (u:ByteArray):Int:=match v.Users.find? fun x=>decide (x.User=u)with |some x=>x.N|none=>v.User
def YQ (v:CB) (u:ByteArray) (h:v.Users.length≤1000):Qh v u=some (EF v u):=by
 unfold Qh adF EF;rw[JC v.Users (fuel_lt AB) (fun x=>decide (x.User=u)) (fun i=>some (match v.Users[i]? with |some x=>x.N|none=>0)) (some v.User)]
 ·rw[JE];by_cases h:v.Users.findIdx (fun x=>decide (x.User=u))<v.Users.length
  ·rw[D9 h,Dj h]
  rw[DL h,IC AB]
 ·intro k i h;unfold aO1;rw[Ce h,IZ,Dj h]
 intro k;unfold aO1;rw[Dq]
def Vd (v:CB) (u:ByteArray) (h:v.Users.length≤1000):QX v u=some (EF v u):=by
 unfold QX aTX EF;rw[JC v.Users (fuel_lt AB) (fun x=>decide (x.User=u)) (fun i=>some (match v.Users[i]? with |some x=>x.N|none=>0)) (some v.User)]
 ·rw[JE];by_cases h:v.Users.findIdx (fun x=>decide (x.User=u))<v.Users.length
  ·rw[D9 h,Dj h]
  rw[DL h,IC AB]
 ·intro k i h;unfold aNg;rw[Ce h,IZ,Dj h,CV h];rfl
 intro k;unfold aNg;rw[Dq]
def iH {l:List AQ} (h:Dl l):(Em l).Users.length≤100∧(Em l).Kinds.length≤100:=by
 unfold Em;cases j:l.find? fun x=>x.Kind==3 with
 |some x=>
  have :=h x (U3 j);exact⟨this.users,this.kinds⟩
 |none=>
  simp only;unfold Va;cases(UJ l).toList==Bv.toList with
  |true=>
   show WA.Users.length≤100∧WA.Kinds.length≤100;exact⟨BU,BU⟩
  |false=>
   show 1≤100∧WA.Kinds.length≤100;exact⟨BU,BU⟩
def lH (l:List AQ) (e:AQ):Int:=EF (Em (Sz l e)) e.aY
def Dl.from {l:List AQ} (h:Dl l) (e:AQ):Dl (Sz l e):=fun x j=>h x (atV j)
def alr (l:List AQ) (e:AQ) (hl:l.length≤1000) (hs:Dl l) (j:e.bK.length≤40):aGF l e=some (lH l e):=by
 have m:=aE3 l e;have q:=(iH (hs.from e)).1;unfold aGF;rw[aaH l e hl j];simp only[Aa];rw[aHw _ AB (hs.from e)];simp only[Aa];rw[YQ _ _ AB];rfl
def adJ (l:List AQ) (e:AQ) (hl:l.length≤1000) (hs:Dl l) (j:e.bK.length≤40):vG l e=some (lH l e):=by
 have m:=aE3 l e;have q:=(iH (hs.from e)).1;unfold vG;rw[aUW l e hl j];simp only[Aa];rw[aGP _ AB];simp only[Aa];rw[Vd _ _ AB];rfl
def Oy (e:AQ):Bool:=bif e.Kind==2 then(e.Content.N==0||e.Content.N==4)&& !(decide (e.Key=e.aY))else e.Kind==3||e.Kind==4
def ahN (e:AQ):Fn2 e=some (Oy e):=by
 unfold Fn2 aDa Oy;rw[IZ];by_cases m:e.Kind=2
 ·simp[m];cases e.Content.N==0<;>cases e.Content.N==4<;>rfl
 have j:(e.Kind==2)=false:=Xb
 rw[j];cases e.Kind==3<;>cases e.Kind==4<;>rfl
def alo (e:AQ):aAJ e=some (Oy e):=by
 unfold aAJ Oy;rw[IZ];cases e.Kind==2<;>cases e.Content.N==0<;>cases e.Content.N==4<;>cases e.Kind==3<;>cases e.Kind==4<;>rfl
def aTY (l:List Int) (x:Int) (h:l.length≤1099511627776):zf l x=some (if l.findIdx (· ==x)<l.length then((l.findIdx (· ==x):Nat):Int)else -1):=by
 unfold zf aRf;rw[JC l (fuel_lt h) (· ==x) (fun i=>some (i:Int)) (some (-1))]
 ·split<;>rfl
 ·intro k i hi;unfold aIN;rw[Ce hi];have :(x==l[i])=(l[i]==x):=by rw[Qm];simp only[Qo];exact eq_comm
  rw[this]
 intro k;unfold aIN;rw[Dq]
def adw (l:List Int) (x:Int):decide (l.findIdx (· ==x)<l.length)=Di l x:=by
 rw[Qm,Jm,Gi,qo];exact⟨fun⟨y,j,m⟩=>by rw[←(by simpa using m:y=x)];exact j,fun h=>⟨x,h,BP⟩⟩
def oV (l:List Int) (x:Int) (h:l.length≤1099511627776):iT l x=some (Di l x):=by
 unfold iT;rw[aTY l x h,←adw];by_cases hl:l.findIdx (· ==x)<l.length
 ·rw[D9 hl,JI hl];simp
 rw[DL hl,Jh hl];rfl
def aTf (l:List Int) (x:Int) (h:l.length≤1099511627776):fU l x=some (Di l x):=by
 unfold fU;rw[oV l x h];rfl
def ev (l:List AQ) (id:Int):AQ:=(Gg l id).1
def X8 (l:List AQ) (id:Int):Bool:=dQ l id&&Oy (ev l id)
def DK (l:List AQ) (full:List Int):List Int:=full.filter (X8 l)
def Uz (l:List AQ) (full:List Int):List Int:=Eo (DK l full++full.filter (Di (chainOf l (DK l full))))
def aFA {l:List AQ} {full:List Int} {x:Int}:x∈Uz l full↔x∈full∧(X8 l x=true∨KE l (DK l full) x):=by
 unfold Uz;rw[Ky,Gw,FM,Jm,bJ];unfold DK;rw[FM];exact⟨fun h=>h.elim (fun h=>⟨h.1,.inl h.2⟩) fun h=>⟨h.1,.inr h.2⟩,fun⟨h,k⟩=>k.elim (fun k=>.inl ⟨h,k⟩) fun k=>.inr ⟨h,k⟩⟩
def aTq (l:List AQ) (full:List Int):Inc (Uz l full):=LY _
def aPo (p:Int→Bool):∀(S r:List Int),S.foldl (fun r x=>bif p x then r++[x]else r) r=r++S.filter p
 | [],r=>BP
 |x::S,r=>by
  rw[FZ,aPo p S,Rl];cases p x<;>simp
def aqk (l:List AQ) (full:List Int) (hl:l.length≤1000) (hs:Dl l) (z:full.length≤120000) (j:(DK l full).length≤100000):aBn l full=some (Uz l full):=by
 unfold aBn ab5;rw[Hu (a0:=[]) full AB (fun r x=>bif X8 l x then r++[x]else r) (fun i r=>r.length≤i) (fun r=>(Z9 l r).bind fun m=>aQ0 full m r 0) (EG _)]
 ·have u:full.foldl (fun r x=>bif X8 l x then r++[x]else r) []=DK l full:=by rw[aPo];rfl
  have I:=bH l (DK l full);rw[u,aKG l _ hl hs.akC j];simp only[Aa];unfold aQ0;rw[Hu full AB (fun r x=>bif Di (chainOf l (DK l full)) x then r++[x]else r) (fun i r=>r.length≤(DK l full).length+i) (fun r=>some (Eo r)) (EG _)]
  ·rw[aPo];rfl
  ·intro k r i h q;refine⟨?_,?_⟩
   ·cases Di (chainOf l (DK l full)) full[i]with
    |false=>show r.length≤(DK l full).length+(i+1);omega
    |true=>show(r++[full[i]]).length≤(DK l full).length+(i+1);simp;omega
   unfold aNM aFE;rw[Ce h,aTf _ _ AB];simp only[Aa];rw[Dk G7];cases Di (chainOf l (DK l full)) full[i]<;>rfl
  intro k r q;unfold aNM;rw[Dq,iU _ AB];rfl
 ·intro k r i h q;refine⟨?_,?_⟩
  ·cases X8 l full[i]with
   |false=>show r.length≤i+1;omega
   |true=>show(r++[full[i]]).length≤i+1;simp;omega
  unfold aK2 aAV;rw[Ce h,NZ l _ AB];simp only[Aa];rw[Dk G7];unfold X8 dQ ev;rw[ahN,O5];cases(EC l full[i]).isSome<;>cases Oy (Gg l full[i]).1<;>rfl
 intro k r _;unfold aK2;rw[Dq]
def KE.aE7 {l:List AQ} {ids:List Int} {i x:Int} (hi:i∈ids) (h:KE l [i] x):KE l ids x:=by
 induction h with
 |one h j m=>rw[IK.1 h]at j;exact .one hi j m
 |more h j m q=>exact .more q j m
def KE.split {l:List AQ} {ids:List Int} {x:Int}:KE l ids x↔∃i∈ids,KE l [i] x:=by
 constructor
 ·intro h
  induction h with
  |one h j m=>exact⟨_,h,.one (IK.2 rfl) j m⟩
  |more h j m z=>obtain⟨i,q,u⟩:=z;exact⟨i,q,.more u j m⟩
 rintro⟨i,q,u⟩;exact .aE7 q u
def KE.dQ {l:List AQ} {ids:List Int} {x:Int} (h:KE l ids x):dQ l x=true:=by cases h<;>assumption
def Zy (h r:List Int) (y:Int):List Int:=bif Di h y then put r y else r
def aEc (h:List Int):∀(c r:List Int),Inc r→Inc (c.foldl (Zy h) r)∧∀x,x∈c.foldl (Zy h) r↔x∈r∨x∈c∧x∈h
 | [],r,m=>⟨m,fun x=>BP⟩
 |y::c,r,m=>by
  rw[FZ];unfold Zy;cases I:Di h y with
  |true=>
   obtain⟨q,u⟩:=aEc h c (put r y) (Sm m);refine⟨q,fun x=>(u x).trans ?_⟩;rw[Vu,F8];constructor
   ·rintro((j|rfl)|j)
    ·exact .inl j
    ·exact .inr ⟨.inl rfl,Jm.1 I⟩
    exact .inr ⟨.inr j.1,j.2⟩
   rintro(j|⟨rfl|j,z⟩)
   ·exact .inl (.inl j)
   ·exact .inl (.inr rfl)
   exact .inr ⟨j,z⟩
  |false=>
   obtain⟨q,u⟩:=aEc h c r m;refine⟨q,fun x=>(u x).trans ⟨fun j=>j.imp id fun j=>⟨Gf _ j.1,j.2⟩,fun j=>j.imp id fun j=>⟨?_,j.2⟩⟩⟩;rcases F8.1 j.1 with rfl|z
   ·exact absurd j.2 (OH.1 I)
   exact z
def aj (l:List AQ) (h r:List Int) (x:Int):List Int:=bif Oy (ev l x)then(chainOf l [x]).foldl (Zy h) (put r x)else r
def aPl (l:List AQ) (h:List Int):∀(c r:List Int),Inc r→Inc (c.foldl (aj l h) r)∧∀x,x∈c.foldl (aj l h) r↔x∈r∨∃i∈c,Oy (ev l i)=true∧(x=i∨KE l [i] x∧x∈h)
 | [],r,u=>⟨u,fun x=>BP⟩
 |y::c,r,u=>by
  rw[FZ];unfold aj;cases z:Oy (ev l y)with
  |true=>
   obtain⟨L,M⟩:=aEc h (chainOf l [y]) (put r y) (Sm u);obtain⟨I,J⟩:=aPl l h c _ L;refine⟨I,fun x=>(J x).trans ?_⟩;rw[M x,Vu,bJ];constructor
   ·rintro(((j|rfl)|j)|⟨i,j,q⟩)
    ·exact .inl j
    ·exact .inr ⟨x,FY ..,z,.inl rfl⟩
    ·exact .inr ⟨y,FY ..,z,.inr j⟩
    exact .inr ⟨i,Gf _ j,q⟩
   rintro(j|⟨i,j,q,m⟩)
   ·exact .inl (.inl (.inl j))
   rcases F8.1 j with rfl|j
   ·rcases m with rfl|m
    ·exact .inl (.inl (.inr rfl))
    exact .inl (.inr m)
   exact .inr ⟨i,j,q,m⟩
  |false=>
   obtain⟨I,J⟩:=aPl l h c r u;refine⟨I,fun x=>(J x).trans ⟨fun j=>j.imp id fun⟨i,q,m⟩=>⟨i,Gf _ q,m⟩,fun j=>j.imp id fun⟨i,q,m,O⟩=>⟨i,?_,m,O⟩⟩⟩;rcases F8.1 q with rfl|q
   ·rw[z]at m;cases m
   exact q
def ahx (l:List AQ) (full:List Int):(iE l full).foldl (aj l (iE l full)) []=Uz l full:=by
 obtain⟨z,I⟩:=aPl l (iE l full) (iE l full) [] .nil;refine Ee z (aTq _ _) fun x=>(I x).trans ?_;rw[aFA,MZ,KE.split];unfold DK X8;constructor
 ·rintro(u|⟨i,u,j,q⟩)
  ·exact absurd u Fe
  have m:=MZ.1 u;rcases q with rfl|q
  ·exact⟨m.1,.inl (by rw[m.2,j];rfl)⟩
  exact⟨q.2.1,.inr ⟨i,FM.2 ⟨m.1,by rw[m.2,j];rfl⟩,q.1⟩⟩
 rintro⟨u,j|⟨i,j,q⟩⟩
 ·rw[DT]at j;exact .inr ⟨x,MZ.2 ⟨u,j.1⟩,j.2,.inl rfl⟩
 rw[FM,DT]at j;exact .inr ⟨i,MZ.2 ⟨j.1,j.2.1⟩,j.2.2,.inr ⟨q,u,q.dQ⟩⟩
def aex (l:List AQ) (full:List Int) (hl:l.length≤1000) (hs:Dl l) (L:full.length≤100000):aGy l full=some (Uz l full):=by
 unfold aGy;rw[adK l full hl L];simp only[Aa];have M:(iE l full).length≤l.length:=lQ (Zf l full) fun x m=>(MZ.1 m).2;unfold aVT;rw[Hu (a0:=[]) (iE l full) AB (aj l (iE l full)) (fun _ r=>Inc r∧∀x∈r,dQ l x=true) (fun r=>some r) ⟨.nil,fun x m=>absurd m Fe⟩]
 ·rw[ahx]
 ·intro k r i h u;have z:dQ l (iE l full)[i]=true:=(MZ.1 (EU h)).2;have O:=lQ u.1 u.2;have g:=aEc (iE l full) (chainOf l [(iE l full)[i]]) (put r (iE l full)[i]) (Sm u.1);refine⟨?_,?_⟩
  ·unfold aj;cases Oy (ev l (iE l full)[i])with
   |false=>exact u
   |true=>
    refine⟨g.1,fun x m=>?_⟩;rcases(g.2 x).1 m with q|q
    ·rcases Vu.1 q with q|rfl
     ·exact u.2 x q
     exact z
    exact(MZ.1 q.2).2
  unfold aNr qY;rw[Ce h,MH l _ AB];simp only[Aa];rw[alo,CV h];simp only[Aa];rw[mQ _ _ AB];simp only[Aa];rw[aKo l _ hl hs.akC BP];simp only[Aa];unfold aj;show(bif Oy (ev l (iE l full)[i])then _ else _)=_;cases Oy (ev l (iE l full)[i])with
  |false=>rfl
  |true=>
   simp only[BZ];have hc:=bH l [(iE l full)[i]];unfold abe
   rw[Hu (chainOf l [(iE l full)[i]]) AB (Zy (iE l full)) (fun _ r=>Inc r∧∀x∈r,dQ l x=true) (fun r=>k r (Am ((i:Int)+1))) ⟨Sm u.1,fun x m=>by
    rcases Vu.1 m with q|rfl
    ·exact u.2 x q
    exact z⟩]
   ·intro k2 U j J I;have Y:=lQ I.1 I.2;refine⟨?_,?_⟩
    ·unfold Zy;cases Z:Di (iE l full) (chainOf l [(iE l full)[i]])[j]with
     |false=>exact I
     |true=>
      refine⟨Sm I.1,fun x m=>?_⟩;rcases Vu.1 m with q|rfl
      ·exact I.2 x q
      exact(MZ.1 (Jm.1 Z)).2
    unfold aM3 aFe;rw[Ce J,XP _ _ AB,CV J];simp only[Aa];rw[mQ _ _ AB];unfold Zy;cases Di (iE l full) (chainOf l [(iE l full)[i]])[j]<;>rfl
   intro k2 U _;unfold aM3 qY;rw[Dq]
 intro k r _;unfold aNr;rw[Dq]
def aCp (l:List AQ) (full:List Int):(Uz l full).length≤l.length:=
 lQ (aTq l full) fun x j=>by
  rcases(aFA.1 j).2 with h|h
  ·unfold X8 at h;rw[DT]at h;exact h.1
  exact h.dQ
def FC (l:List AQ) (id:Int):Qx:=⟨id,lH l (ev l id),(ev l id).Time,chainOf l [id]⟩
def Vh (l:List AQ) (left:List Int) (x:Int):Bool:= !left.any fun y=>Di (chainOf l [x]) y
def Ya (a b:Qx):Bool:=bif a.Jj != b.Jj then decide (a.Jj>b.Jj)else decide (a.BH<b.BH)
def Gu (l:List AQ) (left:List Int) (b:Option Int) (x:Int):Option Int:=bif Vh l left x&&(match b with |none=>true|some y=>Ya (FC l x) (FC l y))then some x else b
def Tm (l:List AQ) (left:List Int):Option Int:=left.foldl (Gu l left) none
def sD (l:List AQ):Nat→List Int→List Int
 |0,_=>[]
 |n+1,left=>match Tm l left with
  |none=>[]
  |some b=>b::sD l n (left.filter (· != b))
def aRN (l:List AQ):∀ids:List Int,ids.flatMap (fun id=>bif dQ l id then[FC l id]else[])=(ids.filter (dQ l)).map (FC l)
 | []=>rfl
 |i::ids=>by
  rw[Nz,aRN l ids,Rl];cases dQ l i<;>simp
def aoG (l:List AQ) (ids:List Int) (hl:l.length≤1000) (hs:Dl l) (hi:ids.length≤100000):aEo l ids=some ((iE l ids).map (FC l)):=by
 unfold aEo;rw[iU ids AB];simp only[Aa];have q:=NU ids;unfold aTK;rw[Hu (a0:=[]) (Eo ids) AB (fun r id=>r++bif dQ l id then[FC l id]else[]) (fun i r=>r.length≤i) (fun r=>some r) (EG _)]
 ·rw[foldl_append (fun id=>bif dQ l id then[FC l id]else[]),IV,aRN];rfl
 ·intro k r i h z;refine⟨?_,?_⟩
  ·cases dQ l (Eo ids)[i]<;>simp <;>omega
  unfold aPv aD0;rw[Ce h,NZ l _ AB];simp only[Aa];unfold dQ;cases j:EC l (Eo ids)[i]with
  |none=>rw[Rq j];simp
  |some e=>
   have u:=hs e (QH j);have m:ev l (Eo ids)[i]=e:=by unfold ev;rw[Lh j]
   rw[Lh j];simp only[BZ,Option.isSome_some];rw[alr l e hl hs u.auth,aKG l _ hl hs.akC BP];simp only[Aa];rw[Dk G7];unfold FC;rw[m];rfl
 intro k r _;unfold aPv;rw[Dq]
def aSi (l:List AQ) (left:List Int):∀(c:List Int) (b:Option Int) {x:Int},c.foldl (Gu l left) b=some x→b=some x∨x∈c
 | [],b,x,h=>.inl h
 |y::c,b,x,h=>by
  rw[FZ]at h;rcases aSi l left c _ h with j|j
  ·have key:∀c:Bool,(bif c then some y else b)=some x→b=some x∨x=y:=fun c m=>by
    cases c with
    |true=>simp only[BZ,MK]at m;exact .inr m.symm
    |false=>exact .inl m
   rcases key _ j with q|q
   ·exact .inl q
   exact .inr (q▸FY ..)
  exact .inr (Gf _ j)
def aqR {l:List AQ} {left:List Int} {x:Int} (h:Tm l left=some x):x∈left:=by
 rcases aSi l left left none h with h|h
 ·cases h
 exact h
def aU5 {left:List Int} (z:left.Nodup) {j:Nat} (I:j<left.length):left.take j++left.drop (j+1)=left.filter (· != left[j]):=by
 have e:left=left.take j++left[j]::left.drop (j+1):=by rw[←La I,aP]
 have m:(left.take j++left[j]::left.drop (j+1)).Nodup:=by rw[←e];exact z
 have u:=xG.1 m;have J:=MJ.1 u.2.1
 have L:(left.take j).filter (· != left[j])=left.take j:=vg.2 fun x q=>by
  have :=u.2.2 x q left[j] (FY ..);simpa using this
 have M:(left.drop (j+1)).filter (· != left[j])=left.drop (j+1):=vg.2 fun x q=>by
  have :x≠left[j]:=fun e=>J.1 (e▸q);simpa using this
 have :(left.take j++left[j]::left.drop (j+1)).filter (· != left[j])=left.take j++left.drop (j+1):=by
  rw[Q7,Rl,L,M];simp
 rw[←e]at this;exact this.symm
def aRo {left:List Int} (m:left.Nodup) {b:Int} (q:b∈left):(left.filter (· != b)).length+1=left.length:=by
 obtain⟨j,u,rfl⟩:=Ia q;rw[←aU5 m u,EP,Fr,LP];omega
def ap1 {left:List Int} (h:Inc left) (b:Int):Og left [b]=left.filter (· != b):=by
 unfold Og;rw[aro h];congr 1;funext x;by_cases e:x=b
 ·subst e;simp[Di]
 simp[Di,e]
def air (l:List AQ) (hl:l.length≤1000):∀(m:Nat) (left acc:List Int) (N:Nat),left.length=m→Inc left→(∀x∈left,dQ l x=true)→acc.length+left.length≤1000000→m<N→aU Xc N (left.map (FC l)) acc=some (acc++sD l m left):=by
 intro m
 induction m with
 |zero=>
  intro left acc N hm hi hk hacc hN;obtain⟨N,rfl⟩:∃N',N=N'+1:=⟨N-1,AB⟩
  have :left=[]:=H9 hm;subst this;show Xc _ _ _=_;unfold Xc sD;simp
 |succ m ih=>
  intro left acc N hm hi hk hacc hN;obtain⟨N,rfl⟩:∃N',N=N'+1:=⟨N-1,AB⟩
  have hll:=lQ hi hk;refine eX.eq ?_;show eX (Xc (aU Xc N) _ _) _;have ih':=fun Z acc' h1 h2 h3 h4=>ih Z acc' N h1 h2 h3 h4 AB;generalize aU Xc N=K at ih';unfold Xc;rw[show decide (((left.map (FC l)).length:Int)>0)=true by rw[Cm];simp;omega];simp only[BZ];unfold aTz;refine Ul (body:=aNw (left.map (FC l)) K) (fun m2 a b c=>∃i:Nat,b=i∧i+m2=left.length∧c=acc∧((a= -1∧(left.take i).foldl (Gu l left) none=none)∨∃(j:Nat) (z:j<left.length),a=(j:Int)∧(left.take i).foldl (Gu l left) none=some left[j])) ?_ Aj left.length (-1) 0 acc (fuel_lt AB) ⟨0,rfl,AB,rfl,.inl ⟨rfl,rfl⟩⟩;rintro m2 a b c k ⟨i,rfl,hm2,rfl,hI⟩ I;unfold aNw;by_cases J:i<left.length
  ·have O:i<(left.map (FC l)).length:=by rw[Cm];exact J
   rw[dec_lt O,CV O,QI];simp only[BZ,Aa]
   have hst:(left.take (i+1)).foldl (Gu l left) none=Gu l left ((left.take i).foldl (Gu l left) none) left[i]:=by
    rw[Ox J,V6];rfl
   unfold aci;have hc:=bH l [left[i]]
   have hin:∀(k2:Int→Int→List Int→Option (List Int)),aU (Xk (left.map (FC l)) (FC l left[i]) k2 (i:Int) a) Aj 0 c=bif Vh l left left[i]then(bif decide (a<0)then YP k2 (i:Int) a true c else(Ai (left.map (FC l)) a).bind fun x27=>(Zk (FC l left[i]) x27).bind fun x28=>YP k2 (i:Int) a x28 c)else aQ k2 (i:Int) a c:=by
    intro k2
    have key:∀n (j:Nat),j+n=left.length→∀m,n<m→aU (Xk (left.map (FC l)) (FC l left[i]) k2 (i:Int) a) m (j:Int) c=bif !(left.drop j).any (fun y=>Di (chainOf l [left[i]]) y)then(bif decide (a<0)then YP k2 (i:Int) a true c else(Ai (left.map (FC l)) a).bind fun x27=>(Zk (FC l left[i]) x27).bind fun x28=>YP k2 (i:Int) a x28 c)else aQ k2 (i:Int) a c:=by
     intro n
     induction n with
     |zero=>
      intro j z m hm;obtain⟨m,rfl⟩:∃m',m=m'+1:=⟨m-1,AB⟩
      have :j=left.length:=AB
      subst this;show Xk _ _ _ _ _ _ _ _=_;unfold Xk;rw[show decide ((left.length:Int)<((left.map (FC l)).length:Int))=false by rw[Cm];exact DV _,PK];rfl
     |succ n ihn=>
      intro j z m hm;obtain⟨m,rfl⟩:∃m',m=m'+1:=⟨m-1,AB⟩
      have hjl:j<left.length:=AB
      have aHa:j<(left.map (FC l)).length:=by rw[Cm];exact hjl
      have U:=ihn (j+1) AB m AB;show Xk _ _ _ _ _ (aU _ m) _ _=_;generalize aU (Xk (left.map (FC l)) (FC l left[i]) k2 (i:Int) a) m=L at U;unfold Xk;rw[Ce aHa,QI];show((fU (chainOf l [left[i]]) left[j]).bind _)=_;rw[aTf _ _ AB,wrap_succ j AB,La hjl,dM];simp only[Aa];cases Di (chainOf l [left[i]]) left[j]with
      |true=>rfl
      |false=>
       simp only[BM,NM];exact U
    exact key left.length 0 AB Aj (fuel_lt AB)
   rw[hin];have hw:=wrap_succ i AB;unfold YP aQ;rw[hw];cases M:Vh l left left[i]with
   |false=>
    simp only[BM];refine I (m2-1) _ _ _ AB ⟨i+1,rfl,AB,rfl,?_⟩;have e:Gu l left ((left.take i).foldl (Gu l left) none) left[i]=(left.take i).foldl (Gu l left) none:=by unfold Gu;rw[M];rfl
    rw[hst,e];exact hI
   |true=>
    simp only[BZ];rcases hI with⟨rfl,Y⟩|⟨j,z,rfl,Y⟩
    ·rw[show decide ((-1:Int)<0)=true by decide];simp only[BZ];refine I (m2-1) _ _ _ AB ⟨i+1,rfl,AB,rfl,.inr ⟨i,J,rfl,?_⟩⟩;rw[hst,Y];unfold Gu;rw[M];rfl
    have q:j<(left.map (FC l)).length:=by rw[Cm];exact z
    rw[show decide ((j:Int)<0)=false by simp,CV q,QI];simp only[BM,Aa]
    have e1:Zk (FC l left[i]) (FC l left[j])=some (Ya (FC l left[i]) (FC l left[j])):=by
     unfold Zk Ya;cases(FC l left[i]).Jj != (FC l left[j]).Jj<;>rfl
    rw[e1];simp only[Aa];cases ha:Ya (FC l left[i]) (FC l left[j])with
    |true=>
     simp only[BZ];refine I (m2-1) _ _ _ AB ⟨i+1,rfl,AB,rfl,.inr ⟨i,J,rfl,?_⟩⟩;rw[hst,Y];unfold Gu;rw[M];simp only[ha];rfl
    |false=>
     simp only[BM];refine I (m2-1) _ _ _ AB ⟨i+1,rfl,AB,rfl,.inr ⟨j,z,rfl,?_⟩⟩;rw[hst,Y];unfold Gu;rw[M];simp only[ha];rfl
  have hie:i=left.length:=AB
  subst hie;rw[show decide ((left.length:Int)<((left.map (FC l)).length:Int))=false by rw[Cm];exact DV _];simp only[BM];rw[Gm]at hI;have u:sD l (m+1) left=match Tm l left with |none=>[]|some b=>b::sD l m (left.filter (· != b)):=rfl
  rcases hI with⟨rfl,Y⟩|⟨j,z,rfl,Y⟩
  ·rw[show decide ((-1:Int)<0)=true by decide];refine .ret ?_;have h1:Tm l left=none:=Y;rw[u,h1];simp
  have q:j<(left.map (FC l)).length:=by rw[Cm];exact z
  rw[show decide ((j:Int)<0)=false by simp,CV q,QI];simp only[BM,Aa];have h1:Tm l left=some left[j]:=Y;rw[Dk G7];simp only[Aa];rw[xk (Nat.le_of_lt q),wrap_succ j AB,Wq q];simp only[Aa];rw[Dk (by rw[Fr,LP,Cm];omega)];simp only[Aa]
  have e2:(left.map (FC l)).take j++(left.map (FC l)).drop (j+1)=(left.filter (· != left[j])).map (FC l):=by
   rw[←aU5 (YC hi) z,JM,Yd,ZR]
  rw[e2];have hwl:=aRo (YC hi) (EU z);rw[ih' (left.filter (· != left[j])) (c++[(FC l left[j]).nU]) AB (hi.sublist Tz) (fun x hx=>hk x ((FM.1 hx).1)) Uw];refine .ret ?_;rw[u,h1,Ht];rfl
def aoy (l:List AQ) (ids:List Int) (hl:l.length≤1000) (hs:Dl l) (hi:ids.length≤100000):Fin l ids=some (sD l (iE l ids).length (iE l ids)):=by
 have m:(iE l ids).length≤l.length:=lQ (Zf l ids) fun x j=>(MZ.1 j).2;unfold Fin;rw[aoG l ids hl hs hi];simp only[Aa];unfold aVE;rw[air l hl _ (iE l ids) [] Aj rfl (Zf l ids) (fun x j=>(MZ.1 j).2) TM (fuel_lt AB)];rfl
def ar4 (l:List AQ) (left:List Int) (x:Int) (hl:l.length≤1000) (hs:Dl l) (j:left.length≤100000):aFO l left x=some (Vh l left x):=by
 unfold aFO;rw[aKo l _ hl hs.akC BP];simp only[Aa];have m:=bH l [x];unfold aan;rw[Gz (chainOf l [x]) (fuel_lt AB) (fun y=>Di left y) false (some true)]
 ·unfold Vh
  have e:(chainOf l [x]).any (fun y=>Di left y)=left.any fun y=>Di (chainOf l [x]) y:=by
   rw[Qm,IJ,IJ];simp only[Jm];exact⟨fun⟨y,a,b⟩=>⟨y,b,a⟩,fun⟨y,a,b⟩=>⟨y,b,a⟩⟩
  rw[e];cases left.any fun y=>Di (chainOf l [x]) y<;>rfl
 ·intro k i h;unfold aOX;rw[Ce h,XP _ _ AB];simp only[Aa]
 intro k;unfold aOX;rw[Dq]
def aMD {R A B C D:Type} {Q:R→Prop} {body:(A→B→C→D→Option R)→A→B→C→D→Option R} (I:Nat→A→B→C→D→Prop) (hs:∀m a b c d k,I m a b c d→(∀j a' q u z,j<m→I j a' q u z→eX (k a' q u z) Q)→eX (body k a b c d) Q):
 ∀n m a b c d,m<n→I m a b c d→eX (UL body n a b c d) Q
 |0,m,_,_,_,_,h,_=>AB
 |n+1,m,a,b,c,d,h,hi=>hs m a b c d _ hi fun j a' q u z h' J=>aMD I hs n j a' q u z AB J
def LZ {l:List AQ} {x:Int} (h:dQ l x=true):EC l x=some (ev l x)∧(ev l x).Id=x:=by
 unfold dQ at h;obtain⟨e,j⟩:=TL.1 h;have :ev l x=e:=by unfold ev;rw[Lh j]
 rw[this];exact⟨j,aay j⟩
def apx (l:List AQ) (x y:Int) (hl:l.length≤1000) (hs:Dl l) (m:dQ l x=true) (q:dQ l y=true) (u:y<x):aGz l (ev l x) (ev l y)=some (Ya (FC l x) (FC l y)):=by
 obtain⟨z,I⟩:=LZ m;obtain⟨J,L⟩:=LZ q;unfold aGz;rw[adJ l _ hl hs (hs _ (QH z)).auth,adJ l _ hl hs (hs _ (QH J)).auth];simp only[Aa];unfold Ya FC;simp only;cases lH l (ev l x) != lH l (ev l y)with
 |true=>rfl
 |false=>
  simp only[BM];rw[I,L];by_cases j:(ev l x).Time=(ev l y).Time
  ·rw[j];simp;omega
  have :((ev l x).Time != (ev l y).Time)=true:=PO
  rw[this];rfl
def ahl (l:List AQ) (hl:l.length≤1000) (hs:Dl l):∀(m:Nat) (left acc:List Int) (N:Nat),left.length=m→Inc left→(∀x∈left,dQ l x=true)→acc.length+left.length≤1000000→m<N→aU (Y5 l) N left acc=some (acc++sD l m left):=by
 intro m
 induction m with
 |zero=>
  intro left acc N hm hi U Z hN;obtain⟨N,rfl⟩:∃N',N=N'+1:=⟨N-1,AB⟩
  have :left=[]:=H9 hm;subst this;show Y5 _ _ _ _=_;unfold Y5 sD;simp
 |succ m ih=>
  intro left acc N hm hi U Z hN;obtain⟨N,rfl⟩:∃N',N=N'+1:=⟨N-1,AB⟩
  have hll:=lQ hi U;refine eX.eq ?_;show eX (Y5 l (aU (Y5 l) N) _ _) _;have ih':=fun M acc' h1 h2 h3 h4=>ih M acc' N h1 h2 h3 h4 AB;generalize aU (Y5 l) N=K at ih';unfold Y5;rw[show decide ((left.length:Int)>0)=true by simp;omega];simp only[BZ];unfold aVW;refine aMD (body:=aO0 left l K) (fun Y a b c d=>∃i:Nat,b=i∧i+Y=left.length∧c=acc∧((a=false∧(left.take i).foldl (Gu l left) none=none)∨∃(j:Nat) (I:j<left.length),j<i∧a=true∧d=ev l left[j]∧(left.take i).foldl (Gu l left) none=some left[j])) ?_ Aj left.length false 0 acc F9 (fuel_lt AB) ⟨0,rfl,AB,rfl,.inl ⟨rfl,rfl⟩⟩;rintro Y a b c d k ⟨i,rfl,hm2,rfl,hI⟩ J;unfold aO0;by_cases q:i<left.length
  ·rw[dec_lt q,CV q];simp only[BZ,Aa];rw[MH l _ AB];simp only[Aa];rw[ar4 l left _ hl hs AB];simp only[Aa]
   have hst:(left.take (i+1)).foldl (Gu l left) none=Gu l left ((left.take i).foldl (Gu l left) none) left[i]:=by
    rw[Ox q,V6];rfl
   unfold aEC;rw[wrap_succ i AB];cases L:Vh l left left[i]with
   |false=>
    simp only[BM,Aa];refine J (Y-1) _ _ _ _ AB ⟨i+1,rfl,AB,rfl,?_⟩;have e:Gu l left ((left.take i).foldl (Gu l left) none) left[i]=(left.take i).foldl (Gu l left) none:=by unfold Gu;rw[L];rfl
    rw[hst,e];rcases hI with u|⟨j,I,O,u⟩
    ·exact .inl u
    exact .inr ⟨j,I,AB,u⟩
   |true=>
    simp only[BZ];rcases hI with⟨rfl,u⟩|⟨j,I,O,rfl,rfl,u⟩
    ·simp only[Io,BZ,Aa];refine J (Y-1) _ _ _ _ AB ⟨i+1,rfl,AB,rfl,.inr ⟨i,q,AB,rfl,rfl,?_⟩⟩;rw[hst,u];unfold Gu;rw[L];rfl
    simp only[EL,BM];have hlt2:left[j]<left[i]:=MO.1 hi j i I q O;have e1:=apx l left[i] left[j] hl hs (U _ (EU q)) (U _ (EU I)) hlt2;rw[show(Gg l left[i]).1=ev l left[i]from rfl,e1];simp only[Aa];cases ha:Ya (FC l left[i]) (FC l left[j])with
    |true=>
     simp only[BZ];refine J (Y-1) _ _ _ _ AB ⟨i+1,rfl,AB,rfl,.inr ⟨i,q,AB,rfl,rfl,?_⟩⟩;rw[hst,u];unfold Gu;rw[L];simp only[ha];rfl
    |false=>
     simp only[BM];refine J (Y-1) _ _ _ _ AB ⟨i+1,rfl,AB,rfl,.inr ⟨j,I,AB,rfl,rfl,?_⟩⟩;rw[hst,u];unfold Gu;rw[L];simp only[ha];rfl
  have hie:i=left.length:=AB
  subst hie;rw[DV];simp only[BM];rw[Gm]at hI;have z:sD l (m+1) left=match Tm l left with |none=>[]|some b=>b::sD l m (left.filter (· != b)):=rfl
  rcases hI with⟨rfl,u⟩|⟨j,I,O,rfl,rfl,u⟩
  ·refine .ret ?_;have h1:Tm l left=none:=u;rw[z,h1];simp
  simp only[EL,BM];have h1:Tm l left=some left[j]:=u;have hid:=(LZ (U _ (EU I))).2;rw[hid,Dk G7];simp only[Aa];rw[aFI _ _ AB BP,ap1 hi];simp only[Aa];have hwl:=aRo (YC hi) (EU I);rw[ih' (left.filter (· != left[j])) (c++[left[j]]) AB (hi.sublist Tz) (fun x hx=>U x ((FM.1 hx).1)) Uw];refine .ret ?_;rw[z,h1,Ht];rfl
def afV (l:List AQ) (ids:List Int) (hl:l.length≤1000) (hs:Dl l) (hi:ids.length≤100000):aDZ l ids=some (sD l (iE l ids).length (iE l ids)):=by
 have m:(iE l ids).length≤l.length:=lQ (Zf l ids) fun x j=>(MZ.1 j).2;unfold aDZ;rw[adK l ids hl hi];simp only[Aa];unfold adR;rw[ahl l hl hs _ (iE l ids) [] Aj rfl (Zf l ids) (fun x j=>(MZ.1 j).2) TM (fuel_lt AB)];rfl
def aPu (l:List AQ):∀(n:Nat) (left:List Int) {x:Int},x∈sD l n left→x∈left
 |0,_,_,h=>absurd h Fe
 |n+1,left,x,h=>by
  unfold sD at h;cases j:Tm l left with
  |none=>rw[j]at h;exact absurd h Fe
  |some b=>
   rw[j]at h;rcases F8.1 h with rfl|h
   ·exact aqR j
   exact(FM.1 (aPu l n _ h)).1
def aUf (l:List AQ):∀(n:Nat) (left:List Int),(sD l n left).length≤n
 |0,_=>EG _
 |n+1,left=>by
  unfold sD;cases Tm l left with
  |none=>exact El _
  |some b=>have :=aUf l n (left.filter (· != b));simp only[GI];omega
def OG (l:List AQ) (e:AQ):Option Int:=e.bK.find? fun id=>dQ l id&&(ev l id).Kind==3
def ay (l:List AQ) (e:AQ):Int×Bool:=match OG l e with |some x=>(x,true)|none=>(0,false)
def aVn (l:List AQ) (e:AQ) (hl:l.length≤1000) (j:e.bK.length≤40):yt l e=some (ay l e):=by
 unfold yt ab3;rw[JC e.bK (fuel_lt AB) (fun id=>dQ l id&&(ev l id).Kind==3) (fun i=>some (match e.bK[i]? with |some x=>(x,true)|none=>(0,false))) (some (0,false))]
 ·unfold ay OG;rw[JE];by_cases h:e.bK.findIdx (fun id=>dQ l id&&(ev l id).Kind==3)<e.bK.length
  ·rw[D9 h]
  rw[DL h,IC AB]
 ·intro k i h;unfold aO5;rw[Ce h,NZ l _ AB,Dj h];simp only[Aa];unfold dQ ev;rw[O5];cases(EC l e.bK[i]).isSome<;>rfl
 intro k;unfold aO5;rw[Dq]
def ajw (l:List AQ) (e:AQ) (hl:l.length≤1000) (j:e.bK.length≤40):aDU l e=some (ay l e):=by
 unfold aDU aVN;rw[JC e.bK (fuel_lt AB) (fun id=>dQ l id&&(ev l id).Kind==3) (fun i=>some (match e.bK[i]? with |some x=>(x,true)|none=>(0,false))) (some (0,false))]
 ·unfold ay OG;rw[JE];by_cases h:e.bK.findIdx (fun id=>dQ l id&&(ev l id).Kind==3)<e.bK.length
  ·rw[D9 h]
  rw[DL h,IC AB]
 ·intro k i h;unfold aJD;rw[Ce h,MH l _ AB,Dj h,CV h];simp only[Aa];unfold dQ ev;rw[O5];cases(EC l e.bK[i]).isSome<;>rfl
 intro k;unfold aJD;rw[Dq]
def BA (l:List AQ):Nat→List Int→Int→List Int
 |0,seen,_=>seen
 |n+1,seen,id=>bif Di seen id|| !dQ l id then seen else match OG l (ev l id)with
  |none=>seen++[id]
  |some x=>BA l n (seen++[id]) x
def ZB (l:List AQ) (id:Int):List Int:=BA l l.length [] id
structure V9 (l:List AQ) (seen:List Int):Prop where
 nodup:seen.Nodup
 known:∀x∈seen,dQ l x=true
def V9.length {l:List AQ} {seen:List Int} (h:V9 l seen):seen.length≤l.length:=by
 rw[←(V4 seen).length_eq,aSI h.nodup];exact lQ (LY _) fun x j=>h.known x (Ky.1 j)
def V9.snoc {l:List AQ} {seen:List Int} (h:V9 l seen) {id:Int} (m:id∉seen) (q:dQ l id=true):V9 l (seen++[id]):=by
 refine⟨xG.2 ⟨h.nodup,BP,fun a ha b u=>?_⟩,fun x j=>?_⟩
 ·rw[IK.1 u];exact fun e=>m (e▸ha)
 rcases Gw.1 j with j|j
 ·exact h.known x j
 rw[IK.1 j];exact q
def aQT (l:List AQ):∀(n:Nat) (seen:List Int) (id:Int),V9 l seen→V9 l (BA l n seen id)
 |0,_,_,h=>h
 |n+1,seen,id,h=>by
  unfold BA;cases j:Di seen id|| !dQ l id with
  |true=>exact h
  |false=>
   rw[jW,OH]at j;have m:=h.snoc j.1 (by simpa using j.2);simp only[BM];cases OG l (ev l id)with
   |none=>exact m
   |some x=>exact aQT l n _ x m
def aRF (l:List AQ):∀(n:Nat) (seen:List Int) (id:Int),∃t,BA l n seen id=seen++t
 |0,seen,_=>⟨[],by simp[BA]⟩
 |n+1,seen,id=>by
  unfold BA;cases Di seen id|| !dQ l id with
  |true=>exact⟨[],BP⟩
  |false=>
   simp only[BM];cases OG l (ev l id)with
   |none=>exact⟨[id],rfl⟩
   |some x=>
    obtain⟨t,j⟩:=aRF l n (seen++[id]) x;exact⟨id::t,by simp only[j,Ht];rfl⟩
def aTi (l:List AQ) (id:Int):(ZB l id).length≤l.length:=(aQT l _ [] id ⟨aN,fun x j=>absurd j Fe⟩).length
def amF (l:List AQ) (hl:l.length≤1000) (hs:Dl l) (Z v9:List Int):∀(m:Nat) (seen:List Int) (id:Int) (N:Nat),seen.length+m=l.length→V9 l seen→m<N→FU XY N seen seen Z v9 id l=some (BA l m seen id):=by
 intro m
 induction m with
 |zero=>
  intro seen id N hm u hN;obtain⟨N,rfl⟩:∃N',N=N'+1:=⟨N-1,AB⟩
  have I:=u.length;show XY _ _ _ _ _ _ _=_;unfold XY;rw[oV _ _ AB,NZ l _ AB];simp only[Aa];rw[O5];cases J:Di seen id with
  |true=>rfl
  |false=>
   cases q:(EC l id).isSome with
   |false=>rfl
   |true=>
    have L:=(u.snoc (OH.1 J) q).length;simp only[EP,OV]at L;omega
 |succ m ih=>
  intro seen id N hm u hN;obtain⟨N,rfl⟩:∃N',N=N'+1:=⟨N-1,AB⟩
  have I:=u.length;show XY (FU XY N) _ _ _ _ _ _=_;have z:=fun j M h1 L=>ih j M N h1 L AB;generalize FU XY N=K at z;unfold XY BA;rw[oV _ _ AB,NZ l _ AB];simp only[Aa];rw[O5];cases J:Di seen id with
  |true=>rfl
  |false=>
   cases q:(EC l id).isSome with
   |false=>rw[show dQ l id=false from q];rfl
   |true=>
    obtain⟨e,Y⟩:=TL.1 q;rw[show dQ l id=true from q];simp only[Io,EL,LQ,BZ,BM];rw[Dk G7];simp only[Aa];unfold aFF;simp only[BM];rw[Dk G7];simp only[Aa];have O:(Gg l id).1=ev l id:=rfl
    have U:(ev l id).bK.length≤40:=by
     have :ev l id=e:=by unfold ev;rw[Lh Y]
     rw[this];exact(hs e (QH Y)).auth
    rw[O,aVn l _ hl U];simp only[Aa];unfold ay;cases OG l (ev l id)with
    |none=>rfl
    |some x=>exact z (seen++[id]) x Uw (u.snoc (OH.1 J) q)
def aoo (l:List AQ) (id:Int) (hl:l.length≤1000) (hs:Dl l):aAF l id=some (ZB l id):=by
 unfold aAF nP aVt;exact amF l hl hs [] [] l.length [] id Aj BP ⟨aN,fun x j=>absurd j Fe⟩ (fuel_lt AB)
def al6 (l:List AQ) (hl:l.length≤1000) (hs:Dl l):∀(m:Nat) (seen:List Int) (id:Int) (i N:Nat),i+m=l.length→seen.length≤i→m<N→jM (Yy l) N seen id (i:Int)=some (BA l m seen id):=by
 intro m
 induction m with
 |zero=>
  intro seen id i N M O U;obtain⟨N,rfl⟩:∃N',N=N'+1:=⟨N-1,AB⟩
  have :i=l.length:=AB
  subst this;show Yy _ _ _ _ _=_;unfold Yy;rw[DV];rfl
 |succ m Y=>
  intro seen id i N M O U;obtain⟨N,rfl⟩:∃N',N=N'+1:=⟨N-1,AB⟩
  show Yy _ (jM (Yy l) N) _ _ _=_;have q:=fun j u Z h1 h2=>Y j u Z N h1 h2 AB;generalize jM (Yy l) N=K at q;unfold Yy BA;rw[dec_lt AB,MH l _ AB,XP _ _ AB];simp only[BZ,Aa];rw[O5];cases z:(EC l id).isSome with
  |false=>rw[show dQ l id=false from z];cases Di seen id<;>rfl
  |true=>
   rw[show dQ l id=true from z];cases hh:Di seen id with
   |true=>rfl
   |false=>
    obtain⟨e,L⟩:=TL.1 z;simp only[EL,LQ,BM,Aa];rw[Dk G7];simp only[Aa];have I:(Gg l id).1=ev l id:=rfl
    have J:(ev l id).bK.length≤40:=by
     have :ev l id=e:=by unfold ev;rw[Lh L]
     rw[this];exact(hs e (QH L)).auth
    rw[I,ajw l _ hl J,wrap_succ i AB];simp only[Aa];unfold ay;cases OG l (ev l id)with
    |none=>rfl
    |some x=>exact q (seen++[id]) x (i+1) AB Uw
def aQ9 (l:List AQ) (id:Int) (hl:l.length≤1000) (hs:Dl l):xA l id=some (ZB l id):=by
 unfold xA aVj;exact al6 l hl hs l.length [] id 0 Aj BP (EG _) (fuel_lt AB)
def dV (j way:List Int):Int:=match way.find? (Di j)with |some x=>((j.findIdx (· ==x):Nat):Int)|none=>(j.length:Int)
def MI (l:List AQ) (j:List Int) (id:Int):Int:=dV j (ZB l id)
def aip (l:List AQ) (j:List Int) (hl:l.length≤1000) (hs:Dl l) (hm:j.length≤100000):∀(m:Nat) (seen:List Int) (z id:Int) (N:Nat),seen.length+m=l.length→V9 l seen→seen.find? (Di j)=none→m<N→FT XO N seen j z id l=some (dV j (BA l m seen id)):=by
 have q:∀seen:List Int,seen.find? (Di j)=none→dV j seen=(j.length:Int):=fun seen h=>by unfold dV;rw[h]
 intro m
 induction m with
 |zero=>
  intro seen z id N hm Y M hN;obtain⟨N,rfl⟩:∃N',N=N'+1:=⟨N-1,AB⟩
  have hwl:=Y.length;show XO _ _ _ _ _ _=_;unfold XO;rw[oV _ _ AB,NZ l _ AB];simp only[Aa];rw[O5];have he:dV j (BA l 0 seen id)=(j.length:Int):=q seen M;rw[he];cases O:Di seen id with
  |true=>rfl
  |false=>
   cases U:(EC l id).isSome with
   |false=>rfl
   |true=>
    have h2:=(Y.snoc (OH.1 O) U).length;simp only[EP,OV]at h2;omega
 |succ m ih=>
  intro seen z id N hm Y M hN;obtain⟨N,rfl⟩:∃N',N=N'+1:=⟨N-1,AB⟩
  have hwl:=Y.length;show XO (FT XO N) _ _ _ _ _=_;have Z:=fun J z' id' h1 h2 h3=>ih J z' id' N h1 h2 h3 AB;generalize FT XO N=K at Z;unfold XO pK;rw[oV _ _ AB,NZ l _ AB,aTY _ _ AB];simp only[Aa];rw[O5];have L:BA l (m+1) seen id=bif Di seen id|| !dQ l id then seen else match OG l (ev l id)with |none=>seen++[id]|some x=>BA l m (seen++[id]) x:=rfl
  cases O:Di seen id with
  |true=>rw[L,O];simp only[Bool.true_or,BZ,EL,BM];rw[q seen M]
  |false=>
   cases U:(EC l id).isSome with
   |false=>rw[L,O,show dQ l id=false from U];simp only[NM,Io,BZ];rw[q seen M]
   |true=>
    obtain⟨e,he⟩:=TL.1 U;rw[L,O,show dQ l id=true from U];simp only[Io,EL,LQ,BZ,BM];have u:=adw j id;by_cases I:j.findIdx (· ==id)<j.length
    ·rw[D9 I,show decide (((j.findIdx (· ==id):Nat):Int)≥0)=true by simp];simp only[BZ];rw[JI I]at u
     have hex:∃t,(match OG l (ev l id)with |none=>seen++[id]|some x=>BA l m (seen++[id]) x)=seen++[id]++t:=by
      cases OG l (ev l id)with
      |none=>exact⟨[],BP⟩
      |some x=>exact aRF l m (seen++[id]) x
     obtain⟨t,ht⟩:=hex;rw[ht];unfold dV;rw[rF,rF,M];simp[←u]
    rw[DL I,show decide ((-1:Int)≥0)=false by decide];simp only[BM];rw[Jh I]at u;rw[Dk G7];simp only[Aa];have hev:(Gg l id).1=ev l id:=rfl
    have hea:(ev l id).bK.length≤40:=by
     have :ev l id=e:=by unfold ev;rw[Lh he]
     rw[this];exact(hs e (QH he)).auth
    have hf2:(seen++[id]).find? (Di j)=none:=by rw[rF,M];simp[←u]
    rw[hev,aVn l _ hl hea];simp only[Aa];unfold ay;cases OG l (ev l id)with
    |none=>simp only[Io,BZ];rw[q _ hf2]
    |some x=>exact Z (seen++[id]) z x Uw (Y.snoc (OH.1 O) U) hf2
def anP (l:List AQ) (j:List Int) (id:Int) (hl:l.length≤1000) (hs:Dl l) (m:j.length≤100000):aBL l j id=some (MI l j id):=by
 unfold aBL nP aTn;exact aip l j hl hs m l.length [] 0 id Aj BP ⟨aN,fun x q=>absurd q Fe⟩ rfl (fuel_lt AB)
def afm (l:List Int) (x:Int) (h:l.length≤100000):aCe l x=some ((l.findIdx (· ==x):Nat):Int):=by
 unfold aCe acQ;rw[JC l (fuel_lt AB) (· ==x) (fun i=>some (i:Int)) (some (l.length:Int))]
 ·split
  ·rfl
  rename_i h;have :l.findIdx (· ==x)≤l.length:=aEI;congr 2;omega
 ·intro k i hi;unfold aIT;rw[Ce hi]
 intro k;unfold aIT;rw[Dq]
def aUg (l:List AQ) (j:List Int) (id:Int) (hl:l.length≤1000) (hs:Dl l) (m:j.length≤100000):vU l j id=some (MI l j id):=by
 unfold vU;rw[aQ9 l id hl hs];simp only[Aa];have q:=aTi l id;unfold adp MI dV;generalize ZB l id=W at q;rw[JC W (fuel_lt AB) (Di j) (fun i=>some (match W[i]? with |some x=>((j.findIdx (· ==x):Nat):Int)|none=>0)) (some (j.length:Int))]
 ·rw[JE];by_cases h:W.findIdx (Di j)<W.length
  ·rw[D9 h,Dj h]
  rw[DL h,IC AB]
 ·intro k i h;unfold aOn;rw[Ce h,XP _ _ AB,CV h,Dj h];simp only[Aa];rw[afm _ _ m];rfl
 intro k;unfold aOn;rw[Dq]
def Eh (l:List AQ) (j:List Int) (id:Int):Ko:=⟨id,MI l j id,(ev l id).Time⟩
def zC (x:Ko):Int×Int×Int:=(x.nU,x.zH,x.BH)
def Hg (x y:Ko):Bool:=KZ (zC x) (zC y)
def Af (l:List AQ) (j ids:List Int):List Int:=(RH Hg ((ids.filter (dQ l)).map (Eh l j))).map (·.nU)
def abL (l:List AQ) (j:List Int):∀ids:List Int,ids.flatMap (fun id=>bif dQ l id then[Eh l j id]else[])=(ids.filter (dQ l)).map (Eh l j)
 | []=>rfl
 |i::ids=>by
  rw[Nz,abL l j ids,Rl];cases dQ l i<;>simp
def agZ (s:List Ko) (hs:s.length≤1000000) (z:(s.map (·.nU)).Nodup):kL s=some s:=by
 unfold kL;by_cases L:s.length<2
 ·rw[show decide ((s.length:Int)<2)=true by simp;omega];rfl
 rw[show decide ((s.length:Int)<2)=false by simp;omega];simp only[BM];unfold aS3;refine eX.eq ?_;refine Y3 (body:=aAD) (fun m a b=>∃i:Nat,a=i∧i+m=s.length∧0<i∧b=s) ?_ Aj (s.length-1) 1 s (fuel_lt AB) ⟨1,rfl,AB,AB,rfl⟩;rintro m a b k ⟨i,rfl,M,hi,rfl⟩ I;unfold aAD;by_cases j:i<b.length
 ·rw[dec_lt j,CV j];simp only[BZ,Aa];have w:Am ((i:Int)-1)=((i-1:Nat):Int):=QY
  have q:i-1<b.length:=AB
  rw[w,CV q];simp only[Aa]
  have u:b[i].nU≠b[i-1].nU:=by
   have :=MO.1 z (i-1) i VA VA AB;simp only[QI]at this;exact fun e=>this e.symm
  have J:uo b[i] b[i-1]=false:=by
   unfold uo;rw[show(b[i].nU==b[i-1].nU)=false by simpa using u];rfl
  rw[J,wrap_succ i AB];exact I (m-1) _ _ AB ⟨i+1,rfl,AB,AB,rfl⟩
 have :i=b.length:=AB
 subst this;rw[DV];exact .ret rfl
def aIu (l:List AQ) (j:List Int) (ids:List Int):(ids.map (Eh l j)).map (·.nU)=ids:=by
 rw[zU];exact List.map_id' ids
def ajR (l:List AQ) (j ids:List Int) (hl:l.length≤1000) (hs:Dl l) (L:j.length≤100000) (hi:ids.length≤100000) (M:ids.Nodup):aAk l j ids=some (Af l j ids):=by
 unfold aAk aRP;rw[Hu (a0:=[]) ids AB (fun r id=>r++bif dQ l id then[Eh l j id]else[]) (fun i r=>r.length≤i) (fun O=>(aH2 O).bind fun u=>(kL u).bind fun z=>aJs z [] 0) (EG _)]
 ·rw[foldl_append (fun id=>bif dQ l id then[Eh l j id]else[]),IV,abL];have U:=Jq (dQ l) ids;have I:((ids.filter (dQ l)).map (Eh l j)).length≤100000:=VA
  unfold aH2 aAH;rw[D9 AB];simp only[Aa];have e:(RH (fun x y:Ko=>KZ (x.nU,x.zH,x.BH) (y.nU,y.zH,y.BH)) ((ids.filter (dQ l)).map (Eh l j)))=RH Hg ((ids.filter (dQ l)).map (Eh l j)):=rfl;rw[e];unfold Af;have J:=dP Hg ((ids.filter (dQ l)).map (Eh l j))
  have m:((RH Hg ((ids.filter (dQ l)).map (Eh l j))).map (·.nU)).Nodup:=by
   rw[(J.map (·.nU)).nodup_iff,aIu];exact M.sublist Tz
  have q:(RH Hg ((ids.filter (dQ l)).map (Eh l j))).length≤100000:=by rw[J.length_eq];exact I
  generalize RH Hg ((ids.filter (dQ l)).map (Eh l j))=S at m q;rw[agZ S AB m];simp only[Aa];unfold aJs;rw[Hu (a0:=[]) S AB (fun r x=>r++[x.nU]) (fun i r=>r.length≤i) (fun r=>some r) (EG _)]
  ·rw[foldl_append (fun x:Ko=>[x.nU]),IV];congr 1;clear m q
   induction S with
   |nil=>rfl
   |cons x S Y=>rw[Nz,Y];rfl
  ·intro k r i h Z;refine⟨aES,?_⟩;unfold aOU;rw[Ce h,Dk G7];rfl
  intro k r _;unfold aOU;rw[Dq]
 ·intro k r i h Z;refine⟨?_,?_⟩
  ·cases dQ l ids[i]<;>simp <;>omega
  unfold aJO aDp;rw[Ce h,NZ l _ AB];simp only[Aa];rw[O5,anP l j _ hl hs L];simp only[Aa];rw[Dk G7];unfold dQ;cases(EC l ids[i]).isSome with
  |true=>rfl
  |false=>simp
 intro k r _;unfold aJO;rw[Dq]
def agA (l:List AQ) (j:List Int) (a b:Int) (hl:l.length≤1000) (hs:Dl l) (z:j.length≤100000):aAm l j a b=some (!Hg (Eh l j b) (Eh l j a)):=by
 unfold aAm;rw[aUg l j a hl hs z,aUg l j b hl hs z,MH l a AB,MH l b AB];simp only[Aa]
 have m:(!Hg (Eh l j b) (Eh l j a))=decide (MI l j b<MI l j a∨MI l j a=MI l j b∧((ev l a).Time<(ev l b).Time∨(ev l a).Time=(ev l b).Time∧a<b)):=by
  rw[Qm,Rn,Gi];exact abp (zC (Eh l j b)) (zC (Eh l j a))
 rw[m];show(bif MI l j a != MI l j b then some (decide (MI l j a>MI l j b))else bif (ev l a).Time != (ev l b).Time then some (decide ((ev l a).Time<(ev l b).Time))else some (decide (a<b)))=_;by_cases q:MI l j a=MI l j b
 ·rw[show(MI l j a != MI l j b)=false by simp[q]];simp only[BM];by_cases u:(ev l a).Time=(ev l b).Time
  ·rw[show((ev l a).Time != (ev l b).Time)=false by simp[u]];simp only[BM];congr 1;rw[lC];constructor
   ·intro h;exact .inr ⟨q,.inr ⟨u,h⟩⟩
   rintro(h|⟨_,h|⟨_,h⟩⟩)
   ·omega
   ·omega
   exact h
  rw[show((ev l a).Time != (ev l b).Time)=true by simp[u]];simp only[BZ];congr 1;rw[lC];constructor
  ·intro h;exact .inr ⟨q,.inl h⟩
  rintro(h|⟨_,h|⟨h,_⟩⟩)
  ·omega
  ·exact h
  exact absurd h u
 rw[show(MI l j a != MI l j b)=true by simp[q]];simp only[BZ];congr 1;rw[lC];constructor
 ·intro h;exact .inl h
 rintro(h|⟨h,_⟩)
 ·exact h
 exact absurd h q
def aL5 (x y z:Ko) (h:Hg x y=true) (k:Hg y z=true):Hg x z=true:=aNL _ _ _ h k
def aV1 (x y:Ko) (h:Hg x y=false):Hg y x=true:=acP _ _ h
def ahg (x y:Ko) (h:Hg x y=true) (k:Hg y x=true):x=y:=by
 have :=ado _ _ h k;unfold zC at this;cases x;cases y;simp only[Rk]at this;obtain⟨a,b,c⟩:=this;subst a b c;rfl
def Yx (l:List AQ) (j:List Int) (m:List Int) (x:Int):List Int:=m.take (m.findIdx fun a=>Hg (Eh l j x) (Eh l j a))++x::m.drop (m.findIdx fun a=>Hg (Eh l j x) (Eh l j a))
def aQc (l:List AQ) (j m:List Int) (x:Int):(Yx l j m x).Perm (x::m):=by
 unfold Yx;refine aAB.trans ?_;rw[aP]
def afq (l:List AQ) (j m:List Int) (x:Int) (h:m.Pairwise fun a b=>Hg (Eh l j a) (Eh l j b)=true):(Yx l j m x).Pairwise fun a b=>Hg (Eh l j a) (Eh l j b)=true:=by
 unfold Yx
 have I:∀a∈m.take (m.findIdx fun a=>Hg (Eh l j x) (Eh l j a)),Hg (Eh l j a) (Eh l j x)=true:=by
  intro a ha;obtain⟨i,hi,rfl⟩:=Ia ha;have u:i<m.findIdx fun a=>Hg (Eh l j x) (Eh l j a):=by simp at hi;omega
  have :=List.not_of_lt_findIdx u;rw[aCu];exact aV1 _ _ aLZ
 have ha:∀d∈m.drop (m.findIdx fun a=>Hg (Eh l j x) (Eh l j a)),Hg (Eh l j x) (Eh l j d)=true:=by
  intro d hd;obtain⟨i,hi,rfl⟩:=Ia hd;rw[LP]at hi;have q:(m.findIdx fun a=>Hg (Eh l j x) (Eh l j a))<m.length:=AB
  have J:=aIt (w:=q);rw[List.getElem_drop];rcases Yp i with rfl|M
  ·simpa using J
  exact aL5 _ _ _ J (MO.1 h _ _ q AB AB)
 refine Zz.2 ⟨h.sublist (List.take_sublist _ _),PG.2 ⟨ha,h.sublist (List.drop_sublist _ _)⟩,fun a L b z=>?_⟩;rcases F8.1 z with rfl|z
 ·exact I a L
 exact aL5 _ _ _ (I a L) (ha b z)
def YR (l:List AQ) (j:List Int) (m:List Int) (x:Int):List Int:=bif dQ l x then Yx l j m x else m
def asu (l:List AQ) (j ids:List Int):ids.foldl (YR l j) []=Af l j ids:=by
 have key:∀(ids m:List Int),m.Pairwise (fun a b=>Hg (Eh l j a) (Eh l j b)=true)→(ids.foldl (YR l j) m).Pairwise (fun a b=>Hg (Eh l j a) (Eh l j b)=true)∧(ids.foldl (YR l j) m).Perm (ids.filter (dQ l)++m):=by
  intro ids
  induction ids with
  |nil=>intro m h;exact⟨h,.refl _⟩
  |cons x ids z=>
   intro m h;rw[FZ,Rl];unfold YR;cases dQ l x with
   |false=>exact z m h
   |true=>
    obtain⟨u,q⟩:=z (Yx l j m x) (afq l j m x h);refine⟨u,q.trans ?_⟩;simp only[Jv,XW];exact((aQc l j m x).append_left _).trans aAB
 obtain⟨u,q⟩:=key ids [] .nil;rw[PS]at q;unfold Af
 have I:(ids.foldl (YR l j) []).map (Eh l j)=RH Hg ((ids.filter (dQ l)).map (Eh l j)):=
  aR2 aL5 aV1 ahg (q.map _) (aPc.2 u)
 rw[←I,aIu]
def aol (l:List AQ) (m ids:List Int) (hl:l.length≤1000) (hs:Dl l) (L:m.length≤100000) (hi:ids.length≤100000) (U:ids.Nodup):aBG l m ids=some (Af l m ids):=by
 unfold aBG adU;rw[Hu (a0:=[]) ids AB (YR l m) (fun i r=>r.length≤i∧∀x∈r,x∈ids.take i) (fun r=>some r) ⟨EG _,fun x I=>absurd I Fe⟩]
 ·rw[asu]
 ·intro k r i h ⟨Y,J⟩;have q:ids.take (i+1)=ids.take i++[ids[i]]:=Ox h
  have M:Di r ids[i]=false:=OH.2 fun L=>by
   obtain⟨j,u,e⟩:=Ia (J _ L);rw[aCu]at e;rw[Fr]at u;exact MO.1 U j i AB h AB e
  refine⟨?_,?_⟩
  ·unfold YR;cases dQ l ids[i]with
   |false=>exact⟨by show r.length≤i+1;omega,fun x I=>by rw[q];exact lR _ (J x I)⟩
   |true=>
    have O:=aQc l m r ids[i];refine⟨?_,fun x I=>?_⟩
    ·show(Yx l m r ids[i]).length≤i+1;rw[O.length_eq,GI];omega
    rw[q];rcases F8.1 (O.mem_iff.1 I)with rfl|I
    ·exact Mid _ (IK.2 rfl)
    exact lR _ (J x I)
  unfold aLY oW;rw[Ce h,MH l _ AB,CV h];simp only[Aa];rw[XP _ _ AB,M,O5];unfold YR dQ;cases(EC l ids[i]).isSome with
  |false=>rfl
  |true=>
   simp only[EL,BM,Aa,BZ];unfold aVl
   have z:∀(k2:Int→Option (List Int)) (j:Nat),j≤r.length→ou k2 (j:Int) r ids (i:Int) k false=k (r.take j++ids[i]::r.drop j) (Am ((i:Int)+1)):=by
    intro k2 j u;unfold ou oW;simp only[BM];rw[Wq u];simp only[Aa];rw[Dk Dz];simp only[Aa,IV];rw[xk u,CV h];simp only[Aa];rw[Dk Dz];simp only[Aa];rw[Dk Dz];simp
   rw[JC r (fuel_lt AB) (fun a=>Hg (Eh l m ids[i]) (Eh l m a)) (fun j=>k (r.take j++ids[i]::r.drop j) (Am ((i:Int)+1))) (k (r.take r.length++ids[i]::r.drop r.length) (Am ((i:Int)+1)))]
   ·unfold Yx;split
    ·rfl
    rename_i Z
    have :(r.findIdx fun a=>Hg (Eh l m ids[i]) (Eh l m a))=r.length:=by
     have :=aEI (p:=fun a=>Hg (Eh l m ids[i]) (Eh l m a)) (xs:=r);omega
    rw[this]
   ·intro k2 j u;unfold aPT;rw[dec_lt u,CV u,CV h];simp only[BZ,Aa];rw[agA l m _ _ hl hs L];simp only[Aa];cases Hg (Eh l m ids[i]) (Eh l m r[j])with
    |true=>simp only[EL,BZ];rw[z k2 j (Nat.le_of_lt u)]
    |false=>rfl
   intro k2;unfold aPT;rw[DV];simp only[BM];rw[z k2 r.length (EG _)]
 intro k r _;unfold aLY;rw[Dq]
def arM {l:List AQ} {j ids:List Int} {x:Int}:x∈Af l j ids↔x∈ids∧dQ l x=true:=by
 unfold Af;rw[((dP Hg ((ids.filter (dQ l)).map (Eh l j))).map (·.nU)).mem_iff,aIu,FM]
def alI (l:List AQ) (j ids:List Int):(Af l j ids).length≤ids.length:=by
 unfold Af;rw[Cm,(dP _ _).length_eq,Cm];exact Jq _ _
def Kz (c:Int):Bool:=(decide (c≥97)&&decide (c≤122))||(decide (c≥48)&&decide (c≤57))
def aQv (c:Int):kn c=some (Kz c):=by
 unfold kn Kz;cases decide (c≥97)<;>cases decide (c≤122)<;>cases decide (c≥48)<;>cases decide (c≤57)<;>rfl
def aJB (c:Int):bF c=some (Kz c):=by
 unfold bF Kz;cases decide (c≥97)<;>cases decide (c≤122)<;>cases decide (c≥48)<;>cases decide (c≤57)<;>rfl
def Qv (l:List Int) (p:Int→Bool):Bool:=decide ((l.length:Int)≥1)&&decide ((l.length:Int)≤32)&&l.all fun c=>Kz c||p c
def isLocal (c:Int):Bool:=c==95||c==46||c==45||c==61
def Uu (c:Int):Bool:=c==46||c==45
def XK (l:List Int):Bool:=Qv l isLocal
def YZ (l:List Int):Bool:=Qv l Uu&&Kz (l.getD 0 0)&&Kz (l.getD (l.length-1) 0)
def aM5 {n:Nat} (h:n≤9223372036854775807):n<Aj:=ig
def ae1 {s:ByteArray} (hs:s.size≤9223372036854775807) (f:Int→Option Bool) (p:Int→Bool) (j:∀c,f c=some (p c)):cG s f=some (Qv (Bo s) p):=by
 have hl:aJG s f 0=some ((Bo s).all fun c=>Kz c||p c):=by
  unfold aJG;rw[Gz (Bo s) Yr (fun c=> !(Kz c||p c)) false (some true) ?_ ?_,Jo,xR]
  ·intro k i h;have h':i<s.size:=Wp
   simp only[aIl,dec_lt h',BZ,VD h,aQv,j,Aa];cases Kz (Bo s)[i]<;>cases p (Bo s)[i]<;>rfl
  intro k;simp only[aIl,IQ,DV,BM]
 unfold cG Qv;rw[hl,IQ];have m:decide ((s.size:Int)≥1)= !decide ((s.size:Int)<1):=aMG
 have q:decide ((s.size:Int)≤32)= !decide ((s.size:Int)>32):=aIj
 rw[m,q];cases decide ((s.size:Int)<1)<;>cases decide ((s.size:Int)>32)<;>rfl
def ajh {s:ByteArray} (hs:s.size≤9223372036854775807):cG s (fun a0=>wU a0)=some (Qv (Bo s) isLocal):=ae1 hs _ isLocal (fun c=>by unfold wU isLocal;cases c==95<;>cases c==46<;>cases c==45<;>cases c==61<;>rfl)
def ag8 {s:ByteArray} (hs:s.size≤9223372036854775807):cG s (fun a0=>xW a0)=some (Qv (Bo s) Uu):=ae1 hs _ Uu (fun c=>by unfold xW Uu;cases c==46<;>cases c==45<;>rfl)
def asX {s:ByteArray} (hs:s.size≤9223372036854775807):aE0 s=some (XK (Bo s)):=by
 unfold aE0 XK;rw[ajh hs];rfl
def aBj {s:ByteArray} (h:0<s.size):Hl s 0=some ((Bo s).getD 0 0):=by
 have h':0<(Bo s).length:=aCk
 rw[asg h'];simp[List.getD,h']
def aa1 {s:ByteArray} (h:0<s.size) (hs:s.size≤9223372036854775807):Hl s (Am ((s.size:Int)-1))=some ((Bo s).getD ((Bo s).length-1) 0):=by
 have h':s.size-1<(Bo s).length:=by rw[IQ];omega
 rw[Po AB AB,show(s.size:Int)-1=((s.size-1:Nat):Int) by omega,VD h'];have j:(Bo s).length-1=s.size-1:=by rw[IQ]
 rw[j];simp[List.getD,h']
def aR8 {l:List Int} {p:Int→Bool} (h:Qv l p=true):0<l.length∧l.length≤32:=by
 unfold Qv at h;simp only[DT,Gi]at h;omega
def alp {s:ByteArray} (hs:s.size≤9223372036854775807):aDv s=some (YZ (Bo s)):=by
 unfold aDv YZ;rw[ag8 hs];simp only[Aa];cases m:Qv (Bo s) Uu with
 |false=>rfl
 |true=>
  have j:0<s.size:=by have :=(aR8 m).1;rwa [IQ]at this
  simp only[BZ,aBj j,aa1 j hs,aQv,Aa];cases Kz ((Bo s).getD 0 0)<;>simp
def aiB {s:ByteArray} (hs:s.size≤9223372036854775807):aCS s=some (bif YZ (Bo s)then 0 else 3):=by
 have hl:aKz s 0=some (bif (Bo s).all fun c=>Kz c||Uu c then 0 else 3):=by
  unfold aKz;rw[Gz (Bo s) Yr (fun c=> !(Kz c||Uu c)) 3 (some 0) ?_ ?_,Jo,←xR]
  ·cases((Bo s).any fun c=> !(Kz c||Uu c))<;>rfl
  ·intro k i h;have h':i<s.size:=Wp
   simp only[aLQ,dec_lt h',BZ,VD h,aJB,Aa,Uu,bne];cases Kz (Bo s)[i]<;>cases(Bo s)[i]==46<;>cases(Bo s)[i]==45<;>rfl
  intro k;simp only[aLQ,IQ,DV,BM]
 have m:decide ((s.size:Int)≥1)= !decide ((s.size:Int)<1):=aMG
 have q:decide ((s.size:Int)≤32)= !decide ((s.size:Int)>32):=aIj
 unfold aCS YZ Qv;rw[hl];rw[show((Bo s).length:Int)=(s.size:Int) by rw[IQ],m,q];by_cases u:(s.size:Int)<1
 ·simp[u]
 have j:0<s.size:=AB
 simp only[aBj j,aa1 j hs,aJB,Aa];cases decide ((s.size:Int)<1)<;>cases decide ((s.size:Int)>32)<;>cases Kz ((Bo s).getD 0 0)<;>cases Kz ((Bo s).getD ((Bo s).length-1) 0)<;>cases((Bo s).all fun c=>Kz c||Uu c)<;>rfl
def atc {s:ByteArray} (hs:s.size≤9223372036854775807):aGg s=some (XK (Bo s)):=by
 unfold aGg abJ;rw[Gz (Bo s) Yr (fun c=> !(Kz c||isLocal c)) false (some (decide ((s.size:Int)≥1)&&decide ((s.size:Int)≤32))) ?_ ?_]
 ·unfold XK Qv;rw[←xR,IQ];cases((Bo s).any fun c=> !(Kz c||isLocal c))<;>cases decide ((s.size:Int)≥1)<;>cases decide ((s.size:Int)≤32)<;>rfl
 ·intro k i h;have h':i<s.size:=Wp
  simp only[aOG,dec_lt h',BZ,VD h,aJB,Aa,isLocal,bne];cases Kz (Bo s)[i]<;>cases(Bo s)[i]==95<;>cases(Bo s)[i]==46<;>cases(Bo s)[i]==45<;>cases(Bo s)[i]==61<;>rfl
 intro k;simp only[aOG,IQ,DV,BM];cases decide ((s.size:Int)≥1)<;>cases decide ((s.size:Int)≤32)<;>rfl
def abK (s:ByteArray):(Bo s).length=s.data.toList.length:=by simp[Bo]
def Fq (s:ByteArray):Nat:=(Bo s).findIdx (· ==58)
def aJ9 (s:ByteArray):Fq s≤s.size:=by unfold Fq;rw[←IQ];exact aEI
def aTR {s:ByteArray} (hs:s.size≤9223372036854775807):vw s=some (Fq s:Int):=by
 unfold vw aWm;rw[JC (Bo s) Yr (· ==58) (fun i=>some (i:Int)) (some (s.size:Int)) ?_ ?_]
 ·have :=aJ9 s;by_cases h:(Bo s).findIdx (· ==58)<(Bo s).length
  ·rw[D9 h];rfl
  rw[DL h];congr 2;unfold Fq at this ⊢;rw[IQ]at h;omega
 ·intro k i h;have h':i<s.size:=Wp
  simp only[aIg,dec_lt h',BZ,VD h,Aa,bne];cases(Bo s)[i]==58<;>rfl
 intro k;simp only[aIg,IQ,DV,BM,Aa]
def Ua (s:ByteArray):ByteArray:=s.extract 1 (Fq s)
def RQ (s:ByteArray):ByteArray:=s.extract (Fq s+1) s.size
def U7 (s:ByteArray):Bool:=decide (Fq s<s.size)&&XK (Bo (Ua s))&&YZ (Bo (RQ s))
def Gq (s:ByteArray) (m:Int):Bool:=decide (0<s.size)&&(Bo s).getD 0 0==m&&U7 s
def extract_size (s:ByteArray) (a b:Nat):(s.extract a b).size≤s.size:=by rw[aN6];omega
def aV6 {s:ByteArray} (h:0<s.size) (j:(Bo s).getD 0 0≠58):1≤Fq s:=by
 unfold Fq;have hl:0<(Bo s).length:=aCk
 match m:Bo s with
 | []=>rw[m]at hl;simp at hl
 |c::l=>
  rw[m]at j;simp only[List.getD_cons_zero]at j;rw[TJ,show(c==58)=false from by simpa using j];simp
def aHA {s:ByteArray} (hs:s.size≤9223372036854775807) {m:Int} (z:m≠58):cu s m=some (Gq s m):=by
 unfold cu Gq;by_cases j:0<s.size
 ·rw[show decide ((s.size:Int)<1)=false from by simp;omega,show decide (0<s.size)=true by simpa using j];simp only[BM,aBj j,Aa,bne];cases I:(Bo s).getD 0 0==m with
  |false=>rfl
  |true=>
   have u:(Bo s).getD 0 0=m:=Qr
   have J:=aV6 j (by rw[u];exact z);have L:=aJ9 s;simp only[EL,BM,aTR hs,Aa,GK];unfold U7;by_cases q:Fq s<s.size
   ·have M:Nk s 1 (Fq s:Int)=some (Ua s):=kM (lo:=1) J L
    have O:Nk s (Am ((Fq s:Int)+1)) (s.size:Int)=some (RQ s):=by
     rw[Po AB AB,show(Fq s:Int)+1=((Fq s+1:Nat):Int) by omega];exact kM AB (EG _)
    rw[show decide ((Fq s:Int)<(s.size:Int))=true from by simpa using q,show decide (Fq s<s.size)=true by simpa using q];have U:(Ua s).size≤9223372036854775807:=F6 (extract_size _ _ _) hs;have Y:(RQ s).size≤9223372036854775807:=F6 (extract_size _ _ _) hs;simp only[BZ,M,O,atc U,aiB Y,Aa];cases XK (Bo (Ua s))<;>cases YZ (Bo (RQ s))<;>rfl
   rw[show decide ((Fq s:Int)<(s.size:Int))=false from by simpa using q,show decide (Fq s<s.size)=false by simpa using q];rfl
 rw[show decide ((s.size:Int)<1)=true from by simp;omega,show decide (0<s.size)=false by simpa using j];rfl
def splitB (s:ByteArray) (b:Bool):ByteArray×ByteArray×Bool:=bif b then(Ua s,RQ s,true)else(Bv,Bv,false)
def aqZ (b c:UInt8):(b==c)=(((b.toNat:Nat):Int)==((c.toNat:Nat):Int)):=by
 by_cases h:b=c
 ·subst h;simp
 have :¬b.toNat=c.toNat:=fun e=>h (UInt8.toNat_inj.1 e);have j:(b==c)=false:=LJ
 rw[j];symm;simp;omega
def aaD (s:ByteArray) (c:UInt8):s.data.toList.findIdx (· ==c)=(Bo s).findIdx (· ==((c.toNat:Nat):Int)):=by
 unfold Bo;rw[List.findIdx_map];congr 1;funext b;exact aqZ b c
def anF (s:ByteArray):∀x∈Bo s,0≤x∧x<256:=by
 intro x j;unfold Bo at j;rw[FH]at j;obtain⟨c,_,rfl⟩:=j;have :=c.toNat_lt;omega
def getD_mem {s:ByteArray} (h:0<s.size):(Bo s).getD 0 0∈Bo s:=by
 have hl:0<(Bo s).length:=aCk
 have e:(Bo s).getD 0 0=(Bo s)[0]:=by simp[List.getD,hl]
 rw[e];exact EU hl
def afk (marks:ByteArray) {c:Int} (u:0≤c) (z:c<256):decide (Lib.indexByte marks.data.toList c.toNat.toUInt8<0)= !(Bo marks).contains c:=by
 have e:(((c.toNat.toUInt8).toNat:Nat):Int)=c:=by
  rw[Nat.toUInt8,UInt8.toNat_ofNat'];omega
 rw[aN1,aaD,e,←abK marks];by_cases j:c∈Bo marks
 ·have m:(Bo marks).findIdx (· ==c)<(Bo marks).length:=List.findIdx_lt_length_of_exists ⟨c,j,BP⟩;rw[D9 m,show(Bo marks).contains c=true by simpa using j];simp
 have q:¬(Bo marks).findIdx (· ==c)<(Bo marks).length:=fun h=>by
  have :=aIt (w:=h);simp only[Qo]at this;exact j (this▸EU h)
 rw[DL q,show(Bo marks).contains c=false by simpa using j];rfl
def aVh (s:ByteArray) (a b:Nat):(s.extract 1 s.size).extract a b=s.extract (1+a) (min (1+b) s.size):=by
 refine bytes_inj ?_;simp only[aVk];have :(Bo s).take s.size=Bo s:=Ql (by rw[IQ];omega);rw[this,List.take_drop,aOq];congr 1;have :min (1+b) s.size=min (1+b) (Bo s).length:=by rw[IQ]
 rw[this,List.take_eq_take_min]
def alW {s:ByteArray} (h:0<s.size) (j:(Bo s).getD 0 0≠58):(Bo (s.extract 1 s.size)).findIdx (· ==58)+1=Fq s:=by
 unfold Fq;rw[aVk];have :(Bo s).take s.size=Bo s:=Ql (by rw[IQ];omega);rw[this];have hl:0<(Bo s).length:=aCk
 match m:Bo s with
 | []=>rw[m]at hl;simp at hl
 |c::l=>
  rw[m]at j;simp only[List.getD_cons_zero]at j;rw[TJ,show(c==58)=false from by simpa using j];rfl
def aeF {s:ByteArray} (hs:s.size≤9223372036854775807) (h:0<s.size) (q:(Bo s).getD 0 0≠58):∃a b,strings_Cut (s.extract 1 s.size) kF=some (a,b,decide (Fq s<s.size))∧(Fq s<s.size→a=Ua s∧b=RQ s):=by
 have J:=aV6 h q;have L:=aJ9 s;have M:=alW h q;have m:(s.extract 1 s.size).size=s.size-1:=by rw[aN6];omega
 have u:aEO (s.extract 1 s.size) kF=some (if Fq s<s.size then((Fq s-1:Nat):Int)else -1):=by
  show some (Lib.indexByte (s.extract 1 s.size).data.toList 58)=_;rw[aN1,aaD,←abK (s.extract 1 s.size)];show some (if(Bo (s.extract 1 s.size)).findIdx (· ==58)<_ then(((Bo (s.extract 1 s.size)).findIdx (· ==58):Nat):Int)else -1)=_;rw[IQ,m];have e:(Bo (s.extract 1 s.size)).findIdx (· ==58)=Fq s-1:=AB
  rw[e];congr 1;by_cases j:Fq s<s.size
  ·rw[D9 j,D9 AB]
  rw[DL j,DL AB]
 unfold strings_Cut aPS;rw[u,Aa];by_cases j:Fq s<s.size
 ·rw[D9 j,show decide (((Fq s-1:Nat):Int)≥0)=true from by simp,show decide (Fq s<s.size)=true by simpa using j];have z:Nk (s.extract 1 s.size) 0 ((Fq s-1:Nat):Int)=some ((s.extract 1 s.size).extract 0 (Fq s-1)):=kM (lo:=0) AB AB
  have I:Nk (s.extract 1 s.size) (Am (((Fq s-1:Nat):Int)+(kF.size:Int))) ((s.extract 1 s.size).size:Int)=some ((s.extract 1 s.size).extract (Fq s) (s.size-1)):=by
   rw[show(kF.size:Int)=1 from rfl,Po AB AB,show((Fq s-1:Nat):Int)+1=((Fq s:Nat):Int) by omega,m];exact kM AB AB
  simp only[BZ,z,I,Aa];refine⟨_,_,rfl,fun _=>⟨?_,?_⟩⟩
  ·rw[aVh];unfold Ua;congr 1;omega
  rw[aVh];unfold RQ;rw[QU 1 (Fq s)];congr 1;omega
 rw[DL j,show decide ((-1:Int)≥0)=false from rfl,show decide (Fq s<s.size)=false by simpa using j];exact⟨_,_,rfl,fun h=>absurd h j⟩
def aIo {s:ByteArray} (hs:s.size≤9223372036854775807) {marks:ByteArray} (u:∀m∈Bo marks,m≠58):lJ s marks=some (splitB s ((Bo marks).any fun m=>Gq s m)):=by
 unfold lJ;by_cases q:0<s.size
 ·have z:(s.toList==Bv.toList)=false:=by
   rw[IZ];simp only[Y7];intro e;rw[e]at q;exact absurd q BU
  have I:=anF s _ (getD_mem q)
  have j:((Bo marks).any fun m=>Gq s m)=((Bo marks).contains ((Bo s).getD 0 0)&&U7 s):=by
   unfold Gq;rw[show decide (0<s.size)=true by simpa using q]
   induction Bo marks with
   |nil=>rfl
   |cons m l J=>rw[dM,J,List.contains_cons];cases(Bo s).getD 0 0==m<;>cases U7 s<;>simp
  rw[z,j];simp only[BM,aBj q,Aa,strings_IndexByte,afk marks I.1 I.2];cases L:(Bo marks).contains ((Bo s).getD 0 0)with
  |false=>rfl
  |true=>
   have M:(Bo s).getD 0 0≠58:=u _ tZ;obtain⟨a,b,O,U⟩:=aeF hs q M;have Y:Nk s 1 (s.size:Int)=some (s.extract 1 s.size):=kM (lo:=1) AB (EG _);simp only[EL,BM,Y,O,Aa,GK];unfold U7;cases Z:decide (Fq s<s.size)with
   |false=>rfl
   |true=>
    obtain⟨rfl,rfl⟩:=U (Rh Z);have g1:(Ua s).size≤9223372036854775807:=F6 (extract_size _ _ _) hs;have g2:(RQ s).size≤9223372036854775807:=F6 (extract_size _ _ _) hs;simp only[EL,BM,asX g1,alp g2,Aa];cases XK (Bo (Ua s))<;>cases YZ (Bo (RQ s))<;>rfl
 have hz:s.size=0:=AB
 have he:s=Bv:=bytes_inj (by
  have h1:Bo s=[]:=H9 (by rw[IQ];exact hz)
  rw[h1];rfl)
 have j:((Bo marks).any fun m=>Gq s m)=false:=by
  rw[List.any_eq_false];intro m _;unfold Gq;rw[show decide (0<s.size)=false by simpa using q];simp
 rw[j,he,show(Bv.toList==Bv.toList)=true from by simp];rfl
def Js (s:ByteArray):Bool:=Gq s 64||(Gq s 33||false)
def ard {s:ByteArray} (hs:s.size≤9223372036854775807):lJ s uK=some (splitB s (Js s)):=
 aIo hs (marks:=uK) (by rw[show Bo uK=[64,33]from rfl];intro m j;simp only[F8,Fe,eu]at j;omega)
def acS {s:ByteArray} (h:U7 s=true):Fq s<s.size:=by unfold U7 at h;simp only[DT,Gi]at h;exact h.1.1
def jF {s:ByteArray} (hs:s.size≤9223372036854775807):gG s=some (splitB s (Js s)).2.1∧jX s=some (splitB s (Js s)).2.1:=by
 have u:Fq s<s.size→Nk s (Am ((Fq s:Int)+1)) (s.size:Int)=some (RQ s):=fun z=>by
  rw[Po AB AB,show(Fq s:Int)+1=((Fq s+1:Nat):Int) by omega];exact kM AB (EG _)
 unfold gG jX;rw[ard hs,aHA hs BU,aHA hs BU,aTR hs];refine⟨rfl,?_⟩;unfold Js;cases j:Gq s 64 with
 |true=>
  have q:=acS (s:=s) (by unfold Gq at j;simp only[DT]at j;exact j.2);simp only[Aa,EL,BM,u q,Bool.true_or];rfl
 |false=>
  cases m:Gq s 33 with
  |true=>
   have q:=acS (s:=s) (by unfold Gq at m;simp only[DT]at m;exact m.2);simp only[Aa,EL,Io,BM,BZ,u q,NM,Bool.true_or];rfl
  |false=>rfl
def aJ1 {R A α:Type} {body:(Int→A→Option R)→Int→A→Option R} (l:List α) (hl:l.length<Aj) (p:α→Bool) (g:Nat→Option R) (rest:Option R) (a0:A)
 (u:∀k (i:Nat) (h:i<l.length),body k (i:Int) a0=bif p l[i]then g i else k (Am ((i:Int)+1)) a0) (z:∀k,body k (l.length:Int) a0=rest):
 aU body Aj 0 a0=if l.findIdx p<l.length then g (l.findIdx p)else rest:=by
 have L:Aj=9223372036854775808:=rfl
 have key:∀n (i:Nat),i+n=l.length→∀m,n<m→aU body m (i:Int) a0=if(l.drop i).findIdx p+i<l.length then g ((l.drop i).findIdx p+i)else rest:=by
  intro n
  induction n with
  |zero=>
   intro i hi m I;obtain⟨m,rfl⟩:∃q,m=q+1:=⟨m-1,AB⟩
   have :i=l.length:=AB
   subst this;show body (aU body m) _ _=_;rw[z,PK,DL BP]
  |succ n J=>
   intro i hi m I;obtain⟨m,rfl⟩:∃q,m=q+1:=⟨m-1,AB⟩
   have j:i<l.length:=AB
   show body (aU body m) _ _=_;rw[u _ i j,wrap_succ i AB,J (i+1) AB m AB,La j,TJ];cases p l[i]with
   |true=>simp only[BZ,JJ];rw[D9 j]
   |false=>
    simp only[BM];rw[show(l.drop (i+1)).findIdx p+(i+1)=(l.drop (i+1)).findIdx p+1+i by omega]
 have :=key l.length 0 AB Aj hl;simpa using this
def Ie (l:List AQ):AQ×Bool:=match l.find? fun x=>x.Kind==1 with |some x=>(x,true)|none=>(F9,false)
def aOo (l:List AQ) (p:AQ→Bool):(if l.findIdx p<l.length then(some (match l[l.findIdx p]? with |some x=>(x,true)|none=>(F9,false)))else some (F9,false))=some (match l.find? p with |some x=>(x,true)|none=>(F9,false)):=by
 rw[JE];by_cases h:l.findIdx p<l.length
 ·rw[D9 h]
 rw[DL h,IC AB]
def abE (l:List AQ) (hl:l.length≤1000):qJ l=some (Ie l):=by
 unfold qJ abd;rw[aJ1 l (fuel_lt AB) (fun x=>x.Kind==1) (fun i=>some (match l[i]? with |some x=>(x,true)|none=>(F9,false))) (some (F9,false))]
 ·exact aOo l _
 ·intro k i h;unfold aPt;rw[Ce h,Dj h]
 intro k;unfold aPt;rw[Dq]
def aWe (l:List AQ) (hl:l.length≤1000):qA l=some (Ie l):=by
 unfold qA adv;rw[aJ1 l (fuel_lt AB) (fun x=>x.Kind==1) (fun i=>some (match l[i]? with |some x=>(x,true)|none=>(F9,false))) (some (F9,false))]
 ·exact aOo l _
 ·intro k i h;unfold aIJ;rw[Ce h,CV h,Dj h];rfl
 intro k;unfold aIJ;rw[Dq]
def Ih (u:ByteArray) (x:AQ):Bool:=x.Kind==2&&decide (x.Key=u)
def Hw (l:List AQ) (u:ByteArray):Int:=match l.find? (Ih u)with |some x=>x.Content.N|none=>0
def pU (u:ByteArray) (x:AQ):(bif (x.Kind==2)then some (x.Key.toList==u.toList)else some false)=some (Ih u x):=by
 unfold Ih;rw[IZ];cases x.Kind==2<;>rfl
def aMY (l:List AQ) (u:ByteArray) (hl:l.length≤1000):jC l u=some (Hw l u):=by
 unfold jC aQu Hw;rw[JC l (fuel_lt AB) (Ih u) (fun i=>some (match l[i]? with |some x=>x.Content.N|none=>0)) (some 0)]
 ·rw[JE];by_cases h:l.findIdx (Ih u)<l.length
  ·rw[D9 h]
  rw[DL h,IC AB]
 ·intro k i h;unfold aIR;rw[Ce h,CV h,Dj h];simp only[Aa];rw[pU];rfl
 intro k;unfold aIR;rw[Dq]
def aBF (l:List AQ) (u:ByteArray) (hl:l.length≤1000):Zw l u=some (Hw l u):=by
 unfold Zw aWk Hw;rw[JC l (fuel_lt AB) (Ih u) (fun i=>some (match l[i]? with |some x=>x.Content.N|none=>0)) (some 0)]
 ·rw[JE];by_cases h:l.findIdx (Ih u)<l.length
  ·rw[D9 h]
  rw[DL h,IC AB]
 ·intro k i h;unfold aOp;rw[Ce h,CV h,Dj h];simp only[Aa];rw[pU];rfl
 intro k;unfold aOp;rw[Dq]
def WX (e:AQ) (l:List AQ):Bool:=
 (Ie l).2&&(e.bM.length==1&&(e.bM.getD 0 0==(Ie l).1.Id&&(decide (e.aY=(Ie l).1.aY)&&(decide (e.Key=(Ie l).1.aY)&&(e.Content.N==3&& !l.any (Ih e.Key))))))
def ap4 (e:AQ) (l:List AQ) (hl:l.length≤1000):aDY e l=some (WX e l):=by
 have z:aJF l e 0=some (!l.any (Ih e.Key)):=by
  unfold aJF;rw[Gz l (fuel_lt AB) (Ih e.Key) false (some true)]
  ·cases l.any (Ih e.Key)<;>rfl
  ·intro k i h;unfold aKQ;rw[Ce h,pU];rfl
  intro k;unfold aKQ;rw[Dq]
 unfold aDY WX XZ;rw[abE l hl];simp only[Aa];rw[z,IZ,IZ];cases(Ie l).2 with
 |false=>rfl
 |true=>
  by_cases j:e.bM.length=1
  ·have u:0<e.bM.length:=AB
   have m:((e.bM.length:Int) != 1)=false:=rO
   have q:(e.bM.length==1)=true:=PO
   have I:Ai e.bM 0=some (e.bM.getD 0 0):=by
    have :Ai e.bM ((0:Nat):Int)=some e.bM[0]:=CV u;rw[show((0:Nat):Int)=0 from rfl]at this;rw[this];simp[List.getD,u]
   rw[m,q,I];simp only[Aa,bne];cases e.bM.getD 0 0==(Ie l).1.Id<;>cases decide (e.aY=(Ie l).1.aY)<;>cases decide (e.Key=(Ie l).1.aY)<;>cases e.Content.N==3<;>rfl
  have m:((e.bM.length:Int) != 1)=true:=Dz
  have q:(e.bM.length==1)=false:=PO
  rw[m,q];rfl
def afL (e:AQ) (l:List AQ) (hl:l.length≤1000):aC3 e l=some (WX e l):=by
 have z:aDk l e.Key=some (l.any (Ih e.Key)):=by
  unfold aDk aRA;rw[Gz l (fuel_lt AB) (Ih e.Key) true (some false)]
  ·cases l.any (Ih e.Key)<;>rfl
  ·intro k i h;unfold aMc;rw[Ce h,CV h];simp only[Aa];rw[pU];rfl
  intro k;unfold aMc;rw[Dq]
 unfold aC3 WX WQ;rw[aWe l hl];simp only[Aa];rw[z,IZ,IZ];cases(Ie l).2 with
 |false=>rfl
 |true=>
  by_cases j:e.bM.length=1
  ·have u:0<e.bM.length:=AB
   have m:((e.bM.length:Int)==1)=true:=rO
   have q:(e.bM.length==1)=true:=PO
   have I:Ai e.bM 0=some (e.bM.getD 0 0):=by
    have :Ai e.bM ((0:Nat):Int)=some e.bM[0]:=CV u;rw[show((0:Nat):Int)=0 from rfl]at this;rw[this];simp[List.getD,u]
   rw[m,q,I];simp only[Aa];cases e.bM.getD 0 0==(Ie l).1.Id<;>cases decide (e.aY=(Ie l).1.aY)<;>cases decide (e.Key=(Ie l).1.aY)<;>cases e.Content.N==3<;>rfl
  have m:((e.bM.length:Int)==1)=false:=Dz
  have q:(e.bM.length==1)=false:=PO
  rw[m,q];rfl
def moveB (f t:Int) (s:Bool):Bool:=
 bif decide (f<0)||decide (f>4)then false else bif t==3 then s&&f != 4 else bif t==0 then f==1||f==2||f==3||(f==4&& !s)else bif t==2 then s&&(f==0||f==2)else bif t==1 then !s&&(f==0||f==2||f==1)else bif t==4 then !s else false
def acL (f t:Int) (s:Bool):X9 f t s=some (moveB f t s):=by
 unfold X9 moveB;simp only[Jo,Aa,dS,TU]
def apR (f t:Int) (s:Bool):cD f t s=some (moveB f t s):=by
 rw[←acL];by_cases j:f<0
 ·unfold cD X9;rw[JI j];rfl
 by_cases m:f>4
 ·unfold cD X9;rw[JI m];cases decide (f<0)<;>rfl
 by_cases q:t<0
 ·unfold cD X9;rw[JI q,Jh j,Jh m,show(t==3)=false by simp;omega,show(t==0)=false by simp;omega,show(t==2)=false by simp;omega,show(t==1)=false by simp;omega,show(t==4)=false by simp;omega];rfl
 by_cases u:t>4
 ·unfold cD X9;rw[JI u,Jh q,Jh j,Jh m,show(t==3)=false by simp;omega,show(t==0)=false by simp;omega,show(t==2)=false by simp;omega,show(t==1)=false by simp;omega,show(t==4)=false by simp;omega];rfl
 have z:f=0∨f=1∨f=2∨f=3∨f=4:=AB
 have I:t=0∨t=1∨t=2∨t=3∨t=4:=AB
 rcases z with rfl|rfl|rfl|rfl|rfl<;>rcases I with rfl|rfl|rfl|rfl|rfl<;>cases s<;>decide
def Vl (l:List AQ):Int×List ByteArray:=match l.find? fun x=>x.Kind==4 with |some x=>(x.Content.N,x.Content.Allow)|none=>(0,[])
def aoD (l:List AQ) (hl:l.length≤1000) (hs:Dl l):aFb l=some (Vl l):=by
 unfold aFb aVZ Vl;rw[JC l (fuel_lt AB) (fun x=>x.Kind==4) (fun i=>some (match l[i]? with |some x=>(x.Content.N,x.Content.Allow)|none=>(0,[]))) (some (0,[]))]
 ·rw[JE];by_cases h:l.findIdx (fun x=>x.Kind==4)<l.length
  ·rw[D9 h]
  rw[DL h,IC AB]
 ·intro k i h;have ha:=(hs _ (EU h)).allow;unfold aK6;rw[Ce h,Dj h,Dk TM];rfl
 intro k;unfold aK6;rw[Dq]
def arK (l:List AQ) (hl:l.length≤1000) (hs:Dl l):Sub l=some (Vl l):=by
 unfold Sub acK Vl;rw[JC l (fuel_lt AB) (fun x=>x.Kind==4) (fun i=>some (match l[i]? with |some x=>(x.Content.N,x.Content.Allow)|none=>(0,[]))) (some (0,[]))]
 ·rw[JE];by_cases h:l.findIdx (fun x=>x.Kind==4)<l.length
  ·rw[D9 h]
  rw[DL h,IC AB]
 ·intro k i h;have ha:=(hs _ (EU h)).allow;unfold aJH;rw[Ce h,CV h,Dj h];simp only[Aa];rw[Dk TM];rfl
 intro k;unfold aJH;rw[Dq]
def uN (j now:Int):Int:=bif now==3||j==1 then 0 else bif now==1&&(j==0||j==2||j==3)then 0 else 21
def uq (j now:Int):Int:=bif j==2&&(now==0||now==2)then 0 else 21
def apB (r n:Int):aAE r n=some (uN r n):=by
 unfold aAE qU aBy uN;cases n==3<;>cases r==1<;>cases r==2<;>cases r==3<;>cases r==0<;>cases n==1<;>rfl
def akJ (r n:Int):aBC r n=some (uN r n):=by
 unfold aBC uN;cases n==3<;>cases r==1<;>cases r==2<;>cases r==3<;>cases r==0<;>cases n==1<;>rfl
def alu (r n:Int):aEb r n=some (uq r n):=by
 unfold aEb aBm uq bne;cases r==2<;>cases n==0<;>cases n==2<;>rfl
def afe (r n:Int):aD9 r n=some (uq r n):=by
 unfold aD9 uq;cases r==2<;>cases n==0<;>cases n==2<;>rfl
def Xt (m now:Int) (l:List AQ):Int:=bif m==3 then uN (Vl l).1 now else bif m==2 then uq (Vl l).1 now else 0
def aq6 (m now:Int) (l:List AQ) (hl:l.length≤1000) (hs:Dl l):aGj m now l=some (Xt m now l):=by
 unfold aGj Xt;rw[aoD l hl hs];simp only[Aa];rw[apB,alu];cases m==3<;>cases m==2<;>rfl
def aiS (e:AQ) (now:Int) (l:List AQ) (hl:l.length≤1000) (hs:Dl l):aFP e l now=some (Xt e.Content.N now l):=by
 unfold aFP Xt;rw[arK l hl hs];simp only[Aa];rw[akJ,afe];cases e.Content.N==3<;>cases e.Content.N==2<;>rfl
def Ho (k:Int):Bool:=decide (k≥1)&&decide (k≤10)
def aSX (k:Int):dF k=some (Ho k):=by
 unfold dF Ho;cases decide (k≥1)<;>rfl
def aHU (k:Int):TW k=some (Ho k):=by
 unfold TW Ho;cases decide (k≥1)<;>rfl
def Ws (v:CB) (k:Int):Int:=match v.Kinds.find? fun x=>x.Kind==k with |some x=>x.N|none=>bif Ho k then v.State else v.Message
def aLW (v:CB) (k:Int) (h:v.Kinds.length≤1000):kR v k=some (Ws v k):=by
 unfold kR acf Ws;rw[JC v.Kinds (fuel_lt AB) (fun x=>x.Kind==k) (fun i=>some (match v.Kinds[i]? with |some x=>x.N|none=>0)) (some (bif Ho k then v.State else v.Message))]
 ·rw[JE];by_cases h:v.Kinds.findIdx (fun x=>x.Kind==k)<v.Kinds.length
  ·rw[D9 h,Dj h]
  rw[DL h,IC AB]
 ·intro k2 i h;unfold aLN;rw[Ce h,Dj h]
 intro k2;unfold aLN;rw[Dq,aSX];cases Ho k<;>rfl
def vX (v:CB) (k:Int) (h:v.Kinds.length≤1000):gK v k=some (Ws v k):=by
 unfold gK abY Ws;rw[JC v.Kinds (fuel_lt AB) (fun x=>x.Kind==k) (fun i=>some (match v.Kinds[i]? with |some x=>x.N|none=>0)) (some (bif Ho k then v.State else v.Message))]
 ·rw[JE];by_cases h:v.Kinds.findIdx (fun x=>x.Kind==k)<v.Kinds.length
  ·rw[D9 h,Dj h]
  rw[DL h,IC AB]
 ·intro k2 i h;unfold aQ6;rw[Ce h,CV h,Dj h];rfl
 intro k2;unfold aQ6;rw[Dq,aHU];cases Ho k<;>rfl
def VB (j m q:Int):Bool:=m==q||(decide (m≤j)&&decide (q≤j))
def numsOf (v:CB):List Int:=[v.User,v.Message,v.State,v.gW,v.jL,v.mO,v.gy]
def uM (j:Int) (p:Int×Int):Bool:= !VB j p.1 p.2
def Ur (j:Int) (m q:CB) (x:Ir):Bool:= !VB j (Ws m x.Kind) (Ws q x.Kind)
def Ig (m:Int) (j q:CB) (u:ByteArray) (x:H6):Bool:= !(VB m (EF j x.User) (EF q x.User)&&(EF j x.User==EF q x.User||decide (x.User=u)||decide (EF j x.User<m)))
def ql (j q:CB) (m:ByteArray):Int:=
 bif ((numsOf j).zip (numsOf q)).any (uM (EF j m))then 20 else bif (j.Kinds++q.Kinds).any (Ur (EF j m) j q)then 20 else bif (j.Users++q.Users).any (Ig (EF j m) j q m)then 20 else 0
def aJw (j m q:Int):Vp m q j=some (!VB j m q):=by
 unfold Vp VB;have u:(m != q)= !(m==q):=rfl;have z:decide (m>j)= !decide (m≤j):=by by_cases h:m≤j<;>simp[h]<;>omega
 have I:decide (q>j)= !decide (q≤j):=by by_cases h:q≤j<;>simp[h]<;>omega
 rw[u,z,I];cases m==q<;>cases decide (m≤j)<;>cases decide (q≤j)<;>rfl
def aDr (m j q:Int):lF j q m=some (VB m j q):=by
 unfold lF VB;cases j==q<;>cases decide (j≤m)<;>rfl
structure Yu (v:CB):Prop where
 users:v.Users.length≤100
 kinds:v.Kinds.length≤100
def yR (a b:CB):((numsOf a).zip (numsOf b)).length=7:=rfl
def arz (m q:CB) (u:ByteArray) (Z:Yu m) (hn:Yu q):yS m q u=some (ql m q u):=by
 have o1:=Z.users;have o2:=Z.kinds;have n1:=hn.users;have n2:=hn.kinds;unfold yS;rw[YQ m u AB];unfold aAN;simp only[Aa];unfold ql;generalize hown:EF m u=z
 have hU:aF2 m q z u false 0=some (bif (m.Users++q.Users).any (Ig z m q u)then 20 else 0):=by
  unfold aF2;rw[aMw ([m.Users,q.Users]:List (List H6)) (fuel_lt BP) (fun us=>us.any (Ig z m q u)) (fun _=>some 20) (some 0) false]
  ·have e:(m.Users++q.Users).any (Ig z m q u)=([m.Users,q.Users]:List (List H6)).any (fun us=>us.any (Ig z m q u)):=BP
   rw[e]
   have hf:∀L:List (List H6),(if L.findIdx (fun us=>us.any (Ig z m q u))<L.length then some (20:Int)else some 0)=some (bif L.any (fun us=>us.any (Ig z m q u))then 20 else 0):=fun L=>by
    by_cases h:L.findIdx (fun us=>us.any (Ig z m q u))<L.length
    ·rw[D9 h];have :L.any (fun us=>us.any (Ig z m q u))=true:=IJ.2 ((qo).1 h);rw[this];rfl
    rw[DL h]
    have :L.any (fun us=>us.any (Ig z m q u))=false:=by
     rw[Bool.eq_false_iff];exact fun k=>h (qo.2 (IJ.1 k))
    rw[this];rfl
   exact hf _
  ·intro k i h
   have O:([m.Users,q.Users]:List (List H6))[i].length≤100:=by
    have :([m.Users,q.Users]:List (List H6))[i]∈[m.Users,q.Users]:=EU h;simp only[F8,Fe,eu]at this;rcases this with e|e<;>rw[e]<;>assumption
   unfold aCR;rw[show decide ((i:Int)<2)=true by simp only[GI,NK]at h;simp;omega,CV h];simp only[BZ,Aa];generalize([m.Users,q.Users]:List (List H6))[i]=us at O;unfold aVK;rw[aMw us (fuel_lt AB) (Ig z m q u) (fun _=>some 20) (k false (Am ((i:Int)+1))) false]
   ·by_cases J:us.findIdx (Ig z m q u)<us.length
    ·rw[D9 J];have :us.any (Ig z m q u)=true:=IJ.2 ((qo).1 J);rw[this];rfl
    rw[DL J]
    have :us.any (Ig z m q u)=false:=by
     rw[Bool.eq_false_iff];exact fun k=>J (qo.2 (IJ.1 k))
    rw[this];rfl
   ·intro k2 j U;unfold aDP eY;rw[Ce U,YQ m _ AB,YQ q _ AB];simp only[Aa];rw[aJw,IZ];unfold Ig;have J:decide (EF m us[j].User≥z)= !decide (EF m us[j].User<z):=by by_cases h:EF m us[j].User<z<;>simp[h]<;>omega
    have h3:(EF m us[j].User != EF q us[j].User)= !(EF m us[j].User==EF q us[j].User):=rfl;simp only[Aa];rw[J,h3];cases VB z (EF m us[j].User) (EF q us[j].User)<;>cases EF m us[j].User==EF q us[j].User<;>cases decide (us[j].User=u)<;>cases decide (EF m us[j].User<z)<;>rfl
   intro k2;unfold aDP;rw[Dq]
  intro k;unfold aCR eY;rw[show decide (((([m.Users,q.Users]:List (List H6)).length:Nat):Int)<2)=false from rfl];rfl
 have hK:aD4 m q z u 0=some (bif (m.Kinds++q.Kinds).any (Ur z m q)then 20 else bif (m.Users++q.Users).any (Ig z m q u)then 20 else 0):=by
  unfold aD4;rw[Gz ([m.Kinds,q.Kinds]:List (List Ir)) (fuel_lt BP) (fun I=>I.any (Ur z m q)) 20 (aF2 m q z u false 0)]
  ·rw[hU];have e:(m.Kinds++q.Kinds).any (Ur z m q)=([m.Kinds,q.Kinds]:List (List Ir)).any (fun I=>I.any (Ur z m q)):=BP
   rw[e];cases([m.Kinds,q.Kinds]:List (List Ir)).any (fun I=>I.any (Ur z m q))<;>rfl
  ·intro k i h
   have Y:([m.Kinds,q.Kinds]:List (List Ir))[i].length≤100:=by
    have :([m.Kinds,q.Kinds]:List (List Ir))[i]∈[m.Kinds,q.Kinds]:=EU h;simp only[F8,Fe,eu]at this;rcases this with e|e<;>rw[e]<;>assumption
   unfold aBB;rw[show decide ((i:Int)<2)=true by simp only[GI,NK]at h;simp;omega,CV h];simp only[BZ,Aa];generalize([m.Kinds,q.Kinds]:List (List Ir))[i]=I at Y;unfold aTx;rw[Gz I (fuel_lt AB) (Ur z m q) 20 (k (Am ((i:Int)+1)))]
   ·intro k2 j U;unfold aHO;rw[Ce U,aLW m _ AB,aLW q _ AB];simp only[Aa];rw[aJw];rfl
   intro k2;unfold aHO;rw[Dq]
  intro k;unfold aBB;rw[show decide (((([m.Kinds,q.Kinds]:List (List Ir)).length:Nat):Int)<2)=false from rfl];rfl
 unfold ae2;rw[Gz ((numsOf m).zip (numsOf q)) aVQ (uM z) 20 (aD4 m q z u 0)]
 ·rw[hK];cases((numsOf m).zip (numsOf q)).any (uM z)<;>rfl
 ·intro k i h;have M:i<7:=by rw[yR]at h;exact h
  have e1:Ai [m.User,m.Message,m.State,m.gW,m.jL,m.mO,m.gy] (i:Int)=some ((numsOf m)[i]'(M)):=CV (l:=numsOf m) M;have e2:Ai [q.User,q.Message,q.State,q.gW,q.jL,q.mO,q.gy] (i:Int)=some ((numsOf q)[i]'(M)):=CV (l:=numsOf q) M;unfold aF5;rw[show decide ((i:Int)<7)=true by simp;omega,e1,e2];simp only[BZ,Aa];rw[aJw,aQ8];rfl
 intro k;unfold aF5;rw[yR,show decide (((7:Nat):Int)<7)=false from rfl];rfl
def ar7 (j q:CB) (u m:ByteArray) (z:Yu j) (I:Yu q):jd j q u m=some (VB (EF j m) (EF j u) (EF q u)&&(EF j u==EF q u||decide (u=m)||decide (EF j u<EF j m))):=by
 have J:=z.users;have L:=I.users;unfold jd;rw[Vd j m AB,Vd j u AB,Vd q u AB];simp only[Aa];rw[aDr,IZ];simp only[Aa];cases VB (EF j m) (EF j u) (EF q u)<;>cases EF j u==EF q u<;>cases decide (u=m)<;>cases decide (EF j u<EF j m)<;>rfl
def atT (j m:CB) (q:ByteArray) (J:Yu j) (L:Yu m):zu j m q=some (ql j m q):=by
 have o1:=J.users;have o2:=J.kinds;have n1:=L.users;have n2:=L.kinds;unfold zu;rw[Vd j q AB];unfold aGk;simp only[Aa];unfold ql
 have z:∀x:H6,(jd j m x.User q)=some (!Ig (EF j q) j m q x):=fun x=>by
  rw[ar7 j m _ _ J L];unfold Ig;rw[qB]
 generalize O:EF j q=u at z
 have M:aKk m j q 0=some (bif m.Users.any (Ig u j m q)then 20 else 0):=by
  unfold aKk;rw[Gz m.Users (fuel_lt AB) (Ig u j m q) 20 (some 0)]
  ·cases m.Users.any (Ig u j m q)<;>rfl
  ·intro k i h;unfold aNC;rw[Ce h,z];simp only[Aa,qB]
  intro k;unfold aNC;rw[Dq]
 have Y:aP8 j m q 0=some (bif (j.Users++m.Users).any (Ig u j m q)then 20 else 0):=by
  unfold aP8;rw[Gz j.Users (fuel_lt AB) (Ig u j m q) 20 (some (bif m.Users.any (Ig u j m q)then 20 else 0))]
  ·rw[aJ5];cases j.Users.any (Ig u j m q)<;>rfl
  ·intro k i h;unfold aPZ;rw[Ce h,z];simp only[Aa,qB]
  intro k;unfold aPZ;rw[Dq,M]
 have Z:aDy j m u q 0=some (bif (j.Kinds++m.Kinds).any (Ur u j m)then 20 else bif (j.Users++m.Users).any (Ig u j m q)then 20 else 0):=by
  unfold aDy;have U:Am ((j.Kinds.length:Int)+(m.Kinds.length:Int))=(((j.Kinds++m.Kinds).length:Nat):Int):=by rw[EP,ZQ];omega
  rw[Gz (j.Kinds++m.Kinds) (fuel_lt Kr) (Ur u j m) 20 (some (bif (j.Users++m.Users).any (Ig u j m q)then 20 else 0))]
  ·cases(j.Kinds++m.Kinds).any (Ur u j m)<;>rfl
  ·intro k i h;unfold aMA aBg;rw[U,dec_lt h];simp only[BZ];by_cases hi:i<j.Kinds.length
   ·rw[dec_lt hi,CV hi];simp only[BZ,Aa];rw[vX j _ AB,vX m _ AB];simp only[Aa];rw[aDr,aMy hi];rfl
   have hj:i-j.Kinds.length<m.Kinds.length:=by rw[EP]at h;omega
   have w:Am ((i:Int)-(j.Kinds.length:Int))=((i-j.Kinds.length:Nat):Int):=by rw[EP]at h;rw[ZQ];omega
   rw[show decide ((i:Int)<(j.Kinds.length:Int))=false by simp;omega,w,CV hj];simp only[BM,Aa];rw[vX j _ AB,vX m _ AB];simp only[Aa];rw[aDr,abb AB];rfl
  intro k;unfold aMA;rw[U,DV,Y];rfl
 unfold aVM;rw[Gz ((numsOf j).zip (numsOf m)) aVQ (uM u) 20 (aDy j m u q 0)]
 ·rw[Z];cases((numsOf j).zip (numsOf m)).any (uM u)<;>rfl
 ·intro k i h;have I:i<7:=by rw[yR]at h;exact h
  have e1:Ai [j.User,j.Message,j.State,j.gW,j.jL,j.mO,j.gy] (i:Int)=some ((numsOf j)[i]'(I)):=CV (l:=numsOf j) I;have e2:Ai [m.User,m.Message,m.State,m.gW,m.jL,m.mO,m.gy] (i:Int)=some ((numsOf m)[i]'(I)):=CV (l:=numsOf m) I;unfold aNe;rw[show decide ((i:Int)<(([j.User,j.Message,j.State,j.gW,j.jL,j.mO,j.gy]:List Int).length:Int))=true from dec_lt (n:=7) I,e1,e2];simp only[BZ,Aa];rw[aDr,aQ8];rfl
 intro k;unfold aNe;rw[yR];rfl
def YS (e:AQ) (l:List AQ) (now:Int):Int:=
 bif !(Hw l e.aY==3)then 18 else
 bif e.Content.N==1&&decide (EF (Em l) e.aY<(Em l).gW)then 20 else
 bif e.Content.N==0&&((now==4&&decide (EF (Em l) e.aY<(Em l).mO))||decide (EF (Em l) e.aY<(Em l).jL)||decide (EF (Em l) e.Key≥EF (Em l) e.aY))then 20 else
 bif e.Content.N==4&&(decide (EF (Em l) e.aY<(Em l).mO)||decide (EF (Em l) e.Key≥EF (Em l) e.aY))then 20 else 0
def nD (e:AQ) (l:List AQ):Int:=
 bif WX e l then 0 else
 bif decide (e.Key=e.aY)&&Hw l e.Key==4 then 19 else
 bif !moveB (Hw l e.Key) e.Content.N (decide (e.Key=e.aY))then 18 else
 bif decide (e.Key=e.aY)then Xt e.Content.N (Hw l e.Key) l else YS e l (Hw l e.Key)
def Z4 (e:AQ) (l:List AQ):Int:=
 bif decide (EF (Em l) e.aY<Ws (Em l) e.Kind)then 20 else bif e.Kind==3 then ql (Em l) e.Content.Levels e.aY else 0
def aRr (s:ByteArray):ByteArray:=(splitB s (Js s)).2.1
def Nh (e:AQ) (l:List AQ):Int:=
 bif e.Kind==1 then(bif !(Ie l).2&&(aRr e.aY).toList==(aRr e.Room).toList then 0 else 17)else
 bif !(Ie l).2 then 17 else bif e.Kind==2 then nD e l else bif !(Hw l e.aY==3)then 18 else Z4 e l
def Fn1 {l:List AQ} (h:Dl l):Yu (Em l):=⟨(iH h).1,(iH h).2⟩
def Gl.levels {e:AQ} (h:Gl e):Yu e.Content.Levels:=⟨h.users,h.kinds⟩
def agP (e:AQ) (l:List AQ) (hl:l.length≤1000) (hs:Dl l) (m:Gl e):aF1 e l=some (Z4 e l):=by
 have j:=Fn1 hs;have q:=j.users;have u:=j.kinds;unfold aF1 Z4;rw[aHw l hl hs];simp only[Aa];rw[YQ _ _ AB,aLW _ _ AB];simp only[Aa];rw[arz _ _ _ j m.levels];cases decide (EF (Em l) e.aY<Ws (Em l) e.Kind)<;>cases e.Kind==3<;>rfl
def ak8 (e:AQ) (l:List AQ) (hl:l.length≤1000) (hs:Dl l) (m:Gl e):aFD e l=some (Z4 e l):=by
 have j:=Fn1 hs;have q:=j.users;have u:=j.kinds;unfold aFD Z4;rw[aGP l hl];simp only[Aa];rw[Vd _ _ AB,vX _ _ AB];simp only[Aa];rw[atT _ _ _ j m.levels];cases decide (EF (Em l) e.aY<Ws (Em l) e.Kind)<;>cases e.Kind==3<;>rfl
def lS (x:Int):Except Value Unit:=.error (.iface 258 (.agg #[.int .i64 x]))
def acN (x:Int):cO x=some (lS x):=rfl
def aJy (b:Bool) (x:Int):QO b x=some (bif b then .ok ()else lS x):=by cases b<;>rfl
def aLw (b:Bool) (x:Int) (f:Unit→Option (Except Value Unit)):Lj (bif b then .ok ()else lS x) f=bif b then f ()else some (lS x):=by cases b<;>rfl
def adN (x:Int) (f:Unit→Option (Except Value Unit)):Lj (lS x) f=some (lS x):=rfl
def ajK (a b:Int):decide (a≥b)= !decide (a<b):=by by_cases h:a<b<;>simp[h]<;>omega
def atD (e:AQ) (l:List AQ) (now:Int) (hl:l.length≤1000) (hs:Dl l):(gQ l e now).bind Ti=some (YS e l now):=by
 have u:=(iH hs).1;unfold gQ YS;rw[aMY l _ hl,aHw l hl hs];simp only[Aa];rw[YQ _ _ AB,YQ _ _ AB];simp only[aJy,Aa,aLw,ajK]
 have z:decide (EF (Em l) e.Key<EF (Em l) e.aY)= !decide (EF (Em l) e.aY≤EF (Em l) e.Key):=by
  by_cases h:EF (Em l) e.Key<EF (Em l) e.aY<;>simp[h]<;>omega
 have q:(now != 4)= !(now==4):=rfl;rw[q];generalize decide (EF (Em l) e.Key<EF (Em l) e.aY)=t;generalize decide (EF (Em l) e.aY<(Em l).gW)=i;generalize decide (EF (Em l) e.aY<(Em l).mO)=b;generalize decide (EF (Em l) e.aY<(Em l).jL)=k;generalize(now==4)=n;cases Hw l e.aY==3 with
 |false=>rfl
 |true=>
  by_cases j:e.Content.N=1
  ·rw[j];cases i<;>rfl
  rw[show(e.Content.N==1)=false by simpa using j];by_cases m:e.Content.N=0
  ·rw[m];cases n<;>cases b<;>cases k<;>cases t<;>rfl
  rw[show(e.Content.N==0)=false by simpa using m];cases e.Content.N==4<;>cases b<;>cases t<;>rfl
def ah6 (e:AQ) (l:List AQ) (now:Int) (hl:l.length≤1000) (hs:Dl l):aHc e l now=some (YS e l now):=by
 have j:=(iH hs).1;unfold aHc YS;rw[aBF l _ hl,aGP l hl];simp only[Aa];rw[Vd _ _ AB,Vd _ _ AB];simp only[Aa,Jo,dS,TU,bne]
def aqz (e:AQ) (l:List AQ) (hl:l.length≤1000) (hs:Dl l):aAT e l=some (nD e l):=by
 unfold aAT nD;rw[ap4 e l hl];simp only[Aa];cases WX e l with
 |true=>rfl
 |false=>
  simp only[BM]
  have m:∀o:Option (Except Value Unit),(o.bind fun q=>(Ti q).bind fun u=>some u)=o.bind Ti:=fun o=>by
   cases o with
   |none=>rfl
   |some x=>cases h:Ti x<;>simp[h]
  rw[m];have j:=atD e l (Hw l e.Key) hl hs;unfold aLD;rw[aMY l _ hl,IZ];simp only[Aa];rw[apR,aq6 _ _ _ hl hs];simp only[Aa,aJy,acN,aLw,adN,Jo];have z:(Hw l e.Key != 4)= !(Hw l e.Key==4):=rfl;rw[z];generalize gQ l e (Hw l e.Key)=J at j;generalize decide (e.Key=e.aY)=s;cases s with
  |true=>
   cases Hw l e.Key==4 with
   |true=>rfl
   |false=>cases moveB (Hw l e.Key) e.Content.N true<;>rfl
  |false=>
   cases moveB (Hw l e.Key) e.Content.N false with
   |false=>rfl
   |true=>exact j
def aqN (e:AQ) (l:List AQ) (hl:l.length≤1000) (hs:Dl l):aFN e l=some (nD e l):=by
 unfold aFN nD;rw[afL e l hl,aBF l _ hl];simp only[Aa];rw[acL,aiS e _ l hl hs,ah6 e l _ hl hs,IZ];simp only[Aa,Jo,TU]
def aOQ (e:AQ) (l:List AQ) (hl:l.length≤1000) (hs:Dl l) (j:Gl e):mZ e l=some (Nh e l):=by
 have z:=j.sender;have I:=j.room;unfold mZ Nh
 have m:∀o:Option (Except Value Unit),(o.bind fun q=>(Ti q).bind fun u=>some u)=o.bind Ti:=fun o=>by
  cases o with
  |none=>rfl
  |some x=>cases h:Ti x<;>simp[h]
 rw[m];unfold aKl aI5 aBp aFM;rw[abE l hl,(jF (s:=e.aY) AB).1,(jF (s:=e.Room) AB).1,aMY l _ hl,agP e l hl hs j,aqz e l hl hs];simp only[Aa,aJy,acN,aLw,adN];show _=some (bif e.Kind==1 then(bif !(Ie l).2&&(splitB e.aY (Js e.aY)).2.1.toList==(splitB e.Room (Js e.Room)).2.1.toList then 0 else 17)else _);cases e.Kind==1 with
 |true=>
  cases(Ie l).2 with
  |true=>rfl
  |false=>cases(splitB e.aY (Js e.aY)).2.1.toList==(splitB e.Room (Js e.Room)).2.1.toList<;>rfl
 |false=>
  cases(Ie l).2 with
  |false=>rfl
  |true=>
   cases e.Kind==2 with
   |true=>rfl
   |false=>cases Hw l e.aY==3<;>rfl
def aKx (e:AQ) (l:List AQ) (hl:l.length≤1000) (hs:Dl l) (j:Gl e):jJ e l=some (Nh e l):=by
 have m:=j.sender;have q:=j.room;unfold jJ aEr Nh;rw[aWe l hl,(jF (s:=e.aY) AB).2,(jF (s:=e.Room) AB).2,aBF l _ hl,ak8 e l hl hs j,aqN e l hl hs];simp only[Aa];show _=some (bif e.Kind==1 then(bif !(Ie l).2&&(splitB e.aY (Js e.aY)).2.1.toList==(splitB e.Room (Js e.Room)).2.1.toList then 0 else 17)else _);cases e.Kind==1 with
 |true=>
  cases(Ie l).2 with
  |true=>rfl
  |false=>cases(splitB e.aY (Js e.aY)).2.1.toList==(splitB e.Room (Js e.Room)).2.1.toList<;>rfl
 |false=>
  cases(Ie l).2 with
  |false=>rfl
  |true=>
   cases e.Kind==2 with
   |true=>rfl
   |false=>unfold bne;cases Hw l e.aY==3<;>rfl
def Zx (named:List AQ) (k:Aq):AQ×Bool:=match named.find? (EX k)with |some x=>(x,true)|none=>(F9,false)
def aJ (l:List AQ) (s:List Aq) (e:AQ) (k:Aq):AQ×Bool:=bif (GH s k.Kind k.Key).2 then Gg l (GH s k.Kind k.Key).1 else Zx (ofIds l e.bK) k
def SL (l:List AQ) (s:List Aq) (e:AQ) (k:Aq):List AQ:=bif (aJ l s e k).2 then[(aJ l s e k).1]else[]
def St (l:List AQ) (s:List Aq) (e:AQ):List AQ:=(keysOf e).flatMap (SL l s e)
def aIc (l:List AQ) (s:List Aq) (e:AQ) (k:Aq):(SL l s e k).length≤1:=by
 unfold SL;cases(aJ l s e k).2<;>simp
def aUm (l:List AQ) (s:List Aq) (e:AQ):(St l s e).length≤5:=by
 have j:=flat_length (f:=SL l s e) (n:=1) (aIc l s e) (keysOf e);have m:=XA e;unfold St;omega
def alF {l:List AQ} {s:List Aq} {e x:AQ} (h:x∈St l s e):x∈l:=by
 obtain⟨k,_,h⟩:=TD.1 h;unfold SL aJ Zx at h;cases q:(GH s k.Kind k.Key).2 with
 |true=>
  rw[q]at h;simp only[BZ]at h;cases j:EC l (GH s k.Kind k.Key).1 with
  |none=>rw[Rq j]at h;exact absurd h Fe
  |some y=>rw[Lh j]at h;rw[IK.1 h];exact QH j
 |false=>
  rw[q]at h;simp only[BM]at h;cases m:(ofIds l e.bK).find? (EX k)with
  |none=>rw[m]at h;exact absurd h Fe
  |some y=>rw[m]at h;rw[IK.1 h];exact aKB (U3 m)
def Dl.base {l:List AQ} (h:Dl l) (s:List Aq) (e:AQ):Dl (St l s e):=fun x j=>h x (alF j)
def aqC (named:List AQ) (k:Aq) (j:named.length≤1000):aBe named k=some (Zx named k):=by
 unfold aBe;rw[aLV named AB (fun a0=>yE a0 k) (EX k) fun e=>by unfold yE EX;rw[IZ];cases e.Kind==k.Kind<;>rfl];exact found_eq named (EX k) rfl
def atO (named:List AQ) (k:Aq) (j:named.length≤1000):aDx named k.Kind k.Key=some (Zx named k):=by
 unfold aDx aQj;rw[aJ1 named (fuel_lt AB) (EX k) (fun i=>some (match named[i]? with |some x=>(x,true)|none=>(F9,false))) (some (F9,false))]
 ·exact aOo named _
 ·intro k2 i h;unfold aPG;rw[Ce h,CV h,Dj h];simp only[Aa];rw[IZ];unfold EX;cases named[i].Kind==k.Kind<;>cases decide (named[i].Key=k.Key)<;>rfl
 intro k2;unfold aPG;rw[Dq]
def alM (l:List AQ) (s:List Aq) (e:AQ) (hl:l.length≤1000) (q:e.bK.length≤40) (hs:JG s) (j:s.length≤1000000):zx l s e=some (St l s e):=by
 unfold zx;have u:=dc l e.bK;have z:=XA e;have m:JV 376 F9 0 5=some []:=by unfold JV;rw[D9 aB5];rfl
 rw[ar6 l _ hl AB,m,aaK];simp only[Aa];unfold aTa;rw[Hu (keysOf e) AB (fun r k=>r++SL l s e k) (fun i r=>r.length≤i) (fun r=>some r) (EG _)]
 ·rw[foldl_append (SL l s e),IV];rfl
 ·intro k r i h I;have J:=aIc l s e (keysOf e)[i];refine⟨Kr,?_⟩;unfold aKV aI8 aBT;rw[Ce h,aqC _ _ AB,aLq s _ _ j hs];simp only[Aa];rw[NZ l _ AB,Dk G7];simp only[Aa];rw[Dk G7];unfold SL aJ;cases(GH s (keysOf e)[i].Kind (keysOf e)[i].Key).2 with
  |true=>
   simp only[BZ];cases(Gg l (GH s (keysOf e)[i].Kind (keysOf e)[i].Key).1).2 with
   |true=>rfl
   |false=>simp
  |false=>
   simp only[BM];cases(Zx (ofIds l e.bK) (keysOf e)[i]).2 with
   |true=>rfl
   |false=>simp
 intro k r _;unfold aKV;rw[Dq]
def ahw (l:List AQ) (s:List Aq) (e:AQ) (hl:l.length≤1000) (m:e.bK.length≤40) (j:s.length≤1000000):aDw l s e=some (St l s e):=by
 unfold aDw;have q:=dc l e.bK;have u:=XA e;rw[aMu,aCa l _ hl AB];simp only[Aa];unfold abj;rw[Hu (a0:=[]) (keysOf e) AB (fun r k=>r++SL l s e k) (fun i r=>r.length≤i) (fun r=>some r) (EG _)]
 ·rw[foldl_append (SL l s e),IV];rfl
 ·intro k r i h z;have I:=aIc l s e (keysOf e)[i];refine⟨Kr,?_⟩;unfold aIQ aGM aBK;rw[dec_lt h,CV h];simp only[BZ,Aa];rw[atO _ _ AB,aOe s _ _ j];simp only[Aa];rw[MH l _ AB,Dk G7];simp only[Aa];rw[Dk G7];unfold SL aJ;cases(GH s (keysOf e)[i].Kind (keysOf e)[i].Key).2 with
  |true=>
   simp only[BZ];cases(Gg l (GH s (keysOf e)[i].Kind (keysOf e)[i].Key).1).2 with
   |true=>rfl
   |false=>simp
  |false=>
   simp only[BM];cases(Zx (ofIds l e.bK) (keysOf e)[i]).2 with
   |true=>rfl
   |false=>simp
 intro k r _;unfold aIQ;rw[DV];rfl
def Ru (l:List AQ) (s:List Aq) (id:Int):Bool:=dQ l id&&(Ho (ev l id).Kind&&Nh (ev l id) (St l s (ev l id))==0)
def OJ (l:List AQ) (s:List Aq) (id:Int):List Aq:=bif Ru l s id then Fg s (ev l id).Kind (ev l id).Key (ev l id).Id else s
def OC (l:List AQ) (s:List Aq) (ids:List Int):List Aq:=ids.foldl (OJ l) s
def adL {l:List AQ} {s:List Aq} (h:JG s) (id:Int):JG (OJ l s id):=by
 unfold OJ;cases Ru l s id with
 |true=>exact Wx h _ _ _
 |false=>exact h
def aIB {l:List AQ}:∀{ids:List Int} {s:List Aq},JG s→JG (OC l s ids)
 | [],_,h=>h
 |id::ids,s,h=>aIB (ids:=ids) (adL h id)
def aKN (l:List AQ) (s:List Aq) (id:Int):(OJ l s id).length≤s.length+1:=by
 unfold OJ;cases Ru l s id with
 |true=>exact QB _ _ _ _
 |false=>exact Nat.le_succ _
def aEz (l:List AQ):∀(ids:List Int) (s:List Aq),(OC l s ids).length≤s.length+ids.length
 | [],s=>EG _
 |id::ids,s=>by
  have j:=aEz l ids (OJ l s id);have m:=aKN l s id;show(OC l (OJ l s id) ids).length≤_;rw[GI];omega
def aUw {l:List AQ} (hs:Dl l) {id:Int} (h:dQ l id=true):Gl (ev l id):=hs _ (QH (LZ h).1)
def ahz (l:List AQ) (s:List Aq) (id:Int) (hl:l.length≤1000) (hs:Dl l) (u:JG s) (m:s.length≤1000000):aEA l s id=some (OJ l s id):=by
 unfold aEA aP5 xB OJ Ru;have j:aHW s (.error (.iface 266 (.agg #[])):Except Value (List Aq))=some s:=rfl;rw[NZ l _ AB];simp only[Aa];rw[O5];cases I:(EC l id).isSome with
 |false=>rw[show dQ l id=false from I];exact j
 |true=>
  have q:dQ l id=true:=I;have J:=aUw hs q;have z:(Gg l id).1=ev l id:=rfl;rw[q,z,aSX];simp only[Aa,EL,BM,GK];cases Ho (ev l id).Kind with
  |false=>exact j
  |true=>
   have L:=aUm l s (ev l id);rw[alM l s _ hl J.auth u m];simp only[Aa,EL,BM,GK];rw[aOQ _ _ AB (hs.base s _) J];simp only[Aa];rw[YO s _ _ _ m];unfold bne;cases Nh (ev l id) (St l s (ev l id))==0 with
   |true=>rfl
   |false=>exact j
def aQk (l:List AQ) (s:List Aq) (ids:List Int) (hl:l.length≤1000) (hs:Dl l) (j:JG s) (q:s.length+ids.length≤1000000):dI l s ids=some (OC l s ids):=by
 unfold dI aEF;rw[Dk TM];simp only[Aa,IV];unfold aR3;rw[Hu ids AB (OJ l) (fun i r=>JG r∧r.length≤s.length+i) (fun r=>some r) ⟨j,EG _⟩]
 ·rfl
 ·intro k r i h m;have u:=aKN l r ids[i];refine⟨⟨adL m.1 _,AB⟩,?_⟩;unfold aJC;rw[Ce h,ahz l r _ hl hs m.1 AB];rfl
 intro k r _;unfold aJC;rw[Dq]
def aTP (l:List AQ) (s:List Aq) (ids:List Int) (hl:l.length≤1000) (hs:Dl l) (z:s.length+ids.length≤1000000):ZP l s ids=some (OC l s ids):=by
 unfold ZP;rw[Dk TM];simp only[Aa,IV];unfold ada;rw[Hu ids AB (OJ l) (fun i r=>r.length≤s.length+i) (fun r=>some r) (EG _)]
 ·rfl
 ·intro k r i h I;have J:=aKN l r ids[i];refine⟨AB,?_⟩;unfold aIM wG aA8 OJ Ru;rw[Ce h,MH l _ AB];simp only[Aa];rw[O5];cases q:(EC l ids[i]).isSome with
  |false=>rw[show dQ l ids[i]=false from q];rfl
  |true=>
   have j:dQ l ids[i]=true:=q;have u:=aUw hs j;have m:(Gg l ids[i]).1=ev l ids[i]:=rfl;rw[j,m,aHU];simp only[Aa,BZ,GK];cases Ho (ev l ids[i]).Kind with
   |false=>rfl
   |true=>
    have L:=aUm l r (ev l ids[i]);rw[ahw l r _ hl u.auth AB];simp only[Aa,BZ,GK];rw[aKx _ _ AB (hs.base r _) u];simp only[Aa];rw[aJo r _ _ _ AB];cases Nh (ev l ids[i]) (St l r (ev l ids[i]))==0<;>rfl
 intro k r _;unfold aIM;rw[Dq]
def KG (l:List AQ) (j:List (List Aq)):List Int:=Uz l (Iu l j)
def KY (l:List AQ) (j:List (List Aq)):List Int:=sD l (iE l (KG l j)).length (iE l (KG l j))
def I7 (l:List AQ) (j:List (List Aq)):List Aq:=OC l (I4 j) (KY l j)
def U1 (l:List AQ) (j:List (List Aq)):List Int:=bif (GH (I7 l j) 3 Bv).2 then ZB l (GH (I7 l j) 3 Bv).1 else[]
def Jt (l:List AQ) (j:List (List Aq)):List Int:=Af l (U1 l j) (Og (Iu l j) (KG l j))
def yx (s a:List Aq):List Aq:=a.foldl (fun s x=>Fg s x.Kind x.Key x.Id) s
def lastOf (l:List AQ) (j:List (List Aq)):List Aq:=yx (OC l (I7 l j) (Jt l j)) (I4 j)
structure Ln (l:List AQ) (sts:List (List Aq)):Prop where
 len:l.length≤100
 small:Dl l
 states:Oe sts
def lZ {l:List AQ} {j:List (List Aq)} (h:Ln l j):(Iu l j).length≤40000:=by
 have z:=h.len;have I:=aHq h.states;have J:=NU (PV j);have m:=aGh l j [] fun s hs=>(h.states.2 s hs).1;have q:=h.states.1;have u:=Jq (fun x=>decide (Iq l j x<j.length)) (allOf l j);have L:j.length*(100+l.length)≤100*200:=aAK q AB;have M:=aNR (Eo (PV j)) (O8 l j)
 have O:(O8 l j).length≤20000:=by
  unfold O8;unfold allOf at u ⊢;simp only[NK]at m;omega
 unfold Iu;omega
def ag2 {l:List AQ} {j:List (List Aq)} (h:Ln l j):(DK l (Iu l j)).length≤40000:=F6 (Jq _ _) (lZ h)
def aKd {l:List AQ} {j:List (List Aq)} (h:Ln l j):(KY l j).length≤100:=by
 have q:=aUf l (iE l (KG l j)).length (iE l (KG l j));have u:(iE l (KG l j)).length≤l.length:=lQ (Zf _ _) fun x m=>(MZ.1 m).2;have z:=h.len;unfold KY;omega
def aCc {l:List AQ} {j:List (List Aq)} (h:Ln l j):(I7 l j).length≤200:=by
 have m:=aEz l (KY l j) (I4 j);have q:=aKd h;have u:=aF h.states;unfold I7;omega
def aL3 {l:List AQ} {j:List (List Aq)} (h:Ln l j):JG (I7 l j):=aIB (aQM h.states)
def aTj {l:List AQ} {j:List (List Aq)} (h:Ln l j):(U1 l j).length≤100:=by
 have m:=aTi l (GH (I7 l j) 3 Bv).1;have q:=h.len;unfold U1;cases(GH (I7 l j) 3 Bv).2 with
 |true=>simp only[BZ];omega
 |false=>exact El _
def acD {l:List AQ} {j:List (List Aq)} (h:Ln l j):(Jt l j).length≤40000:=by
 have m:=alI l (U1 l j) (Og (Iu l j) (KG l j));have q:=aJ2 (Iu l j) (KG l j);have u:=lZ h;unfold Jt;omega
def amP {l:List AQ} {j:List (List Aq)} (h:Ln l j):sI (Iu l j) (KG l j) l (I7 l j,KY l j) (I4 j,Eo (PV j)) (U1 l j)=some ⟨lastOf l j,KY l j,Jt l j⟩:=by
 have u:=h.len;have z:=lZ h;have I:=aCp l (Iu l j);have J:=aTj h;have L:=aJ2 (Iu l j) (KG l j);have M:=aCc h;have O:=acD h;have U:=aF h.states;unfold sI aN3 aKA;rw[aoB _ _ AB (by unfold KG;omega)];simp only[Aa];rw[ajR l _ _ AB h.small AB AB (YC (aOm _ _))];simp only[Aa];show((dI l (I7 l j) (Jt l j)).bind _).bind _=_;rw[aQk l _ _ AB h.small (aL3 h) AB];simp only[Aa];unfold aSJ;have Y:=aEz l (Jt l j) (I7 l j);show aU _ Aj 0 (⟨OC l (I7 l j) (Jt l j),KY l j,Jt l j⟩:Oh)=_;rw[Src (I4 j) AB (fun v x=>({ v with Ei:=Fg v.Ei x.Kind x.Key x.Id }:Oh)) (fun i v=>v.Ei.length≤(OC l (I7 l j) (Jt l j)).length+i) (fun v=>some v) (EG _)]
 ·congr 1;unfold lastOf yx
  have key:∀(a:List Aq) (v:Oh),a.foldl (fun v x=>({ v with Ei:=Fg v.Ei x.Kind x.Key x.Id }:Oh)) v=⟨a.foldl (fun s x=>Fg s x.Kind x.Key x.Id) v.Ei,v.aks,v.ato⟩:=by
   intro a
   induction a with
   |nil=>intro v;rfl
   |cons x a m=>intro v;rw[FZ,m];rfl
  rw[key]
 ·intro k v i hi Z;have q:=QB v.Ei (I4 j)[i].Kind (I4 j)[i].Key (I4 j)[i].Id;refine⟨by show(Fg _ _ _ _).length≤_;omega,?_⟩;unfold aMb;rw[Ce hi,YO _ _ _ _ AB];rfl
 intro k v _;unfold aMb;rw[Dq]
def ak3 {l:List AQ} {j:List (List Aq)} (h:Ln l j):aD8 l j=some ⟨lastOf l j,KY l j,Jt l j⟩:=by
 have u:=h.len;have z:=lZ h;have I:=aCp l (Iu l j);have J:=ag2 h;have L:=aCc h;have M:=aKd h;have O:=aF h.states;have m:=amP h;unfold aD8;rw[aSM j h.states,akm l j AB h.small.akC h.states];simp only[Aa];rw[aqk l _ AB h.small AB AB];simp only[Aa];unfold aNN aLM;rw[aoy l _ AB h.small AB];simp only[Aa];have ha:dI l (I4 j) (KY l j)=some (I7 l j):=aQk l _ _ AB h.small (aQM h.states) AB;unfold KY KG at ha;rw[ha];simp only[Aa];rw[aLq _ _ _ AB (aL3 h)];simp only[Aa];rw[aoo l _ AB h.small];unfold U1 at m;cases q:(GH (I7 l j) 3 Bv).2 with
 |true=>rw[q]at m;exact m
 |false=>rw[q]at m;exact m
def aeK {l:List AQ} {j:List (List Aq)} (h:Ln l j):oL (Iu l j) (KG l j) l (I4 j,Eo (PV j)) (KY l j) (I7 l j) (U1 l j)=some ⟨I4 j,KY l j,I7 l j,Jt l j,lastOf l j⟩:=by
 have z:=h.len;have I:=lZ h;have J:=aCp l (Iu l j);have L:=aTj h;have M:=aJ2 (Iu l j) (KG l j);have O:=aCc h;have U:=acD h;have Y:=aF h.states;unfold oL;rw[aFI _ _ AB (by unfold KG;omega)];simp only[Aa];rw[aol l _ _ AB h.small AB AB (YC (aOm _ _))];simp only[Aa];show(ZP l (I7 l j) (Jt l j)).bind _=_;rw[aTP l _ _ AB h.small AB];simp only[Aa];unfold ac9;have Z:=aEz l (Jt l j) (I7 l j);show aU _ Aj 0 (⟨I4 j,KY l j,I7 l j,Jt l j,OC l (I7 l j) (Jt l j)⟩:Oa)=_;rw[Src (I4 j) AB (fun v x=>({ v with Last:=Fg v.Last x.Kind x.Key x.Id }:Oa)) (fun i v=>v.Same=I4 j∧v.Last.length≤(OC l (I7 l j) (Jt l j)).length+i) (fun v=>some v) ⟨rfl,EG _⟩]
 ·congr 1;unfold lastOf yx
  have key:∀(a:List Aq) (v:Oa),a.foldl (fun v x=>({ v with Last:=Fg v.Last x.Kind x.Key x.Id }:Oa)) v=⟨v.Same,v.Power,v.First,v.Others,a.foldl (fun s x=>Fg s x.Kind x.Key x.Id) v.Last⟩:=by
   intro a
   induction a with
   |nil=>intro v;rfl
   |cons x a q=>intro v;rw[FZ,q];rfl
  rw[key]
 ·intro k v i hi m;have u:=QB v.Last (I4 j)[i].Kind (I4 j)[i].Key (I4 j)[i].Id;refine⟨⟨m.1,by show(Fg _ _ _ _).length≤_;omega⟩,?_⟩;unfold aNv;rw[m.1,dec_lt hi,CV hi];simp only[BZ,Aa];rw[aJo _ _ _ _ AB];rfl
 intro k v m;unfold aNv;rw[m.1,DV];rfl
def ai3 {l:List AQ} {j:List (List Aq)} (h:Ln l j):aBJ l j=some ⟨I4 j,KY l j,I7 l j,Jt l j,lastOf l j⟩:=by
 have u:=h.len;have z:=lZ h;have I:=aCp l (Iu l j);have J:=aCc h;have L:=aKd h;have M:=aF h.states;have m:=aeK h;unfold aBJ;rw[aRM j h.states,aqA l j AB h.small.akC h.states];simp only[Aa];rw[aex l _ AB h.small AB];simp only[Aa];rw[afV l _ AB h.small AB];simp only[Aa];have ha:ZP l (I4 j) (KY l j)=some (I7 l j):=aTP l _ _ AB h.small AB;unfold KY KG at ha;rw[ha];simp only[Aa];rw[aOe _ _ _ AB];simp only[Aa];rw[aQ9 l _ AB h.small];unfold U1 at m;cases q:(GH (I7 l j) 3 Bv).2 with
 |true=>rw[q]at m;exact m
 |false=>rw[q]at m;exact m
def Yg (l:List AQ) (j:List (List Aq)):List Aq:=match j with
 | []=>[]
 | [s]=>s
 |_=>lastOf l j
def ahZ {l:List AQ} {j:List (List Aq)} (h:Ln l j):oG l j=some (Yg l j):=by
 match j,h with
 | [],_=>rfl
 | [s],h=>
   have hs:=(h.states.2 s (FY ..)).1;have m:Ai [s] 0=some s:=rfl;show((Ai [s] 0).bind fun q=>(Ci 32 [] q).bind fun u=>some u)=some s;rw[m];simp only[Aa];rw[Dk TM];rfl
 |s::t::j,h=>
  unfold oG;have m:(((s::t::j).length:Int)==0)=false:=aGn
  have z:(((s::t::j).length:Int)==1)=false:=aGn
  rw[m,z,ak3 h];rfl
def amT {l:List AQ} {j:List (List Aq)} (h:Ln l j):aHt l j=some (Yg l j):=by
 match j,h with
 | [],_=>rfl
 | [s],_=>rfl
 |s::t::j,h=>
  unfold aHt;have m:(((s::t::j).length:Int)==0)=false:=aGn
  have q:(((s::t::j).length:Int)==1)=false:=aGn
  rw[m,q,ai3 h];rfl
def aNb (l:List AQ):eX (jV l 14) (fun b=>b=false→l.length≤14∧Dl l):=by
 unfold jV;refine eX.bif (fun _=>.ret fun h=>Gh) fun e=>?_;have hl:l.length≤14:=by have :=Jk e;omega
 unfold aUN;refine eL l.length (fuel_lt AB) (fun i=>∀j,(q:j<i)→(u:j<l.length)→Gl l[j]) (fun j q=>AB) ?_ ?_
 ·intro i k hi m z;unfold aPr;rw[Ce hi,wrap_succ i AB];refine(aTe l[i]).bind fun b I=>eX.bif (fun _=>.ret fun h=>Gh) fun J=>z fun j q u=>?_;by_cases L:j=i
  ·subst L;exact I J
  exact m j AB u
 intro k m;unfold aPr;rw[Dq];exact .ret fun _=>⟨hl,aJA fun j h=>m j h h⟩
def Ln.of {l:List AQ} {j:List (List Aq)} (q:l.length≤14∧Dl l) (m:j.length≤100∧∀s∈j,s.length≤20∧JG s):Ln l j:=
 ⟨by have :=q.1;omega,q.2,⟨m.1,fun s hs=>⟨by have :=(m.2 s hs).1;omega,(m.2 s hs).2⟩⟩⟩
def aJk {x:Aq}:∀(a s:List Aq),x∈yx s a→x∈a∨x∈s
 | [],_,h=>.inr h
 |y::a,s,h=>by
  rcases aJk a _ h with h|h
  ·exact .inl (Gf _ h)
  rcases Qg h with h|h
  ·left;rw[h];cases y;exact FY ..
  exact .inr h
def acU (l:List AQ) (ids:List Int) (x:Aq):Prop:=∃id∈ids,dQ l id=true∧Ho (ev l id).Kind=true∧x=⟨(ev l id).Kind,(ev l id).Key,(ev l id).Id⟩
def aPH {l:List AQ} {x:Aq}:∀(ids:List Int) (s:List Aq),x∈OC l s ids→x∈s∨acU l ids x
 | [],_,h=>.inl h
 |id::ids,s,h=>by
  rcases aPH ids _ h with h|⟨j,u,h⟩
  ·have m:x∈bif Ru l s id then Fg s (ev l id).Kind (ev l id).Key (ev l id).Id else s:=h
   cases q:Ru l s id with
   |false=>rw[q]at m;exact .inl m
   |true=>
    rw[q]at m;rcases Qg m with m|m
    ·unfold Ru at q;simp only[DT]at q;exact .inr ⟨id,FY ..,q.1,q.2.1,m⟩
    exact .inl m
  exact .inr ⟨j,Gf _ u,h⟩
def amO {l:List AQ} {j:List (List Aq)} {x:Int} (h:x∈KG l j):x∈Iu l j:=(aFA.1 h).1
def abo {l:List AQ} {m:List (List Aq)} {x:Aq} (h:x∈lastOf l m):x∈I4 m∨acU l (Iu l m) x:=by
 unfold lastOf at h;rcases aJk _ _ h with h|h
 ·exact .inl h
 rcases aPH _ _ h with h|⟨j,q,h⟩
 ·unfold I7 at h;rcases aPH _ _ h with h|⟨j,q,h⟩
  ·exact .inl h
  exact .inr ⟨j,amO (MZ.1 (aPu _ _ _ q)).1,h⟩
 exact .inr ⟨j,(aKH.1 (arM.1 q).1).1,h⟩
def acp :∀(a s:List Aq),JG s→JG (yx s a)
 | [],_,h=>h
 |x::a,s,h=>acp a _ (Wx h x.Kind x.Key x.Id)
def aiQ {l:List AQ} {j:List (List Aq)} (h:Ln l j):JG (lastOf l j):=acp _ _ (aIB (aL3 h))
structure J4 (l:List AQ) (s:List Aq):Prop where
 sorted:JG s
 named:∀x∈s,dQ l x.Id=true∧Ho x.Kind=true∧(ev l x.Id).Kind=x.Kind∧(ev l x.Id).Key=x.Key
def J4.nil (l:List AQ):J4 l []:=⟨List.Pairwise.nil,fun _ h=>absurd h Fe⟩
def J4.nodup {l:List AQ} {s:List Aq} (h:J4 l s):(s.map (·.Id)).Nodup:=by
 rw[aPp,aPc];refine List.Pairwise.imp_of_mem ?_ h.sorted;intro a b ha m j e;obtain⟨_,_,q,k2⟩:=h.named a ha;obtain⟨_,_,u,z⟩:=h.named b m;have I:a.Kind=b.Kind:=by rw[←q,←u,e]
 have J:a.Key=b.Key:=by rw[←k2,←z,e]
 rw[oh (WT.2 ⟨I,J⟩)]at j;cases j
def J4.length {l:List AQ} {s:List Aq} (h:J4 l s):s.length≤l.length:=by
 have :V9 l (s.map (·.Id)):=⟨h.nodup,fun x j=>by
  obtain⟨y,m,rfl⟩:=FH.1 j
  exact(h.named y m).1⟩
 have :=this.length
 rwa [Cm]at this
def J4.okay {l:List AQ} {j:List (List Aq)} (hl:l.length≤100) (hs:Dl l) (q:j.length≤100) (h:∀s∈j,J4 l s):Ln l j:=
 ⟨hl,hs,q,fun s m=>⟨F6 (h s m).length hl,(h s m).sorted⟩⟩
def J4.resolve {l:List AQ} {j:List (List Aq)} (m:Ln l j) (h:∀s∈j,J4 l s):J4 l (Yg l j):=by
 match j,m,h with
 | [],_,_=>exact .nil l
 | [s],_,h=>exact h s (FY ..)
 |s::t::j,m,h=>
  refine⟨aiQ m,fun x I=>?_⟩;rcases abo I with J|⟨id,_,z,hst,q⟩
  ·exact(h s (FY ..)).named x ((aSP m.states (List.cons_ne_nil _ _)).1 J s (FY ..))
  have u:=LZ z;have L:x.Id=id:=by rw[q];exact u.2
  rw[L];exact⟨z,by rw[q];exact hst,by rw[q],by rw[q]⟩
def J4.set {l:List AQ} {s:List Aq} (h:J4 l s) {e:AQ} (q:dQ l e.Id=true) (m:ev l e.Id=e) (hst:Ho e.Kind=true):J4 l (Fg s e.Kind e.Key e.Id):=
 ⟨Wx h.sorted _ _ _,fun x j=>by
  rcases Qg j with rfl|j
  ·exact⟨q,hst,by rw[m],by rw[m]⟩
  exact h.named x j⟩
def WB (l:List AQ) (e:AQ):Bool:=e.bM.all (dQ l)&&e.bK.all (dQ l)
def ZC (l:List AQ):Bool:=l.all (WB l)
def ZO {α:Type} {l:List α} {p:α→Bool} {x:α} (h:x∈l) (j:p x=false):l.all p=false:=by
 rw[←LK,Ea];exact fun m=>by rw[m x h]at j;cases j
def all_good {α:Type} {l:List α} {p:α→Bool} (h:∀j,(hj:j<l.length)→p l[j]=true):l.all p=true:=Ea.2 (aJA h)
def aSt (j:List Int) (l:List AQ) (m:List (Int×Int)) (h:Xi l m) (q:j.length≤1000):rZ j m=some (j.all (dQ l)):=by
 unfold rZ aUk;rw[Gz j (fuel_lt AB) (fun x=> !dQ l x) false (some true)]
 ·rw[List.all_eq_not_any_not];cases(j.any fun x=> !dQ l x)<;>rfl
 ·intro k i hi;unfold aKf;rw[Ce hi,h.isSome]
 intro k;unfold aKf;rw[Dq]
def ag1 (l:List AQ) (hl:l.length≤100) (hs:Dl l):aGf l=some (ZC l):=by
 refine eX.eq ?_;unfold aGf;refine(aEw l AB).bind fun m I=>?_;unfold aUp;refine Y3 (body:=aPz l) (Q:=fun b=>b=ZC l) (fun n a b=>∃i:Nat,a=i∧i+n=l.length∧b=m∧∀j,(q:j<i)→(hl:j<l.length)→WB l l[j]=true) ?_ Aj l.length 0 m (fuel_lt AB) ⟨0,rfl,AB,rfl,fun j q=>AB⟩;rintro n a b k ⟨i,rfl,O,rfl,J⟩ M;unfold aPz;by_cases hi:i<l.length
 ·have L:=hs l[i] (EU hi);have U:=L.prev;have Y:=L.auth;rw[Ce hi,aSt _ l b I AB,Aa,CV hi,Aa,aSt _ l b I AB];cases u:l[i].bM.all (dQ l)with
  |false=>exact .ret (ZO (EU hi) (by unfold WB;rw[u];rfl)).symm
  |true=>
   cases ha:l[i].bK.all (dQ l)with
   |false=>exact .ret (ZO (EU hi) (by unfold WB;rw[u,ha];rfl)).symm
   |true=>
    refine M (n-1) _ _ AB ⟨i+1,wrap_succ i AB,AB,rfl,fun j q z=>?_⟩;by_cases e:j=i
    ·subst e;unfold WB;rw[u,ha];rfl
    exact J j AB z
 have :i=l.length:=AB
 subst this;rw[Dq];exact .ret (all_good fun j q=>J j q q).symm
def Zj (l:List AQ):List Int:=l.foldl (fun r e=>e.bK.foldl put (e.bM.foldl put r)) []
def ah7 {l:List AQ} {i:Nat} (hi:i<l.length) (m:List Int→Int→Option (List Int)) (v:List Int) (z:Inc v) (hl:v.length≤900000) (ha:l[i].bK.length≤40):
 aHP l (i:Int) m v 0=m (l[i].bK.foldl put v) (Am ((i:Int)+1)):=by
 unfold aHP;rw[Hu l[i].bK AB put (fun j a=>Inc a∧a.length≤v.length+j) (fun a=>m a (Am ((i:Int)+1))) ⟨z,AB⟩]
 ·intro k a j q u;have I:=jf a l[i].bK[j];refine⟨⟨Sm u.1,AB⟩,?_⟩;unfold aMx;rw[CV hi,Aa,dec_lt q,BZ,Aa,CV q,Aa,aCO a _ u.1 AB,Aa]
 intro k a _;unfold aMx;rw[CV hi,Aa,DV];rfl
def akL {l:List AQ} {i:Nat} (hi:i<l.length) (m:List Int→Int→Option (List Int)) (v:List Int) (q:Inc v) (hl:v.length≤800000) (I:l[i].bM.length≤40) (ha:l[i].bK.length≤40):
 aL9 l (i:Int) m v 0=m (l[i].bK.foldl put (l[i].bM.foldl put v)) (Am ((i:Int)+1)):=by
 unfold aL9;rw[Hu l[i].bM AB put (fun j a=>Inc a∧a.length≤v.length+j) (fun a=>aHP l (i:Int) m a 0) ⟨q,AB⟩]
 ·have h:=lD l[i].bM v;exact ah7 hi m _ (aEB q) AB ha
 ·intro k a j u z;have I:=jf a l[i].bM[j];refine⟨⟨Sm z.1,AB⟩,?_⟩;unfold aNy;rw[CV hi,Aa,dec_lt u,BZ,Aa,CV u,Aa,aCO a _ z.1 AB,Aa]
 intro k a _;unfold aNy;rw[CV hi,Aa,DV];rfl
def aBa :∀(l:List AQ) (r:List Int),Inc r→(∀e∈l,e.bM.length≤40∧e.bK.length≤40)→
 Inc (l.foldl (fun r e=>e.bK.foldl put (e.bM.foldl put r)) r)∧(l.foldl (fun r e=>e.bK.foldl put (e.bM.foldl put r)) r).length≤r.length+l.length*80∧
 ∀x,x∈l.foldl (fun r e=>e.bK.foldl put (e.bM.foldl put r)) r↔x∈r∨∃e∈l,x∈e.bM∨x∈e.bK
 | [],r,h,_=>⟨h,BP,fun x=>BP⟩
 |e::l,r,h,hs=>by
  have z:=hs e (FY ..);obtain⟨m,I,q⟩:=aBa l (e.bK.foldl put (e.bM.foldl put r)) (aEB (aEB h)) fun x u=>hs x (Gf _ u);have J:=lD e.bM r;have L:=lD e.bK (e.bM.foldl put r);rw[FZ];refine⟨m,by rw[GI];omega,fun x=>(q x).trans ?_⟩;rw[aNa,aNa];constructor
  ·rintro(((h|h)|h)|⟨y,j,h⟩)
   ·exact .inl h
   ·exact .inr ⟨e,FY ..,.inl h⟩
   ·exact .inr ⟨e,FY ..,.inr h⟩
   exact .inr ⟨y,Gf _ j,h⟩
  rintro(h|⟨y,j,h⟩)
  ·exact .inl (.inl (.inl h))
  rcases F8.1 j with rfl|j
  ·exact h.elim (fun h=>.inl (.inl (.inr h))) fun h=>.inl (.inr h)
  exact .inr ⟨y,j,h⟩
def Dl.lists {l:List AQ} (hs:Dl l):∀e∈l,e.bM.length≤40∧e.bK.length≤40:=fun e j=>⟨(hs e j).prev,(hs e j).auth⟩
def aiJ {l:List AQ} {i:Nat} (h:i<l.length):(l.take (i+1)).foldl (fun r e=>e.bK.foldl put (e.bM.foldl put r)) ([]:List Int)=l[i].bK.foldl put (l[i].bM.foldl put ((l.take i).foldl (fun r e=>e.bK.foldl put (e.bM.foldl put r)) [])):=by
 rw[Uh,Dj h,TA,V6];rfl
def apZ (l:List AQ) (hl:l.length≤1000) (hs:Dl l):aBI l=some (Zj l):=by
 unfold aBI acF;refine eX.eq (Jy l.length (fuel_lt AB) (fun i a=>a=(l.take i).foldl (fun r e=>e.bK.foldl put (e.bM.foldl put r)) []) rfl (fun i a k hi ha q=>?_) fun a k ha=>?_)
 ·subst ha;obtain⟨u,j,_⟩:=aBa (l.take i) [] .nil fun e z=>hs.lists e (nT z);have m:=hs.lists l[i] (EU hi);unfold aOz;rw[dec_lt hi,BZ,akL hi k _ u (by rw[Fr]at j;simp only[NK]at j;omega) m.1 m.2,wrap_succ i AB];exact q _ (aiJ hi).symm
 unfold aOz;rw[DV];refine .ret ?_;rw[ha,Gm];rfl
def aew {l:List AQ} (hs:Dl l):(Zj l).length≤l.length*80:=by
 have :=(aBa l [] .nil hs.lists).2.1;unfold Zj;simpa using this
def adZ {l:List AQ} (hs:Dl l) {x:Int}:x∈Zj l↔∃e∈l,x∈e.bM∨x∈e.bK:=by
 have :=(aBa l [] .nil hs.lists).2.2 x;unfold Zj;rw[this];simp
def arH {l:List AQ}:ZC l=true↔∀e∈l,(∀x∈e.bM,dQ l x=true)∧∀x∈e.bK,dQ l x=true:=by
 unfold ZC WB;simp only[Ea,DT]
def akO (l:List AQ) (hl:l.length≤1000) (hs:Dl l):aGH l=some (ZC l):=by
 have L:=aew hs;unfold aGH;rw[apZ l hl hs,Aa,aJE l _ hl AB,Aa];refine BL some ?_;rw[Qm,arH];constructor
 ·intro h e m;have q:XT l (Zj l)=[]:=H9 aPO
  have key:∀x,x∈e.bM∨x∈e.bK→dQ l x=true:=fun x j=>by
   cases z:dQ l x with
   |true=>rfl
   |false=>have :=aPj.2 ⟨(adZ hs).2 ⟨e,m,j⟩,z⟩;rw[q]at this;cases this
  exact⟨fun x j=>key x (.inl j),fun x j=>key x (.inr j)⟩
 intro h
 have q:XT l (Zj l)=[]:=List.eq_nil_iff_forall_not_mem.2 fun x j=>by
  obtain⟨I,u⟩:=aPj.1 j;obtain⟨e,m,J⟩:=(adZ hs).1 I;rw[J.elim ((h e m).1 x) ((h e m).2 x)]at u;cases u
 rw[q];rfl
def lM (l:List AQ):Prop:=∀e∈l,1≤e.Depth∧e.Depth≤100000
def Gx (l:List AQ) (x:Int):Int:=(Gg l x).1.Depth
def VI (l:List AQ) (e:AQ):Bool:=e.bK.all (fun x=>decide (Gx l x<e.Depth))&&bif (e.bM.length:Int)==0 then e.Depth==1 else e.bM.all (fun x=>decide (Gx l x<e.Depth))&&e.bM.any fun x=>Gx l x==e.Depth-1
def TF (l:List AQ):Int:=bif ZC l then bif l.all (VI l)then 0 else 15 else 14
def ac6 {l:List AQ} (h:lM l) (x:Int):0≤Gx l x∧Gx l x≤100000:=by
 unfold Gx Gg;cases j:EC l x with
 |none=>exact⟨Int.le_refl 0,BU⟩
 |some e=>have :=h e (QH j);exact⟨by show 0≤e.Depth;omega,this.2⟩
def aIC (a b:Int):decide (a≥b)= !decide (a<b):=by by_cases h:a<b<;>simp[h];omega
def sS {α:Type} (l:List α) (p:α→Bool):l.any (fun x=> !p x)= !l.all p:=by rw[List.all_eq_not_any_not,qB]
def aq0 (l:List AQ) (e:AQ) (hl:l.length≤1000) (L:Gl e) (hd:lM l) (M:1≤e.Depth∧e.Depth≤100000):zJ l e=some (VI l e):=by
 have h1:=L.prev;have h2:=L.auth;have w:Am (e.Depth-1)=e.Depth-1:=Po AB AB
 have u:aGb e l ((e.bM.length:Int)==0) 0=some (bif (e.bM.length:Int)==0 then true else e.bM.all (fun x=>decide (Gx l x<e.Depth))&&e.bM.any fun x=>Gx l x==e.Depth-1):=by
  unfold aGb;refine eX.eq (Jy e.bM.length (fuel_lt AB) (fun i a=>(∀j,(q:j<i)→(hl:j<e.bM.length)→decide (Gx l e.bM[j]<e.Depth)=true)∧a=(((e.bM.length:Int)==0)||(e.bM.take i).any fun x=>Gx l x==e.Depth-1)) ⟨fun j q=>AB,BP⟩ (fun i a k hi ha O=>?_) fun a k ha=>?_)
  ·have U:((e.bM.length:Int)==0)=false:=by simp;intro Y;rw[Y]at hi;simp at hi
   unfold aCy;rw[Ce hi,MH l _ AB,Aa,aIC];refine eX.bif (fun m=>.ret ?_) fun m=>?_
   ·have m:decide (Gx l e.bM[i]<e.Depth)=false:=by unfold Gx;simpa using m
    rw[U,ZO (EU hi) m];rfl
   have m:decide (Gx l e.bM[i]<e.Depth)=true:=by unfold Gx;simpa using m
   rw[show(bif a then some true else some ((Gg l e.bM[i]).1.Depth==Am (e.Depth-1)))=some (a||(Gx l e.bM[i]==e.Depth-1)) by rw[w];cases a<;>rfl,Aa,wrap_succ i AB];refine O _ ⟨fun j q z=>?_,?_⟩
   ·by_cases Z:j=i
    ·subst Z;exact m
    exact ha.1 j AB z
   rw[ha.2,Uh,Dj hi,TA,aJ5,Bool.or_assoc];simp
  unfold aCy;rw[Dq];refine .ret ?_;rw[ha.2,Gm,all_good fun j q=>ha.1 j q q];cases((e.bM.length:Int)==0)<;>simp
 unfold zJ
 have I:aNV e l 0=some (e.bK.all (fun x=>decide (Gx l x<e.Depth))&&(bif (e.bM.length:Int)==0 then true else e.bM.all (fun x=>decide (Gx l x<e.Depth))&&e.bM.any fun x=>Gx l x==e.Depth-1)):=by
  unfold aNV;rw[Gz e.bK (fuel_lt AB) (fun x=> !decide (Gx l x<e.Depth)) false (aGb e l ((e.bM.length:Int)==0) 0)]
  ·rw[u,sS];cases e.bK.all (fun x=>decide (Gx l x<e.Depth))<;>rfl
  ·intro k i hi;unfold aD6;rw[Ce hi,MH l _ AB,Aa,aIC];rfl
  intro k;unfold aD6;rw[Dq]
 rw[I];unfold VI;have J:(e.Depth != 1)= !(e.Depth==1):=rfl;rw[J];cases((e.bM.length:Int)==0)<;>cases(e.Depth==1)<;>cases e.bK.all (fun x=>decide (Gx l x<e.Depth))<;>rfl
def aMa {l:List AQ} {m:List (Int×Int)} (h:Xi l m) {x:Int} (j:dQ l x=true):∃e,Ai l ((D6 m x).getD 0)=some e∧e.Depth=Gx l x:=⟨_,h.get (LZ j).1,rfl⟩
def apS (p:List Int) (f:Int→Int) (d a:Int) (j:∃y∈p,f y=a) (ha:∀y∈p,f y≤a):(p.all (fun x=>decide (f x<d))&&p.any fun x=>f x==d-1)=bif decide (d>a)then d-a==1 else false:=by
 obtain⟨y,j,e⟩:=j;by_cases h:d>a
 ·have u:p.all (fun x=>decide (f x<d))=true:=Ea.2 fun x m=>by have :=ha x m;simp;omega
  rw[u,GK,JI h,BZ,Qm,IJ];constructor
  ·rintro⟨x,m,q⟩;have :=ha x m;have :=eq_of_beq q;simp;omega
  intro q;have :=eq_of_beq q;exact⟨y,j,Dz⟩
 rw[Jh h,BM,ZO j Dz];rfl
def akT (l:List AQ) (m:List (Int×Int)) (e:AQ) (O:Xi l m) (Z:Gl e) (J:WB l e=true) (hd:lM l) (hde:1≤e.Depth∧e.Depth≤100000):aCl l m e=some (VI l e,m):=by
 have h1:=Z.prev;have h2:=Z.auth;unfold WB at J;simp only[DT,Ea]at J;unfold aCl aa7;rw[Gz e.bK (fuel_lt AB) (fun x=> !decide (Gx l x<e.Depth)) (false,m) (some ((bif (e.bM.length:Int)==0 then e.Depth==1 else e.bM.all (fun x=>decide (Gx l x<e.Depth))&&e.bM.any fun x=>Gx l x==e.Depth-1),m))]
 ·rw[sS];unfold VI;cases e.bK.all (fun x=>decide (Gx l x<e.Depth))<;>rfl
 ·intro k i hi;unfold aOH;obtain⟨x,U,q⟩:=aMa O (J.2 _ (EU hi));rw[Ce hi,U,Aa,aIC,q]
 intro k;unfold aOH;rw[Dq];cases u:((e.bM.length:Int)==0)with
 |true=>rfl
 |false=>
  have Y:0<e.bM.length:=by
   rcases Yp e.bM.length with h|h
   ·rw[h]at u;cases u
   exact h
  obtain⟨x,U,q⟩:=aMa O (J.1 _ (EU Y));have g0:Ai e.bM 0=some e.bM[0]:=CV (i:=0) Y;rw[BM,BM,g0,Aa,U,Aa,q];unfold ab9;refine eX.eq (Jy e.bM.length (fuel_lt AB) (fun i a=>(0≤a∧a≤100000)∧(∃y∈e.bM,Gx l y=a)∧∀y∈e.bM.take i,Gx l y≤a) ⟨ac6 hd _,⟨_,EU Y,rfl⟩,fun y L=>by simp at L⟩ (fun i a k2 hi ha hk=>?_) fun a k2 ha=>?_)
  ·unfold aIS;obtain⟨y,L,I⟩:=aMa O (J.1 _ (EU hi));have hb:=ac6 hd e.bM[i];rw[Ce hi,L,Aa,wrap_succ i AB,I]
   have M:RI a (Gx l e.bM[i])=a∧Gx l e.bM[i]≤a∨RI a (Gx l e.bM[i])=Gx l e.bM[i]∧a≤Gx l e.bM[i]:=by
    unfold RI;by_cases h:Gx l e.bM[i]>a
    ·rw[JI h];exact .inr ⟨rfl,AB⟩
    rw[Jh h];exact .inl ⟨rfl,AB⟩
   refine hk _ ⟨AB,?_,fun z u=>?_⟩
   ·rcases M with h|h
    ·rw[h.1];exact ha.2.1
    rw[h.1];exact⟨_,EU hi,rfl⟩
   rw[Uh,Dj hi,TA,Gw,IK]at u;rcases u with u|rfl
   ·have :=ha.2.2 z u;omega
   omega
  obtain⟨hb,⟨y,L,I⟩,j⟩:=ha;rw[Gm]at j;unfold aIS;rw[Dq,Po AB AB,apS e.bM (Gx l) e.Depth a ⟨y,L,I⟩ j];cases decide (e.Depth>a)<;>exact .ret rfl
def aog (l:List AQ) (hl:l.length≤100) (hs:Dl l) (hd:lM l):aGI l=some (TF l):=by
 unfold aGI TF;rw[ag1 l hl hs,Aa];cases L:ZC l with
 |false=>rfl
 |true=>
  have M:∀e∈l,WB l e=true:=Ea.1 L;refine eX.eq ((aEw l AB).bind fun m O=>?_);unfold aSu;refine Y3 (body:=aOZ l) (Q:=fun b=>b=bif l.all (VI l)then 0 else 15) (fun n a b=>∃i:Nat,a=i∧i+n=l.length∧b=m∧∀j,(u:j<i)→(hl:j<l.length)→VI l l[j]=true) ?_ Aj l.length 0 m (fuel_lt AB) ⟨0,rfl,AB,rfl,fun j u=>AB⟩;rintro n a b k ⟨i,rfl,Y,rfl,I⟩ U;unfold aOZ;by_cases hi:i<l.length
  ·have q:=EU hi;rw[Ce hi,akT l b l[i] O (hs _ q) (M _ q) hd (hd _ q),Aa];cases J:VI l l[i]with
   |false=>exact .ret (by rw[ZO q J];rfl)
   |true=>
    refine U (n-1) _ _ AB ⟨i+1,wrap_succ i AB,AB,rfl,fun j u z=>?_⟩;by_cases e:j=i
    ·subst e;exact J
    exact I j AB z
  have :i=l.length:=AB
  subst this;rw[Dq];exact .ret (by rw[all_good fun j u=>I j u u];rfl)
def ame (l:List AQ) (hl:l.length≤100) (hs:Dl l) (hd:lM l):aED l=some (TF l):=by
 unfold aED TF;rw[akO l AB hs,Aa];cases L:ZC l with
 |false=>rfl
 |true=>
  show aMl l 0=_;unfold aMl;refine eX.eq (eL l.length (fuel_lt AB) (fun i=>∀j,(q:j<i)→(hl:j<l.length)→VI l l[j]=true) (fun j q=>AB) (fun i k hi u J=>?_) fun k u=>?_)
  ·have m:=EU hi;unfold aKg;rw[Ce hi,aq0 l l[i] AB (hs _ m) hd (hd _ m),Aa,wrap_succ i AB];cases I:VI l l[i]with
   |false=>exact .ret (by rw[ZO m I];rfl)
   |true=>
    refine J fun j q z=>?_;by_cases e:j=i
    ·subst e;exact I
    exact u j AB z
  unfold aKg;rw[DV];exact .ret (by rw[all_good fun j q=>u j q q];rfl)
section
variable {α β R : Type} {lt : α → α → Bool}
def Ju (lt:α→α→Bool) (A:List α) (x:α):List α:=(A.reverse.dropWhile (lt x)).reverse++x::(A.reverse.takeWhile (lt x)).reverse
def aU8 {A:List α} {a x:α} (h:lt x a=true):Ju lt (A++[a]) x=Ju lt A x++[a]:=by
 unfold Ju;rw[aNm,List.reverse_singleton,List.singleton_append,aUM h,List.takeWhile_cons_of_pos h,List.reverse_cons,Ht];rfl
def aSz {A:List α} {a x:α} (h:lt x a=false):Ju lt (A++[a]) x=A++a::[x]:=by
 have h':¬lt x a=true:=by rw[h];simp
 unfold Ju;rw[aNm,List.reverse_singleton,List.singleton_append,abG h',List.takeWhile_cons_of_neg h'];simp
def aeP (A:List α) (x:α):(Ju lt A x).length=A.length+1:=by
 unfold Ju;have :=BL List.length (yT (p:=lt x) (l:=A.reverse));simp only[EP,List.length_reverse,GI]at this ⊢;omega
def aSR (A:List α) (x:α):(Ju lt A x).Perm (x::A):=by
 unfold Ju;refine aAB.trans (List.Perm.cons x ?_);rw[←aNm,yT,List.reverse_reverse]
def am0 {lt':β→β→Bool} {f:α→β} (h:∀x a,lt x a=lt' (f x) (f a)) (A:List α) (x:α):(Ju lt A x).map f=Ju lt' (A.map f) (f x):=by
 have e:lt x=lt' (f x)∘f:=funext fun a=>h x a;unfold Ju;have j:(A.map f).reverse=A.reverse.map f:=aPK.symm;rw[j,List.dropWhile_map,List.takeWhile_map,JM,LC,aPK,aPK,e]
def aRX {lt':β→β→Bool} {f:α→β} (h:∀x a,lt x a=lt' (f x) (f a)):∀(l A:List α),(l.foldl (Ju lt) A).map f=(l.map f).foldl (Ju lt') (A.map f)
 | [],A=>rfl
 |x::l,A=>by rw[FZ,aRX h l,LC,FZ,am0 h]
def aHD :∀(l A:List α),(l.foldl (Ju lt) A).length=A.length+l.length
 | [],A=>rfl
 |x::l,A=>by rw[FZ,aHD l,aeP,GI];omega
def aT6 :∀(l A:List α),(l.foldl (Ju lt) A).Perm (A++l)
 | [],A=>by rw[PS];exact .refl _
 |x::l,A=>by
  rw[FZ];exact(aT6 l (Ju lt A x)).trans (((aSR A x).append_right l).trans (aAB (l₁:=A) (l₂:=l) (a:=x)).symm)
def aHH (A:List α) (x:α) (B:List α):Ai (A++x::B) (A.length:Int)=some x:=by rw[qC];simp
def aMr (A:List α) (a x:α) (B:List α):Ai (A++a::x::B) ((A.length+1:Nat):Int)=some x:=by rw[qC];simp
def set_mid (A:List α) (x y:α) (B:List α):(A++x::B).set A.length y=A++y::B:=BP
def aQm (A:List α) (a x y:α) (B:List α):(A++a::x::B).set (A.length+1) y=A++a::y::B:=by
 have :=set_mid (A++[a]) x y B;simpa using this
def bubble {body:(Int→List α→Option R)→Int→List α→Option R} (j:List α→Option R) (N:Nat) (U:∀k x B,(x::B).length=N→body k 0 (x::B)=j (x::B))
 (hs:∀k A a x B,(A++a::x::B).length=N→body k ((A.length+1:Nat):Int) (A++a::x::B)=bif lt x a then k (A.length:Int) (A++x::a::B)else j (A++a::x::B)):
 ∀n (A:List α) (x:α) (B:List α),A.length=n→(A++x::B).length=N→∀m,n<m→aU body m (A.length:Int) (A++x::B)=j (Ju lt A x++B):=by
 intro n
 induction n with
 |zero=>
  intro A x B I J m Y;obtain⟨m,rfl⟩:∃L,m=L+1:=⟨m-1,AB⟩
  obtain rfl:=H9 I;exact U _ x B J
 |succ n Z=>
  intro A x B I J m Y;obtain⟨m,rfl⟩:∃L,m=L+1:=⟨m-1,AB⟩
  have q:A≠[]:=fun e=>by subst e;cases I
  obtain⟨A',a,rfl⟩:∃A' a,A=A'++[a]:=⟨A.dropLast,A.getLast q,(List.dropLast_concat_getLast q).symm⟩
  have M:A'.length=n:=Qr
  have O:A'++[a]++x::B=A'++a::x::B:=BP
  have u:(A'++a::x::B).length=N:=by rw[←O];exact J
  have e2:(A'++[a]).length=A'.length+1:=BP
  rw[O,e2];show body (aU body m) _ _=_;rw[hs _ A' a x B u];cases z:lt x a with
  |true=>
   rw[BZ,Z A' x (a::B) M (by simp at u ⊢;omega) m AB,aU8 z];simp
  |false=>rw[BM,aSz z];simp
end
def Hy (a b:AQ):Bool:=decide (a.Depth<b.Depth)||((a.Depth==b.Depth)&&decide (a.Id<b.Id))
def Tt (l:List AQ):List AQ:=l.foldl (Ju Hy) []
def P8 (l:List AQ):List Int:=(Tt l).map (·.Id)
def pW (l:List AQ):(Tt l).length=l.length:=by unfold Tt;rw[aHD];simp
def yK (l:List AQ):(Tt l).Perm l:=by have :=aT6 (lt:=Hy) l [];rwa [IV]at this
def apU (a b:AQ):aDn a b=some (Hy a b):=by
 unfold aDn Hy;cases decide (a.Depth<b.Depth)<;>cases(a.Depth==b.Depth)<;>rfl
def aN9 {α β:Type} {f:β→α→β} {b:β} {l:List α} {i:Nat} (h:i<l.length):(l.take (i+1)).foldl f b=f ((l.take i).foldl f b) l[i]:=by
 rw[Uh,Dj h,TA,V6];rfl
def map_take {α β:Type} {f:α→β} {l:List α} {i:Nat} (h:i<l.length):(l.take (i+1)).map f=(l.take i).map f++[f l[i]]:=by
 rw[Uh,Dj h,TA,JM];rfl
def arS (l:List AQ) (hl:l.length≤1000000):aDe l=some (l.map (·.Id)):=by
 unfold aDe aRq;refine eX.eq (Jy l.length (fuel_lt AB) (fun i a=>a=(l.take i).map (·.Id)) rfl (fun i a k hi ha j=>?_) fun a k ha=>?_)
 ·unfold aOt;have hlen:a.length≤i:=mY
  rw[Ce hi,Dk G7,Aa,wrap_succ i AB];exact j _ aHB
 unfold aOt;rw[Dq];exact .ret oZ
def aTd (l:List AQ) (hl:l.length≤1000):vV l=some (P8 l):=by
 unfold vV aVC;refine eX.eq (Jy l.length (fuel_lt AB) (fun i a=>a=(l.take i).foldl (Ju Hy) []) rfl (fun i a k hi ha q=>?_) fun a k ha=>?_)
 ·have hlen:a.length=i:=by rw[ha,aHD,Fr];simp;omega
  unfold aLn;rw[Ce hi,Dk G7,Aa];unfold ae5;have j:=bubble (lt:=Hy) (body:=aE8 k (i:Int)) (fun v=>k v ((i+1:Nat):Int)) (i+1) (fun k2 x B m=>?_) (fun k2 A b x B m=>?_) i a l[i] [] hlen Dz Aj (fuel_lt AB)
  ·rw[hlen]at j;rw[j,PS];exact q _ (by rw[aN9 hi,ha])
  ·unfold aE8 zI;rw[wrap_succ i AB];rfl
  have z:A.length+2≤i+1:=by rw[←m];simp
  have u:Am (((A.length+1:Nat):Int)-1)=(A.length:Int):=QY
  unfold aE8 zI;rw[JI (show((A.length+1:Nat):Int)>0 by omega),BZ,aMr,Aa,u,aHH,Aa,apU,Aa,wrap_succ i AB];cases Hy x b with
  |false=>rfl
  |true=>
   simp only[BZ,Aa,Xl];rw[aQm,aHH,Aa,set_mid]
 unfold aLn;rw[DV,BM];have e:a=Tt l:=by rw[ha,Gm];rfl
 rw[e,arS _ (by rw[pW];omega)];exact .ret rfl
def qm (e:AQ):SC:=⟨e.Depth,e.Id⟩
def kX (a b:SC):Bool:=decide (a.pJ<b.pJ)||((a.pJ==b.pJ)&&decide (a.nU<b.nU))
def akU (a x:SC):(bif decide (a.pJ<x.pJ)then some true else(bif (a.pJ==x.pJ)then some (decide (a.nU≤x.nU))else some false).bind fun j=>some j)=some (!kX x a):=by
 unfold kX;by_cases m:a.pJ<x.pJ
 ·rw[JI m,BZ,Jh AB,show(x.pJ==a.pJ)=false by simp;omega];rfl
 rw[Jh m,BM];by_cases q:a.pJ=x.pJ
 ·rw[q,Jh (show ¬x.pJ<x.pJ by omega)];simp only[Pn,BZ,Aa,NM,GK];by_cases u:a.nU≤x.nU
  ·rw[JI u,Jh AB];rfl
  rw[Jh u,JI AB];rfl
 rw[show(a.pJ==x.pJ)=false by simpa using q,JI (show x.pJ<a.pJ by omega)];rfl
def ao2 (l:List AQ) (hl:l.length≤1000):aEQ l=some (P8 l):=by
 have J:JV 16 zo 0 (l.length:Int)=some []:=by unfold JV;rw[D9 ⟨Int.le_refl _,AB,AB⟩];rfl
 unfold aEQ;rw[J,Aa];unfold aTw;refine eX.eq (Jy l.length (fuel_lt AB) (fun i a=>a=((l.take i).map qm).foldl (Ju kX) []) rfl (fun i a k hi ha L=>?_) fun a k ha=>?_)
 ·have hlen:a.length=i:=by rw[ha,aHD,Cm,Fr];simp;omega
  unfold aKR;rw[Ce hi,CV hi,Aa,Dk G7,Aa];unfold aSd;have M:Am (((a++[(⟨l[i].Depth,l[i].Id⟩:SC)]).length:Int)-1)=(a.length:Int):=aMQ
  rw[M];have O:=bubble (lt:=kX) (body:=qE k (i:Int)) (fun v=>k v ((i+1:Nat):Int)) (i+1) (fun k2 x B q=>?_) (fun k2 A b x B q=>?_) i a (qm l[i]) [] hlen Dz Aj (fuel_lt AB)
  ·show eX (aU (qE k (i:Int)) Aj (a.length:Int) (a++[qm l[i]])) _;rw[O,PS];exact L _ (by rw[map_take hi,V6,ha];rfl)
  ·unfold qE wS;rw[wrap_succ i AB];rfl
  have hA:A.length+2≤i+1:=by rw[←q];simp
  have U:Am (((A.length+1:Nat):Int)-1)=(A.length:Int):=QY
  unfold qE wS;rw[JI (show((A.length+1:Nat):Int)>0 by omega),BZ,U,aHH,Aa,aMr,Aa,akU,Aa,wrap_succ i AB];cases kX x b with
  |false=>rfl
  |true=>
   simp only[EL,BM,BZ,Aa,Xl];rw[set_mid,aMr,Aa,aQm]
 unfold aKR;rw[Dq];have e:a=(Tt l).map qm:=by rw[ha,Gm];exact(aRX (lt:=Hy) (lt':=kX) (f:=qm) (fun _ _=>rfl) l []).symm
 have Y:a.length=l.length:=by rw[e,Cm,pW]
 have Z:JV 8 0 (a.length:Int) (a.length:Int)=some (List.replicate a.length (0:Int)):=by unfold JV;rw[D9 ⟨AB,Int.le_refl _,AB⟩];simp
 have e2:P8 l=a.map (·.nU):=by rw[e,zU];rfl
 rw[Z,Aa,e2];unfold aUc;refine Ul (body:=aLP a) (Q:=fun r=>r=a.map (·.nU)) (fun n (x:Int) (o:List Int) (p:List SC)=>∃i:Nat,x=i∧i+n=a.length∧o=(a.take i).map (·.nU)++List.replicate (a.length-i) 0∧p=a) ?_ Aj a.length 0 (List.replicate a.length 0) a (fuel_lt AB) ⟨0,rfl,AB,BP,rfl⟩;rintro n x o p k2 ⟨i,rfl,hn,u,rfl⟩ m;unfold aLP;by_cases hi:i<p.length
 ·have I:((p.take i).map (·.nU)).length=i:=by rw[Cm,Fr];omega
  obtain⟨z,hz⟩:∃z,p.length-i=z+1:=⟨p.length-i-1,AB⟩
  have j:o=(p.take i).map (·.nU)++0::List.replicate z 0:=by rw[u,hz,List.replicate_succ]
  have g2:Ai o (i:Int)=some 0:=by have :=aHH ((p.take i).map (·.nU)) 0 (List.replicate z 0);rw[I]at this;rw[j];exact this
  have s2:o.set i p[i].nU=(p.take i).map (·.nU)++p[i].nU::List.replicate z 0:=by have :=set_mid ((p.take i).map (·.nU)) 0 p[i].nU (List.replicate z 0);rw[I]at this;rw[j];exact this
  rw[Ce hi,g2,Aa];refine m (n-1) _ _ _ AB ⟨i+1,wrap_succ i AB,AB,?_,rfl⟩;rw[Xl,s2,map_take hi,show p.length-(i+1)=z by omega];simp
 have :i=p.length:=AB
 subst this;rw[Dq];exact .ret (by rw[u];simp)
def aK1 {α:Type} {p:α→Bool} {l:List α} {i:Nat} (h:i<l.length):(l.take (i+1)).filter p=(l.take i).filter p++bif p l[i]then[l[i]]else[]:=by
 rw[Uh,Dj h,TA,Q7];cases j:p l[i]<;>simp[j]
def aP0 {α:Type} {p:α→Bool} {l:List α} {i:Nat} (h:i<l.length):(l.take (i+1)).any p=((l.take i).any p||p l[i]):=by
 rw[Uh,Dj h,TA,aJ5];simp
def SE (x y:AQ):Bool:=y.Kind==x.Kind&&decide (y.Key=x.Key)
def Ji (m:List Aq):List AQ→List AQ→Bool
 |_,[]=>true
 |j,x::xs=>(m.any fun k=>EX k x)&& !j.any (SE x)&&Ji m (j++[x]) xs
def PW (x:AQ):Bool:=x.Kind==1&&decide (x.Key=Bv)
def Px (l:List AQ) (e:AQ):Int:=
 bif !e.bK.all (dQ l)then 14 else bif !(ofIds l e.bK).all (fun x=>decide (x.Room=e.Room))then 13
 else bif Ji (keysOf e) [] (ofIds l e.bK)&&(e.Kind==1||(ofIds l e.bK).any PW)then 0 else 16
def dn {k:Aq} {x:AQ}:EX k x=true↔x.Kind=k.Kind∧x.Key=k.Key:=by unfold EX;simp
def aSS {x y:AQ}:SE x y=true↔y.Kind=x.Kind∧y.Key=x.Key:=by unfold SE;simp
def aQW {j:List Aq} {X:List AQ} {i:Nat} (h:i<X.length):Ji j (X.take i) (X.drop i)=((j.any fun k=>EX k X[i])&& !(X.take i).any (SE X[i])&&Ji j (X.take (i+1)) (X.drop (i+1))):=by
 rw[La h,Uh,Dj h];rfl
def aVp {j:List Aq} (X:List AQ):Ji j (X.take X.length) (X.drop X.length)=true:=by rw[PK];rfl
def aTL (X:List AQ) (k:Int) (key:ByteArray) (h:X.length≤1000):Xu (X.map fun x=>(⟨x.Kind,x.Key,0⟩:Aq)) k key=some (X.any fun y=>y.Kind==k&&decide (y.Key=key)):=by
 unfold Xu aKJ;rw[Gz (X.map fun x=>(⟨x.Kind,x.Key,0⟩:Aq)) (fuel_lt VA) (fun y=>y.Kind==k&&decide (y.Key=key)) true (some false)]
 ·rw[List.any_map];show(bif X.any (fun y=>y.Kind==k&&decide (y.Key=key))then some true else some false)=_;cases X.any (fun y=>y.Kind==k&&decide (y.Key=key))<;>rfl
 ·intro q i hi;unfold pF;rw[Ce hi,CV hi,Aa,IZ];cases((X.map fun x=>(⟨x.Kind,x.Key,0⟩:Aq))[i].Kind==k)<;>rfl
 intro q;unfold pF;rw[DV];rfl
def arb (j:List Aq) (x:AQ) (h:j.length≤1000):Xu j x.Kind x.Key=some (j.any fun k=>EX k x):=by
 unfold Xu aKJ;rw[Gz j (fuel_lt AB) (fun k=>EX k x) true (some false)]
 ·cases j.any (fun k=>EX k x)<;>rfl
 ·intro q i hi;unfold pF;rw[Ce hi,CV hi,Aa,IZ];have m:(j[i].Kind==x.Kind)=(x.Kind==j[i].Kind):=by rw[Qm,Qo,Qo];exact eq_comm
  have u:decide (j[i].Key=x.Key)=decide (x.Key=j[i].Key):=lC.2 eq_comm;unfold EX;rw[m,u];cases(x.Kind==j[i].Kind)<;>rfl
 intro q;unfold pF;rw[DV];rfl
def asQ (X:List AQ) (e:AQ) (O:X.length≤40):aPb X (keysOf e) e [] 0=some (bif Ji (keysOf e) [] X&&(e.Kind==1||X.any PW)then 0 else 16):=by
 have I:=XA e;unfold aPb;refine eX.eq (Jy X.length (fuel_lt AB) (fun i a=>a=(X.take i).map (fun x=>(⟨x.Kind,x.Key,0⟩:Aq))∧Ji (keysOf e) [] X=Ji (keysOf e) (X.take i) (X.drop i)) ⟨rfl,rfl⟩ (fun i a k hi ha J=>?_) fun a k ha=>?_)
 ·obtain⟨rfl,j⟩:=ha;unfold aJq;rw[Ce hi,CV hi,Aa,arb _ _ AB,Aa];rw[aQW hi]at j
  have q:∀b,Ji (keysOf e) [] X=(!b&&Ji (keysOf e) (X.take (i+1)) (X.drop (i+1)))→eX (yO X (i:Int) ((X.take i).map fun x=>(⟨x.Kind,x.Key,0⟩:Aq)) k b) (· =bif Ji (keysOf e) [] X&&(e.Kind==1||X.any PW)then 0 else 16):=fun b u=>by
   unfold yO;cases b with
   |true=>exact .ret qZ
   |false=>
    simp only[BM];rw[CV hi,Aa,Aa,Dk (by simp only[OV,Cm,Fr];omega),Aa,wrap_succ i AB];exact J _ ⟨by rw[map_take hi],qZ⟩
  cases z:(keysOf e).any fun k=>EX k X[i]with
  |false=>
   rw[Io,BZ];exact q true (by rw[j,z];rfl)
  |true=>
   rw[EL,BM];have L:(fun y:AQ=>y.Kind==X[i].Kind&&decide (y.Key=X[i].Key))=SE X[i]:=rfl;rw[Aa,Aa,aTL _ _ _ (by rw[Fr];omega),Aa,L];exact q _ (by rw[j,z,GK])
 obtain⟨rfl,j⟩:=ha;rw[aVp]at j;unfold aJq;rw[DV,BM,Gm,j,aTL _ _ _ AB];have M:(X.any fun y=>y.Kind==1&&decide (y.Key=Bv))=X.any PW:=rfl;rw[M];have m:(e.Kind != 1)= !(e.Kind==1):=rfl;rw[m];cases e.Kind==1<;>cases X.any PW<;>exact .ret rfl
def aoH (X:List AQ) (e:AQ) (j:X.length≤40):aKp X e 0=some (bif !X.all (fun x=>decide (x.Room=e.Room))then 13 else bif Ji (keysOf e) [] X&&(e.Kind==1||X.any PW)then 0 else 16):=by
 unfold aKp;rw[Gz X (fuel_lt AB) (fun x=> !decide (x.Room=e.Room)) 13 (some (bif Ji (keysOf e) [] X&&(e.Kind==1||X.any PW)then 0 else 16))]
 ·rw[sS];cases X.all (fun x=>decide (x.Room=e.Room))<;>rfl
 ·intro k i hi;unfold aOj;rw[Ce hi,IZ]
 intro k;unfold aOj;rw[Dq,aMu,Aa,asQ X e j]
def aiF (l:List AQ) (e:AQ) (hl:l.length≤100) (j:Gl e):aBi l e=some (Px l e):=by
 have m:=j.auth;have q:=dc l e.bK;unfold aBi aSU Px;rw[Gz e.bK (fuel_lt AB) (fun x=> !dQ l x) 14 (some (bif !(ofIds l e.bK).all (fun x=>decide (x.Room=e.Room))then 13 else bif Ji (keysOf e) [] (ofIds l e.bK)&&(e.Kind==1||(ofIds l e.bK).any PW)then 0 else 16))]
 ·rw[sS];cases e.bK.all (dQ l)<;>rfl
 ·intro k i hi;unfold aKw;rw[Ce hi,MH l _ AB,Aa,O5];rfl
 intro k;unfold aKw;rw[DV,BM,aCa l _ AB AB,Aa,aoH _ e AB]
def atN (k:Aq) (e:AQ):Vj (JF k) e=some (EX k e):=by
 unfold Vj EX JF;cases h:(e.Kind==k.Kind)with
 |false=>rfl
 |true=>show some (e.Key.toList==k.Key.toList)=_;rw[IZ,GK]
def amk (j:List Aq) (x:AQ) (h:j.length≤100):aE4 (j.map JF) x=some (if j.findIdx (fun k=>EX k x)<j.length then((j.findIdx (fun k=>EX k x):Nat):Int)else -1):=by
 unfold aE4 aUI
 have q:∀k (i:Nat),i<j.length→aFS (j.map JF) x k (i:Int)=bif EX (j.getD i ⟨0,Bv,0⟩) x then some (i:Int)else k (Am ((i:Int)+1)):=fun k i hi=>by
  unfold aFS;have m:i<(j.map JF).length:=aNY
  rw[Ce m,QI];show((Vj (JF j[i]) x).bind _)=_;rw[atN,Aa];simp[List.getD,hi]
 rw[JC j (fuel_lt AB) (fun k=>EX k x) (fun i=>some (i:Int)) (some (-1))]
 ·split<;>rfl
 ·intro k i hi;rw[q k i hi];simp[List.getD,hi]
 intro k;unfold aFS;rw[show((j.map JF).length:Int)=(j.length:Int) by rw[Cm],DV];rfl
def aaz {α:Type} {p:α→Bool}:∀l:List α,l.Pairwise (fun a b=>¬(p a=true∧p b=true))→l.findIdx p<l.length→l.filter (fun x=> !p x)=l.take (l.findIdx p)++l.drop (l.findIdx p+1)
 | [],_,h=>absurd h (Nat.not_lt_zero _)
 |a::l,j,h=>by
  obtain⟨m,q⟩:=PG.1 j;rw[TJ]at h ⊢;cases ha:p a with
  |true=>
   rw[List.filter_cons_of_neg (by simp[ha]),vg.2 fun b u=>by
    cases z:p b with
    |false=>rfl
    |true=>exact absurd ⟨ha,z⟩ (m b u)]
   rfl
  |false=>
   rw[ha]at h;rw[List.filter_cons_of_pos (by simp[ha]),aaz l q LJ];rfl
def abr {α:Type} {p:α→Bool}:∀l:List α,decide (l.findIdx p<l.length)=l.any p
 | []=>rfl
 |a::l=>by
  have j:=abr (p:=p) l;rw[TJ,dM,←j];cases p a<;>simp
def af0 (e:AQ):JG (keysOf e):=by
 have z:JG (LU e):=Wx (Wx (Wx List.Pairwise.nil _ _ _) _ _ _) _ _ _;unfold keysOf;cases e.Kind==1<;>cases e.Kind==2<;>cases(e.Content.N==3||e.Content.N==1||e.Content.N==2)<;>simp only[BZ,BM]
 ·exact z
 ·exact z
 ·exact Wx z _ _ _
 ·exact Wx (Wx z _ _ _) _ _ _
 all_goals exact List.Pairwise.nil
def aoh {e:AQ} {k:Aq} (h:k∈keysOf e) (m:k.Kind=1):k.Key=Bv:=by
 have z:∀x∈LU e,x.Kind=1→x.Key=Bv:=fun x j u=>by
  unfold LU at j;rcases Qg j with rfl|j
  ·cases u
  rcases Qg j with rfl|j
  ·cases u
  rcases Qg j with rfl|j
  ·rfl
  cases j
 unfold keysOf at h;cases q:e.Kind==1 with
 |true=>rw[q]at h;cases h
 |false=>
  cases I:e.Kind==2 with
  |false=>rw[q,I]at h;exact z k h m
  |true=>
   rw[q,I]at h;cases J:(e.Content.N==3||e.Content.N==1||e.Content.N==2)with
   |true=>
    rw[J]at h;rcases Qg h with rfl|h
    ·cases m
    rcases Qg h with rfl|h
    ·cases m
    exact z k h m
   |false=>
    rw[J]at h;rcases Qg h with rfl|h
    ·cases m
    exact z k h m
def aTm {q:List Aq}:∀(X j:List AQ),Ji q j X=true→∀x∈X,∃k∈q,EX k x=true
 | [],_,_,_,h=>absurd h Fe
 |y::X,j,h,x,m=>by
  unfold Ji at h;simp only[DT]at h;rcases F8.1 m with rfl|m
  ·obtain⟨k,u,z⟩:=IJ.1 h.1.1;exact⟨k,u,z⟩
  exact aTm X _ h.2 x m
def any_congr {α:Type} {l:List α} {p q:α→Bool} (h:∀x∈l,p x=q x):l.any p=l.any q:=by
 rw[Qm,IJ,IJ];exact⟨fun⟨x,j,k⟩=>⟨x,j,by rw[←h x j];exact k⟩,fun⟨x,j,k⟩=>⟨x,j,by rw[h x j];exact k⟩⟩
def ai4 (l:List AQ) (e:AQ) (hl:l.length≤100) (he:Gl e):rQ l e=some (Px l e):=by
 have h1:=he.auth;have hk5:=XA e;have hsk:=af0 e;unfold rQ aR4;refine eX.eq (Jy e.bK.length (fuel_lt AB) (fun i a=>a=ofIds l (e.bK.take i)∧∀x∈e.bK.take i,dQ l x=true) ⟨rfl,fun x U=>by simp at U⟩ (fun i a k hi ha I=>?_) fun a k ha=>?_)
 ·obtain⟨rfl,q⟩:=ha;have hal:=dc l (e.bK.take i);rw[Fr]at hal;unfold aAr;rw[Ce hi,NZ l _ AB,Aa,wrap_succ i AB];cases Y:EC l e.bK[i]with
  |none=>
   rw[Rq Y];refine .ret ?_;unfold Px;rw[ZO (EU hi) (show dQ l e.bK[i]=false by unfold dQ;rw[Y];rfl)];rfl
  |some x=>
   rw[Lh Y];simp only[EL,BM];rw[Dk G7,Aa];refine I _ ⟨?_,fun y z=>?_⟩
   ·unfold ofIds;rw[Uh,Dj hi,TA,lK,QD,Y];rfl
   rw[Uh,Dj hi,TA,Gw,IK]at z;rcases z with z|rfl
   ·exact q y z
   unfold dQ;rw[Y];rfl
 obtain⟨rfl,q⟩:=ha;rw[Gm]at q ⊢;have U:=dc l e.bK;have Z:e.bK.all (dQ l)=true:=Ea.2 q;unfold aAr;rw[Dq];unfold Px;rw[Z];simp only[EL,BM];generalize ofIds l e.bK=X at U;unfold acd;rw[Gz X (fuel_lt AB) (fun x=> !decide (x.Room=e.Room)) 13 (some (bif Ji (keysOf e) [] X&&(e.Kind==1||X.any PW)then 0 else 16))]
 ·rw[sS];cases X.all (fun x=>decide (x.Room=e.Room))<;>exact .ret rfl
 ·intro k2 i hi;unfold aDg;rw[Ce hi,IZ]
 intro k2;unfold aDg;rw[Dq,aai,Aa];unfold aQH;refine eX.eq (Ul (body:=aDX X) (Q:=(· =bif Ji (keysOf e) [] X&&(e.Kind==1||X.any PW)then 0 else 16)) (fun n b ks x=>∃i:Nat,x=i∧i+n=X.length∧ks=((keysOf e).filter fun k=> !(X.take i).any (EX k)).map JF∧b=(e.Kind==1||(X.take i).any fun x=>x.Kind==1)∧Ji (keysOf e) [] X=Ji (keysOf e) (X.take i) (X.drop i)) ?_ Aj X.length (e.Kind==1) ((keysOf e).map JF) 0 (fuel_lt AB) ⟨0,rfl,AB,by rw[aJa];exact BL (List.map JF) (vg.2 fun _ _=>rfl).symm,BP,rfl⟩);rintro n b ks x k3 ⟨i,rfl,hn,hks,hb,u⟩ hk3;unfold aDX;by_cases hi:i<X.length
 ·rw[aQW hi]at u;have hlk:((keysOf e).filter fun k=> !(X.take i).any (EX k)).length≤5:=F6 (Jq _ _) hk5;rw[Ce hi,hks,amk _ _ AB,Aa];have J:=abr (p:=fun k=>EX k X[i]) ((keysOf e).filter fun k=> !(X.take i).any (EX k))
  have L:(((keysOf e).filter fun k=> !(X.take i).any (EX k)).any fun k=>EX k X[i])=((keysOf e).any (fun k=>EX k X[i])&& !(X.take i).any (SE X[i])):=by
   rw[Qm,IJ,DT,IJ,Rn,←LK,IJ];constructor
   ·rintro⟨k,I,M⟩;obtain⟨hk1,hk2⟩:=FM.1 I;refine⟨⟨k,hk1,M⟩,?_⟩;rintro⟨y,z,hs⟩;obtain⟨m1,m2⟩:=dn.1 M;obtain⟨s1,s2⟩:=aSS.1 hs;rw[IJ.2 ⟨y,z,dn.2 ⟨s1.trans m1,s2.trans m2⟩⟩]at hk2;cases hk2
   rintro⟨⟨k,I,M⟩,hno⟩;refine⟨k,FM.2 ⟨I,?_⟩,M⟩;rw[Rn,←LK,IJ];rintro⟨y,z,hs⟩;obtain⟨m1,m2⟩:=dn.1 M;obtain⟨s1,s2⟩:=dn.1 hs;exact hno ⟨y,z,aSS.2 ⟨s1.trans m1.symm,s2.trans m2.symm⟩⟩
  rw[←L,←J]at u;by_cases m:((keysOf e).filter fun k=> !(X.take i).any (EX k)).findIdx (fun k=>EX k X[i])<((keysOf e).filter fun k=> !(X.take i).any (EX k)).length
  ·rw[D9 m,Jh AB,BM];rw[JI m,GK]at u;have hlm:(((keysOf e).filter fun k=> !(X.take i).any (EX k)).map JF).length=((keysOf e).filter fun k=> !(X.take i).any (EX k)).length:=Cm ..
   have hpw:((keysOf e).filter fun k=> !(X.take i).any (EX k)).Pairwise (fun a b=>¬(EX a X[i]=true∧EX b X[i]=true)):=by
    refine(List.Pairwise.sublist Tz hsk).imp fun{a b} hab h=>?_;obtain⟨a1,a2⟩:=dn.1 h.1;obtain⟨b1,b2⟩:=dn.1 h.2;rw[oh (WT.2 ⟨a1.symm.trans b1,a2.symm.trans b2⟩)]at hab;cases hab
   have hd:=aaz _ hpw m
   have O:((keysOf e).filter fun k=> !(X.take i).any (EX k)).filter (fun k=> !EX k X[i])=(keysOf e).filter fun k=> !(X.take (i+1)).any (EX k):=by
    rw[List.filter_filter];refine wX fun k _=>?_;rw[aP0 hi];cases(X.take i).any (EX k)<;>cases EX k X[i]<;>rfl
   rw[O]at hd;generalize((keysOf e).filter fun k=> !(X.take i).any (EX k))=K at m hd hlm hlk;generalize K.findIdx (fun k=>EX k X[i])=j at m hd;have s1:I5 (K.map JF) 0 (j:Int)=some (((K.map JF).drop 0).take (j-0)):=jT (lo:=0) (El _) AB;have s2:I5 (K.map JF) (Am ((j:Int)+1)) ((K.map JF).length:Int)=some (((K.map JF).drop (j+1)).take ((K.map JF).length-(j+1))):=by rw[wrap_succ j AB];exact jT AB (EG _)
   rw[s1,Aa,s2,Aa,Dk (by simp only[Fr,LP];omega),Aa];have hb3:(bif b then some true else(Ai X (i:Int)).bind fun x28=>some (x28.Kind==1))=some (b||X[i].Kind==1):=by rw[CV hi];cases b<;>rfl
   rw[hb3,Aa];refine hk3 (n-1) _ _ _ AB ⟨i+1,wrap_succ i AB,AB,?_,?_,u⟩
   ·rw[hd,JM,Yd,ZR,Nat.sub_zero,oJ,Ql (l:=(K.map JF).drop (j+1)) (by rw[LP];omega)]
   rw[aP0 hi,hb,Bool.or_assoc]
  rw[DL m];rw[Jh m,Bool.false_and]at u;exact .ret qZ
 have :i=X.length:=AB
 subst this;rw[aVp]at u;rw[Dq,u,hb,Gm,GK]
 have hc:(X.any fun x=>x.Kind==1)=X.any PW:=any_congr fun x U=>by
  obtain⟨k,I,M⟩:=aTm X [] u x U;obtain⟨m1,m2⟩:=dn.1 M;unfold PW;cases hq:x.Kind==1 with
  |false=>rfl
  |true=>rw[m2,aoh I (by rw[←m1];exact eq_of_beq hq)];simp
 rw[hc];cases(e.Kind==1||X.any PW)<;>exact .ret rfl
def G9 (l:List AQ) (s:List Aq):List AQ:=ofIds l (s.map (·.Id))
def Zn (l:List AQ) (s:List Aq):(G9 l s).length≤s.length:=by have :=dc l (s.map (·.Id));rwa [Cm]at this
def aFd {l:List AQ} (hs:Dl l) (ids:List Int):Dl (ofIds l ids):=fun x j=>hs x (aKB j)
def aDH {l:List AQ} {s:List Aq} {i:Nat} (h:i<s.length):G9 l (s.take (i+1))=G9 l (s.take i)++(EC l s[i].Id).toList:=by
 unfold G9 ofIds;rw[map_take h,lK,QD,List.filterMap_nil];cases EC l s[i].Id<;>rfl
def aQy (l:List AQ) (s:List Aq) (hl:l.length≤100) (h:s.length≤1000):iK l s=some (G9 l s):=by
 unfold iK zT;rw[Aa];unfold aVs;refine eX.eq (aIy (body:=aIh s) (Q:=(· =G9 l s)) (fun n a b c _ _=>∃i:Nat,b=i∧i+n=s.length∧c=l∧a=G9 l (s.take i)) ?_ Aj s.length [] 0 l [] [] (fuel_lt AB) ⟨0,rfl,AB,rfl,rfl⟩);rintro n a b c d f k ⟨i,rfl,u,rfl,ha⟩ q;unfold aIh;by_cases hi:i<s.length
 ·have m:=Zn c (s.take i);rw[Fr]at m;rw[Ce hi,NZ c _ AB,Aa,wrap_succ i AB];cases j:EC c s[i].Id with
  |none=>rw[Rq j];exact q (n-1) _ _ _ _ _ AB ⟨i+1,rfl,AB,rfl,by rw[aDH hi,j,ha];simp⟩
  |some x=>
   rw[Lh j];simp only[BZ];rw[Dk (by rw[ha];simp only[OV];omega),Aa];exact q (n-1) _ _ _ _ _ AB ⟨i+1,rfl,AB,rfl,by rw[aDH hi,j,ha];rfl⟩
 have :i=s.length:=AB
 subst this;rw[Dq];exact .ret oZ
def aSC (l:List AQ) (s:List Aq) (hl:l.length≤100) (h:s.length≤1000):zV l s=some (G9 l s):=by
 unfold zV acn;refine eX.eq (Jy s.length (fuel_lt AB) (fun i a=>a=G9 l (s.take i)) rfl (fun i a k hi ha q=>?_) fun a k ha=>?_)
 ·have m:=Zn l (s.take i);rw[Fr]at m;unfold aPX aGa;rw[Ce hi,MH l _ AB,Aa,wrap_succ i AB];cases j:EC l s[i].Id with
  |none=>rw[Rq j];exact q _ (by rw[aDH hi,j,ha];simp)
  |some x=>
   rw[Lh j];simp only[BZ];rw[Dk (by rw[ha];simp only[OV];omega),Aa];exact q _ (by rw[aDH hi,j,ha];rfl)
 unfold aPX;rw[DV];exact .ret oZ
end Go.Proofs.YtldfpencimjjlaaGreat
end
