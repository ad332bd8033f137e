/- Part 3 of what the laws' proofs lean on: states of the walk, typed functions of the program and their laws (short forms written by wip/shrink.py; no condition). -/
import Derived.Test.YtkkdimcnpacjhaaGreatRv2
set_option linter.defProp false
set_option linter.unnecessarySimpa false
set_option linter.unusedVariables false
set_option linter.unusedSimpArgs false
section
namespace Go.Proofs.YtkkdimcnpacjhaaGreat
open Go.RowKit Go.Sort
section
variable {α : Type}
def Yb (le:α→α→Bool) (x:α):List α→List α
 | []=>[x]
 |y::l=>bif le x y then x::y::l else y::Yb le x l
def P7 (le:α→α→Bool) (l:List α):List α:=l.foldr (Yb le) []
def aMS (le:α→α→Bool) (x:α):∀l,(Yb le x l).Perm (x::l)
 | []=>.refl _
 |y::l=>by
  unfold Yb;cases h:le x y with
  |true=>exact .refl _
  |false=>exact((aMS le x l).cons y).trans (.swap x y l)
def YF (le:α→α→Bool):∀l,(P7 le l).Perm l
 | []=>.refl _
 |x::l=>(aMS le x (P7 le l)).trans ((YF le l).cons x)
def aQK {le:α→α→Bool} (q:∀x y z,le x y=true→le y z=true→le x z=true) (u:∀x y,le x y=false→le y x=true) (x:α):∀l,l.Pairwise (fun a b=>le a b=true)→(Yb le x l).Pairwise (fun a b=>le a b=true)
 | [],_=>by simp[Yb]
 |y::l,h=>by
  have h':=O7.1 h;unfold Yb;cases m:le x y with
  |true=>
   refine O7.2 ⟨fun z j=>?_,h⟩;rcases EO.1 j with rfl|j
   ·exact m
   exact q x y z m (h'.1 z j)
  |false=>
   refine O7.2 ⟨fun z j=>?_,aQK q u x l h'.2⟩;rcases EO.1 ((aMS le x l).mem_iff.1 j)with rfl|j
   ·exact u _ _ m
   exact h'.1 z j
def aek {le:α→α→Bool} (j:∀x y z,le x y=true→le y z=true→le x z=true) (m:∀x y,le x y=false→le y x=true):∀l:List α,(P7 le l).Pairwise (fun a b=>le a b=true)
 | []=>.nil
 |x::l=>aQK j m x _ (aek j m l)
def aRa {le:α→α→Bool} (j:∀x y z,le x y=true→le y z=true→le x z=true) (q:∀x y,le x y=false→le y x=true) (ha:∀x y,le x y=true→le y x=true→x=y) {l m:List α} (u:m.Perm l) (hs:m.Pairwise (fun a b=>le a b=true)):m=P7 le l:=
 (u.trans (YF le l).symm).eq_of_pairwise (fun a b _ _ I J=>ha a b I J) hs (aek j q l)
def aL4 {e:α→D} {enc:α→List Value} (j:∀x,(e x).cells=(enc x).map .lit):∀l:List α,flat (l.map e)=(l.flatMap enc).map fun v=>.d (.lit v)
 | []=>rfl
 |x::l=>by rw[I7,Uf,aL4 j l,j,Lj,Ip,qg];rfl
def aEW {enc:α→List Value} {k:Nat} (j:∀x,(enc x).length=k):∀l:List α,(l.flatMap enc).length=l.length*k
 | []=>Am
 |x::l=>by rw[Lj,Dk,j,aEW j l,FC,Vu,aEQ,QA]
def abv {e:α→D} {enc:α→List Value} {k:Nat} (q:∀x,(e x).cells=(enc x).map .lit) (J:∀x,(enc x).length=k) (U:∀x,∀v∈enc x,v.oneCell'=true) {ok:Nat→Prop} {w:World} {H:List BJ} {h:BJ} {T:TypeId} {l:List α}:
 EY ok w H h (.arr T k (l.map e))↔h.size=k∧lQ w T k h.v l.length (l.flatMap enc):=by
 have hl:=aEW J l;constructor
 ·rintro⟨u,_,xs,m,z,L⟩;refine⟨u,?_⟩;rw[C9]at m
  have :xs=l.flatMap enc:=by
   rw[aL4 q]at z L;rw[C9]at z;refine qP z fun i hi M=>?_;have O:=(L i aEV).2;simp only[List.getD,Ia,Ce M,Ho,MH,Ce hi]at O;cases O with |d _ _ h=>rw[DF.afi h]
  rw[←this];exact m
 rintro⟨u,m⟩;refine⟨u,fun x I=>?_,l.flatMap enc,by rw[C9];exact m,?_⟩
 ·obtain⟨n,_,rfl⟩:=FH.1 I;rw[q,C9,J]
 rw[aL4 q];refine⟨Am,fun i hi=>?_⟩;have j:i<(l.flatMap enc).length:=FU
 simp only[List.getD,Ia,Ce j,Ho,MH];refine⟨?_,.d _ _ (.lit _)⟩;obtain⟨x,_,I⟩:=RX.1 (E8 j);exact U x _ I
def ah3 {j:Array Value} (hs:j.size=2):j= #[j.getD 0 undef,j.getD 1 undef]:=by
 refine YL (by simp[hs]) fun i q m=>?_;simp at m;have :i=0∨i=1:=A8
 rcases this with rfl|rfl<;>simp[Array.getD,hs]
def Ap.axl {P:Program} {f g:FuncId} {T:TypeId} {k:Nat} {e:α→D} {enc:α→List Value} (L:∀x,(e x).cells=(enc x).map .lit) (hk:∀x,(enc x).length=k) (h1:∀x,∀v∈enc x,v.oneCell'=true) {l r:List α}
 (h:∀(v:Value) (w:World),lQ w T k v l.length (l.flatMap enc)→Calls P f #[v,.func (.func g) #[] #[]] w fun x w'=>x=.returned (.tuple #[])∧lQ w' T k v r.length (r.flatMap enc)∧Turns v w w'):
 Ap P f [.aY 0,.d (.fn (.func g) [] [])] [.arr T k (l.map e)] (.eF []) [.arr T k (r.map e)]:=by
 intro ok X H w z M hs ha;have h0:=ha 0 Am;have O:=ha 1 Am;rw[ah3 hs];obtain⟨hd,hh,hok⟩:=FV M.ent M.hlen (k:=0) rfl;obtain hv:=OE h0 hh
 have hf:z.getD 1 undef=.func (.func g) #[] #[]:=by
  simp only[List.getD,aCl,aMk,MH]at O;generalize z.getD 1 undef=u at O;cases O with
  |d _ _ O=>
   cases O with
   |fn _ _ _ vs us hl hm'=>
    have e1:vs= #[]:=Yx Ko;have e2:us= #[]:=Yx (by simpa using hm');rw[e1,e2]
 rw[hv,hf];obtain⟨hz,how⟩:=(abv L hk h1).1 hok;refine(h hd.v w how).mono ?_;rintro x w' ⟨rfl,U,J⟩;have q:=fun b Y=>M.blk 0 _ hd b rfl rfl hh Y
 have hg:=M.change (ok':=ok) (H':=H) (w':=w') (es':=[.arr T k (r.map e)]) (fun c=>Cb hd.v=some c) J.os J.tape J.output J.size J.block (fun c L _=>⟨(q c L).1,(q c L).2.2⟩) (fun _ h=>h) (fun _ h=>.inl h) (.refl _) M.hlen (by
  intro j e' h' m Z
  match j,m with
  |0,m=>
   simp at m;subst m;rw[hh]at Z;obtain rfl:=CG Z;refine .inr ⟨(abv L hk h1).2 ⟨hz,U⟩,fun _ b Y=>⟨(q b Y).1,Vh (q b Y).2.1 J.size,(q b Y).2.2,fun k' e'' h'' hne I=>?_⟩⟩
   match k',I with
   |0,_=>exact absurd rfl hne
   |k'+1,I=>simp at I
  |k+1,m=>simp at m)
 exact⟨_,ok,H,rfl,hg.1,.eF [] #[] rfl (fun i hi=>MO)⟩
end
section
variable {α : Type} [Inhabited α]
def aPa {enc:α→List Value} {k:Nat} (m:∀x,(enc x).length=k) (l:List α):(flatK enc k l.toArray).toList=l.flatMap enc:=by
 have key:∀(l:List α) (t:Nat),t<l.length*k→(enc (l[t/k]?.getD default))[t % k]? =(l.flatMap enc)[t]? :=by
  intro l
  induction l with
  |nil=>intro t j;simp at j
  |cons x l z=>
   intro t j;rw[FC,Vu,aEQ]at j;rw[Lj];by_cases h:t<k
   ·rw[Nat.div_eq_of_lt h,Nat.mod_eq_of_lt h,Fv (by rw[m];exact h)];rfl
   have h':k≤t:=TN h;rcases Xv k with q|q
   ·subst q;simp at j
   have I:t/k=(t-k)/k+1:=Nat.div_eq_sub_div q h';rw[I,Nat.mod_eq_sub_mod h',J3 (by rw[m];exact h'),m,←z (t-k) A8,aCl]
 refine qP (by simp[aEW m]) fun t J L=>?_;have j:t<l.length*k:=TJ
 have :=key l t j;rw[Ce L]at this;have u:=get_flatK enc k l.toArray t MK;rw[o8 _ _ MK]at u;rw[Array.getElem_toList,u];have M:(l.toArray)[t/k]! =l[t/k]?.getD default:=Am
 rw[M];simp[List.getElem!_eq_getElem?_getD,this]
end
def Pn (a b:Int):Int:=if a<b then -1 else if a>b then 1 else 0
def Vy (p q:Int×Int×Int):Int:=if p.2.1=q.2.1 then(if p.2.2=q.2.2 then Pn p.1 q.1 else Pn p.2.2 q.2.2)else Pn q.2.1 p.2.1
def aFG (a b:Int):Pn a b<0↔a<b:=by
 unfold Pn;split
 ·omega
 split<;>omega
def amw (p q:Int×Int×Int):Vy p q<0↔q.2.1<p.2.1∨p.2.1=q.2.1∧(p.2.2<q.2.2∨p.2.2=q.2.2∧p.1<q.1):=by
 unfold Vy;split
 ·split
  ·rw[aFG];omega
  rw[aFG];omega
 rw[aFG];omega
def ail (a b:Int) (W:World):Calls Tryz.prog 440 #[.int .i64 a,.int .i64 b] W fun e w'=>e=.returned (.int .i64 (Pn a b))∧w'=W:=by
 unfold Pn
 go_enter Tryz.func440,Tryz.ntmps440
 go_wp2
 all_goals (go_ret;exact⟨rfl,rfl⟩)
set_option maxHeartbeats 1000000 in
def ah8 (r p1 p2 p3 q1 q2 q3:Int) (hr:r=if p2=q2 then(if p3=q3 then Pn p1 q1 else Pn p3 q3)else Pn q2 p2) (W:World):Calls Tryz.prog 439 #[.agg #[.int .i64 p1,.int .i64 p2,.int .i64 p3],.agg #[.int .i64 q1,.int .i64 q2,.int .i64 q3]] W fun e w'=>e=.returned (.int .i64 r)∧∃q m,w'=grow (W.drewN q) m:=by
 have j:=ail;generalize Pn=c at j hr;have u:p2≠q2→c q2 p2=r:=fun h=>by rw[hr,CU h]
 have z:p2=q2→p3≠q3→c p3 q3=r:=fun h k=>by rw[hr,CJ h,CU k]
 have I:p2=q2→p3=q3→c p1 q1=r:=fun h k=>by rw[hr,CJ h,CJ k]
 clear hr
 go_enter Tryz.func439,Tryz.ntmps439
 go_wp2_with (go_at_call 440;refine(j _ _ _).mono ?_;rintro e w' ⟨rfl,rfl⟩)
 all_goals go_ret
 ·rename_i h;rw[u JU];exact⟨rfl,0,_,aKR⟩
 ·rename_i h k;rw[z JU (by simpa using k)];exact⟨rfl,0,_,aKR⟩
 rename_i h k;rw[I JU (by simpa using k)];exact⟨rfl,0,_,aKR⟩
def JO (p q:Int×Int×Int):Bool:= !decide (Vy q p<0)
def pV (p q:Int×Int×Int):JO p q=true↔¬(p.2.1<q.2.1∨q.2.1=p.2.1∧(q.2.2<p.2.2∨q.2.2=p.2.2∧q.1<p.1)):=by
 unfold JO;rw[Qq,XW,amw]
def aEj (x y z:Int×Int×Int) (h:JO x y=true) (k:JO y z=true):JO x z=true:=by
 rw[pV]at *;omega
def aO1 (x y:Int×Int×Int) (h:JO x y=false):JO y x=true:=by
 have h:¬JO x y=true:=by rw[h];decide
 rw[pV]at *;omega
def af6 (x y:Int×Int×Int) (h:JO x y=true) (k:JO y x=true):x=y:=by
 rw[pV]at *;obtain⟨j,m,q⟩:=x;obtain⟨u,z,I⟩:=y;simp only[RF]at *;omega
def aQD (p q:Int×Int×Int):JO p q=false↔(p.2.1<q.2.1∨q.2.1=p.2.1∧(q.2.2<p.2.2∨q.2.2=p.2.2∧q.1<p.1)):=by
 rw[←Jd,pV,Decidable.not_not]
def afp (x y z:Int×Int×Int) (h:JO y x=false) (k:JO z y=false):JO z x=false:=by
 rw[aQD]at *;omega
section
variable {α : Type}
def aBE (f:α→Int×Int×Int) (l:List α):Option (List α):=if l.length≤1099511627776 then some (P7 (fun x y=>JO (f x) (f y)) l)else none
def NV (f:α→Int×Int×Int) (x:α):List Value:=[.int .i64 (f x).1,.int .i64 (f x).2.1,.int .i64 (f x).2.2]
def ame (f:α→Int×Int×Int) (x:α):(NV f x).length=3:=rfl
def adZ (f:α→Int×Int×Int) (x:α):∀v∈NV f x,v.oneCell'=true:=fun v j=>by
 simp[NV]at j;rcases j with rfl|rfl|rfl<;>rfl
def yH (f:α→Int×Int×Int) (x y:α):ltOf (fun x y=>Vy (f x) (f y)) x y= !JO (f y) (f x):=by simp[ltOf,JO]
def amh (f:α→Int×Int×Int):SWO (ltOf fun x y:α=>Vy (f x) (f y)):=by
 refine⟨fun x=>?_,fun x y z h k=>?_,fun x y z h k=>?_⟩
 ·rw[yH,(pV (f x) (f x)).2 A8];rfl
 ·rw[yH,Qq]at *;exact afp _ _ _ h k
 rw[yH,Bool.not_eq_false']at *;exact aEj _ _ _ k h
variable [Inhabited α]
def ajU (f:α→Int×Int×Int) (blk off size:Nat) (w:World):CmpLays Tryz.prog 439 #[] (NV f) 3 (fun x y=>Vy (f x) (f y)) blk off size w:=
 fun m os j _ x y=>ah8 (Vy (f x) (f y)) (f x).1 (f x).2.1 (f x).2.2 (f y).1 (f y).2.1 (f y).2.2 rfl (sortWorldK (NV f) 3 w blk off m j os)
set_option maxHeartbeats 2000000 in
def apN (f:α→Int×Int×Int) (hf:∀x y,f x=f y→x=y) (e:α→D) (he:∀x,e x=.agg [Ac (f x).1,Ac (f x).2.1,Ac (f x).2.2]) (l r:List α) (h:aBE f l=some r):
 BF 438 [.aY 0,.d (.fn (.func 439) [] [])] [.arr 360 3 (l.map e)] (.eF []) [.arr 360 3 (r.map e)]:=by
 unfold aBE at h;split at h
 ·rename_i hn;obtain rfl:=CG h;have U:=ame f;refine Ap.axl (enc:=NV f) (fun x=>by rw[he];rfl) U (adZ f) fun v w how=>?_;generalize hr:P7 (fun x y=>JO (f x) (f y)) l=r;have u:r.length=l.length:=by rw[←hr];exact(YF _ l).length_eq
  rcases how.2 with⟨rfl,h0⟩|⟨g,cap,I,rfl,hbase,hg,hnc,hcm,hcs,J⟩
  ·have hl:l=[]:=GN h0;have hl':r=[]:=GN (by rw[u,h0]);subst hl;subst hl';refine(AnyF.slices_SortFunc_none (P:=Tryz.prog) (ρ:=Tryz.Xb) { Tryz.apI with } none 0 _ w).mono ?_;rintro e w' ⟨rfl,h⟩;subst h;exact⟨rfl,lQ.nil _ _ _,Turns.refl _ _⟩
  have Y:g<w.heap.size:=(FX.1 hg).1;have m:=aPa (enc:=NV f) U l
  have hH:HoldsK (NV f) 3 w g 0 l.toArray:=by
   unfold HoldsK;have L:(flatK (NV f) 3 l.toArray).size=l.length*3:=Am
   generalize flatK (NV f) 3 l.toArray=F at m L;intro j M;refine⟨?_,by simp[World.frozen?,hg]⟩;have e0:(I.toList.take (l.length*3))[j]? =(l.flatMap (NV f))[j]? :=by rw[J]
   rw[Ln A8,←m]at e0;simp only[World.cell?,hg,Ic];simp only[Option.isSome_none,Qb,JC];rw[←kM,e0,kM,o8 F j M,wQ M];rfl
  have eg:∀args w,(callFunc 439 args).run Tryz.prog w=.ok (.enter 439 args) w:=enters_of Tryz.func439 AA rfl;have :=AnyQ.slices_SortFunc (P:=Tryz.prog) (ρ:=Tryz.Xb) Tryz.apI 3 Tryz.isAgg360 Tryz.sizeOf360 (NV f) U (adZ f) (fun x y=>Vy (f x) (f y)) (amh f) 439 #[] g 0 cap l.toArray w eg (ajU f _ _ _ _) hH Y DK;refine this.mono ?_;rintro e' w' ⟨rfl,O,n,os,hp,hs,rfl⟩;obtain⟨Z,_,q⟩:=hp;have hsz':O.size=l.length:=by simpa using Z
  have e1:O.extract 0 l.toArray.size=O:=by rw[←Z];exact Array.extract_size
  rw[e1,Array.extract_size]at q
  have hm:O.toList=r:=by
   rw[←hr];refine aRa (le:=fun x y=>JO (f x) (f y)) (fun x y z=>aEj (f x) (f y) (f z)) (fun x y=>aO1 (f x) (f y)) (fun x y h k=>hf _ _ (af6 (f x) (f y) h k)) q ?_;refine KH.2 fun i j hi M hij=>?_;have :=hs i j (EK _) hij (by simpa[hsz']using M);rw[yH,o8 O i FU,o8 O j aEV]at this;simpa using this
  obtain rfl:O=r.toArray:=by rw[←hm]
  have hF:=aPa (enc:=NV f) U r;have L:(flatK (NV f) 3 r.toArray).size=l.length*3:=by simp[u]
  generalize hFF:flatK (NV f) 3 r.toArray=F at hF L;refine⟨rfl,⟨by rw[aEW U],.inr ⟨g,cap,putCells id 0 F I,by rw[u],EK _,?_,A8,hcm,by simpa[putCells]using hcs,?_⟩⟩,⟨rfl,rfl,rfl,by simp[sortWorldK,putRowK],fun c hc hne=>?_⟩⟩
  ·unfold sortWorldK putRowK;rw[hFF,heap_grow_old _ _ Mid];simp[putRow,mapBlock,Sort.ahead,Nl,hg,onCells]
  ·rw[←hF,u];apply Yl;intro j;by_cases M:j<l.length*3
   ·have hjc:j<I.size:=by have :=JB 3 hnc;omega
    rw[Ln M,kM,kM];have hjF:j<F.size:=A8
    simp[putCells,hjF,hjc]
   rw[List.getElem?_take_eq_none A8,Gu DK]
  unfold sortWorldK putRowK;rw[heap_grow_old _ _ (by simpa using hc)];have :g≠c:=fun e=>hne vC;simp[putRow,mapBlock,Sort.ahead,Nl,this]
 cases h
end
end Go.Proofs.YtkkdimcnpacjhaaGreat
end
section
namespace Go.Proofs.YtkkdimcnpacjhaaGreat
open Go.RowKit
def CS.freeze {C:Dw} {ok:Nat→Prop} {H:List BJ} {es:List Aq} {w:World} (q:CS C ok H es w) {k:Nat} {e:Aq} {hd:BJ} (hk:es[k]? =some e) (hl:e.live=true) (O:H[k]? =some hd):CS C (fun b=>ok b∨Cb hd.v=some b) H (es.set k .dead) w:=by
 have z:k<es.length:=(FB.1 hk).1;have L:=fun b m=>q.blk k _ hd b hk hl O m;have hg:Dz ok w (fun b=>ok b∨Cb hd.v=some b) w:=fun b m=>⟨.inl m,rfl⟩
 refine⟨q.fr,fun b m=>.inl (q.xu b m),?_,?_,q.names,by simp[q.hlen],?_,?_,?_⟩
 ·rintro b (m|m)
  ·exact q.xw b m
  exact .inr (L b m).2.2
 ·rintro b (m|m)
  ·exact q.jM b m
  exact(L b m).2.1
 ·intro j e' h' he I;rcases LD z he with⟨rfl,rfl⟩|⟨_,J⟩
  ·trivial
  exact(q.ent j e' h' J I).mono hg (.refl _) (fun _ _ _=>rfl)
 ·intro j e' h' b he M I m;rcases LD z he with⟨rfl,rfl⟩|⟨hne,J⟩
  ·cases M
  have h3:=q.blk j e' h' b J M I m;refine⟨fun u=>?_,h3.2⟩;rcases u with u|u
  ·exact h3.1 u
  exact hne (q.Dp j k e' _ h' hd b J hk M hl I O m u)
 intro i j e1 e2 h1 h2 b he1 he2 U Y hh1 hh2 hb1 hb2;rcases LD z he1 with⟨rfl,rfl⟩|⟨_,Z⟩
 ·cases U
 rcases LD z he2 with⟨rfl,rfl⟩|⟨_,apj⟩
 ·cases Y
 exact q.Dp i j e1 e2 h1 h2 b Z apj U Y hh1 hh2 hb1 hb2
section
variable {P : Program} {o : Oper} {es : List Aq}
def aQl {t M O:TypeId} {x:Operand} {k:Nat} {m:List (Value×D)} (ht:P.underlying t=some (.map M O)) (U:es[k]? =some (.map m)) (ho:o.op=.range t x):BN P o [(x,.mp k)] es (.ptr es.length 0) (es.set k .dead++[.iter m []]):=
 .eff fun C ok H a w q hn=>by
  obtain⟨hd,Y,z⟩:=FV q.ent q.hlen U;obtain⟨b,ms,clock,Z,I,h3⟩:=z;have hx:=Qw (hn (x,.mp k) Am) Y;simp only at hx;have hb:b<w.heap.size:=(FX.1 I).1;have m0:=q.freeze U rfl Y;have g0:Dz ok w (fun c=>ok c∨Cb hd.v=some c) w:=fun c u=>⟨.inl u,rfl⟩
  have J:Cb hd.v=some b:=by rw[Z];rfl
  have g1:Dz (fun c=>ok c∨Cb hd.v=some c) w (fun c=>ok c∨Cb hd.v=some c) (w.alloc (.mapIter (some b) clock #[] clock)):=fun c u=>⟨u,J7 _ _ _ (m0.jM c u)⟩
  have L:EY (fun c=>ok c∨Cb hd.v=some c) (w.alloc (.mapIter (some b) clock #[] clock)) (H++[⟨.pointer (some ⟨w.heap.size,0,none⟩),0⟩]) ⟨.pointer (some ⟨w.heap.size,0,none⟩),0⟩ (.iter m []):=
   ⟨w.heap.size,b,ms,clock, #[],rfl,gV _ _,.inr J,(J7 _ _ _ hb).trans I,(h3.mono g0).mono g1,rfl,fun j i hj=>by simp at hj⟩
  obtain⟨m1,g2⟩:=m0.push (.mapIter (some b) clock #[] clock) ⟨.pointer (some ⟨w.heap.size,0,none⟩),0⟩ _ (aAg w) L;refine⟨.pointer (some ⟨w.heap.size,0,none⟩),_,_,_,.inl ?_,g0.trans g2,Names.push _ _,m1,.ptr _ _ w.heap.size 0 aA5⟩;have hr:=run_range_map (P:=P) w t M O b ms clock ht I;simp[execOp,ho,hx,Z,hr]
def born_inj {ok:Nat→Prop} {w:World} {es:List (Value×D)} {ms:Array MapEntry} {clock:Nat} (h:Ij ok w es ms clock) {i j:Nat} {m n:MapEntry} (hi:ms[i]? =some m) (u:ms[j]? =some n) (z:m.born=n.born):i=j:=by
 rcases aAf i j with q|q|q
 ·have :=h.inc i j m n q hi u;omega
 ·exact q
 have :=h.inc j i n m q u hi;omega
def atE {ok:Nat→Prop} {w:World} {es:List (Value×D)} {ms:Array MapEntry} {clock:Nat} (h:Ij ok w es ms clock):(ms.toList.map (·.born)).Nodup:=by
 unfold List.Nodup;rw[KH];intro i j hi m q;simp only[C9,SG]at hi m;have u:ms[i]? =some ms[i]:=Pq
 have z:ms[j]? =some ms[j]:=by simp[m]
 simp only[Po,Array.getElem_toList];intro e;have :=born_inj h u z e;omega
def aRb {K V:Type} {x:Operand} {n i:Nat} {ek:K→Value} {ev:V→D} {m:List (K×V)} {vis:List Nat} {p:K×V} (hp:m[i]? =some p) (he:es[n]? =some (.iter (m.map (BX ek ev)) (vis++[i]))) (ho:o.op=.entry x):
 BN P o [(x,.ptr n 0)] es (.eF [.d (.lit (ek p.1)),.d (ev p.2)]) es:=
 .pure fun ok H a w u hl hn=>by
  obtain⟨hd,hh,I⟩:=FV u hl he;obtain⟨bi,M,ms,clock,seen,O,h2,h3,h4,U,h6,h7⟩:=I;have J:=hn (x,.ptr n 0) Am;simp only at J;generalize hv:a.eval x=v at J;cases J with
  |ptr _ _ b' s Y=>
   rw[hh]at Y;obtain rfl:=CG Y;simp only[Value.pointer.injEq,KJ,Addr.mk.injEq]at O;obtain⟨rfl,_⟩:=O;obtain⟨e,Z,q2⟩:=h7 vis.length i Am;have L:(m.map (BX ek ev))[i]? =some (BX ek ev p):=by rw[Ia,hp];rfl
   obtain⟨r1,r2,_⟩:=U.ent i _ e L Z;refine⟨.tuple #[e.key,e.val],?_,.eF _ _ rfl fun j hj=>?_⟩
   ·have q:seen.back?=some e.born:=by
     rw[Array.back?_eq_getElem?,h6];simpa using q2
    have z:e∈ms.toList:=by
     rw[Array.mem_toList_iff];exact Array.mem_of_getElem? Z
    have hf:ms.find? (·.born==e.born)=some e:=by rw[←Array.find?_toList];exact find_born e ms.toList (atE U) z
    have g1:(getObj b').run P w=.ok (.mapIter (some M) clock seen clock) w:=by simp[getObj,Sem.run,h2]
    have g2:(getObj M).run P w=.ok (.map ms clock) w:=OV h4;simp[execOp,ho,hv,Instr.entry,g1,g2,q,hf]
   match j,hj with
   |0,_=>rw[show([AV.d (.lit (ek p.1)),.d (ev p.2)]:List AV).getD 0 .junk=.d (.lit (ek p.1))from rfl,show(#[e.key,e.val]:Array Value).getD 0 undef=e.key from rfl,r1];exact .d _ _ (.lit _)
   |1,_=>exact .d _ _ r2
end
def ai9 {P:Program} {w:World} {ok:Nat→Prop} {ty:TypeId} {bi U clock:Nat} {seen:Array Nat} {ms:Array MapEntry} {es:List (Value×D)} (hi:w.heap[bi]? =some (.mapIter (some U) clock seen clock)) (hb:w.heap[U]? =some (.map ms clock)) (hM:Ij ok w es ms clock):
 ((leftOf ms seen).size=0∧(Instr.next (.pointer (some ⟨bi,0,none⟩)) false ty).run P w=.ok (.tuple #[.bool false]) w)∨
 ∃e∈(leftOf ms seen).toList,∃m:World,(m=w∨m=w.drew)∧(Instr.next (.pointer (some ⟨bi,0,none⟩)) false ty).run P w=.ok (.tuple #[.bool true,e.key,e.val]) (m.putObj bi (.mapIter (some U) clock (seen.push e.born) clock)):=by
 have u:∀x∈ms.toList,x.born<clock:=fun x z=>by
  obtain⟨i,hi,rfl⟩:=Hf z;have I:i<ms.size:=FU
  have Y:i<es.length:=by rw[←hM.len];exact I
  have :=(hM.ent i es[i] ms[i] (by simp[Y]) (by simp[I])).2.2;simpa using this
 simp only[Instr.next,getObj,Ep,Sem.run,hi,hb,Result.andThen,next_test_false seen ms clock clock u (Dc _),Qb,JC];unfold leftOf;have q:∀x∈(Array.filter (fun e=> !seen.contains e.born) ms).toList,x.born<clock:=fun x z=>u x (by simp at z ⊢;exact z.1);generalize Array.filter (fun e=> !seen.contains e.born) ms=L at q ⊢;have e1:L.filter (fun x=>decide (x.born<clock))=L:=Array.filter_eq_self.2 (fun x z=>by simpa using q x SS)
 have e2:L.filter (fun x=>decide (x.born≥clock))= #[]:=by
  rw[Array.filter_eq_empty_iff];intro x z;have :=q x SS;simp;omega
 simp only[e1,e2,Array.append_empty];by_cases h0:L.size=0
 ·left;have :L= #[]:=Yx h0;subst this;refine⟨rfl,?_⟩;simp[choose,Sem.run,Question.forced]
 right;have Z:L.isEmpty=false:=by simp[Array.isEmpty,h0]
 simp only[Z,Qb,JC,Array.empty_append,Array.size_map]
 have hch:∃(j:Nat) (m:World),j<L.size∧(m=w∨m=w.drew)∧(choose (Question.mapNext L.size)).run P w=.ok j m:=by
  by_cases hf:L.size≤1
  ·exact⟨0,w,A8,.inl rfl,by simp[choose,Sem.run,Question.forced,hf]⟩
  exact⟨_,w.drew,cD _ A8,.inr rfl,by
   simp only[choose,Sem.run,Question.forced,Fb,hf,JC,Question.cut]
   rfl⟩
 obtain⟨j,m,hj,J,M⟩:=hch;refine⟨L[j],Am,m,J,?_⟩;have hi1:m.heap[bi]? =some (.mapIter (some U) clock seen clock):=by rcases J with rfl|rfl<;>exact hi
 have O:∀(o':Obj),(setObj bi o').run P m=.ok () (m.putObj bi o'):=fun o'=>by simp[setObj,Sem.run,hi1,World.putObj]
 simp only[M,Array.getElem?_map,wQ hj,Ho,Ep,O,Result.andThen];rfl
section
variable {P : Program} {ops : Array Oper} {o : Oper} {rest l : List Oper} {σ : Aj} {Q : Exit → Aj → Prop} {K V : Type}
def amZ {ms:Array MapEntry} {seen:Array Nat} {e:MapEntry} (h:e∈(leftOf ms seen).toList):e∈ms.toList∧e.born∉seen:=by
 unfold leftOf at h;simp at h;exact⟨by simpa using h.1,h.2⟩
def CW.next {ek:K→Value} {ev:V→D} {x:Operand} {ty:Bool} (n:Nat) (m:List (K×V)) (vis:List Nat) (hn:σ.ents[n]? =some (.iter (m.map (BX ek ev)) vis)) (ho:o.op=.next x false) (hx:σ.get x=.ptr n 0) (hg:IV ops σ o.guard=some true)
 (h0:(∀i,i<m.length→i∈vis)→CW P ops rest (σ.qG o.dst (.eF [.d (DX false)])) Q)
 (h1:∀i p,m[i]? =some p→i∉vis→CW P ops rest (σ.put o.dst (.eF [.d (DX true),.d (.lit (ek p.1)),.d (ev p.2)]) (σ.ents.set n (.iter (m.map (BX ek ev)) (vis++[i])))) Q):CW P ops (o::rest) σ Q:=by
 refine⟨fun ro l2 Q' C ok H a w z hk=>?_⟩;show wpListIn (IE ro) 0 P ops Q' (o::(rest++l2)) a w;unfold wpListIn;rw[CJ (OH z (Ku hg))];have hv:=hx▸z.get x;obtain⟨hd,Z,hent⟩:=FV z.mem.ent z.mem.hlen hn;obtain⟨bi,L,ms,clock,seen,q1,q2,q3,q4,q5,q6,q7⟩:=hent
 have J:a.eval x=.pointer (some ⟨bi,0,none⟩):=by
  generalize a.eval x=v at hv;cases hv with
  |ptr _ _ b' s hH=>
   rw[Z]at hH;obtain rfl:=CG hH;simp only[Value.pointer.injEq,KJ,Addr.mk.injEq]at q1;obtain⟨rfl,_⟩:=q1;rfl
 have hlen:ms.size=m.length:=by rw[q5.len,C9]
 unfold Oper.wpIn;rw[eX _ _ _ (by rw[ho];intro c h;cases h)];rcases ai9 (P:=P) (ty:=o.type) q2 q4 q5 with⟨hs,hr⟩|⟨e,M,w1,hw1,hr⟩
 ·have he:(execOp a.eval o).run P w=.ok (.value (.tuple #[.bool false])) w:=by simp[execOp,ho,J,hr]
  rw[he];refine⟨fun _ _=>trivial,?_⟩
  refine(h0 fun i hi=>?_).run ro l2 Q' C ok H _ w (z.put o.dst (.refl _ _) (.refl _) z.mem (.eF _ _ rfl fun j q=>by
   match j,q with
   |0,_=>exact .d _ _ (.lit _))) hk
  have O:i<ms.size:=A8
  have hnot:ms[i]∉(leftOf ms seen).toList:=by
   have :leftOf ms seen= #[]:=Yx hs;rw[this];simp
  have hin:ms[i].born∈seen:=by
   apply Ve;intro hc;refine hnot ?_;unfold leftOf;simp[hc]
  obtain⟨j,q,U⟩:=Array.getElem_of_mem hin;have hjv:j<vis.length:=A8
  obtain⟨e,r1,r2⟩:=q7 j vis[j] (by simp[hjv])
  have hb:e.born=ms[i].born:=by
   have e3:seen[j]? =some seen[j]:=by simp[q]
   rw[e3,U]at r2;exact(CG r2).symm
  have :=born_inj q5 r1 (show ms[i]? =some ms[i] by simp[O]) hb;rw[←this];simp
 have he:(execOp a.eval o).run P w=.ok (.value (.tuple #[.bool true,e.key,e.val])) (w1.putObj bi (.mapIter (some L) clock (seen.push e.born) clock)):=by simp[execOp,ho,J,hr]
 rw[he];refine⟨fun _ _=>trivial,?_⟩;obtain⟨aCZ,hes⟩:=amZ M;obtain⟨i,hi,hie⟩:=Hf aCZ;have O:i<ms.size:=FU
 have Y:ms[i]? =some e:=by rw[←hie];simp[O]
 have him:i<m.length:=A8
 have hpe:(m.map (BX ek ev))[i]? =some (BX ek ev m[i]):=by simp[him]
 obtain⟨r1,r2,_⟩:=q5.ent i _ e hpe Y
 have aC0:i∉vis:=fun hc=>by
  obtain⟨j,q,U⟩:=Hf hc;obtain⟨e2,s1,s2⟩:=q7 j i (by simp[←U,q]);rw[Y]at s1;obtain rfl:=CG s1;exact hes (Array.mem_of_getElem? s2)
 have I:CS C ok H σ.ents w1∧Dz ok w ok w1:=by
  rcases hw1 with rfl|rfl
  ·exact⟨z.mem,.refl _ _⟩
  exact z.mem.drew
 have hi1:w1.heap[bi]? =some (.mapIter (some L) clock seen clock):=by rcases hw1 with rfl|rfl<;>exact q2
 have u:w1.heap[L]? =some (.map ms clock):=(I.2 L q3).2.trans q4;have hne:L≠bi:=fun e=>by rw[e,hi1]at u;cases u
 obtain⟨m2,g2⟩:=I.1.ahM (o:=.mapIter (some L) clock (seen.push e.born) clock) (e':=.iter (m.map (BX ek ev)) (vis++[i])) hn rfl Z (by rw[q1];rfl)
  (fun g=>⟨bi,L,ms,clock,seen.push e.born,q1,V8 (FX.1 hi1).1,q3,(Xc hne).trans u,(q5.mono I.2).mono g,by simp[q6],fun j i' q=>by
   by_cases hjl:j<vis.length
   ·rw[Fv hjl]at q;obtain⟨e2,s1,s2⟩:=q7 j i' q;exact⟨e2,s1,by rw[Array.getElem?_push_lt A8];simpa[wQ (show j<seen.size by omega)]using s2⟩
   have hj2:j=vis.length:=by
    have :=(FB.1 q).1;simp at this;omega
   subst hj2;simp at q;subst q
   exact⟨e,Y,by rw[←q6];simp⟩⟩)
 have g3:=I.2.trans g2
 have hp:=(h1 i m[i] (by simp[him]) aC0).run ro l2 Q' C ok H (a.put o.dst (.tuple #[.bool true,e.key,e.val])) _ (z.put o.dst (x:=.eF [.d (DX true),.d (.lit (ek m[i].1)),.d (ev m[i].2)]) g3 (.refl _) m2 (.eF _ _ rfl fun j q=>by
  match j,q with
  |0,_=>exact .d _ _ (.lit _)
  |1,_=>
   show R ok _ H (.d (.lit (ek m[i].1))) e.key;rw[r1];exact .d _ _ (.lit _)
  |2,_=>exact .d _ _ (r2.mono g3))) hk
 exact hp
def AP.as6 {A Rr:Type} {cd:Code} (S:List Nat→A→Aj) (m:List (K×V)) (step:A→K×V→Option A) (Kf:A→Option Rr) (r:Rr) (a0:A) (hs:CO σ (S [] a0))
 (L:∀vis:List Nat,vis.Nodup→(∀i,i∈vis↔i<m.length)→((vis.filterMap fun(i:Nat)=>m[i]?).foldlM step a0).bind Kf=some r)
 (round:∀(J:Aj→Prop) (vis:List Nat) (a:A),((∀i,i<m.length→i∈vis)→Kf a=some r)→(∀i p,m[i]? =some p→i∉vis→∃a',step a p=some a'∧∀s,CO s (S (vis++[i]) a')→J s)→AP P cd (S vis a) (Jf J Q)):AP P (.loop cd) σ Q:=by
 have U:∀vis:List Nat,vis.Nodup→(∀i∈vis,i<m.length)→∃rest,(vis++rest).Nodup∧(∀i,i∈vis++rest↔i<m.length):=fun vis q u=>by
  refine⟨(List.range m.length).filter fun i=> !vis.contains i,?_,fun i=>?_⟩
  ·refine iC.2 ⟨q,List.Pairwise.filter _ List.nodup_range,fun a ha b Y e=>?_⟩;subst e;rw[ET]at Y;simp[ha]at Y
  rw[Fz,ET];constructor
  ·rintro(h|h)
   ·exact u i h
   simpa using h.1
  intro h;by_cases hc:i∈vis
  ·exact .inl hc
  exact .inr ⟨JU,by simp[hc]⟩
 refine AP.loop (fun n s=>∃vis a,n=m.length-vis.length∧vis.Nodup∧(∀i∈vis,i<m.length)∧(vis.filterMap fun(i:Nat)=>m[i]?).foldlM step a0=some a∧CO s (S vis a)) (m.length) ⟨[],a0,Am,Vx,fun i h=>Gv,rfl,hs⟩ ?_;rintro n s ⟨vis,a,rfl,q,u,hf,M⟩;refine Ci M (round _ vis a (fun hc=>?_) (fun i p hp hi=>?_))
 ·have :=L vis q (fun i=>⟨u i,hc i⟩);rw[hf]at this;exact this
 have him:i<m.length:=(FB.1 hp).1;have z:(vis++[i]).Nodup:=iC.2 ⟨q,Am,fun a ha b Y e=>by simp at Y;subst Y;subst e;exact hi ha⟩
 have I:∀j∈vis++[i],j<m.length:=fun j Z=>by
  rcases Fz.1 Z with h|h
  ·exact u j h
  simp at h;subst h;exact him
 obtain⟨rest,h1,h2⟩:=U (vis++[i]) z I;have h3:=L _ h1 h2;rw[eG,eG]at h3;simp only[Ny,List.filterMap_nil,hp,List.foldlM_append,Td,List.foldlM_nil,hf,bind,pure,AQ]at h3;cases hst:step a p with
 |none=>rw[hst]at h3;simp at h3
 |some a'=>
  refine⟨a',rfl,fun s hs=>⟨m.length-(vis++[i]).length,?_,vis++[i],a',rfl,z,I,?_,hs⟩⟩
  ·have :vis.length<m.length:=by
    have M:vis.length≤(List.range m.length).length:=by
     refine aPB q ?_;intro j Z;simpa using u j Z
    have O:(vis++[i]).length≤(List.range m.length).length:=by
     refine aPB z ?_;intro j Z;simpa using I j Z
    simp at O;omega
   simp;omega
  rw[eG,List.foldlM_append,hf];simp[hp,hst]
end
def aRq {α:Type}:∀(m:List α) (vis:List Nat),vis.Nodup→(∀i,i∈vis↔i<m.length)→(vis.filterMap fun(i:Nat)=>m[i]?).Perm m:=fun m vis j q=>by
 have u:vis.Perm (List.range m.length):=by
  rw[List.perm_iff_count];intro a;rw[j.count,List.nodup_range.count];simp[q a]
 have z:((List.range m.length).filterMap fun(i:Nat)=>m[i]?)=m:=by
  apply Yl;intro i
  have :∀(n:Nat),n≤m.length→((List.range n).filterMap fun(i:Nat)=>m[i]?)=m.take n:=by
   intro n
   induction n with
   |zero=>intro _;simp
   |succ n I=>
    intro L;rw[List.range_succ,eG,I A8];have hl:n<m.length:=A8
    simp[hl]
  rw[this m.length (Dc _),GY]
 have J:=u.filterMap (fun(i:Nat)=>m[i]?)
 rwa [z]at J
def aLh {α β:Type} {c:α→Bool} {f:α→β} {b:Nat}:∀(l:List α) (v:List β),
 l.foldlM (fun v p=>bif c p then(Bq b v [f p]).bind fun x=>some x else some v) v=if(v.length+(l.filter c).length)*b≤140737488355328∨l.filter c=[]then some (v++(l.filter c).map f)else none
 | [],v=>Am
 |p::l,v=>by
  rw[Td];cases q:c p with
  |false=>
   have m:=aLh (c:=c) (f:=f) (b:=b) l v;simp only[Ar,bind,AQ,m,QS,q,Qb,JC]
  |true=>
   simp only[BA,QS,q,J5];have z:Bq b v [f p]=if(v.length+[f p].length)*b≤140737488355328 then some (v++[f p])else none:=rfl
   rw[z];by_cases j:(v.length+[f p].length)*b≤140737488355328
   ·rw[CJ j];have m:=aLh (c:=c) (f:=f) (b:=b) l (v++[f p]);simp only[AQ,bind,m];have u:(v++[f p]).length+(l.filter c).length=v.length+(p::l.filter c).length:=DK
    rw[u];by_cases hl:l.filter c=[]
    ·rw[hl]at u ⊢;simp only[FC,Kr]at j ⊢;simp[j]
    simp[hl]
   rw[CU j];simp only[Option.bind_none,bind];rw[CU];rintro(h|h)
   ·refine j (EZ (JB _ ?_) h);simp
   cases h
def aa2 {α β Rr:Type} {c:α→Bool} {f:α→β} {b:Nat} {q m:List α} {v:List β} {Kf:List β→Option Rr} {r:Rr} (z:q.Perm m) (I:∀x y,x.Perm y→Kf x=Kf y)
 (h:(m.foldlM (fun v p=>bif c p then(Bq b v [f p]).bind fun x=>some x else some v) v).bind Kf=some r):
 (q.foldlM (fun v p=>bif c p then(Bq b v [f p]).bind fun x=>some x else some v) v).bind Kf=some r:=by
 rw[aLh]at h ⊢;have j:=z.filter c
 have e:((v.length+(q.filter c).length)*b≤140737488355328∨q.filter c=[])↔((v.length+(m.filter c).length)*b≤140737488355328∨m.filter c=[]):=by
  rw[j.length_eq];constructor
  ·rintro(h|h)
   ·exact .inl h
   exact .inr (by rw[h]at j;exact j.symm.eq_nil)
  rintro(h|h)
  ·exact .inl h
  exact .inr (by rw[h]at j;exact j.eq_nil)
 by_cases u:((v.length+(m.filter c).length)*b≤140737488355328∨m.filter c=[])
 ·rw[CJ u]at h;rw[CJ (e.2 u)];simp only[AQ]at h ⊢;rw[←h];exact I _ _ ((j.map f).append_left v)
 rw[CU u]at h;cases h
section
variable {K V : Type} [BEq K]
def Eu :List (K×V)→K→Nat
 | [],_=>0
 |p::m,k=>bif k==p.1 then 0 else Eu m k+1
def afR {ek:K→Value} {kd:TypeDesc} (hs:∀a b,Instr.sameNow kd (ek a) (ek b)=some (a==b)) (k:K) (v:V):∀(m:List (K×V)) (l:List MapEntry) (i:Nat),l.map (·.key)=m.map (fun p=>ek p.1)→
 (Instr.findNow kd (ek k) l i=some none∧CB m k=none∧Dj m k v=m++[(k,v)]∧Eu m k=m.length)∨
 ∃e p,Instr.findNow kd (ek k) l i=some (some (i+Eu m k,e.val))∧l[Eu m k]? =some e∧m[Eu m k]? =some p∧CB m k=some p.2∧(k==p.1)=true∧Dj m k v=m.set (Eu m k) (k,v)
 | [],[],_,_=>.inl ⟨rfl,rfl,rfl,rfl⟩
 | [],_::_,_,h=>Gv
 |_::_,[],_,h=>Gv
 |p::m,e::l,i,h=>by
  simp only[I7,vW]at h;cases j:(k==p.1)with
  |true=>
   refine .inr ⟨e,p,?_,?_,?_,?_,j,?_⟩
   ·simp[Instr.findNow,h.1,hs,j,Eu]
   ·simp[Eu,j]
   ·simp[Eu,j]
   ·simp[CB,j]
   simp[Dj,Eu,j]
  |false=>
   rcases afR hs k v m l (i+1) h.2 with⟨q,u,z,I⟩|⟨e',J,q,u,z,I,L,M⟩
   ·refine .inl ⟨?_,?_,?_,?_⟩
    ·simp[Instr.findNow,h.1,hs,j,q]
    ·simp[CB,j,u]
    ·simp[Dj,j,z]
    simp[Eu,j,I]
   refine .inr ⟨e',J,?_,by simpa[Eu,j]using u,by simpa[Eu,j]using z,?_,L,?_⟩
   ·simp[Instr.findNow,h.1,hs,j,q,Eu];omega
   ·simp[CB,j,I]
   simp[Dj,j,M,Eu]
def afJ (k:K) (v:V):∀m:List (K×V),(Dj m k v)[Eu m k]? =some (k,v)
 | []=>rfl
 |p::m=>by
  cases j:(k==p.1)with
  |true=>simp[Dj,Eu,j]
  |false=>simp[Dj,Eu,j,afJ k v m]
def aOH (k:K) (v u:V):∀m:List (K×V),(Dj m k v).set (Eu m k) (k,u)=Dj m k u
 | []=>rfl
 |p::m=>by
  cases j:(k==p.1)with
  |true=>simp[Dj,Eu,j]
  |false=>simp[Dj,Eu,j,aOH k v u m]
end
section
variable {ok : Nat → Prop} {w : World} {es : List (Value × D)} {ms : Array MapEntry} {clock : Nat}
def QT.nil:QT #[] 0:=⟨rfl,fun i e h=>Gv⟩
def QT.push (h:QT ms clock) {k v:Value}:QT (ms.push { key:=k,val:=v,born:=clock }) (clock+1):=by
 refine⟨by simp[h.1],fun i e j=>?_⟩;rw[aHz]at j;split at j
 ·rename_i m;obtain rfl:=CG j;rw[m];exact h.1
 exact h.2 i e j
def QT.modify (h:QT ms clock) (j:Nat) (f:MapEntry→MapEntry) (q:∀e,(f e).born=e.born):QT (ms.modify j f) clock:=by
 refine⟨by simp[h.1],fun i e m=>?_⟩;rw[Nl]at m;split at m
 ·rw[TT]at m;obtain⟨u,z,rfl⟩:=m;rw[q];exact h.2 i u z
 exact h.2 i e m
def QT.find (h:QT ms clock) {n:Nat} (m:n<ms.size):ms.findIdx? (fun e=>(e.born:Int)==(n:Int))=some n:=by
 rw[Array.findIdx?_eq_some_iff_getElem];refine⟨m,?_,fun j q=>?_⟩
 ·have :=h.2 n ms[n] (by simp[m]);simp[this]
 have :=h.2 j ms[j] (by simp[Nat.lt_trans q m]);simp[this];omega
def amL (ms:Array MapEntry) (j:Nat) (k v:Value) (m:∀e,ms[j]? =some e→e.key=k):(ms.modify j fun e=>{ e with val:=v })=ms.modify j fun e=>{ e with key:=k,val:=v }:=by
 apply mG;intro i;rw[Nl,Nl];split
 ·rename_i e;subst e;cases q:ms[j]? with
  |none=>rfl
  |some e=>simp[m e q]
 rfl
def asR (ms:Array MapEntry) (j:Nat) (k v:Value) (m:∀e,ms[j]? =some e→e.val=v):(ms.modify j fun e=>{ e with key:=k })=ms.modify j fun e=>{ e with key:=k,val:=v }:=by
 apply mG;intro i;rw[Nl,Nl];split
 ·rename_i e;subst e;cases q:ms[j]? with
  |none=>rfl
  |some e=>simp[m e q]
 rfl
end
section
variable {P : Program} {o : Oper} {es : List Aq} {K V : Type} [BEq K]
def arJ {t:TypeId} {j:Array (Nat×Operand)} {m:List (Nat×Nat)} {z:Value} {cs:List AV} (q:II P t m z) (vs:List AV) (u:J6 (fun(i:Nat)=>m[i]?) (Et z) j.toList vs=cs) (I:Lm (fun(i:Nat)=>m[i]?) (Et z).length j.toList vs=true) (J:o.op=.build t j):
 BN P o (Lu j.toList vs) es (.ag cs) es:=u▸aqH q vs I J
def P6 (x y:Int):Int:=bif decide (y>x)then y else x
def af2 {x y:Operand} {ats:Array TypeId} {kd:IntKind} {a b:Int} (u:o.op=.call { callee:=.builtin .max,args:= #[x,y],argTypes:=ats }):
 BN P o [(x,.d (.lit (.int kd a))),(y,.d (.lit (.int kd b)))] es (.d (.lit (.int kd (P6 a b)))) es:=
 .pure fun ok H c w _ _ j=>by
  have m:=(EL j).1.lit;have q:=(EL j).2.lit;simp only at m q;have e:P6 a b=if b>a then b else a:=by unfold P6;by_cases h:b>a<;>simp[h]
  refine⟨.int kd (P6 a b),?_,.d _ _ (.lit _)⟩;rw[e];simp[execOp,u,resolve,invoke,builtin,m,q,Go.run_max_int2]
def aLG {t:TypeId} (z:o.op=.makeMap t none):BN P o [] es (.mp es.length) (es++[.eH []]):=
 .eff fun C ok H a w q O=>by
  have u:EY ok (w.alloc (.map #[] 0)) (H++[⟨.map (some w.heap.size),0⟩]) ⟨.map (some w.heap.size),0⟩ (.eH []):=
   ⟨w.heap.size, #[],0,rfl,(aF0 w _).1,⟨rfl,fun i e m I=>by simp at I,fun i j m n _ q=>TG⟩,.nil⟩
  obtain⟨J,L⟩:=q.push (.map #[] 0) ⟨.map (some w.heap.size),0⟩ _ (fun b u=>aHg) u;refine⟨.map (some w.heap.size),_,ok,_,.inl ?_,L,Names.push _ _,J,.mp _ _ 0 rfl aA5⟩;have M:(newObj (.map #[] 0)).run P w=.ok w.heap.size (w.alloc (.map #[] 0)):=rfl;simp[execOp,z,Instr.makeMap,M]
def nX {t J L:TypeId} {x y:Operand} {k:Nat} {ek:K→Value} (ev:V→D) (M:V) {z:Value} {m:List (K×V)} {key:K} (Z:P.underlying t=some (.map J L)) (hk:KeyTy P J ek) (hz:(P.info? L).bind (·.zero)=some z) (q:XO z=ev M) (u:z.cells.all (·.oneCell')=true)
 (he:es[k]? =some (.eH (m.map (BX ek ev)))) (ho:o.op=.lookup t x y false):BN P o [(x,.mp k),(y,.d (.lit (ek key)))] es (.d (ev ((CB m key).getD M))) es:=
 .pure fun ok H a w j hl O=>by
  obtain⟨hd,hh,I⟩:=FV j hl he;obtain⟨b,ms,clock,h1,h2,h3,_⟩:=I;have U:=Qw (EL O).1 hh;have Y:=(EL O).2.lit;simp only at U Y;obtain⟨v,hr,hv⟩:=aBH (key:=key) ev Z hk hz q u h2 h3 false;refine⟨v,?_,.d _ _ hv⟩;simp[execOp,ho,U,Y,h1,hr]
def akV {t J L:TypeId} {x y:Operand} {k:Nat} {ek:K→Value} (ev:V→D) (M:V) {z:Value} {m:List (K×V)} {key:K} (Z:P.underlying t=some (.map J L)) (hk:KeyTy P J ek) (hz:(P.info? L).bind (·.zero)=some z) (q:XO z=ev M) (u:z.cells.all (·.oneCell')=true)
 (he:es[k]? =some (.eH (m.map (BX ek ev)))) (ho:o.op=.lookup t x y true):BN P o [(x,.mp k),(y,.d (.lit (ek key)))] es (.eF [.d (ev ((CB m key).getD M)),.d (DX (CB m key).isSome)]) es:=
 .pure fun ok H a w j hl O=>by
  obtain⟨hd,hh,I⟩:=FV j hl he;obtain⟨b,ms,clock,h1,h2,h3,_⟩:=I;have U:=Qw (EL O).1 hh;have Y:=(EL O).2.lit;simp only at U Y;obtain⟨v,hr,hv⟩:=aBH (key:=key) ev Z hk hz q u h2 h3 true;refine⟨.tuple #[v,.bool (CB m key).isSome],?_,.eF _ _ rfl fun i hi=>?_⟩
  ·simp[execOp,ho,U,Y,h1,hr]
  match i,hi with
  |0,_=>exact .d _ _ hv
  |1,_=>exact .d _ _ (.lit _)
def qp {C:Dw} {ok:Nat→Prop} {H:List BJ} {w:World} (I:CS C ok H es w) {k:Nat} {es0 q:List (Value×D)} {b clock j:Nat} {ms m:Array MapEntry} {hd:BJ} (J:es[k]? =some (.eH es0)) (L:H[k]? =some hd) (u:hd.v=.map (some b)) (z:w.heap[b]? =some (.map ms clock))
 (M:Ij ok w q m j) (O:QT m j):(setObj b (.map m j)).run P w=.ok () (w.putObj b (.map m j))∧CS C ok H (es.set k (.eH q)) (w.putObj b (.map m j))∧Dz ok w ok (w.putObj b (.map m j)):=by
 refine⟨by simp[setObj,Sem.run,z,World.putObj],I.ahM J rfl L oP fun U=>⟨b,m,j,u,V8 (FX.1 z).1,M.mono U,O⟩⟩
def ank {t kt vt:TypeId} {x y u:Operand} {k:Nat} {ek:K→Value} (ev:V→D) {m:List (K×V)} {key:K} {val:V} (ht:P.underlying t=some (.map kt vt)) (J:KeyTy P kt ek) (Y:es[k]? =some (.eH (m.map (BX ek ev)))) (ho:o.op=.mapUpdate t x y u):
 BN P o [(x,.mp k),(y,.d (.lit (ek key))),(u,.d (ev val))] es .junk (es.set k (.eH ((Dj m key val).map (BX ek ev)))):=
 .eff fun C ok H a w L Z=>by
  obtain⟨hd,hh,hok⟩:=FV L.ent L.hlen Y;obtain⟨b,ms,clock,M,O,U,h4⟩:=hok;have hx:=Qw (Z (x,.mp k) Am) hh;have hy:=(Z (y,.d (.lit (ek key))) Am).lit;have hu:DF ok w (ev val) (a.eval u):=by have :=Z (u,.d (ev val)) Am;cases this with |d _ _ h=>exact h
  simp only at hx hy;obtain⟨kd,q,hs⟩:=J.same;have hks:ms.toList.map (·.key)=m.map (fun p=>ek p.1):=by rw[U.keys];simp[BX,cu]
  have z:=J.check;rcases aDy (i:=0) hs key val m ms.toList hks with⟨q1,_,q3⟩|⟨j,e,p,q1,q2,q3,_,q5,q6⟩
  ·have hM:=U.push (k:=ek key) hu;obtain⟨r1,r2,r3⟩:=qp (P:=P) L Y hh M O hM h4.push;refine⟨undef,_,ok,H,.inr ⟨rfl,?_⟩,r3,.refl _,?_,.junk _⟩
   ·simp[execOp,ho,hx,hy,M,Instr.mapUpdate,underlying,ht,OV O,z,Instr.findKey,q,q1,r1]
   rw[q3,Ip];exact r2
  have hM:=U.modify (k:=ek key) hu j;obtain⟨r1,r2,r3⟩:=qp (P:=P) L Y hh M O hM (h4.modify j _ fun _=>rfl)
  have I:e.key=ek key:=by
   have h5:(m.map (BX ek ev))[j]? =some (BX ek ev p):=by rw[Ia,q3];rfl
   rw[(U.ent j _ e h5 fM).1,J.eq _ _ q5];rfl
  have hst:∀w,(Instr.keyThatStays (ek key) (ek key)).run P w=.ok (ek key) w:=fun w=>by simp[Instr.keyThatStays,J.bits]
  have hms:ms[j]? =some e:=fM
  refine⟨undef,_,ok,H,.inr ⟨rfl,?_⟩,r3,.refl _,?_,.junk _⟩
  ·simp[execOp,ho,hx,hy,M,Instr.mapUpdate,underlying,ht,OV O,z,Instr.findKey,q,q1,hms,I,hst,r1]
  rw[q6,aCj];exact r2
def aJM {t kt vt:TypeId} {x y:Operand} {k:Nat} {ek:K→Value} (ev:V→D) (J:V) {z:Value} {m:List (K×V)} {key:K} (ht:P.underlying t=some (.map kt vt)) (hk:KeyTy P kt ek) (hz:(P.info? vt).bind (·.zero)=some z) (hzv:XO z=ev J) (hzl:z.cells.all (·.oneCell')=true)
 (he:es[k]? =some (.eH (m.map (BX ek ev)))) (ho:o.op=.mapEntry t x y):
 BN P o [(x,.mp k),(y,.d (.lit (ek key)))] es (.eF [.d (ev ((CB m key).getD J)),.d (Ac (Eu m key:Nat))]) (es.set k (.eH ((Dj m key ((CB m key).getD J)).map (BX ek ev)))):=
 .eff fun C ok H a w hm hn=>by
  obtain⟨hd,hh,hok⟩:=FV hm.ent hm.hlen he;obtain⟨b,ms,clock,h1,h2,L,h4⟩:=hok;have hx:=Qw (EL hn).1 hh;have hy:=(EL hn).2.lit;simp only at hx hy;obtain⟨kd,M,hs⟩:=hk.same;have hks:ms.toList.map (·.key)=m.map (fun p=>ek p.1):=by rw[L.keys];simp[BX,cu]
  have O:=hk.check;have hml:ms.size=m.length:=by have :=L.len;simpa using this
  obtain⟨i0,hi0,hz'⟩:=eP.1 hz;rcases afR (i:=0) hs key ((CB m key).getD J) m ms.toList hks with⟨q1,q2,q3,q4⟩|⟨e,p,q1,q2,q3,q4,q5,q6⟩
  ·have U:DF ok w (ev ((CB m key).getD J)) z:=by
    rw[q2];have :=aeL (ok:=ok) (w:=w) hzl;rw[hzv]at this;exact this
   have hM:=L.push (k:=ek key) U;obtain⟨r1,r2,Y⟩:=qp (P:=P) hm he hh h1 h2 hM h4.push;refine⟨.tuple #[z,goInt clock],_,ok,H,.inl ?_,Y,.refl _,?_,.eF _ _ rfl fun i hi=>?_⟩
   ·simp[execOp,ho,hx,hy,h1,Instr.mapEntry,underlying,ht,OV h2,O,Instr.findKey,M,q1,r1,zeroValue,typeInfo,hi0,hz']
   ·rw[q3,Ip];exact r2
   match i,hi with
   |0,_=>
    have u:=U.mono Y;exact .d _ _ u
   |1,_=>
    have :goInt (clock:Nat)=.int .i64 (Eu m key:Nat):=by rw[q4,←hml,←h4.1];rfl
    show R ok _ H (.d (Ac (Eu m key:Nat))) (goInt clock);rw[this];exact .d _ _ (.lit _)
  have h5:(m.map (BX ek ev))[Eu m key]? =some (BX ek ev p):=by rw[Ia,q3];rfl
  have j:ms[Eu m key]? =some e:=fM
  have q:=L.ent _ _ e h5 j;have U:DF ok w (ev ((CB m key).getD J)) e.val:=by rw[q4];exact q.2.1
  have hM:=L.modify (k:=ek key) U (Eu m key);have hmk:=asR ms (Eu m key) (ek key) e.val (fun e' Z=>by rw[j]at Z;rw[←CG Z]);rw[←hmk]at hM;have hkey:e.key=ek key:=by rw[q.1,hk.eq _ _ q5];rfl
  obtain⟨r1,r2,Y⟩:=qp (P:=P) hm he hh h1 h2 hM (h4.modify _ _ fun _=>rfl);have hst:∀w,(Instr.keyThatStays (ek key) (ek key)).run P w=.ok (ek key) w:=fun w=>by simp[Instr.keyThatStays,hk.bits]
  have I:e.born=Eu m key:=h4.2 _ e j;refine⟨.tuple #[e.val,goInt (Eu m key:Nat)],_,ok,H,.inl ?_,Y,.refl _,?_,.eF _ _ rfl fun i hi=>?_⟩
  ·simp[execOp,ho,hx,hy,h1,Instr.mapEntry,underlying,ht,OV h2,O,Instr.findKey,M,q1,j,hkey,hst,r1,I]
  ·rw[q6,aCj];exact r2
  match i,hi with
  |0,_=>
   have u:=U.mono Y;exact .d _ _ u
  |1,_=>exact .d _ _ (.lit _)
def aLc {t kt:TypeId} {x s u:Operand} {k:Nat} {ek:K→Value} (ev:V→D) {m:List (K×V)} {key:K} {z0 val:V} (hk:KeyTy P kt ek) (Z:es[k]? =some (.eH ((Dj m key z0).map (BX ek ev)))) (ho:o.op=.entryStore t x s u):
 BN P o [(x,.mp k),(s,.d (Ac (Eu m key:Nat))),(u,.d (ev val))] es .junk (es.set k (.eH ((Dj m key val).map (BX ek ev)))):=
 .eff fun C ok H a w L M=>by
  obtain⟨hd,hh,O⟩:=FV L.ent L.hlen Z;obtain⟨b,ms,clock,h1,h2,U,h4⟩:=O;have hx:=Qw (M (x,.mp k) Am) hh;have hy:a.eval s=.int .i64 (Eu m key:Nat):=(M (s,.d (Ac (Eu m key:Nat))) Am).lit;have hu:DF ok w (ev val) (a.eval u):=by have :=M (u,.d (ev val)) Am;cases this with |d _ _ h=>exact h
  simp only at hx;have j:=afJ key z0 m;have h5:((Dj m key z0).map (BX ek ev))[Eu m key]? =some (BX ek ev (key,z0)):=by rw[Ia,j];rfl
  have q:Eu m key<ms.size:=by
   have h6:=(FB.1 j).1;have :=U.len;rw[C9]at this;omega
  have z:ms[Eu m key]? =some ms[Eu m key]:=by simp[q]
  have I:=U.ent _ _ _ h5 z;have hM:=U.modify (k:=ek key) hu (Eu m key);have Y:=amL ms (Eu m key) (ek key) (a.eval u) (fun e' J=>by rw[z]at J;rw[←CG J];exact I.1);rw[←Y]at hM;obtain⟨r1,r2,r3⟩:=qp (P:=P) L Z hh h1 h2 hM (h4.modify _ _ fun _=>rfl);refine⟨undef,_,ok,H,.inr ⟨rfl,?_⟩,r3,.refl _,?_,.junk _⟩
  ·simp[execOp,ho,hx,hy,h1,Instr.entryStore,OV h2,asInt,asIntOf,h4.find q,r1]
  have e1:((Dj m key z0).map (BX ek ev)).set (Eu m key) (ek key,ev val)=(Dj m key val).map (BX ek ev):=by
   rw[←aOH key z0 val m,aCj];rfl
  rw[←e1];exact r2
end
section
variable {P : Program} {σ : Aj} {Q : Exit → Aj → Prop} {c : Operand} {x y : Code}
def Df {A:Type} {b:Bool} {u v z:A} (h:(bif b then u else v)=z) (j:u=z→AP P x σ Q) (m:v=z→AP P y σ Q) (q:σ.get c=.d (.lit (.bool b)):=by kernel_rfl):AP P (.cond c x y) σ Q:=
 AP.cond b q (fun e=>j (jo e h)) (fun e=>m (kW e h))
def CM {A:Type} {b:Bool} {u v z:A} (h:(bif b then u else v)=z) (j:u=z→Q .normal σ) (m:v=z→AP P y σ Q) (q:σ.get c=.d (.lit (.bool b)):=by kernel_rfl):AP P (.cond c .skip y) σ Q:=Df h (fun e=>AP.skip (j e)) m q
def BL {A:Type} {b:Bool} {u v z:A} (h:(bif b then u else v)=z) (j:u=z→AP P x σ Q) (m:v=z→Q .normal σ) (q:σ.get c=.d (.lit (.bool b)):=by kernel_rfl):AP P (.cond c x .skip) σ Q:=Df h j (fun e=>AP.skip (m e)) q
end
section
variable {P : Program} {ops : Array Oper} {o : Oper} {rest : List Oper} {σ σ' : Aj} {K : Exit → Aj → Prop} {ns : List (Operand × AV)} {x : AV} {es' : List Aq}
def CW.f (h:BN P o ns σ.ents x es') (k:CW P ops rest (σ.put o.dst x es') K) (j:(ns.map fun n=>σ.get n.1)=ns.map (·.2):=by kernel_rfl) (m:IV ops σ o.guard=some true:=by kernel_rfl) (q:(KF ns).all (tmpsOf o).contains=true:=by kernel_rfl):CW P ops (o::rest) σ K:=CW.e es' h k rfl j m q
def Chain.f (h:BN P o ns σ.ents x es') (k:Chain P ops rest (σ.put o.dst x es') σ') (j:(ns.map fun n=>σ.get n.1)=ns.map (·.2):=by kernel_rfl) (m:IV ops σ o.guard=some true:=by kernel_rfl):Chain P ops (o::rest) σ σ':=Chain.e es' h k rfl j m
def Eb.f {rs:List AV} {ess:List (List Aq)} {bs:List Bool} (h:BN P o ns σ.ents x es') (k:Eb P ops rest (σ.put o.dst x es') rs ess bs σ') (j:(ns.map fun n=>σ.get n.1)=ns.map (·.2):=by kernel_rfl) (m:IV ops σ o.guard=some true:=by kernel_rfl)
 (q:(KF ns).all (tmpsOf o).contains=true:=by kernel_rfl):Eb P ops (o::rest) σ (x::rs) (es'::ess) (true::bs) σ':=Eb.e es' h k rfl j m q
end
def aRi {A:Type} {b:Bool} {u v z:A} (h:(bif b then u else v)=z):(b=true∧u=z)∨(b=false∧v=z):=by
 cases b with
 |true=>exact .inl ⟨rfl,h⟩
 |false=>exact .inr ⟨rfl,h⟩
def Ch {A:Type} {a b:A} (h:some a=some b):a=b:=CG h
def rG {α β γ:Type} {x:Option α} {y:α→Option β} {f:α→β→Option γ} {z:γ} (h:(x.bind fun a=>(y a).bind (f a))=some z):∃a,x=some a∧∃b,y a=some b∧f a b=some z:=by
 obtain⟨a,j,h⟩:=DI h;obtain⟨b,m,h⟩:=DI h;exact⟨a,j,b,m,h⟩
def aEJ {α β γ δ:Type} {x:Option α} {y:α→Option β} {w:α→β→Option δ} {f:α→β→δ→Option γ} {z:γ} (h:(x.bind fun a=>(y a).bind fun b=>(w a b).bind (f a b))=some z):∃a,x=some a∧∃b,y a=some b∧∃d,w a b=some d∧f a b d=some z:=by
 obtain⟨a,j,b,m,h⟩:=rG h;obtain⟨d,q,h⟩:=DI h;exact⟨a,j,b,m,d,q,h⟩
def AU {α β:Type} {x:Option α} {f:α→Option β} {z:β} {G:Prop} (h:x.bind f=some z) (k:∀a,x=some a→f a=some z→G):G:=by
 obtain⟨a,j,h⟩:=DI h;exact k a j h
def DL {α β γ:Type} {x:Option α} {y:α→Option β} {f:α→β→Option γ} {z:γ} {G:Prop} (h:(x.bind fun a=>(y a).bind (f a))=some z) (k:∀a,x=some a→∀b,y a=some b→f a b=some z→G):G:=by
 obtain⟨a,j,b,m,h⟩:=rG h;exact k a j b m h
def lK {α β γ δ:Type} {x:Option α} {y:α→Option β} {w:α→β→Option δ} {f:α→β→δ→Option γ} {z:γ} {G:Prop} (h:(x.bind fun a=>(y a).bind fun b=>(w a b).bind (f a b))=some z) (k:∀a,x=some a→∀b,y a=some b→∀d,w a b=some d→f a b d=some z→G):G:=by
 obtain⟨a,j,b,m,d,q,h⟩:=aEJ h;exact k a j b m d q h
section
variable {P : Program} {o : Oper} {es : List Aq} {α : Type}
def Bd {x y:Operand} {t e:TypeId} {i:Int} {agg:Bool} {size:Nat} (enc:α→D) {l:List α} {a:α} (h:Af l i=some a) (j:P.underlying t=some (.slice e)) (m:Dl P e agg size) (q:o.op=.indexAddr t x y) (hs:(enc a).cells.length=size:=by kernel_rfl):
 BN P o [(x,.d (BG enc l)),(y,.d (.lit (.int .i64 i)))] es (.d (.ref (enc a).cells 0)) es:=ajO enc h j m hs q
def Dy {t e:TypeId} {size m len:Nat} {z:Value} (hE:Fh P t e size m) (I:(P.info? e).bind (·.zero)=some z) (ys:List D) {j:Array (Nat×Operand)} (J:o.op=.buildSlice t len j) (L:z.cells.all (·.oneCell')=true:=by kernel_rfl) (q:z.cells.size=size:=by kernel_rfl) (hlen:Nat.ble (len*size) 16777216=true:=by kernel_rfl)
 (M:Lm (fun i=>some (i*size,size)) (len*size) j.toList (ys.map .d)=true:=by kernel_rfl) (O:J6 (fun i=>some (i*size,size)) (PS z (len*size)) j.toList (ys.map .d)=flat ys:=by kernel_rfl) (hl:ys.length=len:=by kernel_rfl) (u:ys.all (fun y=>decide (y.cells.length=size))=true:=by kernel_rfl):
 BN P o (Lu j.toList (ys.map .d)) es (.d (.sl ys)) es:=aj8 hE I L q (Fg hlen) (ys.map .d) ys M O hl u J
def ZA {t e:TypeId} {size m len:Nat} {z:Value} (hE:Fh P t e size m) (I:(P.info? e).bind (·.zero)=some z) (ys:List D) {j:Array (Nat×Operand)} (J:o.op=.buildSlice t len j) (L:z.cells.all (·.oneCell')=true:=by kernel_rfl) (q:z.cells.size=size:=by kernel_rfl) (hlen:Nat.ble (len*size) 16777216=true:=by kernel_rfl)
 (M:Lm (fun i=>some (i*size,size)) (len*size) j.toList (ys.map .d)=true:=by kernel_rfl) (O:J6 (fun i=>some (i*size,size)) (PS z (len*size)) j.toList (ys.map .d)=flat ys:=by kernel_rfl) (hl:ys.length=len:=by kernel_rfl) (u:ys.all (fun y=>decide (y.cells.length=size))=true:=by kernel_rfl):
 BN P o (Lu j.toList (ys.map .d)) es (.aY es.length) (es++[.arr e size ys]):=aQA hE I L q (Fg hlen) (ys.map .d) ys M O hl u J
def CW.aM {ops:Array Oper} {l:List Oper} {σ:Aj} {K:Exit→Aj→Prop} [T:Kn P] {M:Aj→Prop} (n:Nat) (k:M (Qc (Gt T ops n l σ))) (hl:l.length=n:=by kernel_rfl) (h:(Gt T ops n l σ).isSome=true:=by kernel_rfl):CW P ops l σ (Jf M K):=
 .a n (by rw[aBa (ZB hl)];exact .bH k) h
end
def GI {A:Type} {b:Bool} {u v z:A} {G:Prop} (h:(bif b then u else v)=z) (j:b=true→u=z→G) (k2:b=false→v=z→G):G:=by
 rcases aRi h with⟨e,h⟩|⟨e,h⟩
 ·exact j e h
 exact k2 e h
def anQ {A:Type} (o:Option A) (f:A→AV):AV:=match o with
 |none=>.d (.lit (.pointer none))
 |some a=>f a
def agO {A:Type} (o:Option A) (f:A→List Aq):List Aq:=match o with
 |none=>[]
 |some a=>f a
def jC {A B:Type} (o:Option A) (x:Option B) (f:A→Option B):Option B:=match o with
 |none=>x
 |some a=>f a
def abC {A B:Type} {x z:Option B} {f:A→Option B} (h:jC none x f=z):x=z:=h
def aRD {A B:Type} {x z:Option B} {a:A} {f:A→Option B} (h:jC (some a) x f=z):f a=z:=h
section
variable {P : Program} {o : Oper} {es : List Aq}
def adl {t t':TypeId} {x y:Operand} {k off:Nat} (z:P.underlying t=some (.pointer (P.pointee t))) (I:o.op=.binOp .eql t x y t'):BN P o [(x,.ptr k off),(y,.d (.lit (.pointer none)))] es (.d (DX false)) es:=
 .pure fun _ _ a w _ _ m=>⟨.bool false,by
  have j:=(EL m).1;have q:=(EL m).2.lit;simp only at j q;generalize J:a.eval x=u at j;cases j with
  |ptr _ _ b s M=>
   have L:(eqGuard .eql t x y (Value.pointer (some ⟨b,off,none⟩)) (.pointer none)).run P w=.ok () w:=by
    unfold eqGuard;simp[pure,Sem.run_pure']
   simp only[execOp,I,J,q,Ep,L,F5,run_eql_pointer_nil w t _ z,Fa]
   rfl,.d _ _ (.lit _)⟩
def aNS {t t':TypeId} {x y:Operand} (u:P.underlying t=some (.pointer (P.pointee t))) (z:o.op=.binOp .eql t x y t'):BN P o [(x,.d (.lit (.pointer none))),(y,.d (.lit (.pointer none)))] es (.d (DX true)) es:=
 .pure fun _ _ a w _ _ j=>⟨.bool true,by
  have m:=(EL j).1.lit;have q:=(EL j).2.lit;simp only at m q
  have I:(eqGuard .eql t x y (Value.pointer none) (.pointer none)).run P w=.ok () w:=by
   unfold eqGuard;simp[pure,Sem.run_pure']
  simp only[execOp,z,m,q,Ep,I,F5,run_eql_pointer_nil w t _ u,Fa]
  rfl,.d _ _ (.lit _)⟩
end
def aJ6 :List ResultVar→Bool
 | []=>true
 | .tmp _::rs=>aJ6 rs
 |_::_=>false
def aCg (σ:Aj):List ResultVar→List AV
 | []=>[]
 | .tmp t::rs=>σ.slots.getD t .junk::aCg σ rs
 |_::rs=>.junk::aCg σ rs
def aeB {P:Program} {σ:Aj}:∀{rs:List ResultVar},aJ6 rs=true→Xu P σ rs (aCg σ rs)
 | [],_=>trivial
 | .tmp _::_,h=>⟨rfl,aeB h⟩
def Eo {P:Program} {σ:Aj} {rs:List ResultVar} {j:AV} {E':List Aq} (π:List (Nat×Bool)) (ha:aJ6 rs=true:=by kernel_rfl) (m:TI σ.base σ.ents π=true:=by kernel_rfl) (q:j=(fB (aCg σ rs)).back π:=by kernel_rfl) (u:E'=Qy σ.ents π:=by kernel_rfl):
 ∃xs π,Xu P σ rs xs∧TI σ.base σ.ents π=true∧j=(fB xs).back π∧E'=Qy σ.ents π:=⟨_,π,aeB ha,m,q,u⟩
def W9 :Nat→Nat→List (Nat×Nat×Nat)
 |0,_=>[]
 |n+1,x=>(x % 2048,x/2048 % 64,x/131072 % 2048)::W9 n (x/268435456)
def aJf :List (Nat×Nat×Nat)→List (List Nat)→Nat→List (List Nat)
 | [],N,_=>N
 |t::Tr,N,n=>bif Nat.beq t.2.2 n then aJf Tr (N++[t.2.1::N.getD t.1 []]) (n+1)else aJf Tr N n
def TQ (n x:Nat):List (List Nat):=aJf (W9 n x) [[]] 1
section
variable {P : Program} [T : Kn P] {id : Nat} {ops : Array Oper} {σ : Aj} {Q : Exit → Aj → Prop} {y : Code}
def AP.apZ (L:List (LQ P)) (n x j:Nat) (m:AP P y (KZ T L ops σ ((TQ n x).getD j [])) Q) (q:P.follows .mixedOrders=true:=by kernel_rfl) (u:tu ops (TQ n x) (W9 n x) [j]=true:=by kernel_rfl)
 (z:((W9 n x).map fun t=>Vl T L ops (KZ T L ops σ ((TQ n x).getD t.1 [])) t.2.1)=(W9 n x).map fun t=>some (KZ T L ops σ ((TQ n x).getD t.2.2 []),X7 L t.2.1):=by kernel_rfl) (I:(TQ n x).getD 0 [0]=[]:=by kernel_rfl):AP P (.seq (.region id ops true) y) σ Q:=
 AP.aBT L _ _ j m q u I z
def AP.ap0 (L:List (LQ P)) (n x:Nat) (F:List Nat) (j:Aj) (m:PX (fun k=>uY (KZ T L ops σ ((TQ n x).getD k [])) j) F) (q:AP P y j Q) (u:P.follows .mixedOrders=true:=by kernel_rfl) (z:tu ops (TQ n x) (W9 n x) F=true:=by kernel_rfl)
 (I:((W9 n x).map fun t=>Vl T L ops (KZ T L ops σ ((TQ n x).getD t.1 [])) t.2.1)=(W9 n x).map fun t=>some (KZ T L ops σ ((TQ n x).getD t.2.2 []),X7 L t.2.1):=by kernel_rfl) (J:(TQ n x).getD 0 [0]=[]:=by kernel_rfl):AP P (.seq (.region id ops true) y) σ Q:=
 AP.aBU L _ _ F j m q u z J I
end
end Go.Proofs.YtkkdimcnpacjhaaGreat
end
section
namespace Go
open Go.Proofs.YtkkdimcnpacjhaaGreat
variable {P : Program}
def yQ (w:World) (O U ty m:TypeId) (b o q z:Nat) (a:Addr) (u I k n:Nat) (cs:List Value)
 (Y:P.underlying O=some (.slice m)) (hs:(P.info? m).map (·.size)=some k) (Z:n=Nat.min u q) (hl:cs.length=n*k)
 (J:∀j v,cs[j]? =some v→w.cell? (a.add j)=some v) (hc:∀j,j<cs.length→(w.cell? ⟨b,o+j,none⟩).isSome=true) (hf:∀j,j<cs.length→w.frozen? ⟨b,o+j,none⟩=false) (h1:∀v∈cs,v.oneCell'=true):
 (Builtin.copy_ #[O,U] ty #[.slice (some ⟨b,o,none⟩) q z,.slice (some a) u I]).run P w=.ok (goInt n) (w.setCells b o cs):=by
 have L:=aH2 (P:=P) w a cs J;have hst:=run_storeCells_cells (P:=P) b o cs 0 w (by simpa using hc) (by simpa using hf) h1;rw[hl]at L;cases M:P.info? m with
 |none=>simp[M]at hs
 |some i=>
  have hi:i.size=k:=by simpa[M]using hs
  simp[Builtin.copy_,aE7 Y,Builtin.lenOf,Builtin.firstCells,sizeOf,typeInfo,M,hi,←Z,L,hst]
end Go
namespace Go.Proofs.YtkkdimcnpacjhaaGreat
open Go.Shelf Go.RowKit Go.Lib
section
variable {K V : Type} [BEq K]
def acU {α β:Type} (f:α→β):∀(l:List α) (j:Nat),(l.map f).eraseIdx j=(l.eraseIdx j).map f
 | [],_=>rfl
 |_::_,0=>rfl
 |x::l,j+1=>BH (f x:: ·) (acU f l j)
def NG :List (K×V)→K→List (K×V)
 | [],_=>[]
 |p::l,k=>bif k==p.1 then l else p::NG l k
def acv {ek:K→Value} {kd:TypeDesc} (hs:∀a b,Instr.sameNow kd (ek a) (ek b)=some (a==b)) (k:K):∀(m:List (K×V)) (l:List MapEntry) (i:Nat),l.map (·.key)=m.map (fun p=>ek p.1)→
 (Instr.findNow kd (ek k) l i=some none∧NG m k=m)∨∃(j:Nat) (e:MapEntry),Instr.findNow kd (ek k) l i=some (some (i+j,e.val))∧j<l.length∧NG m k=m.eraseIdx j
 | [],[],_,_=>.inl ⟨rfl,rfl⟩
 | [],_::_,_,h=>Gv
 |_::_,[],_,h=>Gv
 |p::m,e::l,i,h=>by
  simp only[I7,vW]at h;cases q:(k==p.1)with
  |true=>
   refine .inr ⟨0,e,?_,Am,?_⟩
   ·simp[Instr.findNow,h.1,hs,q]
   simp[NG,q]
  |false=>
   rcases acv hs k m l (i+1) h.2 with⟨u,z⟩|⟨j,e',u,z,I⟩
   ·refine .inl ⟨?_,?_⟩
    ·simp[Instr.findNow,h.1,hs,q,u]
    simp[NG,q,z]
   refine .inr ⟨j+1,e',?_,SS,?_⟩
   ·simp[Instr.findNow,h.1,hs,q,u];omega
   simp[NG,q,I]
def Ij.erase {ok:Nat→Prop} {w:World} {es:List (Value×D)} {ms:Array MapEntry} {clock:Nat} (h:Ij ok w es ms clock) {j:Nat} (I:j<ms.size):Ij ok w (es.eraseIdx j) (ms.eraseIdxIfInBounds j) clock:=by
 have hE:ms.eraseIdxIfInBounds j=ms.eraseIdx j I:=by simp[Array.eraseIdxIfInBounds,I]
 have hl:=h.len
 have key:∀(i:Nat) (m:MapEntry),(ms.eraseIdx j I)[i]? =some m→∃u,(∀e,(es.eraseIdx j)[i]? =some e→es[u]? =some e)∧ms[u]? =some m∧u=(if i<j then i else i+1):=fun i m q=>by
  rw[Array.getElem?_eraseIdx]at q;refine⟨if i<j then i else i+1,fun e z=>?_,?_,rfl⟩
  ·rw[List.getElem?_eraseIdx]at z;split at z<;>rename_i c
   ·rw[CJ c];exact z
   rw[CU c];exact z
  split at q<;>rename_i c
  ·rw[CJ c];exact q
  rw[CU c];exact q
 rw[hE];refine⟨by rw[Array.size_eraseIdx,List.length_eraseIdx];split<;>omega,fun i e m z q=>?_,fun i k m n L q M=>?_⟩
 ·obtain⟨u,O,J,_⟩:=key i m q;exact h.ent u e m (O e z) J
 obtain⟨u,_,J,U⟩:=key i m q;obtain⟨k',_,Y,Z⟩:=key k n M;exact h.inc u k' m n (by rw[U,Z];split<;>split<;>omega) J Y
def aje {P:Program} {o:Oper} {es:List Aq} {t kt vt u:TypeId} {x y:Operand} {k:Nat} {ek:K→Value} (ev:V→D) {m:List (K×V)} {key:K} (ht:P.underlying t=some (.map kt vt)) (hk:KeyTy P kt ek) (M:es[k]? =some (.map (m.map (BX ek ev)))) (ho:o.op=.call { callee:=.builtin .delete,args:= #[x,y],argTypes:= #[t,u] }):
 BN P o [(x,.mp k),(y,.d (.lit (ek key)))] es .junk (es.set k (.map ((NG m key).map (BX ek ev)))):=
 .eff fun C ok H a w I hn=>by
  obtain⟨hd,O,U⟩:=FV I.ent I.hlen M;obtain⟨b,ms,clock,J,L,Y⟩:=U;have Z:=Qw (hn (x,.mp k) Am) O;have hy:=(hn (y,.d (.lit (ek key))) Am).lit;simp only at Z hy;obtain⟨kd,q,hs⟩:=hk.same;have hks:ms.toList.map (·.key)=m.map (fun p=>ek p.1):=by rw[Y.keys];simp[BX,cu]
  have z:=hk.check;rcases acv (i:=0) hs key m ms.toList hks with⟨q1,q3⟩|⟨j,e,q1,q2,q3⟩
  ·obtain⟨r1,r2,r3⟩:=oV (P:=P) I M O J L Y;refine⟨.tuple #[],_,ok,H,.inl ?_,r3,.refl _,?_,.junk _⟩
   ·simp[execOp,ho,resolve,invoke,builtin,Builtin.delete_,Z,hy,J,underlying,ht,OV L,z,Instr.findKey,q,q1,r1]
   rw[q3];exact r2
  have hM:=Y.erase (j:=j) fM;obtain⟨r1,r2,r3⟩:=oV (P:=P) I M O J L hM;refine⟨.tuple #[],_,ok,H,.inl ?_,r3,.refl _,?_,.junk _⟩
  ·simp[execOp,ho,resolve,invoke,builtin,Builtin.delete_,Z,hy,J,underlying,ht,OV L,z,Instr.findKey,q,q1,r1]
  rw[q3,←acU];exact r2
end
section
variable {P : Program} {o : Oper} {es : List Aq}
def Wx (x y:Int):Int:=bif decide (y<x)then y else x
def an7 {x y:Operand} {ats:Array TypeId} {kd:IntKind} {a b:Int} (u:o.op=.call { callee:=.builtin .min,args:= #[x,y],argTypes:=ats }):
 BN P o [(x,.d (.lit (.int kd a))),(y,.d (.lit (.int kd b)))] es (.d (.lit (.int kd (Wx a b)))) es:=
 .pure fun ok H c w _ _ j=>by
  have m:=(EL j).1.lit;have q:=(EL j).2.lit;simp only at m q;have e:Wx a b=if b<a then b else a:=by unfold Wx;by_cases h:b<a<;>simp[h]
  refine⟨.int kd (Wx a b),?_,.d _ _ (.lit _)⟩;rw[e];simp[execOp,u,resolve,invoke,builtin,m,q,Go.run_min_int2]
end
set_option linter.unusedVariables false
set_option linter.unusedSimpArgs false
set_option maxHeartbeats 4000000 in
set_option maxRecDepth 100000 in
def aoj (b n c i vb vc:Nat) (cs vs:List Value) (w:World) (hi:i<n) (hroom:n+1≤c) (hc63:c≤9223372036854775807) (hvb:vb≠b)
 (hcl:cs.length=n*29) (hvl:vs.length=29)
 (hcs:∀j v,cs[j]? =some v→w.cell? ⟨b,j,none⟩=some v) (hsp:∀j,j<(n+1)*29→(w.cell? ⟨b,j,none⟩).isSome=true) (hfz:∀j,j<(n+1)*29→w.frozen? ⟨b,j,none⟩=false)
 (hvs:∀j v,vs[j]? =some v→w.cell? ⟨vb,j,none⟩=some v) (h1c:∀v∈cs,v.oneCell'=true) (h1v:∀v∈vs,v.oneCell'=true)
 (tA tB:TypeId) (kA kB:Nat) (hsa:w.shape? vb=some (tA,kA)) (hsb:w.shape? b=some (tB,kB)) (hkB:kB≠0) (hfa:w.frozen? ⟨vb,0,none⟩=false) (hfe:w.frozen? ⟨vb,kA,none⟩=false):
 Calls Tryz.prog 80 #[.slice (some ⟨b,0,none⟩) n c,.int .i64 i,.slice (some ⟨vb,0,none⟩) 1 vc] w fun e w'=>
  e=.returned (.slice (some ⟨b,0,none⟩) (n+1) c)∧w'=(w.drew.setCells b ((i+1)*29) (cs.drop (i*29))).setCells b (i*29) vs:=by
 have hz2:¬((i:Int)=(n:Int)):=A8
 have hw1:Ah ((i:Int)+1)=(i:Int)+1:=PI
 have hw2:Ah ((n:Int)+1)=(n:Int)+1:=PI
 have hb1:(0:Int)≤(i:Int)+1:=A8
 have hin:i≤n:=A8
 have htn:((i:Int)+1).toNat=i+1:=A8
 have aDF:((n:Int)+1).toNat=n+1:=A8
 have hb2:¬(c=i+1):=A8
 have hb3:(i:Int)≤(n:Int)+1:=A8
 have hb4:¬(c=i):=A8
 have hb5:¬((c:Int)<(n:Int)+1):=A8
 have u:(Tryz.prog.info? 39).map (·.size)=some 29:=AA
 have O:∀w,(Go.sizeOf 39).run Tryz.prog w=.ok 29 w:=fun w=>by
  cases U:Tryz.prog.info? 39 with
  |none=>simp[U]at u
  |some i=>
   have h0:i.size=29:=by simpa[U]using u
   simp[sizeOf,typeInfo,U,h0]
 have Y:∀Z cb,(callFunc 144 #[.slice (some ⟨vb,0,none⟩) 1 vc,.slice (some ⟨b,(i+1)*29,none⟩) Z cb]).run Tryz.prog w=.ok (.value (.bool false)) w:=fun Z cb=>by
  rw[run_callFunc_extern Tryz.func144 AA AA AA (e:=Extern.SlicesOverlaps.overlaps #[22,22] #[4]) AA,
   Lib.run_overlaps_apart w 22 4 39 jE 29 O ⟨vb,0,none⟩ ⟨b,(i+1)*29,none⟩ 1 vc Z cb hvb tA tB kA kB hsa hsb hkB hfa hfe]
  rfl
 have z:(cs.drop (i*29)).length=(n-i)*29:=by rw[KA,hcl,Nat.sub_mul]
 have I:∀ty Aw sc,(Builtin.copy_ #[22,22] ty #[.slice (some ⟨b,(i+1)*29,none⟩) (n-i) Aw,.slice (some ⟨b,i*29,none⟩) (n+1-i) sc]).run Tryz.prog w.drew=.ok (goInt (n-i:Nat)) (w.drew.setCells b ((i+1)*29) (cs.drop (i*29))):=fun ty Aw sc=>
  yQ w.drew _ _ ty 39 b ((i+1)*29) (n-i) Aw ⟨b,i*29,none⟩ (n+1-i) sc 29 (n-i) (cs.drop (i*29)) jE u yU z
   (fun j v m=>by rw[er];exact hcs (i*29+j) v (by rwa [Og]at m))
   (fun j m=>hsp _ aGQ) (fun j m=>hfz _ aGQ) (fun v hv=>h1c v (aH8 hv))
 obtain⟨W1,q⟩:∃W1,W1=w.drew.setCells b ((i+1)*29) (cs.drop (i*29)):=⟨_,rfl⟩
 have J:∀k,k<(n+1)*29→(W1.cell? ⟨b,k,none⟩).isSome=true:=fun k hk=>by
  rw[q];exact isSome_setCells b (cs.drop (i*29)) ((i+1)*29) w.drew (fun j m=>hsp _ aGQ) _ (hsp k hk)
 have L:∀(W:World),(∀x,W.cell? x=W1.cell? x)→(∀x,W.frozen? x=W1.frozen? x)→∀ty Aw,(Builtin.copy_ #[22,22] ty #[.slice (some ⟨b,i*29,none⟩) (n+1-i) Aw,.slice (some ⟨vb,0,none⟩) 1 vc]).run Tryz.prog W=.ok (goInt (1:Nat)) (W.setCells b (i*29) vs):=fun W M hWf ty Aw=>
  yQ W _ _ ty 39 b (i*29) (n+1-i) Aw ⟨vb,0,none⟩ 1 vc 29 1 vs jE u yU (by rw[hvl])
   (fun j v m=>by
    rw[er,M,q,World.cell?_setCells_out b _ _ _ _ (fun h _=>absurd h hvb),Ic]
    exact hvs j v m)
   (fun j m=>by rw[M];exact J _ A8) (fun j m=>by rw[hWf,q,World.frozen?_setCells];exact hfz _ A8) h1v
 rw[←q]at I;have mixed:Tryz.prog.follows .mixedOrders=true:=AA
 go_enter Tryz.func80,Tryz.ntmps80
 go_wp2_with (simp only[Y])
 go_region_law_o (refine step_copy_runI rfl _ _ 22 22 rfl _ _ aAq aAq (I _ _ _) ?_)
 go_wp2_with (at_builtin;refine wpList_copy_runI _ rfl _ _ 22 22 rfl _ _ rfl rfl (L _ (fun _=>rfl) (fun _=>rfl) _ _) ?_)
 go_ret
 first|exact⟨rfl,rfl⟩|exact⟨rfl,by rw[q]⟩
set_option maxHeartbeats 4000000 in
set_option maxRecDepth 100000 in
def akd (b n c i vb vc:Nat) (cs vs:List Value) (w:World) (hi:i<n) (hnc:n≤c) (hroom:c<n+1) (hbig:(n+1)*376≤140737488355328)
 (hcl:cs.length=n*29) (hvl:vs.length=29)
 (hcs:∀j v,cs[j]? =some v→w.cell? ⟨b,j,none⟩=some v) (hvs:∀j v,vs[j]? =some v→w.cell? ⟨vb,j,none⟩=some v) (h1c:∀v∈cs,v.oneCell'=true) (h1v:∀v∈vs,v.oneCell'=true):
 Calls Tryz.prog 80 #[.slice (some ⟨b,0,none⟩) n c,.int .i64 i,.slice (some ⟨vb,0,none⟩) 1 vc] w fun e w'=>∃G ROW,e=.returned (.slice (some ⟨w.heap.size,0,none⟩) (n+1) G)∧n+1≤G∧G≤maxLen∧G*29≤ROW.size∧ROW.toList.take (i*29)=cs.take (i*29)∧
  w'=(((w.alloc (.cells ROW 39)).drew.setCells w.heap.size (i*29) vs).drew).setCells w.heap.size ((i+1)*29) (cs.drop (i*29)):=by
 have hE:Fh Tryz.prog 22 39 29 376:=LU AA;obtain⟨i0,z0,Z,hz0,hzs,hzb,hzc⟩:=hE.info;have hsz:(Tryz.prog.info? 39).map (·.size)=some 29:=by rw[Z];simp[hzs]
 have mixed:Tryz.prog.follows .mixedOrders=true:=AA
 have hz2:¬((i:Int)=(n:Int)):=A8
 have hz3:(c:Int)<(n:Int)+1:=A8
 have hil:i*29<cs.length:=A8
 have hbw:b<w.heap.size:=block_lt_of_cell (hcs 0 _ (Ce A8));have hvw:vb<w.heap.size:=block_lt_of_cell (hvs 0 _ (Ce A8));have hkk:(n:Int)+1-(i:Int)=((n+1-i:Nat):Int):=A8
 have M:i+(n+1-i)=n+1:=A8
 have O:(cs.take (i*29)).length=i*29:=by rw[FI];omega
 have J:(Builtin.firstCells i0.size i (.slice (some ⟨b,0,none⟩) i c)).run Tryz.prog w.drew=.ok (cs.take (i*29)).toArray w.drew:=by
  rw[hzs]
  exact run_firstCells_some w.drew 29 i ⟨b,0,none⟩ i c (cs.take (i*29)) (by rw[O]) (fun j v m=>by
   rw[er,Ic];rw[sS]at m;split at m
   ·exact hcs j v m
   cases m)
 have I:∀ty,(Builtin.append_ #[22,3] ty #[.slice (some ⟨b,0,none⟩) i c,.int .i64 ((n:Int)+1-(i:Int))]).run Tryz.prog w=
  .ok (.slice (some ⟨w.heap.size,0,none⟩) (n+1) (grownCap w (n+1) c 39)) (w.drew.alloc (.cells ((cs.take (i*29)).toArray++Builtin.zeroCells z0.cells (n+1-i)++Builtin.zeroCells z0.cells (grownCap w (n+1) c 39-(n+1))) 39)):=fun ty=>by
  have h:=Lib.run_append_grow_zeros w 22 3 ty 39 i0 z0 .i64 .i64 hE.und AA Z hz0 (some ⟨b,0,none⟩) i c (cs.take (i*29)) J (n+1-i) A8 A8 A8 A8 (by rw[hzb];omega) (by rw[hzb,M];exact growslice_fits A8 A8);rw[M]at h;rw[hkk];exact h
 have hGn:n+1≤grownCap w (n+1) c 39:=grownCap_ge w _ _ _;have U:=grownCap_le_maxLen w (n+1) c 39 aEP;obtain⟨G,hG⟩:∃G,G=grownCap w (n+1) c 39:=⟨_,rfl⟩
 obtain⟨ROW,q⟩:∃ROW:Array Value,ROW=(cs.take (i*29)).toArray++Builtin.zeroCells z0.cells (n+1-i)++Builtin.zeroCells z0.cells (G-(n+1)):=⟨_,rfl⟩
 rw[←hG]at I hGn U;rw[←q]at I
 have hRl:ROW.size=G*29:=by
  rw[q];simp[Builtin.zeroCells,hzc];omega
 have hRt:ROW.toList.take (i*29)=cs.take (i*29):=by
  rw[q];simp[Gq];rw[rX O]
 obtain⟨W1,u⟩:∃W1,W1=w.drew.alloc (.cells ROW 39):=⟨_,rfl⟩
 rw[←u]at I
 have hN:∀j,j<(n+1)*29→(W1.cell? ⟨w.heap.size,j,none⟩).isSome=true:=fun j m=>by
  rw[u,World.cell?_alloc_at (w:=w.drew) ROW _ w.heap.size j rfl,wQ A8];rfl
 have hNf:∀j,W1.frozen? ⟨w.heap.size,j,none⟩=false:=fun j=>by rw[u];exact World.frozen?_alloc_at (w:=w.drew) ROW _ w.heap.size j rfl
 have hOb:∀j v,w.cell? ⟨b,j,none⟩=some v→W1.cell? ⟨b,j,none⟩=some v:=fun j v h=>by rw[u,World.cell?_alloc_past (w:=w.drew) _ b j hbw];exact h
 have hOv:∀j v,w.cell? ⟨vb,j,none⟩=some v→W1.cell? ⟨vb,j,none⟩=some v:=fun j v h=>by rw[u,World.cell?_alloc_past (w:=w.drew) _ vb j hvw];exact h
 have hcpA:∀(W:World),(∀x,W.cell? x=W1.cell? x)→(∀x,W.frozen? x=W1.frozen? x)→∀ty Aw,(Builtin.copy_ #[22,22] ty #[.slice (some ⟨w.heap.size,i*29,none⟩) (n+1-i) Aw,.slice (some ⟨vb,0,none⟩) 1 vc]).run Tryz.prog W=.ok (goInt (1:Nat)) (W.setCells w.heap.size (i*29) vs):=fun W z Y ty Aw=>
  yQ W _ _ ty 39 w.heap.size (i*29) (n+1-i) Aw ⟨vb,0,none⟩ 1 vc 29 1 vs hE.und hsz yU (by rw[hvl])
   (fun j v m=>by rw[er,z,Ic];exact hOv _ v (hvs j v m))
   (fun j m=>by rw[z];exact hN _ A8) (fun j m=>by rw[Y];exact hNf _) h1v
 have hG63:G≤9223372036854775807:=by unfold maxLen at U;omega
 have hGi:¬(G=i):=A8
 have hGim:¬(G=i+1):=A8
 have hci:¬(c=i):=A8
 have hbN:b≠w.heap.size:=A8
 have hdl:(cs.drop (i*29)).length=(n-i)*29:=by rw[KA,hcl,Nat.sub_mul]
 have L:∀(W:World),(∀x,W.cell? x=(W1.setCells w.heap.size (i*29) vs).cell? x)→(∀x,W.frozen? x=(W1.setCells w.heap.size (i*29) vs).frozen? x)→∀ty Aw sc,(Builtin.copy_ #[22,22] ty #[.slice (some ⟨w.heap.size,(i+1)*29,none⟩) (n-i) Aw,.slice (some ⟨b,i*29,none⟩) (n-i) sc]).run Tryz.prog W=.ok (goInt (n-i:Nat)) (W.setCells w.heap.size ((i+1)*29) (cs.drop (i*29))):=fun W z Y ty Aw sc=>
  yQ W _ _ ty 39 w.heap.size ((i+1)*29) (n-i) Aw ⟨b,i*29,none⟩ (n-i) sc 29 (n-i) (cs.drop (i*29)) hE.und hsz yU hdl
   (fun j v m=>by
    rw[er,z,World.cell?_setCells_out _ _ _ _ _ (fun h _=>absurd h hbN)]
    exact hOb _ v (hcs (i*29+j) v (by rwa [Og]at m)))
   (fun j m=>by rw[z];exact isSome_setCells _ vs (i*29) W1 (fun t ht=>hN _ A8) _ (hN _ (by rw[hdl]at m;omega)))
   (fun j m=>by rw[Y,World.frozen?_setCells];exact hNf _) (fun v hv=>h1c v (aH8 hv))
 subst u;have hE1:∀x,((w.alloc (.cells ROW 39)).drew).cell? x=(w.drew.alloc (.cells ROW 39)).cell? x:=fun x=>rfl;have hE2:∀x,((w.alloc (.cells ROW 39)).drew).frozen? x=(w.drew.alloc (.cells ROW 39)).frozen? x:=fun x=>rfl;have hF1:∀x,(((w.alloc (.cells ROW 39)).drew.setCells w.heap.size (i*29) vs).drew).cell? x=((w.drew.alloc (.cells ROW 39)).setCells w.heap.size (i*29) vs).cell? x:=fun x=>rfl;have hF2:∀x,(((w.alloc (.cells ROW 39)).drew.setCells w.heap.size (i*29) vs).drew).frozen? x=((w.drew.alloc (.cells ROW 39)).setCells w.heap.size (i*29) vs).frozen? x:=fun x=>rfl;have hw1:Ah ((i:Int)+1)=(i:Int)+1:=PI
 have hw2:Ah ((n:Int)+1)=(n:Int)+1:=PI
 have hw3:Ah ((n:Int)+1-(i:Int))=(n:Int)+1-(i:Int):=PI
 have hb1:(0:Int)≤(i:Int)+1:=A8
 have hin:i≤n:=A8
 have htn:((i:Int)+1).toNat=i+1:=A8
 have hb3:(i:Int)≤(n:Int):=A8
 clear hkk M J q hG hil O
 go_enter Tryz.func80,Tryz.ntmps80
 go_wp2_with (first
  |(at_builtin;refine aGt _ rfl _ _ _ _ rfl _ _ rfl rfl _ _ (I _) ?_)
  |(at_builtin;refine wpList_copy_runI _ rfl _ _ 22 22 rfl _ _ rfl rfl (hcpA _ hE1 hE2 _ _) ?_)
  |(at_builtin;refine wpList_copy_runI _ rfl _ _ 22 22 rfl _ _ rfl rfl (L _ (fun _=>rfl) (fun _=>rfl) _ _ _) ?_))
 go_region_law_o (refine step_copy_runI rfl _ _ 22 22 rfl (.slice (some ⟨w.heap.size,(i+1)*29,none⟩) (n-i) (G-(i+1))) (.slice (some ⟨b,i*29,none⟩) (n-i) (c-i)) aAq aAq (L _ hF1 hF2 3 (G-(i+1)) (c-i)) ?_)
 go_wp2
 go_ret
 exact⟨G,ROW,rfl,hGn,U,ZB hRl.symm,hRt,rfl⟩
def putAt (j:Array Value):Nat→List Value→Array Value
 |_,[]=>j
 |o,v::r=>putAt (j.setIfInBounds o v) (o+1) r
def ZO :∀(vs:List Value) (o:Nat) (j:Array Value),(putAt j o vs).size=j.size
 | [],_,_=>rfl
 |v::r,o,j=>by rw[putAt,ZO r];simp
def nV :∀(vs:List Value) (o:Nat) (m:Array Value),o+vs.length≤m.size→(putAt m o vs).toList=m.toList.take o++vs++m.toList.drop (o+vs.length)
 | [],o,m,_=>by simp[putAt]
 |v::r,o,m,h=>by
  simp only[FC]at h;rw[putAt,nV r (o+1) _ DK,aHp];refine Yl fun j=>?_;simp only[Gq,List.getElem?_append,FI,Zx,SG,sS,aJE,Og,FC,V7,acN]
  grind
def lM (b:Nat):∀(vs:List Value) (o:Nat) (w:World) (j:Array Value) (e:TypeId) (fr:Nat×Nat),w.heap[b]? =some (.cells j e fr)→(w.setCells b o vs).heap[b]? =some (.cells (putAt j o vs) e fr)
 | [],_,_,_,_,_,h=>h
 |v::r,o,w,j,e,fr,h=>by
  rw[World.setCells,putAt];refine lM b r (o+1) _ _ e fr ?_;simp[World.setCell,Nl,h]
set_option maxHeartbeats 4000000 in
set_option maxRecDepth 100000 in
def ajl {v:Value} {n vb vc:Nat} {xs news:List Value} {w:World} (hown:lQ w 39 29 v n xs) (hsrc:Ue w (.slice (some ⟨vb,0,none⟩) 1 vc) 1 29 news) (hb:(n+1)*376≤140737488355328):
 Calls Tryz.prog 80 #[v,.int .i64 n,.slice (some ⟨vb,0,none⟩) 1 vc] w fun e w'=>∃v',e=.returned v'∧lQ w' 39 29 v' (n+1) (xs++news)∧w.grownBy w' v.ownBlock∧∀g,Cb v'=some g→Cb v=some g∨w.heap.size≤g:=by
 have hE:Fh Tryz.prog 22 39 29 376:=LU AA;obtain⟨v',w',q,u,z,I⟩:=aLX (ty:=22) hE hown hsrc hb aEP;have mixed:Tryz.prog.follows .mixedOrders=true:=AA
 rcases hown.2 with⟨rfl,L⟩|⟨g,cap,M,rfl,_,Y,O,j,U,m⟩
 ·subst L
  go_enter Tryz.func80,Tryz.ntmps80
  go_wp2_with (at_builtin;refine aGt _ rfl _ _ _ _ rfl _ _ rfl rfl _ _ q ?_)
  go_ret
  exact⟨v',rfl,u,z,I⟩
 have J:cap≤9223372036854775807:=by unfold maxLen at j;omega
 go_enter Tryz.func80,Tryz.ntmps80
 go_wp2_with (at_builtin;refine aGt _ rfl _ _ _ _ rfl _ _ rfl rfl _ _ q ?_)
 all_goals (go_ret;exact⟨v',rfl,u,z,I⟩)
def nP (b:Nat):∀(vs:List Value) (o:Nat) (w:World),(w.setCells b o vs).os=w.os∧(w.setCells b o vs).tape=w.tape∧(w.setCells b o vs).output=w.output∧(w.setCells b o vs).heap.size=w.heap.size∧∀i,i≠b→(w.setCells b o vs).heap[i]? =w.heap[i]?
 | [],_,_=>⟨rfl,rfl,rfl,rfl,fun _ _=>rfl⟩
 |v::r,o,w=>by
  obtain⟨j,m,q,u,z⟩:=nP b r (o+1) (w.setCell ⟨b,o,none⟩ v);rw[World.setCells];refine⟨j,m,q,by rw[u];simp[World.setCell],fun i hi=>?_⟩;rw[z i hi];simp[World.setCell,Nl,Ne.symm hi]
def aqb {j:Array Value} {xs vs:List Value} {a N k:Nat} (q:j.toList.take N=xs) (hl:xs.length=N) (m:vs.length=k) (ha:a≤N) (hs:N+k≤j.size):
 (putAt (putAt j (a+k) (xs.drop a)) a vs).toList.take (N+k)=xs.take a++vs++xs.drop a:=by
 have hd:(xs.drop a).length=N-a:=by rw[KA,hl]
 rw[nV vs a _ (by rw[ZO];omega),nV (xs.drop a) (a+k) j A8,m,hd]
 have u:(j.toList.take (a+k)++xs.drop a++j.toList.drop (a+k+(N-a))).take a=xs.take a:=by
  rw[Gq,List.take_append_of_le_length DK,aMi,←q,aMi,mM A8,mM ha]
 have z:(j.toList.take (a+k)++xs.drop a++j.toList.drop (a+k+(N-a))).drop (a+k)=xs.drop a++j.toList.drop (a+k+(N-a)):=by
  rw[Gq,List.drop_left' DK]
 rw[u,z,←Gq,rX (by simp[hd,m,hl];omega)]
def atC {j:Array Value} {xs vs:List Value} {a N k:Nat} (q:j.toList.take a=xs.take a) (hl:xs.length=N) (m:vs.length=k) (ha:a≤N) (hs:N+k≤j.size):
 (putAt (putAt j a vs) (a+k) (xs.drop a)).toList.take (N+k)=xs.take a++vs++xs.drop a:=by
 have hd:(xs.drop a).length=N-a:=by rw[KA,hl]
 rw[nV (xs.drop a) (a+k) _ (by rw[ZO];omega),nV vs a j A8,m,hd,q];have u:(xs.take a++vs++j.toList.drop (a+k)).take (a+k)=xs.take a++vs:=rX (by simp[m,hl];omega);rw[u,rX (by simp[hd,m,hl];omega)]
def oq {w:World} {g n:Nat} {m:Array Value} {xs:List Value} {T:TypeId} {fr:Nat×Nat} (q:w.heap[g]? =some (.cells m T fr)) (u:m.toList.take n=xs) (j:Nat) (v:Value) (h:xs[j]? =some v):w.cell? ⟨g,j,none⟩=some v:=by
 unfold World.cell?;simp only[q];rw[←u,sS]at h;split at h
 ·simpa using h
 cases h
def as5 {w:World} {g:Nat} {m:Array Value} {T:TypeId} {fr:Nat×Nat} (q:w.heap[g]? =some (.cells m T fr)) (j:Nat) (h:j<m.size):(w.cell? ⟨g,j,none⟩).isSome=true:=by
 unfold World.cell?;simp[q,h]
def aN8 {w:World} {g:Nat} {m:Array Value} {T:TypeId} (q:w.heap[g]? =some (.cells m T (0,0))) (j:Nat):w.frozen? ⟨g,j,none⟩=false:=by
 unfold World.frozen?;simp[q]
def agt {v:Value} {n vb vc i:Nat} {xs m:List Value} {w:World} (hi:i≤n) (I:lQ w 39 29 v n xs) (h1:∀u∈xs,u.oneCell'=true) (hx:lQ w 39 29 (.slice (some ⟨vb,0,none⟩) 1 vc) 1 m) (Y:∀u∈m,u.oneCell'=true) (hne:Cb v≠some vb) (hb:(n+1)*376≤140737488355328):
 Calls Tryz.prog 80 #[v,.int .i64 i,.slice (some ⟨vb,0,none⟩) 1 vc] w fun e w'=>∃v',e=.returned v'∧lQ w' 39 29 v' (n+1) (xs.take (i*29)++m++xs.drop (i*29))∧Turns v w w'∧∀g,Cb v'=some g→Cb v=some g∨w.heap.size≤g:=by
 have J:=I.1;have L:m.length=29:=by have :=hx.1;omega
 rcases hx.2 with⟨e0,_⟩|⟨vb',aDG,aC1,e0,_,M,hvn,_,hvs,Z⟩
 ·cases e0
 injection e0 with e1 _ e3
 injection e1 with e1
 injection e1 with e1
 subst e1 e3;rcases YQ i n with hin|hin
 ·rcases I.2 with⟨_,h0⟩|⟨g,cap,U,rfl,_,hg,hnc,hcm,hcs,z⟩
  ·omega
  have hgv:vb≠g:=fun e=>hne vC;have hil:i*29≤n*29:=JB _ hi;rcases YQ n cap with q|q
  ·have hfit:(n+1)*29≤U.size:=EZ (JB _ q) hcs;refine(aoj g n cap i vb vc xs m w hin q (by unfold maxLen at hcm;omega) hgv J L (oq hg z) (fun j hj=>as5 hg j A8) (fun j _=>aN8 hg j) (oq M Z) h1 Y 39 39 aC1.size U.size (by simp[World.shape?,M]) (by simp[World.shape?,hg]) A8 (aN8 M 0) (aN8 M _)).mono ?_;rintro e w' ⟨rfl,rfl⟩;have hh:=lM g m (i*29) _ _ _ _ (lM g (xs.drop (i*29)) ((i+1)*29) w.drew U 39 (0,0) hg);obtain⟨a1,a2,a3,a4,a5⟩:=nP g (xs.drop (i*29)) ((i+1)*29) w.drew;obtain⟨b1,b2,b3,b4,b5⟩:=nP g m (i*29) (w.drew.setCells g ((i+1)*29) (xs.drop (i*29)));refine⟨_,rfl,⟨?_,.inr ⟨g,cap,_,rfl,EK _,hh,q,hcm,by rw[ZO,ZO];exact hcs,?_⟩⟩,⟨b1.trans a1,b2.trans a2,b3.trans a3,by rw[b4,a4];exact Dc _,fun c hc hcb=>?_⟩,fun g' hg'=>.inl hg'⟩
   ·simp[L,J];omega
   ·have :=aqb (a:=i*29) (k:=29) z J L hil A8;rw[show(i+1)*29=i*29+29 by omega,show(n+1)*29=n*29+29 by omega];exact this
   have O:c≠g:=fun e=>hcb vC;rw[b5 c O,a5 c O];rfl
  refine(akd g n cap i vb vc xs m w hin hnc A8 hb J L (oq hg z) (oq M Z) h1 Y).mono ?_;rintro e w' ⟨G,ROW,rfl,hGn,hGm,hGs,hRt,rfl⟩
  have hal:((w.alloc (.cells ROW 39)).drew).heap[w.heap.size]? =some (.cells ROW 39 (0,0)):=by
   show(w.heap.push (.cells ROW 39 (0,0)))[w.heap.size]? =_;simp
  have hh:=lM w.heap.size (xs.drop (i*29)) ((i+1)*29) _ _ _ _ (show(((w.alloc (.cells ROW 39)).drew.setCells w.heap.size (i*29) m).drew).heap[w.heap.size]? =_ from lM w.heap.size m (i*29) _ ROW 39 (0,0) hal);obtain⟨a1,a2,a3,a4,a5⟩:=nP w.heap.size m (i*29) (w.alloc (.cells ROW 39)).drew;obtain⟨b1,b2,b3,b4,b5⟩:=nP w.heap.size (xs.drop (i*29)) ((i+1)*29) ((w.alloc (.cells ROW 39)).drew.setCells w.heap.size (i*29) m).drew;refine⟨_,rfl,⟨?_,.inr ⟨w.heap.size,G,_,rfl,EK _,hh,hGn,hGm,by rw[ZO,ZO];exact hGs,?_⟩⟩,⟨b1.trans a1,b2.trans a2,b3.trans a3,?_,fun c hc hcb=>?_⟩,fun g' hg'=>.inr (by simp[Cb]at hg';omega)⟩
  ·simp[L,J];omega
  ·have :=atC (a:=i*29) (k:=29) hRt J L hil (by have :=JB 29 hGn;omega);rw[show(i+1)*29=i*29+29 by omega,show(n+1)*29=n*29+29 by omega];exact this
  ·rw[b4];show w.heap.size≤((w.alloc (.cells ROW 39)).drew.setCells w.heap.size (i*29) m).heap.size;rw[a4];show w.heap.size≤(w.heap.push (.cells ROW 39 (0,0))).size;simp
  have O:c≠w.heap.size:=A8
  rw[b5 c O];show((w.alloc (.cells ROW 39)).drew.setCells w.heap.size (i*29) m).heap[c]? =_;rw[a5 c O];show(w.heap.push (.cells ROW 39 (0,0)))[c]? =_;simp[aHz,O]
 have hni:i=n:=A8
 subst hni;refine(ajl I ⟨A8,Y,.inl ⟨_,_,rfl,fun j u hj=>by rw[er,Ic];exact oq M Z j u hj⟩⟩ hb).mono ?_;rintro e w' ⟨v',rfl,h2,h3,h4⟩;refine⟨v',rfl,?_,⟨h3.os,h3.tape,h3.output,h3.size,fun k hk hne'=>h3.block k hk ?_⟩,h4⟩
 ·rw[PE A8,aBa A8,PG];exact h2
 rcases I.2 with⟨rfl,_⟩|⟨g,cap,U,rfl,_⟩
 ·simp[Value.ownBlock]
 intro e;exact hne' e.symm
def asM {j:Array Value} (hs:j.size=3):j= #[j.getD 0 undef,j.getD 1 undef,j.getD 2 undef]:=by
 refine YL (by simp[hs]) fun i q m=>?_;simp at m;have :i=0∨i=1∨i=2:=A8
 rcases this with rfl|rfl|rfl<;>simp[Array.getD,hs]
def ahH {ok:Nat→Prop} {w:World} {H:List BJ} {xs:List AV} {vs:List Value} (h:FQ ok w H xs vs) (n:Nat):FQ ok w H (xs.take n) (vs.take n):=by
 refine⟨by rw[FI,FI,h.1],fun i hi=>?_⟩;rw[FI]at hi;have :=h.2 i A8;rw[qj,qj]at this ⊢;rw[Ln A8,Ln A8];exact this
def ak3 {ok:Nat→Prop} {w:World} {H:List BJ} {xs:List AV} {vs:List Value} (h:FQ ok w H xs vs) (n:Nat):FQ ok w H (xs.drop n) (vs.drop n):=by
 refine⟨by rw[KA,KA,h.1],fun i hi=>?_⟩;rw[KA]at hi;have :=h.2 (n+i) A8;rw[qj,qj]at this ⊢;rw[Og,Og];exact this
def aNZ {ok:Nat→Prop} {w:World} {H:List BJ} {xs:List AV} {vs:List Value} (h:FQ ok w H xs vs):∀u∈vs,u.oneCell'=true:=fun u m=>by
 obtain⟨i,hi,rfl⟩:=Hf m;have j:=h.2 i (by rw[←h.1];exact hi);have :=j.2.leaf j.1
 rwa [qj,Ce hi]at this
def adx {size:Nat}:∀{es:List D} (i:Nat),(∀x∈es,x.cells.length=size)→flat (es.take i)=(flat es).take (i*size)
 | [],i,_=>SB
 |x::l,0,_=>SB
 |x::l,i+1,h=>by
  have j:(x.cells.map AV.d).length=size:=by rw[C9];exact h x (Ec ..)
  rw[List.take_succ_cons,Uf,Uf,adx i fun y m=>h y (Ez _ m),Vu,aEQ,QA,←j,List.take_length_add_append]
def aee {size:Nat}:∀{es:List D} (i:Nat),(∀x∈es,x.cells.length=size)→flat (es.drop i)=(flat es).drop (i*size)
 | [],i,_=>SB
 |x::l,0,_=>SB
 |x::l,i+1,h=>by
  have j:(x.cells.map AV.d).length=size:=by rw[C9];exact h x (Ec ..)
  rw[List.drop_succ_cons,Uf,aee i fun y m=>h y (Ez _ m),Vu,aEQ,QA,←j,List.drop_length_add_append]
def CS.kill {C:Dw} {ok:Nat→Prop} {H:List BJ} {es:List Aq} {w:World} (u:CS C ok H es w) (k:Nat):CS C ok H (es.set k .dead) w:=
 (u.change (ok':=ok) (H':=H) (w':=w) (es':=es.set k .dead) (fun _=>False) rfl rfl rfl (Dc _) (fun _ _ _=>rfl) (fun _ h=>h.elim) (fun _ h=>h) (fun _ h=>.inl h) (.refl _) (by simpa using u.hlen) (by
  intro j e' h' m q;by_cases z:k=j
  ·subst z;rw[aJE]at m;simp only[J5]at m;split at m
   ·cases m;exact .inr ⟨trivial,fun h=>Fr⟩
   cases m
  rw[XT z]at m
  exact .inl ⟨m,q,fun _ _ _ h=>h⟩)).1
def aIM {α:Type} (l:List α) (i:Int) (m:List α):Option (List α):=match m with
 | [x]=>if(0≤i∧i≤(l.length:Int))∧l.length≤34359738368 then some (l.take i.toNat++x::l.drop i.toNat)else none
 |_=>none
def arS {α:Type} {e:α→D} (hk:∀x,(e x).cells.length=29) (l:List α) (q:Int) (m r:List α) (h:aIM l q m=some r):
 BF 80 [.aY 0,.d (Ac q),.aY 1] [.arr 39 29 (l.map e),.arr 39 29 (m.map e)] (.aY 2) [.dead,.dead,.arr 39 29 (r.map e)]:=by
 unfold aIM at h;split at h
 case h_2=>cases h
 rename_i x;split at h
 case isFalse=>cases h
 rename_i hc;obtain⟨⟨hq0,hql⟩,hb⟩:=hc;obtain rfl:=CG h;obtain⟨i,rfl⟩:∃i:Nat,q=i:=⟨q.toNat,A8⟩
 have hi:i≤l.length:=A8
 rw[Ws];intro ok X H w M J hs ha;have h0:=ha 0 Am;have hq:=ha 1 Am;have h2:=ha 2 Am;rw[asM hs];obtain⟨hd,hh,hok⟩:=FV J.ent J.hlen (k:=0) rfl;obtain⟨O,U,Y⟩:=FV J.ent J.hlen (k:=1) rfl;obtain hv:=OE h0 hh;obtain hv1:=OE h2 U
 have hq':M.getD 1 undef=.int .i64 i:=by
  simp only[List.getD,aCl,aMk,MH]at hq;cases hq with |d _ _ hq=>exact DF.afi hq
 rw[hv,hv1,hq'];obtain⟨hz,Z,xs,how,L⟩:=hok;obtain⟨hz1,aDH,news,u,I⟩:=Y;rw[C9]at how
 obtain⟨g1,c1,hg1⟩:∃g1 c1,O.v=.slice (some ⟨g1,0,none⟩) 1 c1:=by
  rcases u.2 with⟨_,h⟩|⟨g,cap,cur,h,_⟩
  ·cases h
  exact⟨g,cap,h⟩
 have hne:Cb hd.v≠some g1:=fun hb=>by
  have :=J.Dp 0 1 _ _ hd O g1 rfl rfl rfl rfl hh U hb (by rw[hg1];rfl);cases this
 rw[hg1]at u ⊢;refine(agt hi how (aNZ L) u (aNZ I) hne A8).mono ?_;rintro y w' ⟨v',rfl,j,ht,hblk⟩;have hlen:l.length+1=((l.take i++x::l.drop i).map e).length:=DK
 rw[hlen]at j
 have hfl:flat ((l.take i++x::l.drop i).map e)=(flat (l.map e)).take (i*29)++flat ([x].map e)++(flat (l.map e)).drop (i*29):=by
  rw[←adx i Z,←aee i Z,←bD,←bD,Ip,I7,XY,Yv,Gq];rfl
 have hg:=J.turn (e:=.arr 39 29 ((l.take i++x::l.drop i).map e)) (h':=⟨v',29⟩) (w':=w') (k:=0) rfl rfl hh ht.os ht.tape ht.output ht.size ht.block (fun g hg=>⟨jH j hg,hblk g hg⟩) (fun hgr=>⟨rfl,fun y hy=>by
  obtain⟨z,_,rfl⟩:=FH.1 hy
  exact hk z,_,j,by rw[hfl];exact(aCa (aCa (ahH L _) I) (ak3 L _)).mono hgr (.push _ _)⟩)
 refine⟨v',ok,H++[⟨v',29⟩],rfl,hg.1.kill 1,?_⟩;have hl:H.length=2:=J.hlen;have hr:(H++[(⟨v',29⟩:BJ)])[2]? =some ⟨v',29⟩:=by rw[←hl];simp
 rcases j.2 with⟨rfl,_⟩|⟨g,cap,cur,rfl,_⟩
 ·exact .aY 2 _ _ _ 29 hr
 exact .aY 2 _ _ _ 29 hr
end Go.Proofs.YtkkdimcnpacjhaaGreat
end
section
namespace Go.Proofs.YtkkdimcnpacjhaaGreat
open Go.RowKit
section
variable {P : Program} {o : Oper} {es : List Aq}
def Tt {f:FuncId} {ops:Array Operand} {ats:Array TypeId} (dX:List AV) {fV:List AV} {j res':AV} {E':List Aq} (m:Ap P f fV [] j E') (q:o.op=.call { callee:=.value (.func f),args:=ops,argTypes:=ats }) (u:DV P f=true:=by kernel_rfl) (z:E'.all Aq.closed=true:=by kernel_rfl)
 (ha:Kz [] dX fV:=by repeat (first|exact trivial|refine⟨.inl rfl,?_⟩|refine⟨.inr (.inr ⟨rfl,rfl⟩),?_⟩)) (hl:ops.toList.length=dX.length:=by kernel_rfl) (I:j.up [] es.length=res':=by kernel_rfl):BN P o (Em ops.toList dX) es res' (es++E'):=acM m u z ha hl I q
def aPF {f:FuncId} {ops:Array Operand} {ats:Array TypeId} (dX:List AV) {fV:List AV} {j res':AV} (m:Ap P f fV [] j []) (q:o.op=.call { callee:=.value (.func f),args:=ops,argTypes:=ats }) (u:DV P f=true:=by kernel_rfl)
 (ha:Kz [] dX fV:=by repeat (first|exact trivial|refine⟨.inl rfl,?_⟩|refine⟨.inr (.inr ⟨rfl,rfl⟩),?_⟩)) (hl:ops.toList.length=dX.length:=by kernel_rfl) (z:j.up [] es.length=res':=by kernel_rfl):BN P o (Em ops.toList dX) es res' es:=aNW m u ha hl z q
def EM {f:FuncId} {ops:Array Operand} {ats:Array TypeId} (srcs:List DJ) (dX:List AV) {fV:List AV} {E E':List Aq} {j res':AV} (m:Ap P f fV E j E') (q:o.op=.call { callee:=.value (.func f),args:=ops,argTypes:=ats }) (u:DV P f=true:=by kernel_rfl) (z:Qs srcs es E E'=true:=by kernel_rfl)
 (hE:Rj srcs es srcs E:=by first|exact trivial|exact KE AA trivial) (ha:Kz srcs dX fV:=by repeat (first|exact trivial|refine⟨.inl rfl,?_⟩|refine⟨⟨0,rfl,rfl⟩,?_⟩|refine⟨⟨1,rfl,rfl⟩,?_⟩|refine⟨⟨2,rfl,rfl⟩,?_⟩|refine⟨.inr (.inr ⟨rfl,rfl⟩),?_⟩)) (hl:ops.toList.length=dX.length:=by kernel_rfl)
 (I:res'=j.up srcs es.length:=by kernel_rfl):BN P o (Em ops.toList dX) es res' (KU srcs es E'):=aNs srcs m u z hE ha hl I q
def Yf {f:FuncId} {x:Operand} {ops:Array Operand} {ats:Array TypeId} (srcs:List DJ) (fi ca dX:List AV) {fV:List AV} {E E':List Aq} {j res':AV} (m:Ap P f fV E j E') (q:o.op=.call { callee:=.value x,args:=ops,argTypes:=ats }) (u:DV P f=true:=by kernel_rfl) (z:Qs srcs es E E'=true:=by kernel_rfl)
 (hE:Rj srcs es srcs E:=by first|exact trivial|exact KE AA trivial) (ha:Kz srcs (fi++dX++ca) fV:=by repeat (first|exact trivial|refine⟨.inl rfl,?_⟩|refine⟨⟨0,rfl,rfl⟩,?_⟩|refine⟨⟨1,rfl,rfl⟩,?_⟩|refine⟨⟨2,rfl,rfl⟩,?_⟩|refine⟨.inr (.inr ⟨rfl,rfl⟩),?_⟩)) (hl:ops.toList.length=dX.length:=by kernel_rfl)
 (I:res'=j.up srcs es.length:=by kernel_rfl):BN P o ((x,.fn (.func f) fi ca)::Em ops.toList dX) es res' (KU srcs es E'):=alQ srcs fi ca m u z hE ha hl I q
def aea {f:FuncId} {x:Operand} {ops:Array Operand} {ats:Array TypeId} (srcs:List DJ) (fi ca:List D) (dX:List AV) {fV:List AV} {E E':List Aq} {j res':AV} (m:Ap P f fV E j E') (q:o.op=.call { callee:=.value x,args:=ops,argTypes:=ats }) (u:DV P f=true:=by kernel_rfl) (z:Qs srcs es E E'=true:=by kernel_rfl)
 (hE:Rj srcs es srcs E:=by first|exact trivial|exact KE AA trivial) (ha:Kz srcs (fi.map .d++dX++ca.map .d) fV:=by repeat (first|exact trivial|refine⟨.inl rfl,?_⟩|refine⟨⟨0,rfl,rfl⟩,?_⟩|refine⟨⟨1,rfl,rfl⟩,?_⟩|refine⟨⟨2,rfl,rfl⟩,?_⟩|refine⟨.inr (.inr ⟨rfl,rfl⟩),?_⟩)) (hl:ops.toList.length=dX.length:=by kernel_rfl)
 (I:res'=j.up srcs es.length:=by kernel_rfl):BN P o ((x,.d (.fn (.func f) fi ca))::Em ops.toList dX) es res' (KU srcs es E'):=ao9 srcs fi ca m u z hE ha hl I q
end
section
variable {P : Program} {ops : Array Oper} {o : Oper} {rest l : List Oper} {σ : Aj} {K : Exit → Aj → Prop}
def CW.ca {f:FuncId} {dX:List AV} {j:AV} (m:Ap P f dX [] j []) (k:CW P ops rest (σ.qG o.dst (j.up [] σ.ents.length)) K) (q:DV P f=true:=by kernel_rfl) (u:UA σ o=some (f,dX):=by kernel_rfl)
 (hd:dX.all AV.yR=true:=by kernel_rfl) (z:IV ops σ o.guard=some true:=by kernel_rfl):CW P ops (o::rest) σ K:=.call m q k u hd z
def Eb.ca {σ':Aj} {f:FuncId} {dX:List AV} {j:AV} {rs:List AV} {ess:List (List Aq)} {bs:List Bool} (m:Ap P f dX [] j []) (k:Eb P ops rest (σ.qG o.dst (j.up [] σ.ents.length)) rs ess bs σ') (q:DV P f=true:=by kernel_rfl) (u:UA σ o=some (f,dX):=by kernel_rfl)
 (hd:dX.all AV.yR=true:=by kernel_rfl) (z:IV ops σ o.guard=some true:=by kernel_rfl):Eb P ops (o::rest) σ (j.up [] σ.ents.length::rs) (σ.ents::ess) (false::bs) σ':=.call m q k u hd z
end
section
variable {P : Program} {ops : Array Oper} {o : Oper} {rest l : List Oper} {σ : Aj} {K : Exit → Aj → Prop}
def CW.aW [T:Kn P] {M:Aj→Prop} (k:M (Qc (Gt T ops l.length l σ))) (h:(Gt T ops l.length l σ).isSome=true:=by kernel_rfl):CW P ops l σ (Jf M K):=.aM l.length k rfl h
def CW.bi [T:Kn P] {A:Type} {b:Bool} {u v z:A} (h:(bif b then u else v)=z) (j:u=z→CW P ops rest (σ.qG o.dst (.d (.lit (.bool true)))) K:=by exact fun h=>.aW<|ED) (k2:v=z→CW P ops rest (σ.qG o.dst (.d (.lit (.bool false)))) K:=by exact fun h=>.aW<|ED)
 (hs:(Uo T ops σ o).map (fun r=>(r.x,r.E,r.bar))=some (.d (.lit (.bool b)),σ.ents,false):=by kernel_rfl):CW P ops (o::rest) σ K:=GI h (fun e h=>.c (BH some e) (j h) hs) fun e h=>.c (BH some e) (k2 h) hs
def Ee {A:Type} {b:Bool} {u v z:A} {G:Prop} (h:(bif b then u else v)=z) (j:b=true→u=z→G:=by exact fun e i=>afL) (k2:b=false→v=z→G:=by exact fun e i=>afL):G:=GI h j k2
def Aa [T:Kn P] {id:Nat} {y:Code} {Q:Exit→Aj→Prop} (k:AP P y (Qc (Gt T ops ops.toList.length ops.toList σ)) Q) (h:(Gt T ops ops.toList.length ops.toList σ).isSome=true:=by kernel_rfl):AP P (.seq (.region id ops false) y) σ Q:=AO (.aW k h)
end
section
variable {P : Program} {ops : Array Oper} {l : List Oper} {σ : Aj} {K : Exit → Aj → Prop}
def CW.mg (a c:Nat) (x:AV) (j:CW P ops (l.take (c+1)) σ (Jf (fun s=>s.wipe (List.range' a c)=(σ.wipe (List.range' a c)).qG (some (a+c)) x) K)) (m:CW P ops (l.drop (c+1)) ((σ.wipe (List.range' a c)).qG (some (a+c)) x) K):CW P ops l σ K:=.merge (c+1) (List.range' a c) (a+c) x j m
end
def Ae {σ S:Aj} (n w:Nat) (π:List (Nat×Bool)) (j:TI σ.base σ.ents π=true:=by kernel_rfl) (m:S=⟨Jv π (mk n w) σ.slots,Qy σ.ents π,σ.base⟩:=by kernel_rfl):CO σ S:=anF (mk n w) π j m
def NJ {α β:Type} {y:α} {g:α→Option (Except Value β)} {r:Except Value β} (h:Jj (.ok y) g=some r):g y=some r:=h
def Mc {α β:Type} {u:Value} {g:α→Option (Except Value β)} {r:Except Value β} (h:Jj (.error u) g=some r):some (.error u)=some r:=h
def BU :ByteArray:=⟨#[]⟩
def aEz (k:IntKind) (n:Int):D:=.lit (.int k n)
def aax :ByteArray:=⟨#[97]⟩
def dG :ByteArray:=⟨#[58]⟩
def nO :ByteArray:=⟨#[33]⟩
def oD :ByteArray:=⟨#[64]⟩
def qc :ByteArray:=⟨#[64,33]⟩
def Mem :ByteArray:=⟨#[33,114,58,97]⟩
def uh :ByteArray:=⟨#[64,97,110,110,58,97]⟩
def ald :ByteArray:=⟨#[104,105]⟩
def J8 :ByteArray:=⟨#[84,101,120,116]⟩
def JR :ByteArray:=⟨#[78]⟩
def Ky :ByteArray:=⟨#[86,105,97]⟩
def LP :ByteArray:=⟨#[76,101,118,101,108,115]⟩
def KY :ByteArray:=⟨#[65,108,108,111,119]⟩
def LC :ByteArray:=⟨#[68,101,110,121]⟩
def Iy :ByteArray:=⟨#[84,97,114,103,101,116]⟩
def Kt :ByteArray:=⟨#[84,104,114,101,97,100]⟩
def Bh :Value:=.int .i64 0
def CQ :Value:=.string BU
def ER :Value:=.slice none 0 0
def xY :Value:=.agg #[ER,ER,Bh,Bh,Bh,Bh,Bh,Bh,Bh]
def aBh :Value:=.agg #[CQ,Bh,Bh,.bool false,CQ,ER,ER,ER,ER,Bh,Bh,Bh,Bh,Bh,Bh,Bh]
def wJ :Value:=.agg #[CQ,Bh]
def zM :Value:=.agg #[Bh,CQ,CQ,Bh,.bool false,CQ,Bh,Bh,ER,ER,CQ,Bh,Bh,.bool false,CQ,ER,ER,ER,ER,Bh,Bh,Bh,Bh,Bh,Bh,Bh,Bh,CQ,Bh]
def aA6 :Value:=.agg #[Bh,Bh,Bh]
def aDU :Value:=.agg #[.map none,.map none,.map none]
def aDS :Value:=.agg #[CQ,Bh]
def aOh :Value:=.agg #[Bh,Bh]
def aBB :Value:=.agg #[Bh,CQ,Bh]
def yc :Value:=.agg #[Bh,CQ,CQ,Bh,.bool false,CQ,Bh,Bh,ER,ER,CQ,Bh,Bh,.bool false,CQ,ER,ER,ER,ER,Bh,Bh,Bh,Bh,Bh,Bh,Bh,Bh,CQ,Bh,Bh,CQ,CQ,Bh,.bool false,CQ,Bh,Bh,ER,ER,CQ,Bh,Bh,.bool false,CQ,ER,ER,ER,ER,Bh,Bh,Bh,Bh,Bh,Bh,Bh,Bh,CQ,Bh,Bh,CQ,CQ,Bh,.bool false,CQ,Bh,Bh,ER,ER,CQ,Bh,Bh,.bool false,CQ,ER,ER,ER,ER,Bh,Bh,Bh,Bh,Bh,Bh,Bh,Bh,CQ,Bh,Bh,CQ,CQ,Bh,.bool false,CQ,Bh,Bh,ER,ER,CQ,Bh,Bh,.bool false,CQ,ER,ER,ER,ER,Bh,Bh,Bh,Bh,Bh,Bh,Bh,Bh,CQ,Bh]
def aAh :Value:=.agg #[Bh]
def abN :Value:=.agg #[ER,ER,ER]
def SPr :Value:=.agg #[Bh,CQ]
def Fin :Value:=.agg #[Bh,.nilFunc]
def zB :Value:=.agg #[Bh,ER,ER,Bh]
def aAI :Value:=.agg #[Bh,Bh]
def aCB :Value:=.agg #[ER]
def aDa :Value:=.agg #[Bh,Bh,Bh,Bh,Bh]
def Fn1 :Value:=.agg #[Bh,Bh,Bh,Bh,Bh,Bh,Bh]
def zl :Value:=.agg #[ER,ER]
def yF :Value:=.agg #[ER,ER]
def aAu :Value:=.agg #[]
def yh :Value:=.agg #[ER]
def aRA :Value:=.agg #[ER,ER,ER,ER,ER]
def aCn :Value:=.agg #[]
def aB9 :Value:=.agg #[Bh,Bh,Bh,ER]
def aBM :Value:=.agg #[Bh,Bh,Bh]
structure H7 where
 User:ByteArray
 N:Int
def Fq (x:H7):D:=.agg [DU x.User,Ac x.N]
def asG :H7:=⟨BU,0⟩
instance : Inhabited H7:=⟨asG⟩
structure IJ where
 Kind:Int
 N:Int
def Gf (x:IJ):D:=.agg [Ac x.Kind,Ac x.N]
def al6 :IJ:=⟨0,0⟩
instance : Inhabited IJ:=⟨al6⟩
structure Ba where
 Users:(List H7)
 Kinds:(List IJ)
 User:Int
 Message:Int
 State:Int
 fH:Int
 jI:Int
 mW:Int
 eU:Int
def Hg (x:Ba):D:=.agg [(BG Fq) x.Users,(BG Gf) x.Kinds,Ac x.User,Ac x.Message,Ac x.State,Ac x.fH,Ac x.jI,Ac x.mW,Ac x.eU]
def Jq :Ba:=⟨[],[],0,0,0,0,0,0,0⟩
instance : Inhabited Ba:=⟨Jq⟩
structure Bg where
 Text:ByteArray
 N:Int
 Target:Int
 Thread:Bool
 Via:ByteArray
 Allow:(List ByteArray)
 gB:(List ByteArray)
 Levels:Ba
def FY (x:Bg):D:=.agg [DU x.Text,Ac x.N,Ac x.Target,DX x.Thread,DU x.Via,(BG DU) x.Allow,(BG DU) x.gB,(BG Fq) x.Levels.Users,(BG Gf) x.Levels.Kinds,Ac x.Levels.User,Ac x.Levels.Message,Ac x.Levels.State,Ac x.Levels.fH,Ac x.Levels.jI,Ac x.Levels.mW,Ac x.Levels.eU]
def EW :Bg:=⟨BU,0,0,false,BU,[],[],Jq⟩
instance : Inhabited Bg:=⟨EW⟩
structure O5 where
 Server:ByteArray
 Sum:Int
def ahw (x:O5):D:=.agg [DU x.Server,Ac x.Sum]
def YZ :O5:=⟨BU,0⟩
instance : Inhabited O5:=⟨YZ⟩
structure AL where
 Id:Int
 Room:ByteArray
 aN:ByteArray
 Kind:Int
 State:Bool
 Key:ByteArray
 Time:Int
 Depth:Int
 bF:(List Int)
 bf:(List Int)
 Content:Bg
 Hash:Int
 rP:O5
def BD (x:AL):D:=.agg [Ac x.Id,DU x.Room,DU x.aN,Ac x.Kind,DX x.State,DU x.Key,Ac x.Time,Ac x.Depth,(BG Ac) x.bF,(BG Ac) x.bf,DU x.Content.Text,Ac x.Content.N,Ac x.Content.Target,DX x.Content.Thread,DU x.Content.Via,(BG DU) x.Content.Allow,(BG DU) x.Content.gB,(BG Fq) x.Content.Levels.Users,(BG Gf) x.Content.Levels.Kinds,Ac x.Content.Levels.User,Ac x.Content.Levels.Message,Ac x.Content.Levels.State,Ac x.Content.Levels.fH,Ac x.Content.Levels.jI,Ac x.Content.Levels.mW,Ac x.Content.Levels.eU,Ac x.Hash,DU x.rP.Server,Ac x.rP.Sum]
def Ej :AL:=⟨0,BU,BU,0,false,BU,0,0,[],[],EW,0,YZ⟩
instance : Inhabited AL:=⟨Ej⟩
structure Ei where
 b_:(List Int)
def Jz (x:Ei):D:=.agg [(BG Ea) x.b_]
def aAz :Ei:=⟨[]⟩
instance : Inhabited Ei:=⟨aAz⟩
structure MP where
 axw:Int
 ap2:Nat
def TY (x:MP):D:=.agg [Ac x.axw,aR4 x.ap2]
def ajY :MP:=⟨0,0⟩
instance : Inhabited MP:=⟨ajY⟩
structure QJ where
 nN:Int
 lU:Int
def Ik (x:QJ):D:=.agg [Ac x.nN,Ac x.lU]
def aCJ :QJ:=⟨0,0⟩
instance : Inhabited QJ:=⟨aCJ⟩
structure Ai where
 Kind:Int
 Key:ByteArray
 Id:Int
def BP (x:Ai):D:=.agg [Ac x.Kind,DU x.Key,Ac x.Id]
def aq3 :Ai:=⟨0,BU,0⟩
instance : Inhabited Ai:=⟨aq3⟩
structure dU where
 akD:Int
def aqW :dU:=⟨0⟩
instance : Inhabited dU:=⟨aqW⟩
structure Uk where
def rC (x:Uk):D:=.agg []
def aqm :Uk:=⟨⟩
instance : Inhabited Uk:=⟨aqm⟩
structure NU where
 BQ:(List Ai)
 ahO:(List Int)
 ap4:(List Int)
def Yi (x:NU):D:=.agg [(BG BP) x.BQ,(BG Ac) x.ahO,(BG Ac) x.ap4]
def aDT :NU:=⟨[],[],[]⟩
instance : Inhabited NU:=⟨aDT⟩
structure P5 where
 lU:Int
 GU:Int
 zy:Int
 ap5:(List Int)
def JV (x:P5):D:=.agg [Ac x.lU,Ac x.GU,Ac x.zy,(BG Ac) x.ap5]
def aoV :P5:=⟨0,0,0,[]⟩
instance : Inhabited P5:=⟨aoV⟩
structure SH where
 Zh:Int
 Zi:ByteArray
def NI (x:SH):D:=.agg [Ac x.Zh,DU x.Zi]
def anb :SH:=⟨0,BU⟩
instance : Inhabited SH:=⟨anb⟩
structure UG where
 ao2:(List Int)
def pG (x:UG):D:=.agg [(BG Ac) x.ao2]
def arB :UG:=⟨[]⟩
instance : Inhabited UG:=⟨arB⟩
structure JJ where
 lU:Int
 xQ:Int
 zy:Int
def ND (x:JJ):D:=.agg [Ac x.lU,Ac x.xQ,Ac x.zy]
def aoU :JJ:=⟨0,0,0⟩
instance : Inhabited JJ:=⟨aoU⟩
structure NC where
 Depth:Int
 Id:Int
 Target:Int
def Kw (x:NC):D:=.agg [Ac x.Depth,Ac x.Id,Ac x.Target]
def YP :NC:=⟨0,0,0⟩
instance : Inhabited NC:=⟨YP⟩
structure afM where
 User:ByteArray
 Kind:Int
 Key:ByteArray
 Content:Bg
 Time:Int
def ar9 :afM:=⟨BU,0,BU,EW,0⟩
instance : Inhabited afM:=⟨ar9⟩
structure IZ where
 Id:Int
 Before:(List Ai)
 After:(List Ai)
 Err:Int
def iG :IZ:=⟨0,[],[],0⟩
instance : Inhabited IZ:=⟨iG⟩
structure Nh where
 Same:(List Ai)
 Power:(List Int)
 First:(List Ai)
 Others:(List Int)
 Last:(List Ai)
def aG :Nh:=⟨[],[],[],[],[]⟩
instance : Inhabited Nh:=⟨aG⟩
structure afI where
 Room:ByteArray
 User:ByteArray
 Time:Int
 Rule:Int
 Visibility:Int
def ajV :afI:=⟨BU,BU,0,0,0⟩
instance : Inhabited afI:=⟨ajV⟩
def an8 :Cc Tryz.prog 39 10 10:=D6 AA
def aN1 :Dl Tryz.prog 30 true 16:=FM AA
def zero30 :(Tryz.prog.info? 30).bind (·.zero)=some (aBh):=AA
def aky :Cc Tryz.prog 39 8 8:=D6 AA
def aPL :Dl Tryz.prog 35 false 1:=FM AA
def CX :Tryz.prog.underlying 35=some (.slice 3):=AA
def asH :Cc Tryz.prog 39 9 9:=D6 AA
def anB :Cc Tryz.prog 30 5 5:=D6 AA
def at6 :Dl Tryz.prog 24 false 1:=FM AA
def Hy :Tryz.prog.underlying 24=some (.slice 9):=AA
def asX :Cc Tryz.prog 30 6 6:=D6 AA
def ajJ :Cc Tryz.prog 30 7 7:=D6 AA
def ap1 :Cc Tryz.prog 28 0 0:=D6 AA
def ae5 :Dl Tryz.prog 25 false 1:=FM AA
def JM :Tryz.prog.underlying 25=some (.slice 108):=AA
def ai1 :Cc Tryz.prog 28 1 1:=D6 AA
def aPZ :Dl Tryz.prog 26 false 1:=FM AA
def KN :Tryz.prog.underlying 26=some (.slice 111):=AA
def amC :Cc Tryz.prog 39 1 1:=D6 AA
def O6 :Dl Tryz.prog 9 false 1:=FM AA
def Lp :Tryz.prog.underlying 9=some (.string):=AA
def aiJ :Cc Tryz.prog 39 2 2:=D6 AA
def aiV :Cc Tryz.prog 39 5 5:=D6 AA
def anc :Cc Tryz.prog 30 0 0:=D6 AA
def ao3 :Cc Tryz.prog 30 4 4:=D6 AA
def apb :Cc Tryz.prog 39 12 27:=D6 AA
def apX :Cc Tryz.prog 37 0 0:=D6 AA
def VQ :Dl Tryz.prog 108 true 2:=FM AA
def agw :Cc Tryz.prog 108 0 0:=D6 AA
def Cm :Tryz.prog.underlying 22=some (.slice 39):=AA
def Dh :Dl Tryz.prog 39 true 29:=FM AA
def nG :Tryz.prog.underlying 159=some (.slice 5):=AA
def S9 :Fh Tryz.prog 159 5 1 1:=LU AA
def YD :(Tryz.prog.info? 5).bind (·.zero)=some (.int .u8 0):=AA
def WH :Tryz.prog.underlying 3=some (.int .i64):=AA
def aqM :Tryz.prog.underlying 214=some (.int .u64):=AA
def aeQ :Tryz.prog.underlying 5=some (.int .u8):=AA
def aiA :Cc Tryz.prog 30 1 1:=D6 AA
def Di :Dl Tryz.prog 3 false 1:=FM AA
def aiE :Cc Tryz.prog 30 2 2:=D6 AA
def aj7 :Cc Tryz.prog 30 3 3:=D6 AA
def aQk :Dl Tryz.prog 4 false 1:=FM AA
def sH :Dl Tryz.prog 28 true 9:=FM AA
def aPW :(Tryz.prog.info? 28).bind (·.zero)=some (xY):=AA
def aB1 :(Tryz.prog.info? 108).bind (·.zero)=some (aDS):=AA
def agM :Cc Tryz.prog 108 1 1:=D6 AA
def Xz :Dl Tryz.prog 111 true 2:=FM AA
def aQa :(Tryz.prog.info? 111).bind (·.zero)=some (aOh):=AA
def alG :Cc Tryz.prog 111 0 0:=D6 AA
def aE6 :Dl Tryz.prog 23 false 1:=FM AA
def atM :Cc Tryz.prog 111 1 1:=D6 AA
def al4 :Cc Tryz.prog 28 2 2:=D6 AA
def amA :Cc Tryz.prog 28 3 3:=D6 AA
def asq :Cc Tryz.prog 28 4 4:=D6 AA
def alr :Cc Tryz.prog 28 5 5:=D6 AA
def aqF :Cc Tryz.prog 28 6 6:=D6 AA
def ar8 :Cc Tryz.prog 28 7 7:=D6 AA
def ag2 :Cc Tryz.prog 28 8 8:=D6 AA
def ae1 :(Tryz.prog.info? 239).bind (·.zero)=some (Fn1):=AA
def amx :Wj Tryz.prog 239 1 (Fn1):=rU AA ae1 AA
def aBG :Tryz.prog.underlying 239=some (.array 7 3):=AA
def aNj :Dl Tryz.prog 5 false 1:=FM AA
def ZF :Fh Tryz.prog 24 9 1 16:=LU AA
def zH :Fh Tryz.prog 25 108 2 24:=LU AA
def aKY :Fh Tryz.prog 26 111 2 16:=LU AA
def Py :(Tryz.prog.info? 39).bind (·.zero)=some (zM):=AA
def akH :Cc Tryz.prog 39 3 3:=D6 AA
def ac3 :(Tryz.prog.info? 225).bind (·.zero)=some (aCB):=AA
def ala :II Tryz.prog 225 [(0,1)] (aCB):=KL AA ac3 AA
def aft :Cc Tryz.prog 39 0 0:=D6 AA
def EC :Fh Tryz.prog 35 3 1 8:=LU AA
def zero3 :(Tryz.prog.info? 3).bind (·.zero)=some (.int .i64 0):=AA
def aqZ :Cc Tryz.prog 225 0 0:=D6 AA
def apx :Dl Tryz.prog 159 false 1:=FM AA
def zero9 :(Tryz.prog.info? 9).bind (·.zero)=some (.string BU):=AA
def aj3 :Cc Tryz.prog 39 4 4:=D6 AA
def aju :Fh Tryz.prog 286 4 1 1:=LU AA
def aE0 :(Tryz.prog.info? 4).bind (·.zero)=some (.bool false):=AA
def ae9 :Tryz.prog.underlying 286=some (.slice 4):=AA
def arG :Cc Tryz.prog 39 6 6:=D6 AA
def ajX :Cc Tryz.prog 39 7 7:=D6 AA
def aiu :Fh Tryz.prog 287 35 1 24:=LU AA
def aAd :(Tryz.prog.info? 35).bind (·.zero)=some (.slice none 0 0):=AA
def aP0 :Tryz.prog.underlying 287=some (.slice 35):=AA
def afe :Cc Tryz.prog 39 11 26:=D6 AA
def ait :Cc Tryz.prog 37 1 1:=D6 AA
def adH :(Tryz.prog.info? 37).bind (·.zero)=some (wJ):=AA
def alY :II Tryz.prog 37 [(0,1),(1,1)] (wJ):=KL AA adH AA
def akL :Dl Tryz.prog 37 true 2:=FM AA
def apL :DV Tryz.prog 126=true:=AA
def Lh :Fh Tryz.prog 22 39 29 376:=LU AA
def ain :DV Tryz.prog 234=true:=AA
def aqG :DV Tryz.prog 235=true:=AA
def aJp :(Tryz.prog.info? 191).bind (·.zero)=some (Fin):=AA
def apg :II Tryz.prog 191 [(0,1),(1,1)] (Fin):=KL AA aJp AA
def amK :Fh Tryz.prog 192 191 2 16:=LU AA
def aR6 :Tryz.prog.underlying 192=some (.slice 191):=AA
def aPE :Dl Tryz.prog 191 true 2:=FM AA
def arU :Cc Tryz.prog 191 0 0:=D6 AA
def apG :Cc Tryz.prog 191 1 1:=D6 AA
def aiT :Dl Tryz.prog 137 false 1:=FM AA
def ah5 :DV Tryz.prog 175=true:=AA
def afV :DV Tryz.prog 176=true:=AA
def anO :DV Tryz.prog 177=true:=AA
def ak0 :DV Tryz.prog 178=true:=AA
def afm :DV Tryz.prog 179=true:=AA
def aiz :DV Tryz.prog 180=true:=AA
def arK :Tryz.prog.underlying 4=some (.bool):=AA
def aBu (x y:H7):Bool:=(x.User.toList==y.User.toList&&(x.N==y.N&&true))
def akA (x y:H7):fP Tryz.prog 2 108 [.string x.User,.int .i64 x.N] [.string y.User,.int .i64 y.N] (aBu x y):=⟨fun d w=>zL AA AA AA (l:=[(9,0),(3,1)]) AA (Un (LZ O6 AA w) (LZ O6 AA w) (run_equalIn_string w _ _ _ _ Lp)<|Un (LZ Di AA w) (LZ Di AA w) (YT w _ _ .i64 _ _ _ WH)<|yP _ _ _ _)⟩
def akM :Program.eqGuardType Tryz.prog (Program.depth Tryz.prog) 108=false:=AA
def aOc :Tryz.prog.underlying 23=some (.int .i64):=AA
def wO (x y:IJ):Bool:=(x.Kind==y.Kind&&(x.N==y.N&&true))
def akG (x y:IJ):fP Tryz.prog 2 111 [.int .i64 x.Kind,.int .i64 x.N] [.int .i64 y.Kind,.int .i64 y.N] (wO x y):=⟨fun d w=>zL AA AA AA (l:=[(23,0),(3,1)]) AA (Un (LZ aE6 AA w) (LZ aE6 AA w) (YT w _ _ .i64 _ _ _ aOc)<|Un (LZ Di AA w) (LZ Di AA w) (YT w _ _ .i64 _ _ _ WH)<|yP _ _ _ _)⟩
def alv :Program.eqGuardType Tryz.prog (Program.depth Tryz.prog) 111=false:=AA
def vZ (x y:O5):Bool:=(x.Server.toList==y.Server.toList&&(x.Sum==y.Sum&&true))
def ajM (x y:O5):fP Tryz.prog 2 37 [.string x.Server,.int .i64 x.Sum] [.string y.Server,.int .i64 y.Sum] (vZ x y):=⟨fun d w=>zL AA AA AA (l:=[(9,0),(3,1)]) AA (Un (LZ O6 AA w) (LZ O6 AA w) (run_equalIn_string w _ _ _ _ Lp)<|Un (LZ Di AA w) (LZ Di AA w) (YT w _ _ .i64 _ _ _ WH)<|yP _ _ _ _)⟩
def aiO :Program.eqGuardType Tryz.prog (Program.depth Tryz.prog) 37=false:=AA
def QE :Tryz.prog.underlying 172=some (.map 3 3):=AA
def He :KeyTy Tryz.prog 3 Bv:=aqD WH
def asn :(Tryz.prog.info? 172).bind (·.zero)=some (.map none):=AA
def agY :Dl Tryz.prog 172 false 1:=FM AA
def aKF :Fh Tryz.prog 216 218 2 16:=LU AA
def yJ :(Tryz.prog.info? 218).bind (·.zero)=some (aAI):=AA
def alO :II Tryz.prog 218 [(0,1),(1,1)] (aAI):=KL AA yJ AA
def Xl :Tryz.prog.underlying 216=some (.slice 218):=AA
def SV :Dl Tryz.prog 218 true 2:=FM AA
def amJ :Cc Tryz.prog 218 0 0:=D6 AA
def agT :Cc Tryz.prog 218 1 1:=D6 AA
def al3 :II Tryz.prog 39 [(0,1),(1,1),(2,1),(3,1),(4,1),(5,1),(6,1),(7,1),(8,1),(9,1),(10,16),(26,1),(27,2)] (zM):=KL AA Py AA
def Xo :Tryz.prog.underlying 51=some (.slice 116):=AA
def Pe :Dl Tryz.prog 116 true 3:=FM AA
def bW :(Tryz.prog.info? 116).bind (·.zero)=some (aBB):=AA
def afr :II Tryz.prog 116 [(0,1),(1,1),(2,1)] (aBB):=KL AA bW AA
def aoe :Cc Tryz.prog 116 0 0:=D6 AA
def agv :Cc Tryz.prog 116 1 1:=D6 AA
def agh :DV Tryz.prog 366=true:=AA
def aoi :DV Tryz.prog 368=true:=AA
def OA :Tryz.prog.underlying 52=some (.slice 116):=AA
def ajB :Cc Tryz.prog 116 2 2:=D6 AA
def VF :Tryz.prog.underlying 129=some (.slice 52):=AA
def nH :Dl Tryz.prog 52 false 1:=FM AA
def Zb :(Tryz.prog.info? 52).bind (·.zero)=some (.slice none 0 0):=AA
def alT :Dl Tryz.prog 129 false 1:=FM AA
def aaH :DV Tryz.prog 131=true:=AA
def U5 :Fh Tryz.prog 52 116 3 32:=LU AA
def aIK :DV Tryz.prog 154=true:=AA
def UD :Tryz.prog.underlying 117=some (.map 3 4):=AA
def aiB :DV Tryz.prog 374=true:=AA
def an0 :DV Tryz.prog 375=true:=AA
def aPV :DV Tryz.prog 322=true:=AA
def aOF :DV Tryz.prog 376=true:=AA
def ajg :DV Tryz.prog 21=true:=AA
def jf :DV Tryz.prog 220=true:=AA
def akx :DV Tryz.prog 414=true:=AA
def ale :Dl Tryz.prog 22 false 1:=FM AA
def aeG :(Tryz.prog.info? 165).bind (·.zero)=some (aAh):=AA
def ajd :II Tryz.prog 165 [(0,1)] (aAh):=KL AA aeG AA
def ar7 :(match Tryz.prog.underlying 165 with |some (.interface _)=>false|some _=>true|none=>false)=true:=AA
def nS :DV Tryz.prog 85=true:=AA
def Ro :DV Tryz.prog 84=true:=AA
def aOx :(Tryz.prog.info? 235).bind (·.zero)=some (aDa):=AA
def aio :Wj Tryz.prog 235 1 (aDa):=rU AA aOx AA
def akK :Dl Tryz.prog 235 true 5:=FM AA
def aRk :Tryz.prog.underlying 235=some (.array 5 3):=AA
def agB :DV Tryz.prog 130=true:=AA
def ag6 :II Tryz.prog 28 [(0,1),(1,1),(2,1),(3,1),(4,1),(5,1),(6,1),(7,1),(8,1)] (xY):=KL AA aPW AA
def akU :II Tryz.prog 108 [(0,1),(1,1)] (aDS):=KL AA aB1 AA
def aop :DV Tryz.prog 148=true:=AA
def aeu :Dl Tryz.prog 239 true 7:=FM AA
def aR2 :DV Tryz.prog 242=true:=AA
def aK9 :DV Tryz.prog 241=true:=AA
def abo :(Tryz.prog.info? 241).bind (·.zero)=some (zl):=AA
def an4 :Wj Tryz.prog 241 1 (zl):=rU AA abo AA
def arH :Tryz.prog.underlying 241=some (.array 2 26):=AA
def aPn :(Tryz.prog.info? 242).bind (·.zero)=some (yF):=AA
def aq4 :Wj Tryz.prog 242 1 (yF):=rU AA aPn AA
def aqy :Tryz.prog.underlying 242=some (.array 2 25):=AA
def amo :DV Tryz.prog 82=true:=AA
def aPm :(Tryz.prog.info? 331).bind (·.zero)=some (aCn):=AA
def ah6 :II Tryz.prog 331 [] (aCn):=KL AA aPm AA
def ajP :(match Tryz.prog.underlying 331 with |some (.interface _)=>false|some _=>true|none=>false)=true:=AA
def aNl :DV Tryz.prog 379=true:=AA
def arV :Tryz.prog.underlying 148=some (.int .u64):=AA
def aor :(Tryz.prog.info? 176).bind (·.zero)=some (abN):=AA
def aOe :(Tryz.prog.info? 248).bind (·.zero)=some (aAu):=AA
def aji :II Tryz.prog 248 [] (aAu):=KL AA aOe AA
def apv :(match Tryz.prog.underlying 248 with |some (.interface _)=>false|some _=>true|none=>false)=true:=AA
def aH9 :(Tryz.prog.info? 185).bind (·.zero)=some (SPr):=AA
def ap6 :II Tryz.prog 185 [(0,1),(1,1)] (SPr):=KL AA aH9 AA
def aFN :Fh Tryz.prog 186 185 2 24:=LU AA
def dO :Tryz.prog.underlying 186=some (.slice 185):=AA
def jw :Dl Tryz.prog 185 true 2:=FM AA
def aod :Cc Tryz.prog 185 0 0:=D6 AA
def aii :Cc Tryz.prog 185 1 1:=D6 AA
def aae :DV Tryz.prog 364=true:=AA
def aJo :(Tryz.prog.info? 356).bind (·.zero)=some (aB9):=AA
def aqL :II Tryz.prog 356 [(0,1),(1,1),(2,1),(3,1)] (aB9):=KL AA aJo AA
def aJO :Fh Tryz.prog 353 356 4 48:=LU AA
def V9 :Tryz.prog.underlying 353=some (.slice 356):=AA
def ZG :Dl Tryz.prog 356 true 4:=FM AA
def apr :Cc Tryz.prog 356 3 3:=D6 AA
def apo :Cc Tryz.prog 356 0 0:=D6 AA
def afn :Cc Tryz.prog 356 1 1:=D6 AA
def aqx :Cc Tryz.prog 356 2 2:=D6 AA
def amN :DV Tryz.prog 433=true:=AA
def asg :DV Tryz.prog 430=true:=AA
def ahA :o9 Tryz.prog 248 "fedchat/resolve.sort" 430=true:=AA
def ahN :Cc Tryz.prog 176 1 1:=D6 AA
def aa1 :(Tryz.prog.info? 253).bind (·.zero)=some (yh):=AA
def aga :II Tryz.prog 253 [(0,1)] (yh):=KL AA aa1 AA
def ahF :(match Tryz.prog.underlying 253 with |some (.interface _)=>false|some _=>true|none=>false)=true:=AA
def amk :Cc Tryz.prog 253 0 0:=D6 AA
def aGW :(Tryz.prog.info? 360).bind (·.zero)=some (aBM):=AA
def ahe :II Tryz.prog 360 [(0,1),(1,1),(2,1)] (aBM):=KL AA aGW AA
def afS :Fh Tryz.prog 358 360 3 24:=LU AA
def Zg :Tryz.prog.underlying 358=some (.slice 360):=AA
def eY :Dl Tryz.prog 360 true 3:=FM AA
def oK (x y:JJ):Bool:=(x.lU==y.lU&&(x.xQ==y.xQ&&(x.zy==y.zy&&true)))
def alS (x y:JJ):fP Tryz.prog 2 360 [.int .i64 x.lU,.int .i64 x.xQ,.int .i64 x.zy] [.int .i64 y.lU,.int .i64 y.xQ,.int .i64 y.zy] (oK x y):=⟨fun d w=>zL AA AA AA (l:=[(3,0),(3,1),(3,2)]) AA (Un (LZ Di AA w) (LZ Di AA w) (YT w _ _ .i64 _ _ _ WH)<|Un (LZ Di AA w) (LZ Di AA w) (YT w _ _ .i64 _ _ _ WH)<|Un (LZ Di AA w) (LZ Di AA w) (YT w _ _ .i64 _ _ _ WH)<|yP _ _ _ _)⟩
def aln :Program.eqGuardType Tryz.prog (Program.depth Tryz.prog) 360=false:=AA
def ak2 :Cc Tryz.prog 360 0 0:=D6 AA
def ais :DV Tryz.prog 435=true:=AA
def ai7 :o9 Tryz.prog 253 "fedchat/resolve.sort" 435=true:=AA
def ajh :Cc Tryz.prog 176 0 0:=D6 AA
def apl :Cc Tryz.prog 176 2 2:=D6 AA
def aRS :Dl Tryz.prog 176 true 3:=FM AA
def ahR :bI Tryz.prog 176 0 0 false 1=true:=AA
def zero22 :(Tryz.prog.info? 22).bind (·.zero)=some (.slice none 0 0):=AA
def aqS :Cc Tryz.prog 103 2 2:=D6 AA
def aku :Dl Tryz.prog 101 false 1:=FM AA
def kR :Tryz.prog.underlying 101=some (.map 3 40):=AA
def Zk :(Tryz.prog.info? 40).bind (·.zero)=some (.int .i64 0):=AA
def alE :Cc Tryz.prog 103 1 1:=D6 AA
def aoT :Dl Tryz.prog 100 false 1:=FM AA
def kX :Tryz.prog.underlying 100=some (.map 3 52):=AA
def aRB :Fh Tryz.prog 129 52 1 24:=LU AA
def ao0 :Cc Tryz.prog 103 0 0:=D6 AA
def abW :(Tryz.prog.info? 103).bind (·.zero)=some (aDU):=AA
def aNb :II Tryz.prog 103 [(0,1),(1,1),(2,1)] (aDU):=KL AA abW AA
def anY :Dl Tryz.prog 97 false 1:=FM AA
def anM :DV Tryz.prog 67=true:=AA
def aLy :(Tryz.prog.info? 91).bind (·.zero)=some (aA6):=AA
def aqg :II Tryz.prog 91 [(0,1),(1,1),(2,1)] (aA6):=KL AA aLy AA
def aR7 :Fh Tryz.prog 88 91 3 24:=LU AA
def aCh :Tryz.prog.underlying 88=some (.slice 91):=AA
def aIy :Dl Tryz.prog 91 true 3:=FM AA
def aiP :Cc Tryz.prog 91 2 2:=D6 AA
def aqX :Cc Tryz.prog 91 0 0:=D6 AA
def aqU :Cc Tryz.prog 91 1 1:=D6 AA
def agU :DV Tryz.prog 63=true:=AA
def agJ :II Tryz.prog 30 [(0,1),(1,1),(2,1),(3,1),(4,1),(5,1),(6,1),(7,9)] (aBh):=KL AA zero30 AA
def am0 :DV Tryz.prog 57=true:=AA
def ajf :Cc Tryz.prog 32 0 0:=D6 AA
def aiG :Cc Tryz.prog 32 2 2:=D6 AA
def aoN :Cc Tryz.prog 32 3 3:=D6 AA
def apa :Tryz.prog.underlying 212=some (.int .u32):=AA
def ab3 :(Tryz.prog.info? 200).bind (·.zero)=some (zB):=AA
def aph :Dl Tryz.prog 200 true 4:=FM AA
def ai2 :Cc Tryz.prog 200 0 0:=D6 AA
def aff :II Tryz.prog 200 [(0,1),(1,1),(2,1),(3,1)] (zB):=KL AA ab3 AA
def aht :(Tryz.prog.info? 275).bind (·.zero)=some (aRA):=AA
def akO :Cc Tryz.prog 275 0 0:=D6 AA
def aqC :Cc Tryz.prog 275 1 1:=D6 AA
def apY :Cc Tryz.prog 275 2 2:=D6 AA
def aiS :Cc Tryz.prog 275 3 3:=D6 AA
def aqc :Cc Tryz.prog 275 4 4:=D6 AA
def ars :Dl Tryz.prog 275 true 5:=FM AA
def anv :bI Tryz.prog 275 4 4 false 1=true:=AA
def arl :Cc Tryz.prog 200 3 3:=D6 AA
def agH :Dl Tryz.prog 40 false 1:=FM AA
def al7 :Cc Tryz.prog 200 2 2:=D6 AA
def ajT :Cc Tryz.prog 200 1 1:=D6 AA
def arp :Dl Tryz.prog 32 true 20:=FM AA
def amc :Cc Tryz.prog 32 1 1:=D6 AA
def asA :Cc Tryz.prog 32 4 19:=D6 AA
def abB :(Tryz.prog.info? 131).bind (·.zero)=some (yc):=AA
def ahZ :Wj Tryz.prog 131 29 (yc):=rU AA abB AA
def aif :Dl Tryz.prog 131 true 116:=FM AA
def ah0 :(Tryz.prog.info? 23).bind (·.zero)=some (.int .i64 0):=AA
def ak8 :Cc Tryz.prog 73 0 0:=D6 AA
def aq8 :Cc Tryz.prog 73 1 1:=D6 AA
def apc :Cc Tryz.prog 73 2 2:=D6 AA
def arh :Cc Tryz.prog 73 3 3:=D6 AA
def ar0 :Cc Tryz.prog 73 4 4:=D6 AA
instance atP :Kn Tryz.prog where
 und:=[(9,.string),(3,.int .i64),(214,.int .u64),(5,.int .u8),(4,.bool),(23,.int .i64),(148,.int .u64),(212,.int .u32)]
 ajc:=⟨Lp,WH,aqM,aeQ,arK,aOc,arV,apa,trivial⟩
 ty:=[(30,true,16),(35,false,1),(24,false,1),(25,false,1),(26,false,1),(9,false,1),(108,true,2),(39,true,29),(3,false,1),(4,false,1),(28,true,9),(111,true,2),(23,false,1),(5,false,1),(159,false,1),(37,true,2),(191,true,2),(137,false,1),(172,false,1),(218,true,2),(116,true,3),(52,false,1),(129,false,1),(22,false,1),(235,true,5),(239,true,7),(185,true,2),(356,true,4),(360,true,3),(176,true,3),(101,false,1),(100,false,1),(97,false,1),(91,true,3),(200,true,4),(275,true,5),(40,false,1),(32,true,20),(131,true,116)]
 hty:=⟨aN1,aPL,at6,ae5,aPZ,O6,VQ,Dh,Di,aQk,sH,Xz,aE6,aNj,apx,akL,aPE,aiT,agY,SV,Pe,nH,alT,ale,akK,aeu,jw,ZG,eY,aRS,aku,aoT,anY,aIy,aph,ars,agH,arp,aif,trivial⟩
 fld:=[((39,10),10),((39,8),8),((39,9),9),((30,5),5),((30,6),6),((30,7),7),((28,0),0),((28,1),1),((39,1),1),((39,2),2),((39,5),5),((30,0),0),((30,4),4),((39,12),27),((37,0),0),((108,0),0),((30,1),1),((30,2),2),((30,3),3),((108,1),1),((111,0),0),((111,1),1),((28,2),2),((28,3),3),((28,4),4),((28,5),5),((28,6),6),((28,7),7),((28,8),8),((39,3),3),((39,0),0),((225,0),0),((39,4),4),((39,6),6),((39,7),7),((39,11),26),((37,1),1),((191,0),0),((191,1),1),((218,0),0),((218,1),1),((116,0),0),((116,1),1),((116,2),2),((185,0),0),((185,1),1),((356,3),3),((356,0),0),((356,1),1),((356,2),2),((176,1),1),((253,0),0),((360,0),0),((176,0),0),((176,2),2),((103,2),2),((103,1),1),((103,0),0),((91,2),2),((91,0),0),((91,1),1),((32,0),0),((32,2),2),((32,3),3),((200,0),0),((275,0),0),((275,1),1),((275,2),2),((275,3),3),((275,4),4),((200,3),3),((200,2),2),((200,1),1),((32,1),1),((32,4),19),((73,0),0),((73,1),1),((73,2),2),((73,3),3),((73,4),4)]
 hfld:=⟨an8,aky,asH,anB,asX,ajJ,ap1,ai1,amC,aiJ,aiV,anc,ao3,apb,apX,agw,aiA,aiE,aj7,agM,alG,atM,al4,amA,asq,alr,aqF,ar8,ag2,akH,aft,aqZ,aj3,arG,ajX,afe,ait,arU,apG,amJ,agT,aoe,agv,ajB,aod,aii,apr,apo,afn,aqx,ahN,amk,ak2,ajh,apl,aqS,alE,ao0,aiP,aqX,aqU,ajf,aiG,aoN,ai2,akO,aqC,apY,aiS,aqc,arl,al7,ajT,amc,asA,ak8,aq8,apc,arh,ar0,trivial⟩
 part:=[((176,0),0,false,1),((275,4),4,false,1)]
 hpart:=⟨ahR,anv,trivial⟩
 zero:=[(30,aBh),(5,.int .u8 0),(28,xY),(108,aDS),(111,aOh),(239,Fn1),(39,zM),(225,aCB),(3,.int .i64 0),(9,.string BU),(4,.bool false),(35,.slice none 0 0),(37,wJ),(191,Fin),(172,.map none),(218,aAI),(116,aBB),(52,.slice none 0 0),(165,aAh),(235,aDa),(241,zl),(242,yF),(331,aCn),(176,abN),(248,aAu),(185,SPr),(356,aB9),(253,yh),(360,aBM),(22,.slice none 0 0),(40,.int .i64 0),(103,aDU),(91,aA6),(200,zB),(275,aRA),(131,yc),(23,.int .i64 0)]
 hzero:=⟨⟨zero30,AA⟩,⟨YD,AA⟩,⟨aPW,AA⟩,⟨aB1,AA⟩,⟨aQa,AA⟩,⟨ae1,AA⟩,⟨Py,AA⟩,⟨ac3,AA⟩,⟨zero3,AA⟩,⟨zero9,AA⟩,⟨aE0,AA⟩,⟨aAd,AA⟩,⟨adH,AA⟩,⟨aJp,AA⟩,⟨asn,AA⟩,⟨yJ,AA⟩,⟨bW,AA⟩,⟨Zb,AA⟩,⟨aeG,AA⟩,⟨aOx,AA⟩,⟨abo,AA⟩,⟨aPn,AA⟩,⟨aPm,AA⟩,⟨aor,AA⟩,⟨aOe,AA⟩,⟨aH9,AA⟩,⟨aJo,AA⟩,⟨aa1,AA⟩,⟨aGW,AA⟩,⟨zero22,AA⟩,⟨Zk,AA⟩,⟨abW,AA⟩,⟨aLy,AA⟩,⟨ab3,AA⟩,⟨aht,AA⟩,⟨abB,AA⟩,⟨ah0,AA⟩,trivial⟩
 st:=[(225,[(0,1)],aCB),(37,[(0,1),(1,1)],wJ),(191,[(0,1),(1,1)],Fin),(218,[(0,1),(1,1)],aAI),(39,[(0,1),(1,1),(2,1),(3,1),(4,1),(5,1),(6,1),(7,1),(8,1),(9,1),(10,16),(26,1),(27,2)],zM),(116,[(0,1),(1,1),(2,1)],aBB),(165,[(0,1)],aAh),(28,[(0,1),(1,1),(2,1),(3,1),(4,1),(5,1),(6,1),(7,1),(8,1)],xY),(108,[(0,1),(1,1)],aDS),(331,[],aCn),(248,[],aAu),(185,[(0,1),(1,1)],SPr),(356,[(0,1),(1,1),(2,1),(3,1)],aB9),(253,[(0,1)],yh),(360,[(0,1),(1,1),(2,1)],aBM),(103,[(0,1),(1,1),(2,1)],aDU),(91,[(0,1),(1,1),(2,1)],aA6),(30,[(0,1),(1,1),(2,1),(3,1),(4,1),(5,1),(6,1),(7,9)],aBh),(200,[(0,1),(1,1),(2,1),(3,1)],zB)]
 hst:=⟨ala,alY,apg,alO,al3,afr,ajd,ag6,akU,ah6,aji,ap6,aqL,aga,ahe,aNb,aqg,agJ,aff,trivial⟩
 arr:=[(239,1,Fn1),(235,1,aDa),(241,1,zl),(242,1,yF),(131,29,yc)]
 harr:=⟨amx,aio,an4,aq4,ahZ,trivial⟩
abbrev Lc :=fun x=>Aq.arr 5 1 (List.map Ea x)
abbrev uw :=fun x=>Aq.arr 9 1 (List.map DU x)
abbrev Gz :=fun x=>Aq.arr 39 29 (List.map BD x)
abbrev Dq :=fun x=>Aq.arr 3 1 (List.map Ac x)
abbrev Ul :=fun x=>Aq.arr 218 2 (List.map Ik x)
abbrev UM :=fun x=>Aq.arr 116 3 (List.map BP x)
abbrev YG :=fun x=>Aq.arr 360 3 (List.map ND x)
abbrev EG :=fun x=>AV.d (BD x)
abbrev Ak :=fun x=>AV.d (DX x)
abbrev AZ :=fun x=>AV.d (Ac x)
abbrev BM :=fun x=>AV.d ((BG BD) x)
abbrev Jm :=fun x=>AV.d ((BG Ea) x)
abbrev DZ :=fun x=>AV.d (DU x)
abbrev KP :=fun x=>AV.d ((BG DU) x)
abbrev OB :=fun x=>AV.d (FY x)
abbrev Pv :=fun x=>AV.d ((BG Fq) x)
abbrev PW :=fun x=>AV.d ((BG Gf) x)
abbrev Np :=fun x=>AV.d (Hg x)
abbrev Bz :=fun x=>AV.d ((BG Ac) x)
abbrev EJ :=fun x=>AV.d ((BG BP) x)
abbrev Xk :=fun x=>AV.d (BP x)
abbrev MN :=fun x=>AV.d ((BG (BG BP)) x)
abbrev dH :=fun x=>AV.d ((BG NI) x)
abbrev Tf :=fun x=>AV.d ((BG JV) x)
end Go.Proofs.YtkkdimcnpacjhaaGreat
end
section
namespace Go.Proofs.YtkkdimcnpacjhaaGreat
open Go.RowKit Go.Sort
abbrev ahU :Type:={ p:AL×List Value//p.2.length=29∧(∀v∈p.2,v.oneCell'=true)∧p.2[0]? =some (.int .i64 p.1.Id)∧p.2[7]? =some (.int .i64 p.1.Depth) }
instance : Inhabited ahU:=⟨⟨(Ej,List.replicate 29 (.int .i64 0)),rfl,fun v hv=>by rw[(List.mem_replicate.1 hv).2];rfl,rfl,rfl⟩⟩
def atH (p q:Int×Int):Int:=if p.1=q.1 then Pn p.2 q.2 else Pn p.1 q.1
def aCo (p q:Int×Int):Bool:= !decide (atH q p<0)
end Go.Proofs.YtkkdimcnpacjhaaGreat
end
section
namespace Go.Proofs.YtkkdimcnpacjhaaGreat
open Go.RowKit
set_option maxRecDepth 20000
set_option maxHeartbeats 4000000
def aG7 (j:AL) (q:(Int→Option Bool)):Int→Option Bool:=fun m=>(bif decide (m<(j.Content.Levels.Users.length:Int))then(Af j.Content.Levels.Users m).bind fun u=>(bif decide ((u.User.size:Int)>2000)then some true else q (Ah (m+1)))else some false)
def aMr (j:AL):Int→Option Bool:=bn (aG7 j) Ag
def aJV (j:AL) (q:(Int→Option Bool)):Int→Option Bool:=fun m=>(bif decide (m<(j.Content.gB.length:Int))then(Af j.Content.gB m).bind fun u=>(bif decide ((u.size:Int)>2000)then some true else q (Ah (m+1)))else aMr j 0)
def aHo (j:AL):Int→Option Bool:=bn (aJV j) Ag
def aG1 (j:AL) (q:(Int→Option Bool)):Int→Option Bool:=fun m=>(bif decide (m<(j.Content.Allow.length:Int))then(Af j.Content.Allow m).bind fun u=>(bif decide ((u.size:Int)>2000)then some true else q (Ah (m+1)))else aHo j 0)
def acP (j:AL):Int→Option Bool:=bn (aG1 j) Ag
def aAw (j:AL):Option Bool:=(bif decide ((j.bF.length:Int)>40)then some true else some (decide ((j.bf.length:Int)>40))).bind fun J=>(bif J then some true else some (decide ((j.Content.Allow.length:Int)>40))).bind fun L=>(bif L then some true else some (decide ((j.Content.gB.length:Int)>40))).bind fun M=>(bif M then some true else some (decide ((j.Content.Levels.Users.length:Int)>40))).bind fun O=>(bif O then some true else some (decide ((j.Content.Levels.Kinds.length:Int)>40))).bind fun U=>(bif U then some true else(bif decide ((j.Room.size:Int)>2000)then some true else some (decide ((j.aN.size:Int)>2000))).bind fun m=>(bif m then some true else some (decide ((j.Key.size:Int)>2000))).bind fun q=>(bif q then some true else some (decide ((j.Content.Text.size:Int)>2000))).bind fun u=>(bif u then some true else some (decide ((j.Content.Via.size:Int)>2000))).bind fun z=>(bif z then some true else some (decide ((j.rP.Server.size:Int)>2000))).bind fun I=>(bif I then some true else acP j 0))
def anr (aZ r) (h:aAw aZ=some r):BF 44 [EG aZ] [] (Ak r) []:=Ap.aK Tryz.func44 rfl<|Aa<|Aa<|Ad<|AO<|.a 2<|.p (BR Ac aZ.bF CX rfl)<|.a 1<|AU h fun x1 hx1 h=>.mg 13 5 (Ak x1) (.bi hx1 (k2:=fun h=>.a 2<|.p (BR Ac aZ.bf CX rfl)<|.aW<|ED))<|.a 1<|AU h fun x3 hx3 h=>.mg 20 4 (Ak x3) (Ee hx3 (k2:=fun e i=>by subst e;have h:=i;exact .a 2<|.p (BR DU aZ.Content.Allow Hy rfl)<|.aW<|ED))<|.a 1<|AU h fun x5 hx5 h=>.mg 26 4 (Ak x5) (Ee hx5 (k2:=fun e i=>by subst e;have h:=i;exact .a 2<|.p (BR DU aZ.Content.gB Hy rfl)<|.aW<|ED))<|.a 1<|AU h fun x7 hx7 h=>.mg 32 5 (Ak x7) (Ee hx7 (k2:=fun e i=>by subst e;have h:=i;exact .a 3<|.p (BR Fq aZ.Content.Levels.Users JM rfl)<|.aW<|ED))<|.a 1<|AU h fun x9 Du h=>.mg 39 5 (Ak x9) (Ee Du (k2:=fun e i=>by subst e;have h:=i;exact .a 3<|.p (BR Gf aZ.Content.Levels.Kinds KN rfl)<|.aW<|ED))<|.bH<|BL h CP fun h=>Ad<|AO<|.a 4<|AU h fun x12 j h=>.mg 49 5 (Ak x12) (.bi j)<|.a 1<|AU h fun x14 m h=>.mg 56 4 (Ak x14) (Ee m)<|.a 1<|AU h fun x16 q h=>.mg 62 4 (Ak x16) (Ee q)<|.a 1<|AU h fun x18 u h=>.mg 68 4 (Ak x18) (Ee u)<|.a 1<|AU h fun Vd z h=>.mg 74 5 (Ak Vd) (Ee z)<|.bH<|BL h CP fun h=>Ad<|Aa<|AP.block<|F9 (fun I=>⟨BI 125 [(3,.ptr 0 0),(4,AZ I)],[.box (Aw (FY aZ.Content))],0⟩) _ _ _ (Ae 125 24 [(1,true)]) h<|fun J40 k24 J I h=>Ad<|AO<|.a 3<|.p (BR DU aZ.Content.Allow Hy rfl)<|.aW<|CM h (fun h=>Ad<|AP.block<|AU h fun x26 L h=>AO<|.a 3<|.p (Bd DU L Hy O6 rfl)<|.aW<|BL h CP fun h=>Az<|.a 3<|.nil<|J _ _ (Ae 125 24 [(0,true)]) h) fun h=>AP.exit<|Ad<|Aa<|AP.block<|F9 (fun M=>⟨BI 125 [(3,.ptr 0 0),(5,AZ M)],[.box (Aw (FY aZ.Content))],0⟩) _ _ _ (Ae 125 40 [(0,true)]) h<|fun J39 k29 O M h=>Ad<|AO<|.a 3<|.p (BR DU aZ.Content.gB Hy rfl)<|.aW<|CM h (fun h=>Ad<|AP.block<|AU h fun x31 U h=>AO<|.a 3<|.p (Bd DU U Hy O6 rfl)<|.aW<|BL h CP fun h=>Az<|.a 3<|.nil<|O _ _ (Ae 125 40 [(0,true)]) h) fun h=>AP.exit<|Ad<|Aa<|AP.block<|F9 (fun Y=>⟨BI 125 [(3,.ptr 0 0),(6,AZ Y)],[.box (Aw (FY aZ.Content))],0⟩) _ _ _ (Ae 125 72 [(0,true)]) h<|fun J38 k34 Z Y h=>Ad<|AO<|.a 4<|.p (BR Fq aZ.Content.Levels.Users JM rfl)<|.aW<|CM h (fun h=>Ad<|AP.block<|AU h fun x36 aqd h=>AO<|.a 4<|.p (Bd Fq aqd JM VQ rfl)<|.aW<|BL h CP fun h=>Az<|.a 3<|.nil<|Z _ _ (Ae 125 72 [(0,true)]) h) fun h=>Gg
abbrev AY:=List AL
def aIE (j:AY) (q:(Int→Option Bool)):Int→Option Bool:=fun m=>(bif decide (m<(j.length:Int))then(Af j m).bind fun u=>(aAw u).bind fun z=>(bif z then some true else q (Ah (m+1)))else some false)
def ae4 (j:AY):Int→Option Bool:=bn (aIE j) Ag
def xM (j:AY) (m:Int):Option Bool:=(bif decide ((j.length:Int)>m)then some true else ae4 j 0)
def aoR (ay FN r) (h:xM ay FN=some r):BF 17 [BM ay,AZ FN] [] (Ak r) []:=Ap.aK Tryz.func17 rfl<|Aa<|Ad<|AO<|.a 1<|.p (BR BD ay Cm rfl)<|.aW<|BL h CP fun h=>Ad<|Aa<|AP.block<|F9 (fun u=>⟨BI 21 [(0,BM ay),(5,AZ u)],[],0⟩) _ _ _ (Ae 21 33 []) h<|fun J L j u h=>Ad<|AO<|.a 2<|.p (BR BD ay Cm rfl)<|.aW<|CM h (fun h=>Ad<|AP.block<|DL h fun z m I q h=>AO<|.a 2<|.p (Bd BD m Cm Dh rfl)<|.a 1<|.ca (anr z I q)<|.bH<|BL h CP fun h=>Az<|.a 3<|.nil<|j _ _ (Ae 21 33 []) h) fun h=>Gg
def X9 (j:AB) (m:Int):Option AB:=(IK 1 0 (j.length:Int) (Ah ((j.length:Int)+m))).bind fun q=>some (gCopy q j)
def jV (jJ ato r) (h:X9 jJ ato=some r):BF 327 [Jm jJ,AZ ato] [] (.aY 0) [(Lc r)]:=Ap.aK Tryz.func327 rfl<|AO<|.f (DC 5 1 rfl)<|.bH<|AU h fun m j h=>AO<|.a 1<|.p (BR Ea jJ nG rfl)<|.a 1<|.p (BR Ea jJ nG rfl)<|.a 2<|.f (Xw Ea 0 j S9 YD AA AA AA BK rfl)<|.aW<|AO<|.a 2<|.f (arv (k:=1) Ea m jJ S9 AA (fun _=>rfl) rfl)<|.bH<|Aa<|Ux
def Ub  (q:(AB→Int→Option AB)):AB→Int→Option AB:=fun m j=>(bif decide (j≥128)then(Bq 1 m [Dx .or .u8 (IntKind.u8.wrap j) 128]).bind fun u=>(NZ .shr .u64 j 7).bind fun z=>q u z else(Bq 1 m [IntKind.u8.wrap j]).bind fun I=>some I)
def aOC  :AB→Int→Option AB:=aP (Ub) Ag
def wW (j:AB) (m:Int):Option AB:=aOC j m
def X6 (j:AB) (m:Int):Option AB:=(NZ .shl .u64 (IntKind.u64.wrap m) 1).bind fun q=>(bif decide (m<0)then wW j (gI .u64 q)else wW j q)
def uZ (jJ FN r) (h:X6 jJ FN=some r):BF 328 [.aY 0,AZ FN] [(Lc jJ)] (.aY 1) [.dead,(Lc r)]:=Ap.aK Tryz.func328 rfl<|AO<|.f (DC 5 1 rfl)<|.bH<|AU h fun q z h=>AO<|.a 2<|.p (aNG (k:=.u64) (k':=.u64) z rfl)<|.aW<|DW (fun s=>∃(I:Int),CO s ⟨BI 28 [(0,.aY 1),(5,.d ((aEz .u64) I))],[.dead,(Lc jJ)],1⟩∧wW jJ I=some r) (by rintro s ⟨I,hs,h⟩;exact Ci hs<|Ad<|AP.block<|ES (fun U j=>⟨BI 28 [(0,.aY 1),(5,.d ((aEz .u64) j))],[.dead,(Lc U)],1⟩) _ _ _ _ (Ae 28 33 [(0,false),(1,true)]) h<|fun Y Z J U j h=>Ad<|Aa<|CM h (fun h=>AP.block<|AU h fun x7 L h=>AO<|.a 3<|.p (VY (k:=.u8) (u:=(IntKind.u8.wrap j)) (v:=128) rfl)<|.p (Dy S9 YD [Ea (Dx .or .u8 (IntKind.u8.wrap j) 128)] rfl)<|.f (En (k:=1) Ea L S9 AA (fun _=>rfl) BK rfl)<|.aW<|AU h fun x8 M h=>Az<|.a 1<|.p (abg (k:=.u64) (k':=.u64) M rfl)<|.a 1<|.nil<|J _ _ _ (Ae 28 33 [(0,false),(2,true)]) h) fun h=>AP.exit<|AU h fun x9 O h=>AO<|.a 3<|.p (Dy S9 YD [Ea (IntKind.u8.wrap j)] rfl)<|.f (En (k:=1) Ea O S9 AA (fun _=>rfl) BK rfl)<|.aW<|by cases h;exact .ret (Eo [(0,false),(2,true)]))<|fun m=>Aa<|BL h (fun h=>Az<|.a 1<|.p (ag4 (k:=.u64) (u:=q) rfl)<|.a 1<|.nil<|m _ ⟨(gI .u64 q),Ae 28 33 [(0,false),(0,true)],h⟩) fun h=>m _ ⟨q,Ae 28 33 [(0,false),(0,true)],h⟩
def jS (m:AB) (j:ByteArray):Option AB:=(X6 m (j.size:Int)).bind fun q=>(Bq 1 q (BO j)).bind fun u=>some u
def aPg (jJ gG r) (h:jS jJ gG=some r):BF 326 [.aY 0,DZ gG] [(Lc jJ)] (.aY 1) [.dead,(Lc r)]:=Ap.aK Tryz.func326 rfl<|AO<|.f (DC 5 1 rfl)<|.bH<|DL h fun q j u m h=>AO<|.a 3<|.f (x:=.aY 2) (EM [.ent 0] [.aY 0,AZ (gG.size:Int)] (uZ jJ (gG.size:Int) q j) rfl)<|.a 1<|.f (apK (k:=2) m S9 YD Lp AA rfl)<|.aW<|by cases h;exact .ret (Eo [(0,false),(3,true)])
def Qm (m:AB) (j:ByteArray):Option AB:=(X9 m (Ah ((j.size:Int)+10))).bind fun q=>(jS q j).bind fun u=>some u
def aCA (jJ gG r) (h:Qm jJ gG=some r):BF 251 [Jm jJ,DZ gG] [] (.aY 0) [(Lc r)]:=Ap.aK Tryz.func251 rfl<|AO<|.f (DC 5 1 rfl)<|.bH<|DL h fun q j u m h=>AO<|.a 4<|.f (x:=.aY 1) (Tt [Jm jJ,AZ (Ah ((gG.size:Int)+10))] (jV jJ (Ah ((gG.size:Int)+10)) q j) rfl)<|.a 1<|.f (x:=.aY 2) (EM [.ent 1] [.aY 1,DZ gG] (aPg q gG u m) rfl)<|.aW<|OM
def Ld (j:AB) (m:Int):Option AB:=(X9 j 10).bind fun q=>(X6 q m).bind fun u=>some u
def UR (jJ FN r) (h:Ld jJ FN=some r):BF 252 [Jm jJ,AZ FN] [] (.aY 0) [(Lc r)]:=Ap.aK Tryz.func252 rfl<|AO<|.f (DC 5 1 rfl)<|.bH<|DL h fun q j u m h=>AO<|.a 1<|.f (x:=.aY 1) (Tt [Jm jJ,AZ 10] (jV jJ 10 q j) rfl)<|.a 1<|.f (x:=.aY 2) (EM [.ent 1] [.aY 1,AZ FN] (uZ q FN u m) rfl)<|.aW<|OM
def Xf (m:AB) (j:Bool):Option AB:=(X9 m 1).bind fun q=>(bif j then(Bq 1 q [1]).bind fun u=>some u else(Bq 1 q [0]).bind fun z=>some z)
def ab1 (jJ VR r) (h:Xf jJ VR=some r):BF 253 [Jm jJ,Ak VR] [] (.aY 0) [(Lc r)]:=Ap.aK Tryz.func253 rfl<|AO<|.f (DC 5 1 rfl)<|.bH<|AU h fun u j h=>AO<|.a 1<|.f (x:=.aY 1) (Tt [Jm jJ,AZ 1] (jV jJ 1 u j) rfl)<|.aW<|Ad<|Aa<|BL h (fun h=>AU h fun z m h=>AO<|.a 1<|.p (Dy S9 YD [Ea 1] rfl)<|.f (En (k:=1) Ea m S9 AA (fun _=>rfl) BK rfl)<|.aW<|OM) fun h=>AU h fun I q h=>AO<|.a 1<|.p (Dy S9 YD [Ea 0] rfl)<|.f (En (k:=1) Ea q S9 AA (fun _=>rfl) BK rfl)<|.aW<|OM
abbrev F6:=List ByteArray
def aKW (j:F6) (u:(AB→Int→Option AB)):AB→Int→Option AB:=fun q m=>(bif decide (m<(j.length:Int))then(Af j m).bind fun z=>(jS q z).bind fun I=>u I (Ah (m+1))else some q)
def aO3 (j:F6):AB→Int→Option AB:=aP (aKW j) Ag
def xW (m:AB) (j:F6):Option AB:=(X6 m (j.length:Int)).bind fun q=>aO3 j q 0
def aqn (jJ dF r) (h:xW jJ dF=some r):BF 329 [.aY 0,KP dF,.d (.fn (.func 326) [] [])] [(Lc jJ)] (.aY 1) [.dead,(Lc r)]:=Ap.aK Tryz.func329 rfl<|AO<|.f (DC 5 1 rfl)<|.bH<|AU h fun L j h=>AO<|.a 2<|.p (BR DU dF Hy rfl)<|.f (x:=.aY 2) (EM [.ent 0] [.aY 0,AZ (dF.length:Int)] (uZ jJ (dF.length:Int) L j) rfl)<|.aW<|Ad<|AO<|.a 1<|.p (BR DU dF Hy rfl)<|.aW<|AP.block<|ES (fun m I=>⟨BI 25 [(0,.aY 1),(2,.d (.fn (.func 326) [] [])),(13,KP dF),(14,AZ (dF.length:Int)),(15,AZ I)],[.dead,(Lc m)],1⟩) _ _ _ _ (Ae 25 57349 [(0,false),(2,true)]) h<|fun O U q m I h=>Aa<|Ad<|CM h (fun h=>Ad<|AP.block<|AU h fun J u h=>AO<|.p (Bd DU u Hy O6 rfl)<|.aW<|AU h fun M z h=>Az<|.a 3<|.f (x:=.aY 2) (aea [.ent 1] [] [] [.aY 1,DZ J] (aPg m J M z) rfl)<|.a 1<|.nil<|Az<|.a 2<|.nil<|q _ _ _ (Ae 25 57349 [(0,false),(2,true)]) h) fun h=>AP.exit<|Aa<|aQi
def iH (m:AB) (j:F6):Option AB:=(X9 m (Ah ((Ah (8*(j.length:Int)))+10))).bind fun q=>(xW q j).bind fun u=>some u
def aPj (jJ dF r) (h:iH jJ dF=some r):BF 254 [Jm jJ,KP dF] [] (.aY 0) [(Lc r)]:=Ap.aK Tryz.func254 rfl<|AO<|.f (DC 5 1 rfl)<|.bH<|DL h fun q j u m h=>AO<|.a 2<|.p (BR DU dF Hy rfl)<|.a 2<|.f (x:=.aY 1) (Tt [Jm jJ,AZ (Ah ((Ah (8*(dF.length:Int)))+10))] (jV jJ (Ah ((Ah (8*(dF.length:Int)))+10)) q j) rfl)<|.a 1<|.f (x:=.aY 2) (EM [.ent 1] [.aY 1,KP dF,.d (.fn (.func 326) [] [])] (aqn q dF u m) rfl)<|.aW<|OM
def aKf (j:Bg) (u:(AB→Int→Option AB)):AB→Int→Option AB:=fun q m=>(bif decide (m<7)then(Af ([j.Levels.User,j.Levels.Message,j.Levels.State,j.Levels.fH,j.Levels.jI,j.Levels.mW,j.Levels.eU]:AB) m).bind fun z=>(Ld q z).bind fun I=>u I (Ah (m+1))else some q)
def aGn (j:Bg):AB→Int→Option AB:=aP (aKf j) Ag
def aB4 (j:Bg) (z:(AB→Int→Option AB)):AB→Int→Option AB:=fun q m=>(bif decide (m<(j.Levels.Kinds.length:Int))then(Af j.Levels.Kinds m).bind fun u=>(Ld q u.Kind).bind fun I=>(Ld I u.N).bind fun J=>z J (Ah (m+1))else aGn j q 0)
def aHw (j:Bg):AB→Int→Option AB:=aP (aB4 j) Ag
def yS (j:Bg) (u:(AB→Int→Option AB)):AB→Int→Option AB:=fun L m=>(bif decide (m<(j.Levels.Users.length:Int))then(Af j.Levels.Users m).bind fun q=>(Qm L q.User).bind fun z=>(Ld z q.N).bind fun I=>u I (Ah (m+1))else(Ld L (j.Levels.Kinds.length:Int)).bind fun J=>aHw j J 0)
def aOB (j:Bg):AB→Int→Option AB:=aP (yS j) Ag
def pX (j:Bg):Option AB:=(Qm [] j.Text).bind fun m=>(Ld m j.N).bind fun q=>(Ld q j.Target).bind fun u=>(Xf u j.Thread).bind fun z=>(Qm z j.Via).bind fun I=>(iH I j.Allow).bind fun J=>(iH J j.gB).bind fun L=>(Ld L (j.Levels.Users.length:Int)).bind fun M=>aOB j M 0
def aPK (iV r) (h:pX iV=some r):BF 158 [OB iV] [] (Jm r) []:=Ap.aK Tryz.func158 rfl<|Aa<|AU h fun x1 hx1 h=>AO<|.a 2<|.p (x:=(Jm x1)) (aPF [.d (.lit (.slice none 0 0)),DZ iV.Text] (aCA [] iV.Text x1 hx1).view rfl)<|.aW<|AU h fun x2 hx2 h=>AO<|.a 3<|.ca (UR x1 iV.N x2 hx2).view<|.aW<|AU h fun x3 hx3 h=>AO<|.a 3<|.ca (UR x2 iV.Target x3 hx3).view<|.aW<|AU h fun x4 hx4 h=>AO<|.a 3<|.ca (ab1 x3 iV.Thread x4 hx4).view<|.aW<|AU h fun x5 hx5 h=>AO<|.a 3<|.ca (aCA x4 iV.Via x5 hx5).view<|.aW<|AU h fun x6 hx6 h=>AO<|.a 3<|.ca (aPj x5 iV.Allow x6 hx6).view<|.aW<|AU h fun x7 hx7 h=>AO<|.a 3<|.ca (aPj x6 iV.gB x7 hx7).view<|.aW<|Aa<|AU h fun x8 Nc h=>AO<|.a 3<|.p (BR Fq iV.Levels.Users JM rfl)<|.ca (UR x7 (iV.Levels.Users.length:Int) x8 Nc).view<|.aW<|Ad<|AO<|.a 2<|.p (BR Fq iV.Levels.Users JM rfl)<|.aW<|AP.block<|ES (fun v9 q=>⟨BI 103 [(3,Jm v9),(4,.ptr 0 0),(46,Pv iV.Levels.Users),(47,AZ (iV.Levels.Users.length:Int)),(48,AZ q)],[.box (Aw (Hg iV.Levels))],0⟩) _ _ _ _ (Ae 103 492581209243672 [(1,true)]) h<|fun J32 k11 u v9 q h=>Aa<|Ad<|CM h (fun h=>Ad<|AP.block<|AU h fun z I h=>AO<|.p (Bd Fq I JM VQ rfl)<|.aW<|DL h fun J L x15 M h=>AP.draw AA AA AA (.a 3<|.ca (aCA v9 z.User J L).view<|.a 2<|.ca (UR J z.N x15 M).view<|.a 1<|.nil _)<|Az<|.a 2<|.nil<|u _ _ _ (Ae 103 492581209243672 [(0,true)]) h) fun h=>AP.exit<|AU h fun x16 O h=>AO<|.a 3<|.p (BR Gf iV.Levels.Kinds KN rfl)<|.ca (UR v9 (iV.Levels.Kinds.length:Int) x16 O).view<|.aW<|Ad<|AO<|.a 2<|.p (BR Gf iV.Levels.Kinds KN rfl)<|.aW<|AP.block<|ES (fun j U=>⟨BI 103 [(3,Jm j),(4,.ptr 0 0),(66,PW iV.Levels.Kinds),(67,AZ (iV.Levels.Kinds.length:Int)),(68,AZ U)],[.box (Aw (Hg iV.Levels))],0⟩) _ _ _ _ (Ae 103 516508834063867445272 [(0,true)]) h<|fun J31 k19 Y j U h=>Aa<|Ad<|CM h (fun h=>Ad<|AP.block<|AU h fun Z ayc h=>AO<|.p (Bd Gf ayc KN Xz rfl)<|.aW<|DL h fun Tq ayd x23 aqf h=>AP.draw AA AA AA (.a 3<|.ca (UR j Z.Kind Tq ayd).view<|.a 2<|.ca (UR Tq Z.N x23 aqf).view<|.a 1<|.nil _)<|Az<|.a 2<|.nil<|Y _ _ _ (Ae 103 516508834063867445272 [(0,true)]) h) fun h=>AP.exit<|Ad<|Aa<|AP.block<|ES (fun m v25=>⟨BI 103 [(3,Jm m),(94,.d ((LG Ac) ([iV.Levels.User,iV.Levels.Message,iV.Levels.State,iV.Levels.fH,iV.Levels.jI,iV.Levels.mW,iV.Levels.eU]:(List Int)))),(95,AZ v25)],[],0⟩) _ _ _ _ (Ae 103 59421121885698253195157962760 []) h<|fun J30 k26 aDg m v25 h=>Aa<|Ad<|CM h (fun h=>Ad<|AP.block<|AU h fun x28 hx28 h=>AO<|.p (aBr (k:=.i64) Ac hx28 aBG Di AA rfl)<|.aW<|AU h fun x29 hx29 h=>Az<|.a 2<|.ca (UR m x28 x29 hx29).view<|.a 1<|.nil<|Az<|.a 2<|.nil<|aDg _ _ _ (Ae 103 59421121885698253195157962760 []) h) fun h=>Gg
def aIQ  :Option Int:=some 860922984064492325
def apy  (r:Int) (h:aIQ=some r):BF 222 [] [] (AZ r) []:=Ap.aK Tryz.func222 rfl<|dA
def aM2 (j:AB) (u:(Int→Int→Option Int)):Int→Int→Option Int:=fun q m=>(bif decide (m<(j.length:Int))then(Af j m).bind fun z=>u (Dx .and .u64 (IntKind.u64.wrap ((Dx .xor .u64 q (IntKind.u64.wrap z))*1099511628211)) 4611686018427387903) (Ah (m+1))else some (Ah q))
def aOG (j:AB):Int→Int→Option Int:=aP (aM2 j) Ag
def aJB (j:Int) (m:AB):Option Int:=aOG m (Dx .and .u64 (IntKind.u64.wrap j) 4611686018427387903) 0
def alN (aye kJ r) (h:aJB aye kJ=some r):BF 221 [AZ aye,Jm kJ] [] (AZ r) []:=Ap.aK Tryz.func221 rfl<|Aa<|AO<|.a 2<|.p (PV (k:=.u64) (u:=(IntKind.u64.wrap aye)) (v:=4611686018427387903) rfl)<|.aW<|Ad<|AO<|.a 1<|.p (BR Ea kJ nG rfl)<|.aW<|AP.block<|ES (fun j z=>⟨BI 26 [(5,.d ((aEz .u64) j)),(11,Jm kJ),(12,AZ (kJ.length:Int)),(13,AZ z)],[],0⟩) _ _ _ _ (Ae 26 14368 []) h<|fun J L m j z h=>Aa<|Ad<|CM h (fun h=>Ad<|AP.block<|AU h fun I q h=>AO<|.p (Bd Ea q nG aNj rfl)<|.aW<|Az<|.a 3<|.p (atA (k:=.u64) (u:=j) (v:=(IntKind.u64.wrap I)) rfl)<|.a 1<|.p (PV (k:=.u64) (u:=(IntKind.u64.wrap ((Dx .xor .u64 j (IntKind.u64.wrap I))*1099511628211))) (v:=4611686018427387903) rfl)<|.a 1<|.nil<|Az<|.a 2<|.nil<|m _ _ _ (Ae 26 14368 []) h) fun h=>Gg
def tK (j:AB):Option Int:=(aIQ).bind fun m=>(aJB m j).bind fun q=>some q
def acA (jJ r) (h:tK jJ=some r):BF 138 [Jm jJ] [] (AZ r) []:=Ap.aK Tryz.func138 rfl<|Aa<|DL h fun q j u m h=>AO<|.ca (apy  q j)<|.a 1<|.ca (alN q jJ u m)<|.aW<|Cj
def kU (j:AL):Option Int:=(pX j.Content).bind fun m=>(tK m).bind fun q=>some q
def aaR (aZ r) (h:kU aZ=some r):BF 92 [EG aZ] [] (AZ r) []:=Ap.aK Tryz.func92 rfl<|Aa<|DL h fun q j u m h=>AO<|.a 2<|.ca (aPK aZ.Content q j)<|.ca (acA q u m)<|.aW<|Cj
def Qv (j:F6):Option F6:=(Bq 16 [] j).bind fun m=>some m
def yL (ay r) (h:Qv ay=some r):BF 135 [KP ay] [] (.aY 0) [(uw r)]:=Ap.aK Tryz.func135 rfl<|AO<|.f (DC 9 1 rfl)<|.bH<|AU h fun m j h=>AO<|.a 1<|.f (aDf 9 1 (En (k:=_) DU j ZF AA (fun _=>rfl) BK rfl))<|.aW<|OM
def YW (j:Ba):Option Ba:=(Bq 24 [] j.Users).bind fun m=>(Bq 16 [] (({ j with Users:=m }).Kinds)).bind fun q=>some ({ { j with Users:=m }with Kinds:=q })
def aO4 (ay r) (h:YW ay=some r):BF 136 [Np ay] [] (Np r) []:=Ap.aK Tryz.func136 rfl<|Aa<|AU h fun j m h=>AO<|.a 2<|.f (aDf 108 2 (En (k:=_) Fq m zH AA (fun _=>rfl) BK rfl))<|.conv _ (Qp (e:=108) (s:=2) 3 (xs:=List.map Fq j) AA)<|.aW<|AU h fun q u h=>AO<|.a 2<|.f (aDf 111 2 (En (k:=_) Gf u aKY AA (fun _=>rfl) BK rfl))<|.conv _ (Qp (e:=111) (s:=2) 5 (xs:=List.map Gf q) AA)<|.aW<|Aa<|AP.ret<|by rw[←Ch h];exact⟨[Np ({ { ay with Users:=j }with Kinds:=q })],[],⟨⟨1,Aw (Hg ({ { ay with Users:=j }with Kinds:=q })),true,9,AA,AA,AA,sH,Fg AA,xP,AA⟩,trivial⟩,AA,AA,AA⟩
def nT (j:Bool):Option Int:=(bif j then some 5 else some 0)
def qM (j:Int) (m:Bool):Option Int:=(bif m then some 2 else(bif (j==6)then some 96 else(bif (j==7)then some 1 else(bif (j==9)then some 3 else(bif (j==11)then some 13 else(bif (j==12)then nT (j==12)else(bif (j==13)then nT (j==13)else nT (j==14))))))))
def ah (j:Int):Option Int:=(bif (j==2)then some 19 else(bif (j==3)then some 128 else(bif (j==4)then some 34 else(bif (j==5)then qM j (j==5)else(bif (j==8)then qM j (j==8)else qM j (j==10))))))
def aQX (iL r) (h:ah iL=some r):BF 172 [AZ iL] [] (AZ r) []:=Ap.aK Tryz.func172 rfl<|Aa<|Ad<|Aa<|AP.block<|Aa<|Df h CP fun h=>Aa<|Df h CP fun h=>Aa<|Df h CP fun h=>DW (fun s=>∃(u:Bool),CO s ⟨BI 26 [(3,AZ iL),(10,Ak u)],[],0⟩∧qM iL u=some r) (by rintro s ⟨u,hs,h⟩;exact Ci hs<|Df h CP fun h=>Aa<|Df h CP fun h=>Aa<|Df h CP fun h=>Aa<|Df h CP fun h=>Aa<|Df h CP fun h=>DW (fun s=>∃(j:Bool),CO s ⟨BI 26 [(22,Ak j)],[],0⟩∧nT j=some r) (by rintro s ⟨j,hs,h⟩;exact Ci hs<|QB)<|fun m=>Aa<|CM h (fun h=>m _ ⟨(iL==12),Ae 26 4194304 [],h⟩) fun h=>Aa<|CM h (fun h=>m _ ⟨(iL==13),Ae 26 4194304 [],h⟩) fun h=>Az<|.a 2<|.nil<|m _ ⟨(iL==14),Ae 26 4194304 [],h⟩)<|fun q=>Aa<|CM h (fun h=>q _ ⟨(iL==5),Ae 26 1032 [],h⟩) fun h=>Aa<|CM h (fun h=>q _ ⟨(iL==8),Ae 26 1032 [],h⟩) fun h=>Az<|.a 2<|.nil<|q _ ⟨(iL==10),Ae 26 1032 [],h⟩
def iD (j:Int) (m:Bool):Option Int:=(bif m then(ah j).bind fun q=>some q else(bif (j==14)then some 4 else some 0))
def bT (j:Int):Option Int:=(bif (j==2)then some 18 else(bif (j==3)then iD j (j==3)else(bif (j==4)then iD j (j==4)else(bif (j==5)then iD j (j==5)else iD j (j==6)))))
def aeO (iL r) (h:bT iL=some r):BF 137 [AZ iL] [] (AZ r) []:=Ap.aK Tryz.func137 rfl<|Aa<|Ad<|Aa<|AP.block<|Aa<|Df h CP fun h=>DW (fun s=>∃(j:Bool),CO s ⟨BI 15 [(0,AZ iL),(3,AZ iL),(6,Ak j)],[],0⟩∧iD iL j=some r) (by rintro s ⟨j,hs,h⟩;exact Ci hs<|Df h (fun h=>AU h fun q m h=>AO<|.a 1<|.ca (aQX iL q m)<|.aW<|Cj) fun h=>Aa<|QB)<|fun K6=>Aa<|CM h (fun h=>K6 _ ⟨(iL==3),Ae 15 73 [],h⟩) fun h=>Aa<|CM h (fun h=>K6 _ ⟨(iL==4),Ae 15 73 [],h⟩) fun h=>Aa<|CM h (fun h=>K6 _ ⟨(iL==5),Ae 15 73 [],h⟩) fun h=>Az<|.a 2<|.nil<|K6 _ ⟨(iL==6),Ae 15 73 [],h⟩
def aG4 (j:Bg):Option Bg:=some j
def aLD (u:Int) (j:Bg) (m:Bg):Option Bg:=(bif ((Dx .and .i64 u 128) != 0)then(YW j.Levels).bind fun q=>aG4 ({ m with Levels:=q })else aG4 m)
def aIX (m:Int) (j:Bg) (u:Bg):Option Bg:=(bif ((Dx .and .i64 m 64) != 0)then(Qv j.gB).bind fun q=>aLD m j ({ u with gB:=q })else aLD m j u)
def aKa (m:Int) (j:Bg) (u:Bg):Option Bg:=(bif ((Dx .and .i64 m 32) != 0)then(Qv j.Allow).bind fun q=>aIX m j ({ u with Allow:=q })else aIX m j u)
def aL2 (m:Int) (j:Bg) (q:Bg):Option Bg:=(bif ((Dx .and .i64 m 16) != 0)then aKa m j ({ q with Via:=j.Via })else aKa m j q)
def aIL (m:Int) (j:Bg) (q:Bg):Option Bg:=(bif ((Dx .and .i64 m 4) != 0)then aL2 m j ({ q with Target:=j.Target })else aL2 m j q)
def nM (m:Int) (j:Bg):Option Bg:=(bif (m==1)then(Qv j.Allow).bind fun u=>(Qv j.gB).bind fun z=>(YW j.Levels).bind fun I=>some ({ { { j with Allow:=u }with gB:=z }with Levels:=I })else(bT m).bind fun q=>(bif ((Dx .and .i64 q 2) != 0)then aIL q j ({ EW with N:=j.N })else aIL q j EW))
def ae8 (iL iW r) (h:nM iL iW=some r):BF 76 [AZ iL,OB iW] [] (OB r) []:=Ap.aK Tryz.func76 rfl<|Aa<|Ad<|Aa<|BL h (fun h=>lK h fun x2 hx2 x3 hx3 x4 hx4 h=>H9 AA AA AA (.a 2<|.ca (yL iW.Allow x2 hx2).view<|.a 2<|.ca (yL iW.gB x3 hx3).view<|.a 2<|.ca (aO4 iW.Levels x4 hx4)<|.a 6<|.nil _)<|Aa<|AP.ret<|by rw[←Ch h];exact⟨[OB ({ { { iW with Allow:=x2 }with gB:=x3 }with Levels:=x4 })],[],⟨⟨1,Aw (FY ({ { { iW with Allow:=x2 }with gB:=x3 }with Levels:=x4 })),true,16,AA,AA,AA,aN1,Fg AA,Rt,AA⟩,trivial⟩,AA,AA,AA⟩) fun h=>Aa<|AU h fun j hx5 h=>AO<|.a 1<|.ca (aeO iL j hx5)<|.aW<|DW (fun s=>∃(z:Bg),CO s ⟨BI 64 [(3,.ptr 0 0),(4,.ptr 1 0),(5,.ptr 2 0),(6,AZ j)],[.box (Aw (FY iW)),.box (Aw (FY EW)),.box (Aw (FY z))],0⟩∧aIL j iW z=some r) (by rintro s ⟨z,hs,h⟩;exact Ci hs<|DW (fun s=>∃(I:Bg),CO s ⟨BI 64 [(3,.ptr 0 0),(4,.ptr 1 0),(5,.ptr 2 0),(6,AZ j)],[.box (Aw (FY iW)),.box (Aw (FY EW)),.box (Aw (FY I))],0⟩∧aL2 j iW I=some r) (by rintro s ⟨I,hs,h⟩;exact Ci hs<|DW (fun s=>∃(J:Bg),CO s ⟨BI 64 [(3,.ptr 0 0),(4,.ptr 1 0),(5,.ptr 2 0),(6,AZ j)],[.box (Aw (FY iW)),.box (Aw (FY EW)),.box (Aw (FY J))],0⟩∧aKa j iW J=some r) (by rintro s ⟨J,hs,h⟩;exact Ci hs<|DW (fun s=>∃(L:Bg),CO s ⟨BI 64 [(3,.ptr 0 0),(4,.ptr 1 0),(5,.ptr 2 0),(6,AZ j)],[.box (Aw (FY iW)),.box (Aw (FY EW)),.box (Aw (FY L))],0⟩∧aIX j iW L=some r) (by rintro s ⟨L,hs,h⟩;exact Ci hs<|DW (fun s=>∃(m:Bg),CO s ⟨BI 64 [(3,.ptr 0 0),(4,.ptr 1 0),(5,.ptr 2 0),(6,AZ j)],[.box (Aw (FY iW)),.box (Aw (FY EW)),.box (Aw (FY m))],0⟩∧aLD j iW m=some r) (by rintro s ⟨m,hs,h⟩;exact Ci hs<|DW (fun s=>∃(q:Bg),CO s ⟨BI 64 [(4,.ptr 0 0),(5,.ptr 1 0)],[.box (Aw (FY EW)),.box (Aw (FY q))],0⟩∧aG4 q=some r) (by rintro s ⟨q,hs,h⟩;exact Ci hs<|Aa<|AP.ret<|by rw[←Ch h];exact⟨[OB q],[],⟨⟨0,Aw (FY q),true,16,AA,AA,AA,aN1,Fg AA,Rt,AA⟩,trivial⟩,AA,AA,AA⟩)<|fun M=>AO<|.a 1<|.p (PV (k:=.i64) (u:=j) (v:=128) rfl)<|.aW<|BL h (fun h=>AU h fun O U h=>Az<|.a 2<|.ca (aO4 iW.Levels O U)<|.a 2<|.nil<|M _ ⟨({ m with Levels:=O }),Ae 64 48 [(1,true),(2,true)],h⟩) fun h=>M _ ⟨m,Ae 64 48 [(1,true),(2,true)],h⟩)<|fun Y=>AO<|.a 1<|.p (PV (k:=.i64) (u:=j) (v:=64) rfl)<|.aW<|BL h (fun h=>AU h fun Z aqh h=>Az<|.a 2<|.ca (yL iW.gB Z aqh).view<|.a 2<|.nil<|Y _ ⟨({ L with gB:=Z }),Ae 64 120 [(0,true),(1,true),(2,true)],h⟩) fun h=>Y _ ⟨L,Ae 64 120 [(0,true),(1,true),(2,true)],h⟩)<|fun K18=>AO<|.a 1<|.p (PV (k:=.i64) (u:=j) (v:=32) rfl)<|.aW<|BL h (fun h=>AU h fun Vd ady h=>Az<|.a 2<|.ca (yL iW.Allow Vd ady).view<|.a 2<|.nil<|K18 _ ⟨({ J with Allow:=Vd }),Ae 64 120 [(0,true),(1,true),(2,true)],h⟩) fun h=>K18 _ ⟨J,Ae 64 120 [(0,true),(1,true),(2,true)],h⟩)<|fun K21=>AO<|.a 1<|.p (PV (k:=.i64) (u:=j) (v:=16) rfl)<|.aW<|BL h (fun h=>Az<|.a 4<|.nil<|K21 _ ⟨({ I with Via:=iW.Via }),Ae 64 120 [(0,true),(1,true),(2,true)],h⟩) fun h=>K21 _ ⟨I,Ae 64 120 [(0,true),(1,true),(2,true)],h⟩)<|fun K23=>AO<|.a 1<|.p (PV (k:=.i64) (u:=j) (v:=4) rfl)<|.aW<|BL h (fun h=>Az<|.a 4<|.nil<|K23 _ ⟨({ z with Target:=iW.Target }),Ae 64 120 [(0,true),(1,true),(2,true)],h⟩) fun h=>K23 _ ⟨z,Ae 64 120 [(0,true),(1,true),(2,true)],h⟩)<|fun K25=>AO<|.a 1<|.p (PV (k:=.i64) (u:=j) (v:=2) rfl)<|.aW<|BL h (fun h=>Az<|.a 4<|.nil<|K25 _ ⟨({ EW with N:=iW.N }),Ae 64 120 [(0,true),(1,true),(2,true)],h⟩) fun h=>K25 _ ⟨EW,Ae 64 120 [(0,true),(1,true),(2,true)],h⟩
def oM (j:AL):Option AL:=(nM j.Kind j.Content).bind fun m=>some ({ j with Content:=m })
def aed (aZ r) (h:oM aZ=some r):BF 122 [EG aZ] [] (EG r) []:=Ap.aK Tryz.func122 rfl<|Aa<|AU h fun j m h=>AO<|.a 4<|.ca (ae8 aZ.Kind aZ.Content j m)<|.aW<|Aa<|AP.ret<|by rw[←Ch h];exact⟨[EG ({ aZ with Content:=j })],[],⟨⟨1,Aw (BD ({ aZ with Content:=j })),true,29,AA,AA,AA,Dh,Fg AA,vg,AA⟩,trivial⟩,AA,AA,AA⟩
def iR (j:Ei) (m:Int):Option Ei:=(Ld j.b_ m).bind fun q=>some ({ j with b_:=q })
def ah4 (Me FN r) (h:iR Me FN=some r):BF 224 [.ptr 0 0,AZ FN] [.box (Aw (Jz Me))] (.eF []) [.box (Aw (Jz r))]:=Ap.aK Tryz.func224 rfl<|AU h fun m j h=>Az<|.a 6<|.ca (UR Me.b_ FN m j).view<|.a 3<|.nil<|XA
def aHH (j:AB) (u:(Int→Ei→Option Ei)):Int→Ei→Option Ei:=fun m q=>(bif decide (m<(j.length:Int))then(Af j m).bind fun z=>(iR q z).bind fun I=>u (Ah (m+1)) I else some q)
def adq (j:AB):Int→Ei→Option Ei:=aP (aHH j) Ag
def Ry (j:Ei) (m:AB):Option Ei:=adq m 0 j
def og (ru dF r) (h:Ry ru dF=some r):BF 223 [.fn (.func 224) [.ptr 0 0] [],Bz dF] [.box (Aw (Jz ru))] (.eF []) [.box (Aw (Jz r))]:=Ap.aK Tryz.func223 rfl<|AO<|.a 1<|.p (BR Ac dF CX rfl)<|.aW<|AP.block<|ES (fun z j=>⟨BI 16 [(0,.fn (.func 224) [.ptr 0 0] []),(6,Bz dF),(7,AZ (dF.length:Int)),(8,AZ z)],[.box (Aw (Jz j))],1⟩) _ _ _ _ (Ae 16 449 [(0,true)]) h<|fun L M m z j h=>Aa<|Ad<|CM h (fun h=>Ad<|AP.block<|AU h fun I q h=>AO<|.p (Bd Ac q CX Di rfl)<|.aW<|AU h fun J u h=>Az<|.a 2<|.f (x:=.eF []) (Yf [.ent 0] [.ptr 0 0] [] [AZ I] (ah4 j I J u) rfl)<|.nil<|Az<|.a 2<|aBL) fun h=>AP.exit<|XA
def eM (j:Ei) (m:ByteArray):Option Ei:=(Qm j.b_ m).bind fun q=>some ({ j with b_:=q })
def aiv (Me gG r) (h:eM Me gG=some r):BF 226 [.ptr 0 0,DZ gG] [.box (Aw (Jz Me))] (.eF []) [.box (Aw (Jz r))]:=Ap.aK Tryz.func226 rfl<|AU h fun m j h=>Az<|.a 6<|.ca (aCA Me.b_ gG m j).view<|.a 3<|.nil<|XA
def aLl (j:F6) (u:(Int→Ei→Option Ei)):Int→Ei→Option Ei:=fun m q=>(bif decide (m<(j.length:Int))then(Af j m).bind fun z=>(eM q z).bind fun I=>u (Ah (m+1)) I else some q)
def aPJ (j:F6):Int→Ei→Option Ei:=aP (aLl j) Ag
def UF (j:Ei) (m:F6):Option Ei:=aPJ m 0 j
def aDQ (ru dF r) (h:UF ru dF=some r):BF 225 [.fn (.func 226) [.ptr 0 0] [],KP dF] [.box (Aw (Jz ru))] (.eF []) [.box (Aw (Jz r))]:=Ap.aK Tryz.func225 rfl<|AO<|.a 1<|.p (BR DU dF Hy rfl)<|.aW<|AP.block<|ES (fun z j=>⟨BI 16 [(0,.fn (.func 226) [.ptr 0 0] []),(6,KP dF),(7,AZ (dF.length:Int)),(8,AZ z)],[.box (Aw (Jz j))],1⟩) _ _ _ _ (Ae 16 449 [(0,true)]) h<|fun L M m z j h=>Aa<|Ad<|CM h (fun h=>Ad<|AP.block<|AU h fun I q h=>AO<|.p (Bd DU q Hy O6 rfl)<|.aW<|AU h fun J u h=>Az<|.a 2<|.f (x:=.eF []) (Yf [.ent 0] [.ptr 0 0] [] [DZ I] (aiv j I J u) rfl)<|.nil<|Az<|.a 2<|aBL) fun h=>AP.exit<|XA
def oh (j:Ei) (m:Bool):Option Ei:=(Xf j.b_ m).bind fun q=>some ({ j with b_:=q })
def ape (Me VR r) (h:oh Me VR=some r):BF 228 [.ptr 0 0,Ak VR] [.box (Aw (Jz Me))] (.eF []) [.box (Aw (Jz r))]:=Ap.aK Tryz.func228 rfl<|AU h fun m j h=>Az<|.a 6<|.ca (ab1 Me.b_ VR m j).view<|.a 3<|.nil<|XA
def aJu (j:(List Bool)) (u:(Int→Ei→Option Ei)):Int→Ei→Option Ei:=fun m q=>(bif decide (m<(j.length:Int))then(Af j m).bind fun z=>(oh q z).bind fun I=>u (Ah (m+1)) I else some q)
def aRC (j:(List Bool)):Int→Ei→Option Ei:=aP (aJu j) Ag
def vG (j:Ei) (m:(List Bool)):Option Ei:=aRC m 0 j
def agq (ru dF r) (h:vG ru dF=some r):BF 227 [.fn (.func 228) [.ptr 0 0] [],.d ((BG DX) dF)] [.box (Aw (Jz ru))] (.eF []) [.box (Aw (Jz r))]:=Ap.aK Tryz.func227 rfl<|AO<|.a 1<|.p (BR DX dF ae9 rfl)<|.aW<|AP.block<|ES (fun z j=>⟨BI 16 [(0,.fn (.func 228) [.ptr 0 0] []),(6,.d ((BG DX) dF)),(7,AZ (dF.length:Int)),(8,AZ z)],[.box (Aw (Jz j))],1⟩) _ _ _ _ (Ae 16 449 [(0,true)]) h<|fun L M m z j h=>Aa<|Ad<|CM h (fun h=>Ad<|AP.block<|AU h fun I q h=>AO<|.p (Bd DX q ae9 aQk rfl)<|.aW<|AU h fun J u h=>Az<|.a 2<|.f (x:=.eF []) (Yf [.ent 0] [.ptr 0 0] [] [Ak I] (ape j I J u) rfl)<|.nil<|Az<|.a 2<|aBL) fun h=>AP.exit<|XA
def aKb (j:AB) (u:(AB→Int→Option AB)):AB→Int→Option AB:=fun q m=>(bif decide (m<(j.length:Int))then(Af j m).bind fun z=>(X6 q z).bind fun I=>u I (Ah (m+1))else some q)
def aQ1 (j:AB):AB→Int→Option AB:=aP (aKb j) Ag
def aAZ (m:AB) (j:AB):Option AB:=(X6 m (j.length:Int)).bind fun q=>aQ1 j q 0
def agl (jJ dF r) (h:aAZ jJ dF=some r):BF 369 [.aY 0,Bz dF,.d (.fn (.func 328) [] [])] [(Lc jJ)] (.aY 1) [.dead,(Lc r)]:=Ap.aK Tryz.func369 rfl<|AO<|.f (DC 5 1 rfl)<|.bH<|AU h fun L j h=>AO<|.a 2<|.p (BR Ac dF CX rfl)<|.f (x:=.aY 2) (EM [.ent 0] [.aY 0,AZ (dF.length:Int)] (uZ jJ (dF.length:Int) L j) rfl)<|.aW<|Ad<|AO<|.a 1<|.p (BR Ac dF CX rfl)<|.aW<|AP.block<|ES (fun m I=>⟨BI 25 [(0,.aY 1),(2,.d (.fn (.func 328) [] [])),(13,Bz dF),(14,AZ (dF.length:Int)),(15,AZ I)],[.dead,(Lc m)],1⟩) _ _ _ _ (Ae 25 57349 [(0,false),(2,true)]) h<|fun O U q m I h=>Aa<|Ad<|CM h (fun h=>Ad<|AP.block<|AU h fun J u h=>AO<|.p (Bd Ac u CX Di rfl)<|.aW<|AU h fun M z h=>Az<|.a 3<|.f (x:=.aY 2) (aea [.ent 1] [] [] [.aY 1,AZ J] (uZ m J M z) rfl)<|.a 1<|.nil<|Az<|.a 2<|.nil<|q _ _ _ (Ae 25 57349 [(0,false),(2,true)]) h) fun h=>AP.exit<|Aa<|aQi
def Vs (m:AB) (j:AB):Option AB:=(X9 m (Ah ((Ah (2*(j.length:Int)))+10))).bind fun q=>(aAZ q j).bind fun u=>some u
def anA (jJ dF r) (h:Vs jJ dF=some r):BF 315 [Jm jJ,Bz dF] [] (.aY 0) [(Lc r)]:=Ap.aK Tryz.func315 rfl<|AO<|.f (DC 5 1 rfl)<|.bH<|DL h fun q j u m h=>AO<|.a 2<|.p (BR Ac dF CX rfl)<|.a 2<|.f (x:=.aY 1) (Tt [Jm jJ,AZ (Ah ((Ah (2*(dF.length:Int)))+10))] (jV jJ (Ah ((Ah (2*(dF.length:Int)))+10)) q j) rfl)<|.a 1<|.f (x:=.aY 2) (EM [.ent 1] [.aY 1,Bz dF,.d (.fn (.func 328) [] [])] (agl q dF u m) rfl)<|.aW<|OM
def dN (j:Ei) (m:AB):Option Ei:=(Vs j.b_ m).bind fun q=>some ({ j with b_:=q })
def aoM (Me dF r) (h:dN Me dF=some r):BF 230 [.ptr 0 0,Bz dF] [.box (Aw (Jz Me))] (.eF []) [.box (Aw (Jz r))]:=Ap.aK Tryz.func230 rfl<|AU h fun m j h=>Az<|.a 6<|.ca (anA Me.b_ dF m j).view<|.a 3<|.nil<|XA
abbrev TA:=List (List Int)
def aJH (j:TA) (u:(Int→Ei→Option Ei)):Int→Ei→Option Ei:=fun m q=>(bif decide (m<(j.length:Int))then(Af j m).bind fun z=>(dN q z).bind fun I=>u (Ah (m+1)) I else some q)
def abb (j:TA):Int→Ei→Option Ei:=aP (aJH j) Ag
def jP (j:Ei) (m:TA):Option Ei:=abb m 0 j
def ang (ru dF r) (h:jP ru dF=some r):BF 229 [.fn (.func 230) [.ptr 0 0] [],.d ((BG (BG Ac)) dF)] [.box (Aw (Jz ru))] (.eF []) [.box (Aw (Jz r))]:=Ap.aK Tryz.func229 rfl<|AO<|.a 1<|.p (BR (BG Ac) dF aP0 rfl)<|.aW<|AP.block<|ES (fun z j=>⟨BI 16 [(0,.fn (.func 230) [.ptr 0 0] []),(6,.d ((BG (BG Ac)) dF)),(7,AZ (dF.length:Int)),(8,AZ z)],[.box (Aw (Jz j))],1⟩) _ _ _ _ (Ae 16 449 [(0,true)]) h<|fun L M m z j h=>Aa<|Ad<|CM h (fun h=>Ad<|AP.block<|AU h fun I q h=>AO<|.p (Bd (BG Ac) q aP0 aPL rfl)<|.aW<|AU h fun J u h=>Az<|.a 2<|.f (x:=.eF []) (Yf [.ent 0] [.ptr 0 0] [] [Bz I] (aoM j I J u) rfl)<|.nil<|Az<|.a 2<|aBL) fun h=>AP.exit<|XA
def ql (j:AL):Option AB:=(Ry aAz [j.Id]).bind fun z=>(UF z [j.Room,j.aN]).bind fun I=>(Ry I [j.Kind]).bind fun J=>(vG J [j.State]).bind fun L=>(UF L [j.Key]).bind fun M=>(Ry M [j.Time,j.Depth]).bind fun O=>(jP O [j.bF,j.bf]).bind fun U=>(pX j.Content).bind fun Y=>(UF U [QC Y]).bind fun Z=>(Ry Z [j.Hash]).bind fun m=>(UF m [j.rP.Server]).bind fun q=>(Ry q [j.rP.Sum]).bind fun u=>some u.b_
def alh (aZ r) (h:ql aZ=some r):BF 139 [EG aZ] [] (Jm r) []:=Ap.aK Tryz.func139 rfl<|Aa<|Aa<|AU h fun x1 J h=>AO<|.a 1<|.p (x:=.fn (.func 224) [.ptr 1 0] []) (OD (fi:=[.ptr 1 0]) (ca:=[]) rfl rfl rfl)<|.a 2<|.p (Dy EC zero3 [Ac aZ.Id] rfl)<|.f (x:=.eF []) (EM [.ent 1] [.fn (.func 224) [.ptr 1 0] [],Bz [aZ.Id]] (og aAz [aZ.Id] x1 J) rfl (ha:=⟨⟨_,_,rfl,⟨⟨0,rfl,rfl⟩,trivial⟩,trivial⟩,.inl rfl,trivial⟩))<|.bH<|AU h fun x2 L h=>AO<|.a 1<|.p (x:=.fn (.func 226) [.ptr 1 0] []) (OD (fi:=[.ptr 1 0]) (ca:=[]) rfl rfl rfl)<|.a 4<|.p (Dy ZF zero9 [DU aZ.Room,DU aZ.aN] rfl)<|.f (x:=.eF []) (EM [.ent 1] [.fn (.func 226) [.ptr 1 0] [],KP [aZ.Room,aZ.aN]] (aDQ x1 [aZ.Room,aZ.aN] x2 L) rfl (ha:=⟨⟨_,_,rfl,⟨⟨0,rfl,rfl⟩,trivial⟩,trivial⟩,.inl rfl,trivial⟩))<|.bH<|AU h fun x3 M h=>AO<|.a 1<|.p (x:=.fn (.func 224) [.ptr 1 0] []) (OD (fi:=[.ptr 1 0]) (ca:=[]) rfl rfl rfl)<|.a 2<|.p (Dy EC zero3 [Ac aZ.Kind] rfl)<|.f (x:=.eF []) (EM [.ent 1] [.fn (.func 224) [.ptr 1 0] [],Bz [aZ.Kind]] (og x2 [aZ.Kind] x3 M) rfl (ha:=⟨⟨_,_,rfl,⟨⟨0,rfl,rfl⟩,trivial⟩,trivial⟩,.inl rfl,trivial⟩))<|.bH<|AU h fun x4 O h=>AO<|.a 1<|.p (x:=.fn (.func 228) [.ptr 1 0] []) (OD (fi:=[.ptr 1 0]) (ca:=[]) rfl rfl rfl)<|.a 2<|.p (Dy aju aE0 [DX aZ.State] rfl)<|.f (x:=.eF []) (EM [.ent 1] [.fn (.func 228) [.ptr 1 0] [],.d ((BG DX) [aZ.State])] (agq x3 [aZ.State] x4 O) rfl (ha:=⟨⟨_,_,rfl,⟨⟨0,rfl,rfl⟩,trivial⟩,trivial⟩,.inl rfl,trivial⟩))<|.bH<|AU h fun x5 U h=>AO<|.a 1<|.p (x:=.fn (.func 226) [.ptr 1 0] []) (OD (fi:=[.ptr 1 0]) (ca:=[]) rfl rfl rfl)<|.a 2<|.p (Dy ZF zero9 [DU aZ.Key] rfl)<|.f (x:=.eF []) (EM [.ent 1] [.fn (.func 226) [.ptr 1 0] [],KP [aZ.Key]] (aDQ x4 [aZ.Key] x5 U) rfl (ha:=⟨⟨_,_,rfl,⟨⟨0,rfl,rfl⟩,trivial⟩,trivial⟩,.inl rfl,trivial⟩))<|.bH<|AU h fun x6 Y h=>AO<|.a 1<|.p (x:=.fn (.func 224) [.ptr 1 0] []) (OD (fi:=[.ptr 1 0]) (ca:=[]) rfl rfl rfl)<|.a 4<|.p (Dy EC zero3 [Ac aZ.Time,Ac aZ.Depth] rfl)<|.f (x:=.eF []) (EM [.ent 1] [.fn (.func 224) [.ptr 1 0] [],Bz [aZ.Time,aZ.Depth]] (og x5 [aZ.Time,aZ.Depth] x6 Y) rfl (ha:=⟨⟨_,_,rfl,⟨⟨0,rfl,rfl⟩,trivial⟩,trivial⟩,.inl rfl,trivial⟩))<|.bH<|AU h fun x7 Z h=>AO<|.a 1<|.p (x:=.fn (.func 230) [.ptr 1 0] []) (OD (fi:=[.ptr 1 0]) (ca:=[]) rfl rfl rfl)<|.a 4<|.p (Dy aiu aAd [(BG Ac) aZ.bF,(BG Ac) aZ.bf] rfl)<|.f (x:=.eF []) (EM [.ent 1] [.fn (.func 230) [.ptr 1 0] [],.d ((BG (BG Ac)) [aZ.bF,aZ.bf])] (ang x6 [aZ.bF,aZ.bf] x7 Z) rfl (ha:=⟨⟨_,_,rfl,⟨⟨0,rfl,rfl⟩,trivial⟩,trivial⟩,.inl rfl,trivial⟩))<|.bH<|DL h fun j Nc x9 Du h=>AO<|.a 1<|.p (x:=.fn (.func 226) [.ptr 1 0] []) (OD (fi:=[.ptr 1 0]) (ca:=[]) rfl rfl rfl)<|.a 2<|.ca (aPK aZ.Content j Nc)<|.p (akJ (l:=j) nG aeQ Lp rfl)<|.p (Dy ZF zero9 [DU (QC j)] rfl)<|.f (x:=.eF []) (EM [.ent 1] [.fn (.func 226) [.ptr 1 0] [],KP [QC j]] (aDQ x7 [QC j] x9 Du) rfl (ha:=⟨⟨_,_,rfl,⟨⟨0,rfl,rfl⟩,trivial⟩,trivial⟩,.inl rfl,trivial⟩))<|.bH<|AU h fun m q h=>AO<|.a 1<|.p (x:=.fn (.func 224) [.ptr 1 0] []) (OD (fi:=[.ptr 1 0]) (ca:=[]) rfl rfl rfl)<|.a 2<|.p (Dy EC zero3 [Ac aZ.Hash] rfl)<|.f (x:=.eF []) (EM [.ent 1] [.fn (.func 224) [.ptr 1 0] [],Bz [aZ.Hash]] (og x9 [aZ.Hash] m q) rfl (ha:=⟨⟨_,_,rfl,⟨⟨0,rfl,rfl⟩,trivial⟩,trivial⟩,.inl rfl,trivial⟩))<|.bH<|AU h fun u z h=>AO<|.a 1<|.p (x:=.fn (.func 226) [.ptr 1 0] []) (OD (fi:=[.ptr 1 0]) (ca:=[]) rfl rfl rfl)<|.a 3<|.p (Dy ZF zero9 [DU aZ.rP.Server] rfl)<|.f (x:=.eF []) (EM [.ent 1] [.fn (.func 226) [.ptr 1 0] [],KP [aZ.rP.Server]] (aDQ m [aZ.rP.Server] u z) rfl (ha:=⟨⟨_,_,rfl,⟨⟨0,rfl,rfl⟩,trivial⟩,trivial⟩,.inl rfl,trivial⟩))<|.bH<|AU h fun x12 I h=>AO<|.a 1<|.p (x:=.fn (.func 224) [.ptr 1 0] []) (OD (fi:=[.ptr 1 0]) (ca:=[]) rfl rfl rfl)<|.a 3<|.p (Dy EC zero3 [Ac aZ.rP.Sum] rfl)<|.f (x:=.eF []) (EM [.ent 1] [.fn (.func 224) [.ptr 1 0] [],Bz [aZ.rP.Sum]] (og u [aZ.rP.Sum] x12 I) rfl (ha:=⟨⟨_,_,rfl,⟨⟨0,rfl,rfl⟩,trivial⟩,trivial⟩,.inl rfl,trivial⟩))<|.bH<|Aa<|Cj
def vH (j:AL):Option Int:=(oM j).bind fun m=>(ql ({ { m with Id:=0 }with rP:=YZ })).bind fun q=>(tK q).bind fun u=>some u
def aOP (aZ r) (h:vH aZ=some r):BF 77 [EG aZ] [] (AZ r) []:=Ap.aK Tryz.func77 rfl<|Aa<|AU h fun z j h=>AO<|.a 1<|.ca (aed aZ z j)<|.aW<|Aa<|DL h fun u m I q h=>AO<|.a 1<|.ca (alh _ u m)<|.ca (acA u I q)<|.aW<|Cj
def aaV (m:AL) (j:ByteArray):Option AL:=(kU m).bind fun q=>(vH ({ m with Hash:=q })).bind fun u=>some ({ { { m with Hash:=q }with Id:=u }with rP:=(⟨j,({ { m with Hash:=q }with Id:=u }).Id⟩:O5) })
def anC (aZ Zr r) (h:aaV aZ Zr=some r):BF 35 [EG aZ,DZ Zr] [] (EG r) []:=Ap.aK Tryz.func35 rfl<|Aa<|AU h fun j q h=>AO<|.a 1<|.ca (aaR aZ j q)<|.aW<|AU h fun m u h=>AO<|.a 1<|.ca (aOP _ m u)<|.aW<|Aa<|Aa<|AP.ret<|by rw[←Ch h];exact⟨[EG ({ { { aZ with Hash:=j }with Id:=m }with rP:=(⟨Zr,({ { aZ with Hash:=j }with Id:=m }).Id⟩:O5) })],[],⟨⟨1,Aw (BD ({ { { aZ with Hash:=j }with Id:=m }with rP:=(⟨Zr,({ { aZ with Hash:=j }with Id:=m }).Id⟩:O5) })),true,29,AA,AA,AA,Dh,Fg AA,xP,AA⟩,trivial⟩,AA,AA,AA⟩
def nE (j:AL):Option AL:=(aaV j aax).bind fun m=>some m
def aE2 (aZ r) (h:nE aZ=some r):BF 56 [EG aZ] [] (EG r) []:=Ap.aK Tryz.func56 rfl<|Aa<|AU h fun j m h=>AO<|.a 1<|.ca (anC aZ aax j m)<|.aW<|AP.ret<|by rw[←Ch h];exact⟨[EG j],[],⟨⟨1,Aw (BD j),true,29,AA,AA,AA,Dh,Fg AA,vg,AA⟩,trivial⟩,AA,AA,AA⟩
def aIt (j:AY) (m:(AL→Option Bool)) (k2:(Int→Option Int)):Int→Option Int:=fun q=>(bif decide (q<(j.length:Int))then(Af j q).bind fun u=>(m u).bind fun z=>(bif z then some q else k2 (Ah (q+1)))else some (-1))
def aa4 (j:AY) (m:(AL→Option Bool)):Int→Option Int:=bn (aIt j m) Ag
def aF (j:AY) (m:(AL→Option Bool)):Option Int:=aa4 j m 0
def aJQ (m:(List AL)) (q:(AL→Option Bool)) (j:D) (u:SQ Tryz.prog BD DX j q) (r:Int) (h:aF m q=some r):BF 125 [BM m,.d j] [] (AZ r) []:=Ap.aK Tryz.func125 rfl<|Aa<|Ad<|AO<|.a 1<|.p (BR BD m Cm rfl)<|.aW<|AP.block<|F9 (fun L=>⟨BI 19 [(0,BM m),(1,.d j),(7,AZ (m.length:Int)),(8,AZ L)],[],0⟩) _ _ _ (Ae 19 387 []) h<|fun M k2 z L h=>Aa<|Ad<|CM h (fun h=>Ad<|AP.block<|Aa<|DL h fun O I U J h=>AO<|.a 3<|.p (Bd BD I Cm Dh rfl)<|.a 1<|.p (rF (d:=j) (u:SQ Tryz.prog BD DX j q) J rfl)<|.bH<|BL h CP fun h=>Az<|.a 2<|.nil<|z _ _ (Ae 19 387 []) h) fun h=>Gg
def yO (j:AL) (m:Int):Option Bool:=some (j.Id==m)
def ahk (aZ c0 r) (h:yO aZ c0=some r):BF 126 [EG aZ,.d (.ref (Ac c0).cells 0)] [] (Ak r) []:=Ap.aK Tryz.func126 rfl<|dA
def aBA (m:AY) (j:Int):Option Int:=(aF m (fun a0=>yO a0 j)).bind fun q=>some q
def afB (ay iP r) (h:aBA ay iP=some r):BF 64 [BM ay,AZ iP] [] (AZ r) []:=Ap.aK Tryz.func64 rfl<|Aa<|AU h fun m j h=>AO<|.a 1<|.conv _ (Tn (cs:=Aw (Ac iP)) 0 AA AA)<|.p (x:=.d (.fn (.func 126) [] [(.ref (Ac iP).cells 0)])) (UW [(.ref (Ac iP).cells 0)] rfl rfl)<|.ca (aJQ ay (fun a0=>yO a0 iP) (.fn (.func 126) [] [(.ref (Ac iP).cells 0)]) ⟨126,[(.ref (Ac iP).cells 0)],rfl,apL,fun a0 b q=>ahk a0 iP b q⟩ m j)<|.aW<|Cj
def dR (j:AY):Option AY:=(Bq 376 [] j).bind fun m=>some m
def aOu (fC r) (h:dR fC=some r):BF 79 [BM fC] [] (.aY 0) [(Gz r)]:=by
 refine Ap.aK Tryz.func79 rfl ?_;unfold dR at h;refine AO<|.f (DC 39 29 rfl)<|.bH<|Ad<|uz (x:=.tmp 3) (t':=22) (d:=4) (es:=List.map BD fC) 1 rfl (.a 1<|.nil _) AA AA AA Cm AA ?_;intro b j;cases b
 ·clear j;refine NY AA<|AP.skip ?_;obtain⟨q,m,h⟩:=DI h;refine AO<|.f (ZA Lh Py [] rfl)<|.a 1<|.f (En (k:=1) BD m Lh AA (fun _=>rfl) BK rfl)<|.aM 1 ?_;rw[←Ch h];exact .ret (Eo [(2,true)])
 replace j:=sJ j;replace h:some []=some r:=tN
 refine RP AA<|AO<|.f (DC 39 29 rfl)<|.bH ?_;rw[←Ch h];exact .ret (Eo [(1,true)])
def dw (j:AL):Option Bool:=(kU j).bind fun m=>some (m==j.Hash)
def aCq (aZ r) (h:dw aZ=some r):BF 74 [EG aZ] [] (Ak r) []:=Ap.aK Tryz.func74 rfl<|Aa<|AU h fun m j h=>H9 AA AA AA (.a 1<|.ca (aaR aZ m j)<|.a 4<|.nil _)<|Cj
def aR9 (j:List AL) (m:Int) (q:List AL):Option AY:=aIM j m q
def apm (j:List AL) (m:Int) (q r:List AL) (h:aR9 j m q=some r):BF 80 [.aY 0,AZ m,.aY 1] [(Gz j),(Gz q)] (.aY 2) [.dead,.dead,(Gz r)]:=
 arS (fun _=>rfl) j m q r h
def aM6 (j:AY):Option (AY×Int):=some (j,0)
def aIR (q:(Int→Option (AY×Int))) (j:Int) (u:AY) (m:AL) (z:Bool):Option (AY×Int):=(bif z then q (Ah (j+1))else(aR9 u j [m]).bind fun I=>some (I,0))
def apD (q:AY) (u:AY) (j:AL) (z:(Int→Option (AY×Int))):Int→Option (AY×Int):=fun m=>(bif decide (m<(q.length:Int))then(Af q m).bind fun I=>aIR z m u j (decide (I.Id<j.Id))else aIR z m u j false)
def akp (j:AY) (q:AY) (m:AL):Int→Option (AY×Int):=bn (apD j q m) Ag
def alg (j:AY) (m:AL) (k2:(Int→Option (AY×Int))):Int→Option (AY×Int):=fun z=>(bif decide (z<(j.length:Int))then(Af j z).bind fun O=>(bif (!(O.Room.toList==m.Room.toList))then some ([],13)else k2 (Ah (z+1)))else(aBA j m.Id).bind fun u=>(bif decide (u<0)then some (decide ((j.length:Int)≥2000))else some false).bind fun U=>(bif U then some ([],29)else(dR j).bind fun q=>(bif decide (u≥0)then(dw m).bind fun I=>(bif I then(Af j u).bind fun J=>(dw J).bind fun L=>some (!L)else some false).bind fun M=>(bif M then(Af q u).bind fun Y=>aM6 (q.set (u).toNat m)else aM6 q)else akp j q m 0)))
def an9 (j:AY) (m:AL):Int→Option (AY×Int):=bn (alg j m) Ag
def abe (j:AY) (m:AL):Option (AY×Int):=an9 j m 0
def aiZ (ay jd r) (h:abe ay jd=some r):BF 31 [BM ay,EG jd] [] (.eF [.aY 0,AZ r.2]) [(Gz r.1)]:=Ap.aK Tryz.func31 rfl<|AO<|.a 1<|.f (DC 39 29 rfl)<|.aW<|Ad<|AO<|.a 1<|.p (BR BD ay Cm rfl)<|.aW<|AP.block<|F9 (fun v1=>⟨BI 73 [(0,BM ay),(3,.ptr 0 0),(10,BM ay),(11,AZ (ay.length:Int)),(12,AZ v1)],[.box (Aw (BD jd))],0⟩) _ _ _ (Ae 73 7177 [(0,true)]) h<|fun J30 k2 hk2 v1 h=>Aa<|Ad<|CM h (fun h=>Ad<|AP.block<|AU h fun x4 hx4 h=>AO<|.p (Bd BD hx4 Cm Dh rfl)<|.aW<|Aa<|BL h (fun h=>AO<|.f (DC 39 29 rfl)<|.aW<|OM) fun h=>Az<|.a 2<|.nil<|hk2 _ _ (Ae 73 7177 [(0,true)]) h) fun h=>AP.exit<|AU h fun x6 hx6 h=>AO<|.a 3<|.ca (afB ay jd.Id x6 hx6)<|.aW<|Ad<|AO<|.a 2<|AU h fun x7 hx7 h=>.mg 28 4 (Ak x7) (.bi hx7 (fun h=>.a 1<|.p (BR BD ay Cm rfl)<|.aW<|ED))<|.bH<|BL h (fun h=>AO<|.f (DC 39 29 rfl)<|.aW<|Ux) fun h=>AU h fun j J h=>AO<|.a 1<|.f (x:=.aY 1) (Tt [BM ay] (aOu ay j J) rfl)<|.aW<|Ad<|Aa<|BL h (fun h=>DW (fun s=>∃(z:(List AL)),CO s ⟨BI 73 [(9,.aY 0)],[(Gz z)],0⟩∧aM6 z=some r) (by rintro s ⟨z,hs,h⟩;exact Ci hs<|Aa<|Yh)<|fun L=>AU h fun x14 M h=>AO<|.a 1<|.ca (aCq jd x14 M)<|.a 1<|AU h fun x15 O h=>.mg 40 6 (Ak x15) (Ee O (fun e i=>by subst e;have h:=i;exact DL h fun x17 U x18 Y h=>.a 2<|.p (Bd BD U Cm Dh rfl)<|.a 1<|.ca (aCq x17 x18 Y)<|.aW<|ED))<|.bH<|BL h (fun h=>AU h fun Vd u h=>Az<|.a 3<|.p (OQ (e':=39) (kd:=.i64) BD u (k:=1) AA Cm Dh rfl)<|.f (qL (e:=39) (size:=29) (v:=(EG jd)) (k:=1) (i:=(x6).toNat) (off:=0) (a':=jd) BD AA (JY u).2 AA (Dh).size AA (Fg AA) AA (fun _=>rfl) rfl)<|.nil<|L _ ⟨(j.set (x6).toNat jd),Ae 73 512 [(1,true)],h⟩) fun h=>L _ ⟨j,Ae 73 512 [(1,true)],h⟩) fun h=>Aa<|Ad<|AP.block<|F9 (fun m=>⟨BI 73 [(0,BM ay),(3,.ptr 0 0),(8,AZ m),(9,.aY 1)],[.box (Aw (BD jd)),(Gz j)],0⟩) _ _ _ (Ae 73 777 [(0,true),(1,true)]) h<|fun J29 k22 Z m h=>Ad<|DW (fun s=>∃(I:Bool),CO s ⟨BI 73 [(0,BM ay),(3,.ptr 0 0),(8,AZ m),(9,.aY 1),(65,Ak I)],[.box (Aw (BD jd)),(Gz j)],0⟩∧aIR k22 m j jd I=some r) (by rintro s ⟨I,hs,h⟩;exact Ci hs<|CM h (fun h=>AP.block<|Az<|.a 3<|.nil<|Z _ _ (Ae 73 777 [(0,true),(1,true)]) h) fun h=>AP.exit<|AU h fun x25 hx25 h=>AO<|.a 3<|.f (ZA Lh Py [BD jd] rfl)<|.f (x:=.aY 3) (EM [.ent 1,.ent 2] [.aY 1,AZ m,.aY 2] (apm j m [jd] x25 hx25) rfl (hE:=(KE AA<|KE AA<|trivial)))<|.aW<|by cases h;exact .ret (Eo [(3,true)]))<|fun K26=>GI h (fun q h=>AU h fun x28 hx28 h=>AP.draw AA AA AA (.a 2<|.p (BR BD ay Cm rfl)<|.a 1<|.c (BH some q)<|.a 2<|.p (Bd BD hx28 Cm Dh rfl)<|.a 6<|.nil _)<|K26 _ ⟨(decide (x28.Id<jd.Id)),Ae 73 36893488147419104009 [(0,true),(1,true)],h⟩) fun q h=>AP.draw AA AA AA (.a 2<|.p (BR BD ay Cm rfl)<|.a 1<|.c (BH some q)<|.a 9<|.nil _)<|K26 _ ⟨false,Ae 73 36893488147419104009 [(0,true),(1,true)],h⟩
def YN (j:Int):Option Bool:=(bif decide (j≥1)then some (decide (j≤10))else some false).bind fun m=>some m
def gJ (iL r) (h:YN iL=some r):BF 98 [AZ iL] [] (Ak r) []:=Ap.aK Tryz.func98 rfl<|Aa<|AO<|.a 2<|AU h fun m j h=>.mg 5 3 (Ak m) (.bi j)<|.aW<|Cj
def aHh (j:ByteArray) (m:ByteArray):Option (ByteArray×ByteArray×Bool):=(aAJ j m).bind fun q=>(bif decide (q≥0)then(MI j 0 q).bind fun u=>(MI j (Ah (q+(m.size:Int))) ((j).size)).bind fun z=>some (u,z,true)else some (j,BU,false))
def an3 (fC Xr r) (h:aHh fC Xr=some r):BF 232 [DZ fC,DZ Xr] [] (.eF [DZ r.1,DZ r.2.1,Ak r.2.2]) []:=Ap.aK Tryz.func232 rfl<|Aa<|Ad<|AU h fun z j h=>AO<|.a 2<|.ca (ap8 fC Xr z j)<|.aW<|Aa<|BL h (fun h=>DL h fun I m J q h=>H9 AA AA AA (.a 2<|.p (aJk m (fun _=>rfl) (by intro u;cases u) Lp rfl)<|.a 5<|.p (aJk q (by intro u;cases u) (fun _=>rfl) Lp rfl)<|.a 3<|.nil _)<|Cj) fun h=>Aa<|Cj
def strings_Cut (m:ByteArray) (j:ByteArray):Option (ByteArray×ByteArray×Bool):=(aHh m j).bind fun q=>some (q.1,q.2.1,q.2.2)
def aon (fC Xr r) (h:strings_Cut fC Xr=some r):BF 141 [DZ fC,DZ Xr] [] (.eF [DZ r.1,DZ r.2.1,Ak r.2.2]) []:=Ap.aK Tryz.func141 rfl<|Aa<|AU h fun m j h=>AO<|.a 2<|.ca (an3 fC Xr m j)<|.aW<|Cj
def kH (j:Int):Option Bool:=(bif (j==95)then some true else some (j==46)).bind fun m=>(bif m then some true else some (j==45)).bind fun q=>(bif q then some true else some (j==61)).bind fun u=>some u
def ano (iV r) (h:kH iV=some r):BF 234 [.d (Ea iV)] [] (Ak r) []:=Ap.aK Tryz.func234 rfl<|Aa<|AO<|.a 2<|AU h fun u j h=>.mg 5 3 (Ak u) (.bi j)<|.a 1<|AU h fun z m h=>.mg 10 2 (Ak z) (Ee m)<|.a 1<|AU h fun I q h=>.mg 14 2 (Ak I) (Ee q)<|.aW<|Cj
def aS (j:Int):Option Bool:=(bif decide (j≥97)then some (decide (j≤122))else some false).bind fun m=>(bif m then some true else(bif decide (j≥48)then some (decide (j≤57))else some false).bind fun q=>some q).bind fun u=>some u
def aJ3 (iV r) (h:aS iV=some r):BF 236 [.d (Ea iV)] [] (Ak r) []:=Ap.aK Tryz.func236 rfl<|Aa<|AO<|.a 2<|AU h fun u j h=>.mg 5 3 (Ak u) (.bi j)<|.a 1<|AU h fun z m h=>.mg 10 6 (Ak z) (Ee m (k2:=fun e i=>by subst e;have h:=i;exact .a 2<|AU h fun I q h=>.mg 12 3 (Ak I) (.bi q)<|.aW<|ED))<|.aW<|Cj
def aN4 (m:ByteArray) (j:(Int→Option Bool)) (I:(Int→Option Bool)):Int→Option Bool:=fun q=>(bif decide (q<(m.size:Int))then(GL m q).bind fun J=>(aS J).bind fun L=>(bif (!L)then(GL m q).bind fun u=>(j u).bind fun z=>some (!z)else some false).bind fun M=>(bif M then some false else I (Ah (q+1)))else some true)
def aHT (m:ByteArray) (j:(Int→Option Bool)):Int→Option Bool:=bn (aN4 m j) Ag
def Ze (m:ByteArray) (j:(Int→Option Bool)):Option Bool:=(bif decide ((m.size:Int)<1)then some true else some (decide ((m.size:Int)>32))).bind fun q=>(bif q then some false else aHT m j 0)
def aPR (u:ByteArray) (m:(Int→Option Bool)) (j:D) (q:SQ Tryz.prog Ea DX j m) (r:Bool) (h:Ze u m=some r):BF 233 [DZ u,.d j] [] (Ak r) []:=Ap.aK Tryz.func233 rfl<|Aa<|Ad<|AO<|.a 3<|AU h fun Z J h=>.mg 9 4 (Ak Z) (.bi J)<|.bH<|BL h CP fun h=>Ad<|Aa<|AP.block<|F9 (fun Y=>⟨BI 33 [(0,DZ u),(1,.d j),(15,AZ (u.size:Int)),(16,AZ Y)],[],0⟩) _ _ _ (Ae 33 98307 []) h<|fun J14 k5 L Y h=>Aa<|Ad<|CM h (fun h=>Ad<|AP.block<|Aa<|DL h fun x7 M x8 O h=>AO<|.a 2<|.p (Uu (k:=.i64) M Lp rfl)<|.ca (aJ3 x7 x8 O)<|.a 1<|AU h fun x9 U h=>.mg 24 7 (Ak x9) (.bi U (fun h=>DL h fun x11 z x12 I h=>.a 3<|.p (Uu (k:=.i64) z Lp rfl)<|.p (rF (d:=j) (q:SQ Tryz.prog Ea DX j m) I rfl)<|.aW<|ED))<|.bH<|BL h CP fun h=>Az<|.a 2<|.nil<|L _ _ (Ae 33 98307 []) h) fun h=>Gg
def aCH (j:ByteArray):Option Bool:=(Ze j (fun a0=>kH a0)).bind fun m=>some m
def apz (fC r) (h:aCH fC=some r):BF 142 [DZ fC] [] (Ak r) []:=Ap.aK Tryz.func142 rfl<|Aa<|AU h fun m j h=>AO<|.a 1<|.ca (aPR fC (fun a0=>kH a0) (.fn (.func 234) [] []) ⟨234,[],rfl,ain,fun a0 b q=>ano a0 b q⟩ m j)<|.aW<|Cj
def kP (j:Int):Option Bool:=(bif (j==46)then some true else some (j==45)).bind fun m=>some m
def ai3 (iV r) (h:kP iV=some r):BF 235 [.d (Ea iV)] [] (Ak r) []:=Ap.aK Tryz.func235 rfl<|Aa<|AO<|.a 2<|AU h fun m j h=>.mg 5 3 (Ak m) (.bi j)<|.aW<|Cj
def aEK (j:ByteArray):Option Bool:=(Ze j (fun a0=>kP a0)).bind fun m=>(bif m then(GL j 0).bind fun q=>(aS q).bind fun u=>some u else some false).bind fun z=>(bif z then(GL j (Ah ((j.size:Int)-1))).bind fun I=>(aS I).bind fun J=>some J else some false).bind fun L=>some L
def agj (fC r) (h:aEK fC=some r):BF 143 [DZ fC] [] (Ak r) []:=Ap.aK Tryz.func143 rfl<|Aa<|AU h fun L j h=>AO<|.a 1<|.ca (aPR fC (fun a0=>kP a0) (.fn (.func 235) [] []) ⟨235,[],rfl,aqG,fun a0 b M=>ai3 a0 b M⟩ L j)<|.a 1<|AU h fun O m h=>.mg 6 3 (Ak O) (Ee m (fun e i=>by subst e;have h:=i;exact DL h fun U q Y u h=>.a 1<|.p (Uu (k:=.i64) q Lp rfl)<|.ca (aJ3 U Y u)<|.aW<|ED))<|.a 1<|AU h fun Z z h=>.mg 11 6 (Ak Z) (Ee z (fun e i=>by subst e;have h:=i;exact DL h fun x8 I x9 J h=>.a 4<|.p (Uu (k:=.i64) I Lp rfl)<|.ca (aJ3 x8 x9 J)<|.aW<|ED))<|.aW<|Cj
def fF (j:ByteArray) (m:ByteArray):Option (ByteArray×ByteArray×Bool):=(bif (j.toList==BU.toList)then some true else(GL j 0).bind fun J=>(strings_IndexByte m J).bind fun L=>some (decide (L<0))).bind fun M=>(bif M then some (BU,BU,false)else(MI j 1 ((j).size)).bind fun O=>(strings_Cut O dG).bind fun q=>(bif (!q.2.2)then some true else(aCH q.1).bind fun u=>some (!u)).bind fun U=>(bif U then some true else(aEK q.2.1).bind fun z=>some (!z)).bind fun I=>(bif I then some (BU,BU,false)else some (q.1,q.2.1,true)))
def aRK (Oi ajn r) (h:fF Oi ajn=some r):BF 78 [DZ Oi,DZ ajn] [] (.eF [DZ r.1,DZ r.2.1,Ak r.2.2]) []:=Ap.aK Tryz.func78 rfl<|Aa<|Ad<|AO<|.a 2<|AU h fun x1 u h=>.mg 12 6 (Ak x1) (.bi u (k2:=fun h=>DL h fun x3 z x4 I h=>.a 2<|.p (Uu (k:=.i64) z Lp rfl)<|.ca (apR ajn x3 x4 I)<|.aW<|ED))<|.bH<|BL h CP fun h=>DL h fun x6 J L M h=>AO<|.a 1<|.p (aJk J Rt (fun _=>rfl) Lp rfl)<|.ca (aon x6 dG L M)<|.aW<|Ad<|AO<|.a 2<|AU h fun x8 O h=>.mg 28 4 (Ak x8) (.bi O (k2:=fun h=>AU h fun U j h=>.a 1<|.ca (apz L.1 U j)<|.aW<|ED))<|.a 1<|AU h fun Y m h=>.mg 34 3 (Ak Y) (Ee m (k2:=fun e i=>by subst e;have h:=i;exact AU h fun Z q h=>.a 1<|.ca (agj L.2.1 Z q)<|.aW<|ED))<|.bH<|QB
def vI (m:ByteArray) (j:ByteArray):Option Int:=(fF m j).bind fun q=>(bif (!q.2.2)then some 3 else some 0)
def aRu (fC amf r) (h:vI fC amf=some r):BF 272 [DZ fC,DZ amf] [] (AZ r) []:=Ap.aK Tryz.func272 rfl<|Aa<|Ad<|AU h fun m j h=>AO<|.a 2<|.ca (aRK fC amf m j)<|.aW<|Aa<|QB
def mQ (j:ByteArray):Option Int:=(vI j nO).bind fun m=>some m
def aQo (fC r) (h:mQ fC=some r):BF 169 [DZ fC] [] (AZ r) []:=Ap.aK Tryz.func169 rfl<|Aa<|AU h fun m j h=>AO<|.a 1<|.ca (aRu fC nO m j)<|.aW<|Cj
def ZH (j:ByteArray):Option Int:=(vI j oD).bind fun m=>some m
def vO (fC r) (h:ZH fC=some r):BF 170 [DZ fC] [] (AZ r) []:=Ap.aK Tryz.func170 rfl<|Aa<|AU h fun m j h=>AO<|.a 1<|.ca (aRu fC oD m j)<|.aW<|Cj
def aFJ (j:ByteArray) (k2:(Int→Option Bool)):Int→Option Bool:=fun m=>(bif decide (m<(j.size:Int))then(GL j m).bind fun q=>(bif decide (q<33)then some true else(GL j m).bind fun u=>some (decide (u>126))).bind fun z=>(bif z then some false else k2 (Ah (m+1)))else(bif decide ((j.size:Int)≥1)then some (decide ((j.size:Int)≤32))else some false).bind fun I=>some I)
def aQm (j:ByteArray):Int→Option Bool:=bn (aFJ j) Ag
def EvC (j:ByteArray):Option Bool:=aQm j 0
def amU (akN r) (h:EvC akN=some r):BF 171 [DZ akN] [] (Ak r) []:=Ap.aK Tryz.func171 rfl<|Aa<|Ad<|Aa<|AP.block<|F9 (fun I=>⟨BI 28 [(0,DZ akN),(5,AZ (akN.size:Int)),(6,AZ I)],[],0⟩) _ _ _ (Ae 28 97 []) h<|fun J k2 j I h=>Aa<|Ad<|CM h (fun h=>Ad<|AP.block<|Aa<|AU h fun O m h=>AO<|.a 2<|.p (Uu (k:=.i64) m Lp rfl)<|.a 1<|AU h fun L q h=>.mg 13 5 (Ak L) (.bi q (k2:=fun h=>AU h fun U u h=>.a 2<|.p (Uu (k:=.i64) u Lp rfl)<|.aW<|ED))<|.bH<|BL h CP fun h=>Az<|.a 2<|.nil<|j _ _ (Ae 28 97 []) h) fun h=>AP.exit<|AO<|.a 3<|AU h fun M z h=>.mg 23 4 (Ak M) (.bi z)<|.aW<|Cj
def aA8 (j:AL):Option Bool:=(mQ j.Room).bind fun m=>(bif (m != 0)then some true else(ZH j.aN).bind fun q=>some (q != 0)).bind fun u=>(bif u then some false else(bif (j.Kind==2)then(ZH j.Key).bind fun z=>some (z==0)else(bif (j.Kind==9)then(EvC j.Key).bind fun I=>some I else some true)))
def ak7 (aZ r) (h:aA8 aZ=some r):BF 101 [EG aZ] [] (Ak r) []:=Ap.aK Tryz.func101 rfl<|Aa<|Ad<|AU h fun I j h=>AO<|.a 2<|.ca (aQo aZ.Room I j)<|.a 1<|AU h fun J m h=>.mg 7 5 (Ak J) (.bi m (k2:=fun h=>AU h fun L q h=>.a 2<|.ca (vO aZ.aN L q)<|.aW<|ED))<|.bH<|BL h CP fun h=>Ad<|Aa<|AP.block<|Aa<|Df h (fun h=>AU h fun M u h=>AO<|.a 2<|.ca (vO aZ.Key M u)<|.aW<|Cj) fun h=>Aa<|BL h (fun h=>AU h fun O z h=>AO<|.a 2<|.ca (amU aZ.Key O z)<|.aW<|Cj) fun h=>Aa<|Cj
def aFK (j:AB) (k2:(Int→Option Bool)):Int→Option Bool:=fun m=>(bif decide (m<(j.length:Int))then(Af j m).bind fun q=>(bif decide (q<0)then some true else(bif decide (m>0)then(Af j (Ah (m-1))).bind fun u=>some (decide (u≥q))else some false).bind fun z=>some z).bind fun I=>(bif I then some false else k2 (Ah (m+1)))else some true)
def abS (j:AB):Int→Option Bool:=bn (aFK j) Ag
def lG (j:AB):Option Bool:=abS j 0
def acS (ay r) (h:lG ay=some r):BF 102 [Bz ay] [] (Ak r) []:=Ap.aK Tryz.func102 rfl<|Aa<|Ad<|AO<|.a 1<|.p (BR Ac ay CX rfl)<|.aW<|AP.block<|F9 (fun I=>⟨BI 28 [(0,Bz ay),(5,Bz ay),(6,AZ (ay.length:Int)),(7,AZ I)],[],0⟩) _ _ _ (Ae 28 225 []) h<|fun J k2 j I h=>Aa<|Ad<|CM h (fun h=>Ad<|AP.block<|AU h fun O m h=>AO<|.a 1<|.p (Bd Ac m CX Di rfl)<|.aW<|AO<|.a 2<|AU h fun L q h=>.mg 14 12 (Ak L) (.bi q (k2:=fun h=>.a 2<|AU h fun M u h=>.mg 17 8 (Ak M) (.bi u (fun h=>AU h fun U z h=>.a 3<|.p (Bd Ac z CX Di rfl)<|.aW<|ED))<|.aW<|ED))<|.bH<|BL h CP fun h=>Az<|.a 2<|.nil<|j _ _ (Ae 28 225 []) h) fun h=>Gg
def tH (j:Int):Option Bool:=(bif decide (j≥1)then some (decide (j≤14))else some false).bind fun m=>some m
def af7 (iL r) (h:tH iL=some r):BF 173 [AZ iL] [] (Ak r) []:=Ap.aK Tryz.func173 rfl<|Aa<|AO<|.a 2<|AU h fun m j h=>.mg 5 3 (Ak m) (.bi j)<|.aW<|Cj
def aBW (j:Ba):Option Bool:=(bif ((j.Users.length:Int)==0)then some ((j.Kinds.length:Int)==0)else some false).bind fun z=>(bif z then some (j.User==0)else some false).bind fun I=>(bif I then some (j.Message==0)else some false).bind fun J=>(bif J then some (j.State==0)else some false).bind fun L=>(bif L then some (j.fH==0)else some false).bind fun M=>(bif M then some (j.jI==0)else some false).bind fun m=>(bif m then some (j.mW==0)else some false).bind fun q=>(bif q then some (j.eU==0)else some false).bind fun u=>some u
def as9 (ay r) (h:aBW ay=some r):BF 273 [Np ay] [] (Ak r) []:=Ap.aK Tryz.func273 rfl<|Aa<|AO<|.a 2<|.p (BR Fq ay.Users JM rfl)<|.a 1<|AU h fun Y u h=>.mg 7 5 (Ak Y) (.bi u (fun h=>.a 2<|.p (BR Gf ay.Kinds KN rfl)<|.aW<|ED))<|.a 1<|AU h fun Z z h=>.mg 14 3 (Ak Z) (Ee z)<|.a 1<|AU h fun x5 I h=>.mg 19 3 (Ak x5) (Ee I)<|.a 1<|AU h fun x7 J h=>.mg 24 3 (Ak x7) (Ee J)<|.a 1<|AU h fun x9 L h=>.mg 29 3 (Ak x9) (Ee L)<|.a 1<|AU h fun M j h=>.mg 34 3 (Ak M) (Ee j)<|.a 1<|AU h fun O m h=>.mg 39 3 (Ak O) (Ee m)<|.a 1<|AU h fun U q h=>.mg 44 3 (Ak U) (Ee q)<|.aW<|Cj
def aCk (j:Int):Option Int:=some j
def aCr (j:Bg) (q:Int):Option Int:=(aBW j.Levels).bind fun m=>(bif (!m)then aCk (Dx .or .i64 q 128)else aCk q)
def yV (j:Bg) (m:Int):Option Int:=(bif decide ((j.gB.length:Int)>0)then aCr j (Dx .or .i64 m 64)else aCr j m)
def aCv (j:Bg) (m:Int):Option Int:=(bif decide ((j.Allow.length:Int)>0)then yV j (Dx .or .i64 m 32)else yV j m)
def aAY (j:Bg) (m:Int):Option Int:=(bif (!(j.Via.toList==BU.toList))then aCv j (Dx .or .i64 m 16)else aCv j m)
def vX (j:Bg) (m:Int):Option Int:=(bif j.Thread then aAY j (Dx .or .i64 m 8)else aAY j m)
def aC8 (j:Bg) (m:Int):Option Int:=(bif (j.Target != 0)then vX j (Dx .or .i64 m 4)else vX j m)
def aAn (j:Bg) (m:Int):Option Int:=(bif (j.N != 0)then aC8 j (Dx .or .i64 m 2)else aC8 j m)
def kL (j:Bg):Option Int:=(bif (!(j.Text.toList==BU.toList))then aAn j (Dx .or .i64 0 1)else aAn j 0)
def aOL (iV r) (h:kL iV=some r):BF 174 [OB iV] [] (AZ r) []:=Ap.aK Tryz.func174 rfl<|Aa<|Aa<|DW (fun s=>∃(j:Int),CO s ⟨BI 47 [(1,.ptr 0 0),(3,AZ j)],[.box (Aw (FY iV))],0⟩∧aAn iV j=some r) (by rintro s ⟨j,hs,h⟩;exact Ci hs<|DW (fun s=>∃(m:Int),CO s ⟨BI 47 [(1,.ptr 0 0),(3,AZ m)],[.box (Aw (FY iV))],0⟩∧aC8 iV m=some r) (by rintro s ⟨m,hs,h⟩;exact Ci hs<|DW (fun s=>∃(q:Int),CO s ⟨BI 47 [(1,.ptr 0 0),(3,AZ q)],[.box (Aw (FY iV))],0⟩∧vX iV q=some r) (by rintro s ⟨q,hs,h⟩;exact Ci hs<|DW (fun s=>∃(z:Int),CO s ⟨BI 47 [(1,.ptr 0 0),(3,AZ z)],[.box (Aw (FY iV))],0⟩∧aAY iV z=some r) (by rintro s ⟨z,hs,h⟩;exact Ci hs<|DW (fun s=>∃(I:Int),CO s ⟨BI 47 [(1,.ptr 0 0),(3,AZ I)],[.box (Aw (FY iV))],0⟩∧aCv iV I=some r) (by rintro s ⟨I,hs,h⟩;exact Ci hs<|DW (fun s=>∃(J:Int),CO s ⟨BI 47 [(1,.ptr 0 0),(3,AZ J)],[.box (Aw (FY iV))],0⟩∧yV iV J=some r) (by rintro s ⟨J,hs,h⟩;exact Ci hs<|DW (fun s=>∃(L:Int),CO s ⟨BI 47 [(1,.ptr 0 0),(3,AZ L)],[.box (Aw (FY iV))],0⟩∧aCr iV L=some r) (by rintro s ⟨L,hs,h⟩;exact Ci hs<|DW (fun s=>∃(v8:Int),CO s ⟨BI 47 [(3,AZ v8)],[],0⟩∧aCk v8=some r) (by rintro s ⟨v8,hs,h⟩;exact Ci hs<|Aa<|Cj)<|fun K9=>AU h fun x10 M h=>AO<|.a 2<|.ca (as9 iV.Levels x10 M)<|.aW<|BL h (fun h=>Az<|.a 1<|.p (VY (k:=.i64) (u:=L) (v:=128) rfl)<|.a 1<|.nil<|K9 _ ⟨(Dx .or .i64 L 128),Ae 47 8 [],h⟩) fun h=>K9 _ ⟨L,Ae 47 8 [],h⟩)<|fun O=>AO<|.a 2<|.p (BR DU iV.gB Hy rfl)<|.aW<|BL h (fun h=>Az<|.a 1<|.p (VY (k:=.i64) (u:=J) (v:=64) rfl)<|.a 1<|.nil<|O _ ⟨(Dx .or .i64 J 64),Ae 47 10 [(0,true)],h⟩) fun h=>O _ ⟨J,Ae 47 10 [(0,true)],h⟩)<|fun U=>AO<|.a 2<|.p (BR DU iV.Allow Hy rfl)<|.aW<|BL h (fun h=>Az<|.a 1<|.p (VY (k:=.i64) (u:=I) (v:=32) rfl)<|.a 1<|.nil<|U _ ⟨(Dx .or .i64 I 32),Ae 47 10 [(0,true)],h⟩) fun h=>U _ ⟨I,Ae 47 10 [(0,true)],h⟩)<|fun Y=>Aa<|BL h (fun h=>Az<|.a 1<|.p (VY (k:=.i64) (u:=z) (v:=16) rfl)<|.a 1<|.nil<|Y _ ⟨(Dx .or .i64 z 16),Ae 47 10 [(0,true)],h⟩) fun h=>Y _ ⟨z,Ae 47 10 [(0,true)],h⟩)<|fun Z=>Aa<|BL h (fun h=>Az<|.a 1<|.p (VY (k:=.i64) (u:=q) (v:=8) rfl)<|.a 1<|.nil<|Z _ ⟨(Dx .or .i64 q 8),Ae 47 10 [(0,true)],h⟩) fun h=>Z _ ⟨q,Ae 47 10 [(0,true)],h⟩)<|fun K20=>Aa<|BL h (fun h=>Az<|.a 1<|.p (VY (k:=.i64) (u:=m) (v:=4) rfl)<|.a 1<|.nil<|K20 _ ⟨(Dx .or .i64 m 4),Ae 47 10 [(0,true)],h⟩) fun h=>K20 _ ⟨m,Ae 47 10 [(0,true)],h⟩)<|fun K22=>Aa<|BL h (fun h=>Az<|.a 1<|.p (VY (k:=.i64) (u:=j) (v:=2) rfl)<|.a 1<|.nil<|K22 _ ⟨(Dx .or .i64 j 2),Ae 47 10 [(0,true)],h⟩) fun h=>K22 _ ⟨j,Ae 47 10 [(0,true)],h⟩)<|fun K24=>Aa<|BL h (fun h=>Az<|.a 1<|.p (VY (k:=.i64) (u:=0) (v:=1) rfl)<|.a 1<|.nil<|K24 _ ⟨(Dx .or .i64 0 1),Ae 47 10 [(0,true)],h⟩) fun h=>K24 _ ⟨0,Ae 47 10 [(0,true)],h⟩
def aNJ (j:ByteArray) (q:(Int→Option Int)):Int→Option Int:=fun m=>(bif decide (m<(j.size:Int))then(GL j m).bind fun u=>(bif decide (u<33)then some true else(GL j m).bind fun z=>some (decide (z>126))).bind fun I=>(bif I then some 3 else q (Ah (m+1)))else some 0)
def aMn (j:ByteArray):Int→Option Int:=bn (aNJ j) Ag
def ng (j:ByteArray):Option Int:=(bif (j.toList==BU.toList)then some 9 else(bif decide ((j.size:Int)>64)then some 7 else aMn j 0))
def aeJ (ajo r) (h:ng ajo=some r):BF 274 [DZ ajo] [] (AZ r) []:=Ap.aK Tryz.func274 rfl<|Aa<|Ad<|AP.block<|Aa<|Df h CP fun h=>Aa<|BL h CP fun h=>Ad<|Aa<|AP.block<|F9 (fun z=>⟨BI 27 [(0,DZ ajo),(12,AZ (ajo.size:Int)),(13,AZ z)],[],0⟩) _ _ _ (Ae 27 12289 []) h<|fun I L j z h=>Aa<|Ad<|CM h (fun h=>Ad<|AP.block<|Aa<|AU h fun M m h=>AO<|.a 2<|.p (Uu (k:=.i64) m Lp rfl)<|.a 1<|AU h fun J q h=>.mg 20 5 (Ak J) (.bi q (k2:=fun h=>AU h fun O u h=>.a 2<|.p (Uu (k:=.i64) u Lp rfl)<|.aW<|ED))<|.bH<|BL h CP fun h=>Az<|.a 2<|.nil<|j _ _ (Ae 27 12289 []) h) fun h=>Gg
def aFA (j:F6) (u:(Int→Option Int)):Int→Option Int:=fun m=>(bif decide (m<(j.length:Int))then(Af j m).bind fun z=>(ng z).bind fun q=>(bif (q != 0)then some q else u (Ah (m+1)))else some 0)
def aem (j:F6):Int→Option Int:=bn (aFA j) Ag
def Vk (j:F6):Option Int:=(bif decide ((j.length:Int)>100)then some 7 else aem j 0)
def ade (ay r) (h:Vk ay=some r):BF 181 [KP ay] [] (AZ r) []:=Ap.aK Tryz.func181 rfl<|Aa<|Ad<|AO<|.a 1<|.p (BR DU ay Hy rfl)<|.aW<|BL h CP fun h=>Ad<|AO<|.a 1<|.p (BR DU ay Hy rfl)<|.aW<|AP.block<|F9 (fun u=>⟨BI 21 [(9,KP ay),(10,AZ (ay.length:Int)),(11,AZ u)],[],0⟩) _ _ _ (Ae 21 3584 []) h<|fun J L j u h=>Aa<|Ad<|CM h (fun h=>Ad<|AP.block<|AU h fun z m h=>AO<|.p (Bd DU m Hy O6 rfl)<|.aW<|AU h fun I q h=>AO<|.a 1<|.ca (aeJ z I q)<|.aW<|Aa<|BL h CP fun h=>Az<|.a 2<|.nil<|j _ _ (Ae 21 3584 []) h) fun h=>Gg
def dM (j:Int):Option Bool:=(bif decide (j<(-1000))then some true else some (decide (j>1000))).bind fun m=>some m
def aHu (aBw r) (h:dM aBw=some r):BF 277 [AZ aBw] [] (Ak r) []:=Ap.aK Tryz.func277 rfl<|Aa<|AO<|.a 2<|AU h fun m j h=>.mg 5 3 (Ak m) (.bi j)<|.aW<|Cj
def aDO (m:H7) (q:(Int→Option Int)) (u:Int) (z:Bool):Option Int:=(bif z then some 8 else(dM m.N).bind fun j=>(bif j then some 2 else q (Ah (u+1))))
abbrev LK:=List H7
def aHD (j:LK) (z:(Int→Option Int)):Int→Option Int:=fun m=>(bif decide (m<(j.length:Int))then(Af j m).bind fun q=>(ZH q.User).bind fun I=>(bif (I != 0)then some 3 else(bif decide (m>0)then(Af j (Ah (m-1))).bind fun u=>aDO q z m (Op.bytesLess (q.User.toList) (u.User.toList)||q.User.toList==u.User.toList)else aDO q z m false))else some 0)
def adU (j:LK):Int→Option Int:=bn (aHD j) Ag
def aAv (j:LK):Option Int:=(bif decide ((j.length:Int)>100)then some 7 else adU j 0)
def aj6 (ay r) (h:aAv ay=some r):BF 275 [Pv ay] [] (AZ r) []:=Ap.aK Tryz.func275 rfl<|Aa<|Ad<|AO<|.a 1<|.p (BR Fq ay JM rfl)<|.aW<|BL h CP fun h=>Ad<|AO<|.a 1<|.p (BR Fq ay JM rfl)<|.aW<|AP.block<|F9 (fun J=>⟨BI 39 [(0,Pv ay),(8,Pv ay),(9,AZ (ay.length:Int)),(10,AZ J)],[],0⟩) _ _ _ (Ae 39 1793 []) h<|fun Z k3 L J h=>Aa<|Ad<|CM h (fun h=>Ad<|AP.block<|AU h fun m M h=>AO<|.a 1<|.p (Bd Fq M JM VQ rfl)<|.aW<|AP.block<|AU h fun x6 O h=>AO<|.a 2<|.ca (vO m.User x6 O)<|.aW<|Df h CP fun h=>DW (fun s=>∃(U:Bool),CO s ⟨BI 39 [(0,Pv ay),(4,.ptr 0 0),(8,Pv ay),(9,AZ (ay.length:Int)),(10,AZ J),(20,Ak U)],[.box (Aw (Fq m))],0⟩∧aDO m k3 J U=some r) (by rintro s ⟨U,hs,h⟩;exact Ci hs<|Df h CP fun h=>AU h fun Y q h=>AO<|.a 2<|.ca (aHu m.N Y q)<|.aW<|BL h CP fun h=>Az<|.a 2<|.nil<|L _ _ (Ae 39 1793 []) h)<|fun u=>GI h (fun j h=>AU h fun z I h=>AP.draw AA AA AA (.a 2<|.c (BH some j)<|.a 5<|.p (Bd Fq I JM VQ rfl)<|.a 5<|.nil _)<|u _ ⟨(Op.bytesLess (m.User.toList) (z.User.toList)||m.User.toList==z.User.toList),Ae 39 1050385 [(0,true)],h⟩) fun j h=>AP.draw AA AA AA (.a 2<|.c (BH some j)<|.a 11<|.nil _)<|u _ ⟨false,Ae 39 1050385 [(0,true)],h⟩) fun h=>Gg
def aD5 (m:IJ) (q:(Int→Option Int)) (u:Int) (z:Bool):Option Int:=(bif z then some 8 else(dM m.N).bind fun j=>(bif j then some 2 else q (Ah (u+1))))
abbrev LH:=List IJ
def aGM (j:LH) (z:(Int→Option Int)):Int→Option Int:=fun m=>(bif decide (m<(j.length:Int))then(Af j m).bind fun q=>(tH q.Kind).bind fun I=>(bif (!I)then some 1 else(bif decide (m>0)then(Af j (Ah (m-1))).bind fun u=>aD5 q z m (decide (q.Kind≤u.Kind))else aD5 q z m false))else some 0)
def aQ2 (j:LH):Int→Option Int:=bn (aGM j) Ag
def aA3 (j:LH):Option Int:=(bif decide ((j.length:Int)>100)then some 7 else aQ2 j 0)
def atI (ay r) (h:aA3 ay=some r):BF 276 [PW ay] [] (AZ r) []:=Ap.aK Tryz.func276 rfl<|Aa<|Ad<|AO<|.a 1<|.p (BR Gf ay KN rfl)<|.aW<|BL h CP fun h=>Ad<|AO<|.a 1<|.p (BR Gf ay KN rfl)<|.aW<|AP.block<|F9 (fun I=>⟨BI 39 [(0,PW ay),(8,PW ay),(9,AZ (ay.length:Int)),(10,AZ I)],[],0⟩) _ _ _ (Ae 39 1793 []) h<|fun Z k3 J I h=>Aa<|Ad<|CM h (fun h=>Ad<|AP.block<|AU h fun m L h=>AO<|.a 1<|.p (Bd Gf L KN Xz rfl)<|.aW<|AP.block<|AU h fun x6 M h=>AO<|.a 2<|.ca (af7 m.Kind x6 M)<|.aW<|Df h CP fun h=>DW (fun s=>∃(O:Bool),CO s ⟨BI 39 [(0,PW ay),(4,.ptr 0 0),(8,PW ay),(9,AZ (ay.length:Int)),(10,AZ I),(20,Ak O)],[.box (Aw (Gf m))],0⟩∧aD5 m k3 I O=some r) (by rintro s ⟨O,hs,h⟩;exact Ci hs<|Df h CP fun h=>AU h fun U q h=>AO<|.a 2<|.ca (aHu m.N U q)<|.aW<|BL h CP fun h=>Az<|.a 2<|.nil<|J _ _ (Ae 39 1793 []) h)<|fun u=>GI h (fun j h=>AU h fun Y z h=>AP.draw AA AA AA (.a 2<|.c (BH some j)<|.a 5<|.p (Bd Gf z KN Xz rfl)<|.a 5<|.nil _)<|u _ ⟨(decide (m.Kind≤Y.Kind)),Ae 39 1050385 [(0,true)],h⟩) fun j h=>AP.draw AA AA AA (.a 2<|.c (BH some j)<|.a 11<|.nil _)<|u _ ⟨false,Ae 39 1050385 [(0,true)],h⟩) fun h=>Gg
def abG (j:Ba) (q:(Int→Option Int)):Int→Option Int:=fun m=>(bif decide (m<7)then(Af ([j.User,j.Message,j.State,j.fH,j.jI,j.mW,j.eU]:AB) m).bind fun u=>(dM u).bind fun z=>(bif z then some 2 else q (Ah (m+1)))else some 0)
def aFE (j:Ba):Int→Option Int:=bn (abG j) Ag
def Y9 (j:Ba):Option Int:=(aAv j.Users).bind fun m=>(bif (m != 0)then some m else(aA3 j.Kinds).bind fun q=>(bif (q != 0)then some q else aFE j 0))
def ap7 (ay r) (h:Y9 ay=some r):BF 182 [Np ay] [] (AZ r) []:=Ap.aK Tryz.func182 rfl<|Aa<|Ad<|AU h fun J j h=>AO<|.a 2<|.ca (aj6 ay.Users J j)<|.aW<|Aa<|BL h CP fun h=>Ad<|AU h fun L m h=>AO<|.a 2<|.ca (atI ay.Kinds L m)<|.aW<|Aa<|BL h CP fun h=>Ad<|Aa<|AP.block<|F9 (fun I=>⟨BI 40 [(33,.d ((LG Ac) ([ay.User,ay.Message,ay.State,ay.fH,ay.jI,ay.mW,ay.eU]:(List Int)))),(34,AZ I)],[],0⟩) _ _ _ (Ae 40 25769803776 []) h<|fun M Y q I h=>Aa<|Ad<|CM h (fun h=>Ad<|AP.block<|AU h fun O u h=>AO<|.p (aBr (k:=.i64) Ac u aBG Di AA rfl)<|.aW<|AU h fun U z h=>AO<|.a 1<|.ca (aHu O U z)<|.bH<|BL h CP fun h=>Az<|.a 2<|.nil<|q _ _ (Ae 40 25769803776 []) h) fun h=>Gg
def aDW (j:Bool):Option Int:=(bif j then some 7 else some 0)
def PD (m:Int) (j:Bg):Option Int:=(bif (m==9)then some (!(j.Text.toList==BU.toList))else some false).bind fun u=>(bif u then(ng j.Text).bind fun z=>some z else(bif (m==12)then some (j.Text.toList==BU.toList)else some false).bind fun I=>(bif I then some 9 else(bif (m==12)then some (decide ((j.Text.size:Int)>32))else some false).bind fun q=>(bif q then aDW q else aDW (decide ((j.Text.size:Int)>400)))))
def ah9 (iL iW r) (h:PD iL iW=some r):BF 175 [AZ iL,OB iW] [] (AZ r) []:=Ap.aK Tryz.func175 rfl<|Aa<|Ad<|AP.block<|AO<|.a 2<|AU h fun J q h=>.mg 8 4 (Ak J) (.bi q)<|.aW<|Df h (fun h=>AU h fun L u h=>AO<|.a 2<|.ca (aeJ iW.Text L u)<|.aW<|Cj) fun h=>AO<|.a 2<|AU h fun M z h=>.mg 19 4 (Ak M) (.bi z)<|.aW<|Df h CP fun h=>DW (fun s=>∃(I:Bool),CO s ⟨BI 37 [(24,Ak I)],[],0⟩∧aDW I=some r) (by rintro s ⟨I,hs,h⟩;exact Ci hs<|QB)<|fun K10=>AO<|.a 2<|AU h fun j m h=>.mg 27 5 (Ak j) (.bi m)<|.aW<|CM h (fun h=>K10 _ ⟨j,Ae 37 16777216 [],h⟩) fun h=>Az<|.a 5<|.nil<|K10 _ ⟨(decide ((iW.Text.size:Int)>400)),Ae 37 16777216 [],h⟩
def sU (j:Bg) (m:Int) (q:Int):Option Int:=(bif decide (j.N<m)then some true else some (decide (j.N>q))).bind fun u=>(bif u then some 2 else some 0)
def NS (m:Int) (j:Bg):Option Int:=(bif (m==2)then sU j 0 4 else(bif (m==8)then sU j 0 1000000000 else(bif (m==10)then sU j 1 10000 else(bif (m==9)then(bif (j.N==1)then some true else some (j.N==2)).bind fun q=>(bif q then some true else some (j.N==6)).bind fun u=>(bif u then some 0 else some 2)else sU j 0 3))))
def afk (iL iW r) (h:NS iL iW=some r):BF 176 [AZ iL,OB iW] [] (AZ r) []:=Ap.aK Tryz.func176 rfl<|Aa<|Aa<|DW (fun s=>∃(q:Int) (u:Int),CO s ⟨BI 39 [(3,.ptr 0 0),(5,AZ q),(6,AZ u)],[.box (Aw (FY iW))],0⟩∧sU iW q u=some r) (by rintro s ⟨q,u,hs,h⟩;exact Ci hs<|Ad<|AO<|.a 4<|AU h fun L z h=>.mg 33 5 (Ak L) (.bi z)<|.bH<|QB)<|fun K6=>Aa<|AP.block<|Aa<|Df h (fun h=>Az<|.a 1<|.nil<|K6 _ ⟨0,4,Ae 39 104 [(0,true)],h⟩) fun h=>Aa<|Df h (fun h=>Az<|.a 1<|.nil<|K6 _ ⟨0,1000000000,Ae 39 104 [(0,true)],h⟩) fun h=>Aa<|Df h (fun h=>Az<|.a 2<|.nil<|K6 _ ⟨1,10000,Ae 39 104 [(0,true)],h⟩) fun h=>Aa<|BL h (fun h=>Ad<|Aa<|AO<|.a 2<|AU h fun I j h=>.mg 21 3 (Ak I) (.bi j)<|.a 1<|AU h fun J m h=>.mg 26 2 (Ak J) (Ee m)<|.bH<|QB) fun h=>K6 _ ⟨0,3,Ae 39 104 [(0,true)],h⟩
def Qg (m:Int) (j:Bg):Option Int:=(bif decide (j.Target<0)then some true else(bif (j.Target==0)then some (m != 11)else some false).bind fun q=>some q).bind fun u=>(bif u then some 2 else some 0)
def aom (iL iW r) (h:Qg iL iW=some r):BF 177 [AZ iL,OB iW] [] (AZ r) []:=Ap.aK Tryz.func177 rfl<|Aa<|Ad<|AO<|.a 3<|AU h fun q j h=>.mg 8 8 (Ak q) (.bi j (k2:=fun h=>.a 3<|AU h fun u m h=>.mg 12 3 (Ak u) (.bi m)<|.aW<|ED))<|.bH<|QB
def YU (m:Int) (j:Bg):Option Int:=(bif j.Thread then some (j.Target==0)else some false).bind fun q=>(bif q then some 1 else some 0)
def ag7 (iL iW r) (h:YU iL iW=some r):BF 178 [AZ iL,OB iW] [] (AZ r) []:=Ap.aK Tryz.func178 rfl<|Aa<|Ad<|AO<|.a 2<|AU h fun m j h=>.mg 7 4 (Ak m) (.bi j)<|.bH<|QB
def Y5 (m:Int) (j:Bg):Option Int:=(bif (j.Via.toList==BU.toList)then some 0 else(bif (j.N != 3)then some 1 else(ZH j.Via).bind fun q=>some q))
def amv (iL iW r) (h:Y5 iL iW=some r):BF 179 [AZ iL,OB iW] [] (AZ r) []:=Ap.aK Tryz.func179 rfl<|Aa<|Ad<|AP.block<|Aa<|Df h CP fun h=>Aa<|BL h CP fun h=>AU h fun m j h=>AO<|.a 2<|.ca (vO iW.Via m j)<|.aW<|Cj
def aI4 (j:Bg) (J:(Int→Option Int)):Int→Option Int:=fun q=>(bif decide (q<(j.Allow.length:Int))then(Af j.Allow q).bind fun m=>(mQ m).bind fun z=>(bif (z != 0)then some 3 else(bif decide (q>0)then(Af j.Allow (Ah (q-1))).bind fun u=>some (Op.bytesLess (m.toList) (u.toList)||m.toList==u.toList)else some false).bind fun I=>(bif I then some 8 else J (Ah (q+1))))else some 0)
def aaS (j:Bg):Int→Option Int:=bn (aI4 j) Ag
def Uh (m:Int) (j:Bg):Option Int:=(bif (m==6)then(Vk j.Allow).bind fun q=>some q else(bif decide ((j.Allow.length:Int)>0)then some (j.N != 3)else some false).bind fun u=>(bif u then some 1 else(bif decide ((j.Allow.length:Int)>100)then some 7 else aaS j 0)))
def aqT (iL iW r) (h:Uh iL iW=some r):BF 180 [AZ iL,OB iW] [] (AZ r) []:=Ap.aK Tryz.func180 rfl<|Aa<|Ad<|AP.block<|Aa<|Df h (fun h=>AU h fun Y z h=>AO<|.a 2<|.ca (ade iW.Allow Y z)<|.aW<|Cj) fun h=>AO<|.a 2<|.p (BR DU iW.Allow Hy rfl)<|.a 1<|AU h fun Z I h=>.mg 18 4 (Ak Z) (.bi I)<|.aW<|Df h CP fun h=>AO<|.a 2<|.p (BR DU iW.Allow Hy rfl)<|.aW<|BL h CP fun h=>Ad<|AO<|.a 2<|.p (BR DU iW.Allow Hy rfl)<|.aW<|AP.block<|F9 (fun U=>⟨BI 52 [(3,.ptr 0 0),(29,KP iW.Allow),(30,AZ (iW.Allow.length:Int)),(31,AZ U)],[.box (Aw (FY iW))],0⟩) _ _ _ (Ae 52 3758096392 [(0,true)]) h<|fun J17 k8 J U h=>Aa<|Ad<|CM h (fun h=>Ad<|AP.block<|AU h fun L j h=>AO<|.a 1<|.p (Bd DU j Hy O6 rfl)<|.aW<|Ad<|AU h fun M m h=>AO<|.a 1<|.ca (aQo L M m)<|.aW<|BL h CP fun h=>AO<|.a 2<|AU h fun O q h=>.mg 41 9 (Ak O) (.bi q (fun h=>AU h fun x15 u h=>.a 5<|.p (Bd DU u Hy O6 rfl)<|.aW<|ED))<|.bH<|BL h CP fun h=>Az<|.a 2<|.nil<|J _ _ (Ae 52 3758096392 [(0,true)]) h) fun h=>Gg
def zX (n:Nat) (a0:Int) (j:Bg):Option Int:=bif n==175 then PD a0 j else bif n==176 then NS a0 j else bif n==177 then Qg a0 j else bif n==178 then YU a0 j else bif n==179 then Y5 a0 j else bif n==180 then Uh a0 j else none
def ap3 (n a0 j r) (h:zX n a0 j=some r):Ur Tryz.prog Ac FY Ac (aR4 n) (zX n):=by
 by_cases q:n=175
 ·subst q;exact⟨175,[],rfl,ah5,fun a0 j c m=>ah9 a0 j c m⟩
 by_cases u:n=176
 ·subst u;exact⟨176,[],rfl,afV,fun a0 j c m=>afk a0 j c m⟩
 by_cases z:n=177
 ·subst z;exact⟨177,[],rfl,anO,fun a0 j c m=>aom a0 j c m⟩
 by_cases I:n=178
 ·subst I;exact⟨178,[],rfl,ak0,fun a0 j c m=>ag7 a0 j c m⟩
 by_cases J:n=179
 ·subst J;exact⟨179,[],rfl,afm,fun a0 j c m=>amv a0 j c m⟩
 by_cases L:n=180
 ·subst L;exact⟨180,[],rfl,aiz,fun a0 j c m=>aqT a0 j c m⟩
 rw[zX,iK q,iK u,iK z,iK I,iK J,iK L]at h;have h:(none:Option Int)=some r:=h;cases h
def YM :(List MP):=[(⟨1,175⟩:MP),(⟨2,176⟩:MP),(⟨4,177⟩:MP),(⟨8,178⟩:MP),(⟨16,179⟩:MP),(⟨32,180⟩:MP)]
def aKU (j:(Int→Bg→Option Int)) (m:Int) (q:Bg):Option Int:=j (Ah (m+1)) q
def Xn (J:Int) (q:Int) (u:(Int→Bg→Option Int)):Int→Bg→Option Int:=fun m j=>(bif decide (m<(YM.length:Int))then(Af YM m).bind fun z=>(bif ((Dx .and .i64 J z.axw)==0)then aKU u m j else(zX z.ap2 q j).bind fun I=>(bif (I != 0)then some I else aKU u m j))else(bif ((Dx .and .i64 J 64) != 0)then(Vk j.gB).bind fun L=>some L else(bif ((Dx .and .i64 J 128) != 0)then(Y9 j.Levels).bind fun M=>some M else some 0)))
def KI (m:Int) (j:Int):Int→Bg→Option Int:=aP (Xn m j) Ag
def Ji (j:Int) (m:Bg):Option Int:=(ah j).bind fun u=>(tH j).bind fun z=>(bif (!z)then some true else(kL m).bind fun I=>some ((Dx .andNot .i64 I u) != 0)).bind fun J=>(bif J then some 1 else(kL m).bind fun L=>(bif (L==0)then(bT j).bind fun q=>some (q==0)else some false).bind fun M=>(bif M then some 0 else KI u j 0 m))
def atD (iL iW r) (h:Ji iL iW=some r):BF 103 [AZ iL,OB iW] [] (AZ r) []:=Ap.aK Tryz.func103 rfl<|Aa<|AU h fun z Z h=>AO<|.a 1<|.ca (aQX iL z Z)<|.aW<|Ad<|AU h fun x2 hx2 h=>AO<|.a 1<|.ca (af7 iL x2 hx2)<|.a 1<|AU h fun x3 hx3 h=>.mg 15 6 (Ak x3) (.bi hx3 (k2:=fun h=>AU h fun x5 hx5 h=>.a 1<|.ca (aOL iW x5 hx5)<|.a 1<|.p (apQ (k:=.i64) (u:=x5) (v:=z) rfl)<|.aW<|ED))<|.bH<|BL h CP fun h=>Ad<|AU h fun x7 hx7 h=>AO<|.a 1<|.ca (aOL iW x7 hx7)<|.a 1<|AU h fun x8 Nc h=>.mg 25 4 (Ak x8) (.bi Nc (fun h=>AU h fun x10 I h=>.a 1<|.ca (aeO iL x10 I)<|.aW<|ED))<|.bH<|BL h CP fun h=>AO<|.a 6<|.p (Dy amK aJp [TY (⟨1,175⟩:MP),TY (⟨2,176⟩:MP),TY (⟨4,177⟩:MP),TY (⟨8,178⟩:MP),TY (⟨16,179⟩:MP),TY (⟨32,180⟩:MP)] rfl)<|.aW<|Ad<|AO<|.a 1<|.p (BR TY YM aR6 rfl)<|.aW<|AP.block<|ES (fun m j=>⟨BI 69 [(0,AZ iL),(3,.ptr 0 0),(5,AZ z),(37,.d ((BG TY) YM)),(38,AZ (YM.length:Int)),(39,AZ m)],[.box (Aw (FY j))],0⟩) _ _ _ _ (Ae 69 962072674345 [(0,true)]) h<|fun J25 k14 J m j h=>Aa<|Ad<|CM h (fun h=>DW (fun s=>CO s ⟨BI 69 [(0,AZ iL),(3,.ptr 0 0),(5,AZ z),(37,.d ((BG TY) YM)),(38,AZ (YM.length:Int)),(39,AZ m)],[.box (Aw (FY j))],0⟩∧aKU k14 m j=some r) (by rintro s ⟨hs,h⟩;exact Ci hs<|Az<|.a 2<|.nil<|J _ _ _ (Ae 69 962072674345 [(0,true)]) h)<|fun L=>AP.block<|AU h fun M O h=>AO<|.p (Bd TY O aR6 aPE rfl)<|.aW<|Ad<|AO<|.a 3<|.p (PV (k:=.i64) (u:=z) (v:=M.axw) rfl)<|.aW<|BL h (fun h=>AP.exit<|L _ ⟨Ae 69 962072674345 [(0,true)],h⟩) fun h=>AU h fun x19 q h=>AO<|.a 4<|.p (Wi (ap3 M.ap2 iL j x19 q) q rfl)<|.aW<|Aa<|BL h CP fun h=>L _ ⟨Ae 69 962072674345 [(0,true)],h⟩) fun h=>AP.exit<|Ad<|AO<|.a 1<|.p (PV (k:=.i64) (u:=z) (v:=64) rfl)<|.aW<|BL h (fun h=>AU h fun Tq U h=>AO<|.a 2<|.ca (ade j.gB Tq U)<|.aW<|Cj) fun h=>Ad<|AO<|.a 1<|.p (PV (k:=.i64) (u:=z) (v:=128) rfl)<|.aW<|BL h (fun h=>AU h fun x24 Y h=>AO<|.a 2<|.ca (ap7 j.Levels x24 Y)<|.aW<|Cj) fun h=>Aa<|Cj
def X8 (j:AL) (O:Bool):Option Int:=(bif O then some 1 else(aA8 j).bind fun U=>(bif (!U)then some 3 else(bif decide (j.Time<0)then some true else some (decide (j.Time>1000000000))).bind fun Y=>(bif Y then some true else some (decide (j.Depth<1))).bind fun Z=>(bif Z then some true else some (decide (j.Depth>100000))).bind fun m=>(bif m then some 2 else(bif decide ((j.bF.length:Int)>10)then some true else some (decide ((j.bf.length:Int)>8))).bind fun q=>(bif q then some 7 else(lG j.bF).bind fun u=>(bif (!u)then some true else(lG j.bf).bind fun z=>some (!z)).bind fun I=>(bif I then some 8 else(bif ((j.bF.length:Int)==0)then some (j.Kind != 1)else some false).bind fun J=>(bif J then some 9 else(bif (j.Kind==1)then some (decide ((Ah ((j.bF.length:Int)+(j.bf.length:Int)))>0))else some false).bind fun L=>(bif L then some 6 else(Ji j.Kind j.Content).bind fun M=>some M)))))))
def aBj (j:AL):Option Int:=(bif (j.Kind==2)then some true else some (j.Kind==9)).bind fun q=>(bif decide (j.Kind<1)then X8 j true else(bif decide (j.Kind>14)then X8 j true else(YN j.Kind).bind fun m=>(bif (!(j.State==m))then X8 j true else(bif (!(j.Key.toList==BU.toList))then X8 j (!q)else X8 j false))))
def asr (aZ r) (h:aBj aZ=some r):BF 46 [EG aZ] [] (AZ r) []:=Ap.aK Tryz.func46 rfl<|Aa<|AO<|.a 3<|AU h fun x1 hx1 h=>.mg 7 4 (Ak x1) (.bi hx1)<|.aW<|Ad<|AP.block<|DW (fun s=>∃(v3:Bool),CO s ⟨BI 112 [(1,.ptr 0 0),(12,Ak v3)],[.box (Aw (BD aZ))],0⟩∧X8 aZ v3=some r) (by rintro s ⟨v3,hs,h⟩;exact Ci hs<|Df h CP fun h=>AU h fun x5 hx5 h=>AO<|.a 1<|.ca (ak7 aZ x5 hx5)<|.aW<|Df h CP fun h=>AO<|.a 3<|AU h fun x7 hx7 h=>.mg 46 4 (Ak x7) (.bi hx7)<|.a 1<|AU h fun x9 Du h=>.mg 52 3 (Ak x9) (Ee Du)<|.a 1<|AU h fun x11 L h=>.mg 57 3 (Ak x11) (Ee L)<|.aW<|Df h CP fun h=>AO<|.a 2<|.p (BR Ac aZ.bF CX rfl)<|.a 1<|AU h fun x14 M h=>.mg 66 5 (Ak x14) (.bi M (k2:=fun h=>.a 2<|.p (BR Ac aZ.bf CX rfl)<|.aW<|ED))<|.aW<|Df h CP fun h=>AU h fun x17 O h=>AO<|.a 2<|.ca (acS aZ.bF x17 O)<|.a 1<|AU h fun x18 U h=>.mg 77 5 (Ak x18) (.bi U (k2:=fun h=>AU h fun Vd Y h=>.a 2<|.ca (acS aZ.bf Vd Y)<|.aW<|ED))<|.aW<|Df h CP fun h=>AO<|.a 2<|.p (BR Ac aZ.bF CX rfl)<|.a 1<|AU h fun Tq Z h=>.mg 88 4 (Ak Tq) (.bi Z)<|.aW<|Df h CP fun h=>AO<|.a 3<|AU h fun x25 hx25 h=>.mg 97 9 (Ak x25) (.bi hx25 (fun h=>.a 2<|.p (BR Ac aZ.bF CX rfl)<|.a 2<|.p (BR Ac aZ.bf CX rfl)<|.aW<|ED))<|.aW<|BL h CP fun h=>AU h fun x28 hx28 h=>AO<|.a 4<|.ca (atD aZ.Kind aZ.Content x28 hx28)<|.aW<|Cj)<|fun u=>GI h (fun j h=>AP.draw AA AA AA (.a 3<|.c (BH some j)<|.a 22<|.nil _)<|u _ ⟨true,Ae 112 4098 [(0,true)],h⟩) fun j h=>GI h (fun m h=>AP.draw AA AA AA (.a 3<|.c (BH some j)<|.a 4<|.c (BH some m)<|.a 17<|.nil _)<|u _ ⟨true,Ae 112 4098 [(0,true)],h⟩) fun m h=>AU h fun J z h=>GI h (fun q h=>AP.draw AA AA AA (.a 3<|.c (BH some j)<|.a 4<|.c (BH some m)<|.a 4<|.ca (gJ aZ.Kind J z)<|.a 2<|.c (BH some q)<|.a 9<|.nil _)<|u _ ⟨true,Ae 112 4098 [(0,true)],h⟩) fun q h=>GI h (fun I h=>AP.draw AA AA AA (.a 3<|.c (BH some j)<|.a 4<|.c (BH some m)<|.a 4<|.ca (gJ aZ.Kind J z)<|.a 2<|.c (BH some q)<|.a 3<|.c (BH some I)<|.a 5<|.nil _)<|u _ ⟨(!x1),Ae 112 4098 [(0,true)],h⟩) fun I h=>AP.draw AA AA AA (.a 3<|.c (BH some j)<|.a 4<|.c (BH some m)<|.a 4<|.ca (gJ aZ.Kind J z)<|.a 2<|.c (BH some q)<|.a 3<|.c (BH some I)<|.a 5<|.nil _)<|u _ ⟨false,Ae 112 4098 [(0,true)],h⟩
def aIf (j:F6) (m:F6) (u:(Int→Option Bool)):Int→Option Bool:=fun q=>(bif decide (q<(j.length:Int))then(Af j q).bind fun z=>(Af m q).bind fun I=>(bif (!(z.toList==I.toList))then some false else u (Ah (q+1)))else some true)
def aRx (j:F6) (m:F6):Int→Option Bool:=bn (aIf j m) Ag
def oO (j:F6) (m:F6):Option Bool:=(bif ((j.length:Int) != (m.length:Int))then some false else aRx j m 0)
def aPP (kD kJ r) (h:oO kD kJ=some r):BF 132 [KP kD,KP kJ] [] (Ak r) []:=Ap.aK Tryz.func132 rfl<|Aa<|Ad<|AO<|.a 1<|.p (BR DU kD Hy rfl)<|.a 1<|.p (BR DU kJ Hy rfl)<|.aW<|BL h CP fun h=>Ad<|AO<|.a 1<|.p (BR DU kD Hy rfl)<|.aW<|AP.block<|F9 (fun u=>⟨BI 26 [(0,KP kD),(1,KP kJ),(12,AZ (kD.length:Int)),(13,AZ u)],[],0⟩) _ _ _ (Ae 26 12291 []) h<|fun z I j u h=>Aa<|Ad<|CM h (fun h=>Ad<|AP.block<|Aa<|DL h fun J m L q h=>H9 AA AA AA (.a 2<|.p (Bd DU m Hy O6 rfl)<|.a 3<|.p (Bd DU q Hy O6 rfl)<|.a 2<|.nil _)<|BL h CP fun h=>Az<|.a 2<|.nil<|j _ _ (Ae 26 12291 []) h) fun h=>Gg
def aKT (j:LK) (m:LK) (u:(Int→Option Bool)):Int→Option Bool:=fun q=>(bif decide (q<(j.length:Int))then(Af j q).bind fun z=>(Af m q).bind fun I=>(bif (!aBu z I)then some false else u (Ah (q+1)))else some true)
def aNY (j:LK) (m:LK):Int→Option Bool:=bn (aKT j m) Ag
def xH (j:LK) (m:LK):Option Bool:=(bif ((j.length:Int) != (m.length:Int))then some false else aNY j m 0)
def ama (kD kJ r) (h:xH kD kJ=some r):BF 133 [Pv kD,Pv kJ] [] (Ak r) []:=Ap.aK Tryz.func133 rfl<|Aa<|Ad<|AO<|.a 1<|.p (BR Fq kD JM rfl)<|.a 1<|.p (BR Fq kJ JM rfl)<|.aW<|BL h CP fun h=>Ad<|AO<|.a 1<|.p (BR Fq kD JM rfl)<|.aW<|AP.block<|F9 (fun I=>⟨BI 26 [(0,Pv kD),(1,Pv kJ),(12,AZ (kD.length:Int)),(13,AZ I)],[],0⟩) _ _ _ (Ae 26 12291 []) h<|fun J L q I h=>Aa<|Ad<|CM h (fun h=>Ad<|AP.block<|Aa<|DL h fun j u m z h=>H9 AA AA AA (.a 2<|.p (Bd Fq u JM VQ rfl)<|.a 3<|.p (Bd Fq z JM VQ rfl)<|.a 1<|.p (x:=(Ak (!aBu j m))) (aLo [.string j.User,.int .i64 j.N] [.string m.User,.int .i64 m.N] (akA j m) BK akM rfl)<|.nil _)<|BL h CP fun h=>Az<|.a 2<|.nil<|q _ _ (Ae 26 12291 []) h) fun h=>Gg
def aGm (j:LH) (m:LH) (u:(Int→Option Bool)):Int→Option Bool:=fun q=>(bif decide (q<(j.length:Int))then(Af j q).bind fun z=>(Af m q).bind fun I=>(bif (!wO z I)then some false else u (Ah (q+1)))else some true)
def aQN (j:LH) (m:LH):Int→Option Bool:=bn (aGm j m) Ag
def wz (j:LH) (m:LH):Option Bool:=(bif ((j.length:Int) != (m.length:Int))then some false else aQN j m 0)
def agm (kD kJ r) (h:wz kD kJ=some r):BF 134 [PW kD,PW kJ] [] (Ak r) []:=Ap.aK Tryz.func134 rfl<|Aa<|Ad<|AO<|.a 1<|.p (BR Gf kD KN rfl)<|.a 1<|.p (BR Gf kJ KN rfl)<|.aW<|BL h CP fun h=>Ad<|AO<|.a 1<|.p (BR Gf kD KN rfl)<|.aW<|AP.block<|F9 (fun I=>⟨BI 26 [(0,PW kD),(1,PW kJ),(12,AZ (kD.length:Int)),(13,AZ I)],[],0⟩) _ _ _ (Ae 26 12291 []) h<|fun J L q I h=>Aa<|Ad<|CM h (fun h=>Ad<|AP.block<|Aa<|DL h fun j u m z h=>H9 AA AA AA (.a 2<|.p (Bd Gf u KN Xz rfl)<|.a 3<|.p (Bd Gf z KN Xz rfl)<|.a 1<|.p (x:=(Ak (!wO j m))) (aLo [.int .i64 j.Kind,.int .i64 j.N] [.int .i64 m.Kind,.int .i64 m.N] (akG j m) BK alv rfl)<|.nil _)<|BL h CP fun h=>Az<|.a 2<|.nil<|q _ _ (Ae 26 12291 []) h) fun h=>Gg
def aEA (j:Bg) (m:Bg):Option Bool:=(bif (!(j.Text.toList==m.Text.toList))then some true else some (j.N != m.N)).bind fun x1=>(bif x1 then some true else some (j.Target != m.Target)).bind fun x3=>(bif x3 then some true else some (!(j.Thread==m.Thread))).bind fun x5=>(bif x5 then some true else some (!(j.Via.toList==m.Via.toList))).bind fun x7=>(bif x7 then some true else(oO j.Allow m.Allow).bind fun q=>some (!q)).bind fun x9=>(bif x9 then some true else(oO j.gB m.gB).bind fun u=>some (!u)).bind fun z=>(bif z then some false else(xH j.Levels.Users m.Levels.Users).bind fun I=>(bif I then(wz j.Levels.Kinds m.Levels.Kinds).bind fun J=>some J else some false).bind fun L=>(bif L then some (j.Levels.User==m.Levels.User)else some false).bind fun M=>(bif M then some (j.Levels.Message==m.Levels.Message)else some false).bind fun O=>(bif O then some (j.Levels.State==m.Levels.State)else some false).bind fun U=>(bif U then some (j.Levels.fH==m.Levels.fH)else some false).bind fun Y=>(bif Y then some (j.Levels.jI==m.Levels.jI)else some false).bind fun Z=>(bif Z then some (j.Levels.mW==m.Levels.mW)else some false).bind fun XC=>(bif XC then some (j.Levels.eU==m.Levels.eU)else some false).bind fun x32=>some x32)
def alf (kD kJ r) (h:aEA kD kJ=some r):BF 75 [OB kD,OB kJ] [] (Ak r) []:=Ap.aK Tryz.func75 rfl<|Aa<|AP.ap0 [] 108 0x68383206638310641830062182f064302e062302d05c082c05a082b060102a05e1029060302805c182805e302705a182705c202605a28250580024056002305818220500822056182104e0821058202004c0820056281f04a081f054301e050101e052301d04e101d050201c04c181c04e281b04a181b04c281a04a201a048181904400190461818042001804820170400017046281603e0016044101503c0815042101403a0814044201304018130380813042281203e18120360812040281103e2011034081103c2010038101003a280f036100f038280e036200e034180e032100d02a000d030100c028000c032200b02e180b026000b030280a02c180a024000a02e280902c2009022000902a2008026100802008080282807024100701e080702628060242006022180601c0806020280501e200501c100501a2004016100401000040182803014100300e000301628020142002012180200c0002010280100e200100c100100a08010082800006200000410000020000 [51,52] ⟨BI 121 [(2,.ptr 0 0),(3,.ptr 1 0),(5,.ptr 2 0),(6,.ptr 3 0)],[.box (Aw (FY kD)),.box (Aw (FY kJ)),.box (Aw (Hg kD.Levels)),.box (Aw (Hg kJ.Levels))],0⟩ ⟨aC (Ae 121 108 [(0,true),(1,true),(2,true),(3,true)]),aC (Ae 121 108 [(0,true),(1,true),(3,true),(2,true)]),trivial⟩<|Ad<|AO<|.a 5<|AU h fun x1 hx1 h=>.mg 16 6 (Ak x1) (.bi hx1)<|.a 1<|AU h fun x3 hx3 h=>.mg 24 5 (Ak x3) (Ee hx3)<|.a 1<|AU h fun x5 hx5 h=>.mg 31 5 (Ak x5) (Ee hx5)<|.a 1<|AU h fun x7 hx7 h=>.mg 38 5 (Ak x7) (Ee hx7)<|.a 1<|AU h fun x9 Du h=>.mg 45 6 (Ak x9) (Ee Du (k2:=fun e i=>by subst e;have h:=i;exact AU h fun x11 j h=>.a 4<|.ca (aPP kD.Allow kJ.Allow x11 j)<|.aW<|ED))<|.a 1<|AU h fun x12 m h=>.mg 53 6 (Ak x12) (Ee m (k2:=fun e i=>by subst e;have h:=i;exact AU h fun x14 q h=>.a 4<|.ca (aPP kD.gB kJ.gB x14 q)<|.aW<|ED))<|.bH<|BL h CP fun h=>AU h fun x16 u h=>AO<|.a 4<|.ca (ama kD.Levels.Users kJ.Levels.Users x16 u)<|.a 1<|AU h fun x17 z h=>.mg 66 5 (Ak x17) (Ee z (fun e i=>by subst e;have h:=i;exact AU h fun x19 I h=>.a 4<|.ca (agm kD.Levels.Kinds kJ.Levels.Kinds x19 I)<|.aW<|ED))<|.a 1<|AU h fun Vd J h=>.mg 73 5 (Ak Vd) (Ee J)<|.a 1<|AU h fun Tq L h=>.mg 80 5 (Ak Tq) (Ee L)<|.a 1<|AU h fun x24 M h=>.mg 87 5 (Ak x24) (Ee M)<|.a 1<|AU h fun x26 O h=>.mg 94 5 (Ak x26) (Ee O)<|.a 1<|AU h fun x28 U h=>.mg 101 5 (Ak x28) (Ee U)<|.a 1<|AU h fun XC Y h=>.mg 108 5 (Ak XC) (Ee Y)<|.a 1<|AU h fun x32 Z h=>.mg 115 5 (Ak x32) (Ee Z)<|.aW<|Cj
def iF (j:ByteArray):Option ByteArray:=(fF j qc).bind fun m=>some m.2.1
def aF8 (Oi r) (h:iF Oi=some r):BF 30 [DZ Oi] [] (DZ r) []:=Ap.aK Tryz.func30 rfl<|Aa<|AU h fun m j h=>AO<|.a 1<|.ca (aRK Oi qc m j)<|.aW<|Aa<|Cj
def YO (j:AL) (m:Bool):Option Int:=(bif m then some 6 else(vH j).bind fun q=>(bif (q != j.Id)then some 11 else(iF j.aN).bind fun u=>(bif (!vZ j.rP (⟨u,j.Id⟩:O5))then some 12 else some 0)))
def yD (j:AL):Option Int:=(aBj j).bind fun z=>(bif (z != 0)then some z else(dw j).bind fun m=>(bif (!m)then(nM j.Kind j.Content).bind fun q=>(aEA j.Content q).bind fun u=>YO j (!u)else YO j false))
def agF (aZ r) (h:yD aZ=some r):BF 29 [EG aZ] [] (AZ r) []:=Ap.aK Tryz.func29 rfl<|Aa<|Ad<|AU h fun Z M h=>AO<|.a 1<|.ca (asr aZ Z M)<|.aW<|Aa<|BL h CP fun h=>Ad<|AP.block<|DW (fun s=>∃(O:Bool),CO s ⟨BI 40 [(1,.ptr 0 0),(9,Ak O)],[.box (Aw (BD aZ))],0⟩∧YO aZ O=some r) (by rintro s ⟨O,hs,h⟩;exact Ci hs<|Df h CP fun h=>AU h fun x5 U h=>H9 AA AA AA (.a 1<|.ca (aOP aZ x5 U)<|.a 4<|.nil _)<|Df h CP fun h=>AU h fun q Y h=>H9 AA AA AA (.a 4<|.ca (aF8 aZ.aN q Y)<|.a 3<|.p (x:=(Ak (!vZ aZ.rP (⟨q,aZ.Id⟩:O5)))) (aLo [.string aZ.rP.Server,.int .i64 aZ.rP.Sum] [.string ((⟨q,aZ.Id⟩:O5).Server),.int .i64 ((⟨q,aZ.Id⟩:O5).Sum)] (ajM aZ.rP (⟨q,aZ.Id⟩:O5)) BK aiO rfl)<|.a 1<|.nil _)<|QB)<|fun K9=>AU h fun u m h=>GI h (fun j h=>DL h fun z I J L h=>AP.draw AA AA AA (.a 1<|.ca (aCq aZ u m)<|.a 1<|.c (BH some j)<|.a 6<|.ca (ae8 aZ.Kind aZ.Content z I)<|.ca (alf aZ.Content z J L)<|.a 3<|.nil _)<|K9 _ ⟨(!J),Ae 40 514 [(0,true)],h⟩) fun j h=>AP.draw AA AA AA (.a 1<|.ca (aCq aZ u m)<|.a 1<|.c (BH some j)<|.a 11<|.nil _)<|K9 _ ⟨false,Ae 40 514 [(0,true)],h⟩
def aBC (j:AY) (q:(Int→Option Int)):Int→Option Int:=fun m=>(bif decide (m<(j.length:Int))then(Af j m).bind fun u=>(Af j (Ah (m-1))).bind fun z=>(bif decide (u.Id≤z.Id)then some 8 else q (Ah (m+1)))else some 0)
def wX (j:AY):Int→Option Int:=bn (aBC j) Ag
def XF (j:AY) (z:(Int→Option Int)):Int→Option Int:=fun m=>(bif decide (m<(j.length:Int))then(Af j m).bind fun q=>(Af j 0).bind fun u=>(bif (!(q.Room.toList==u.Room.toList))then some 13 else z (Ah (m+1)))else wX j 1)
def uS (j:AY):Int→Option Int:=bn (XF j) Ag
def oZ (j:AY) (u:(Int→Option Int)):Int→Option Int:=fun m=>(bif decide (m<(j.length:Int))then(Af j m).bind fun z=>(yD z).bind fun q=>(bif (q != 0)then some q else u (Ah (m+1)))else uS j 0)
def aFL (j:AY):Int→Option Int:=bn (oZ j) Ag
def Oa (j:AY):Option Int:=(bif decide ((j.length:Int)>2000)then some 7 else aFL j 0)
def aoK (ay r) (h:Oa ay=some r):BF 42 [BM ay] [] (AZ r) []:=Ap.aK Tryz.func42 rfl<|Aa<|Ad<|AO<|.a 1<|.p (BR BD ay Cm rfl)<|.aW<|BL h CP fun h=>Ad<|AO<|.a 1<|.p (BR BD ay Cm rfl)<|.aW<|AP.block<|F9 (fun U=>⟨BI 56 [(0,BM ay),(12,BM ay),(13,AZ (ay.length:Int)),(14,AZ U)],[],0⟩) _ _ _ (Ae 56 28673 []) h<|fun Z k3 J U h=>Aa<|Ad<|CM h (fun h=>Ad<|AP.block<|AU h fun x5 L h=>AO<|.p (Bd BD L Cm Dh rfl)<|.aW<|AU h fun x6 M h=>AO<|.a 1<|.ca (agF x5 x6 M)<|.aW<|Aa<|BL h CP fun h=>Az<|.a 2<|.nil<|J _ _ (Ae 56 28673 []) h) fun h=>AP.exit<|Ad<|AO<|.a 1<|.p (BR BD ay Cm rfl)<|.aW<|AP.block<|F9 (fun Y=>⟨BI 56 [(0,BM ay),(24,BM ay),(25,AZ (ay.length:Int)),(26,AZ Y)],[],0⟩) _ _ _ (Ae 56 117440513 []) h<|fun J21 k9 O Y h=>Aa<|Ad<|CM h (fun h=>Ad<|AP.block<|AU h fun x11 j h=>AO<|.p (Bd BD j Cm Dh rfl)<|.aW<|AU h fun x12 m h=>H9 AA AA AA (.a 3<|.p (Bd BD m Cm Dh rfl)<|.a 3<|.nil _)<|BL h CP fun h=>Az<|.a 2<|.nil<|O _ _ (Ae 56 117440513 []) h) fun h=>AP.exit<|Ad<|Aa<|AP.block<|F9 (fun q=>⟨BI 56 [(0,BM ay),(8,AZ q)],[],0⟩) _ _ _ (Ae 56 257 []) h<|fun J20 k15 u q h=>Ad<|AO<|.a 2<|.p (BR BD ay Cm rfl)<|.aW<|CM h (fun h=>Ad<|AP.block<|DL h fun x17 z x18 I h=>H9 AA AA AA (.a 2<|.p (Bd BD z Cm Dh rfl)<|.a 5<|.p (Bd BD I Cm Dh rfl)<|.a 3<|.nil _)<|BL h CP fun h=>Az<|.a 3<|.nil<|u _ _ (Ae 56 257 []) h) fun h=>Gg
def abw (j:AY) (u:(Int→(List (Int×Int))→Option (List (Int×Int)))):Int→(List (Int×Int))→Option (List (Int×Int)):=fun m q=>(bif decide (m≥0)then(Af j m).bind fun z=>u (Ah (m-1)) (Dj q z.Id m)else some q)
def aeR (j:AY):Int→(List (Int×Int))→Option (List (Int×Int)):=aP (abw j) Ag
def YH (j:AY):Option (List (Int×Int)):=aeR j (Ah ((j.length:Int)-1)) []
def wL (ay r) (h:YH ay=some r):BF 153 [BM ay] [] (.mp 0) [.map (List.map (BX Bv Ac) r)]:=Ap.aK Tryz.func153 rfl<|Aa<|AO<|.a 1<|.p (BR BD ay Cm rfl)<|.f (x:=.mp 0) (aco (kd:=.i64) (n:=(ay.length:Int)) QE rfl)<|.aW<|Ad<|AO<|.a 1<|.p (BR BD ay Cm rfl)<|.aW<|AP.block<|ES (fun j q=>⟨BI 23 [(0,BM ay),(3,.mp 0),(4,AZ j)],[.map (List.map (BX Bv Ac) q)],0⟩) _ _ _ _ (Ae 23 25 [(0,true)]) h<|fun J L u j q h=>Ad<|Aa<|CM h (fun h=>Ad<|AP.block<|AU h fun I z h=>Az<|.a 3<|.p (Bd BD z Cm Dh rfl)<|.a 3<|.f (rM (k:=0) (key:=I.Id) (val:=j) (m:=q) Ac QE He AA rfl)<|.nil<|Az<|.a 3<|.nil<|u _ _ _ (Ae 23 25 [(0,true)]) h) fun h=>Rx
def aMt (j:AB) (m:(List (Int×Int))) (k2:(Int→Option Bool)):Int→Option Bool:=fun q=>(bif decide (q<(j.length:Int))then(Af j q).bind fun u=>(bif (!((CB m u).isSome))then some false else k2 (Ah (q+1)))else some true)
def abd (j:AB) (m:(List (Int×Int))):Int→Option Bool:=bn (aMt j m) Ag
def uo (j:AB) (m:(List (Int×Int))):Option Bool:=abd j m 0
def aNi (ab8 adC r) (h:uo ab8 adC=some r):BF 311 [Bz ab8,.ptr 0 0] [.box [.mp 1],.map (List.map (BX Bv Ac) adC)] (Ak r) [.box [.mp 1],.map (List.map (BX Bv Ac) adC)]:=Ap.aK Tryz.func311 rfl<|Aa<|Ad<|AO<|.a 1<|.p (BR Ac ab8 CX rfl)<|.aW<|AP.block<|F9 (fun z=>⟨BI 23 [(1,.ptr 0 0),(8,Bz ab8),(9,AZ (ab8.length:Int)),(10,AZ z)],[.box [.mp 1],.map (List.map (BX Bv Ac) adC)],2⟩) _ _ _ (Ae 23 1794 [(0,true),(1,true)]) h<|fun I k2 j z h=>Aa<|Ad<|CM h (fun h=>Ad<|AP.block<|AU h fun q u h=>AO<|.p (Bd Ac u CX Di rfl)<|.aW<|AO<|.a 2<|.p (x:=.eF [AZ ((CB adC q).getD 0),Ak ((CB adC q).isSome)]) (aH7 (k:=1) (key:=q) (m:=adC) Ac 0 QE He zero3 AA AA AA rfl)<|.aW<|Aa<|BL h (fun h=>Aa<|aOd) fun h=>Az<|.a 2<|.nil<|j _ _ (Ae 23 1794 [(0,true),(1,true)]) h) fun h=>AP.exit<|Aa<|aOd
def aMu (j:AY) (I:(Int→(List (Int×Int))→Option Bool)):Int→(List (Int×Int))→Option Bool:=fun m q=>(bif decide (m<(j.length:Int))then(Af j m).bind fun J=>(uo J.bF q).bind fun L=>(bif (!L)then some true else(Af j m).bind fun u=>(uo u.bf q).bind fun z=>some (!z)).bind fun M=>(bif M then some false else I (Ah (m+1)) q)else some true)
def aaF (j:AY):Int→(List (Int×Int))→Option Bool:=aP (aMu j) Ag
def aE5 (j:AY):Option Bool:=(YH j).bind fun m=>aaF j 0 m
def atG (ay r) (h:aE5 ay=some r):BF 217 [BM ay] [] (Ak r) []:=Ap.aK Tryz.func217 rfl<|Aa<|AU h fun x1 I h=>AO<|.a 1<|.f (x:=.mp 0) (EM [] [BM ay] (wL ay x1 I) rfl)<|.aW<|AO<|.p (x:=.fn (.func 311) [] [.ptr 1 0]) (OD (fi:=[]) (ca:=[.ptr 1 0]) rfl rfl rfl)<|.aW<|Ad<|AO<|.a 1<|.p (BR BD ay Cm rfl)<|.aW<|AP.block<|ES (fun U z=>⟨BI 33 [(0,BM ay),(4,.fn (.func 311) [] [.ptr 0 0]),(10,AZ (ay.length:Int)),(11,AZ U)],[.box [.mp 1],.map (List.map (BX Bv Ac) z)],0⟩) _ _ _ _ (Ae 33 3089 [(1,true),(0,true)]) h<|fun J13 k4 J U z h=>Aa<|Ad<|CM h (fun h=>Ad<|AP.block<|Aa<|DL h fun Y L Z M h=>AO<|.a 3<|.p (Bd BD L Cm Dh rfl)<|.a 2<|.f (x:=(Ak Z)) (Yf [.ent 0,.ent 1] [] [.ptr 0 0] [Bz Y.bF] (aNi Y.bF z Z M) rfl (hE:=(KE AA<|KE AA<|trivial)))<|.a 1<|AU h fun x8 O h=>.mg 22 9 (Ak x8) (.bi O (k2:=fun h=>DL h fun j m q u h=>.a 3<|.p (Bd BD m Cm Dh rfl)<|.a 2<|.f (x:=(Ak q)) (Yf [.ent 0,.ent 1] [] [.ptr 0 0] [Bz j.bf] (aNi j.bf z q u) rfl (hE:=(KE AA<|KE AA<|trivial)))<|.aW<|ED))<|.bH<|BL h CP fun h=>Az<|.a 2<|.nil<|J _ _ _ (Ae 33 3089 [(0,true),(1,true)]) h) fun h=>Gg
def aHJ (j:AL) (z:AY) (m:(List (Int×Int))) (I:(Int→Int→Option (Bool×(List (Int×Int))))):Int→Int→Option (Bool×(List (Int×Int))):=fun q u=>(bif decide (u<(j.bF.length:Int))then(Af j.bF u).bind fun J=>(Af z ((CB m J).getD 0)).bind fun L=>I (P6 q L.Depth) (Ah (u+1))else(bif decide (j.Depth>q)then some ((Ah (j.Depth-q))==1)else some false).bind fun M=>some (M,m))
def aOR (m:AL) (q:AY) (j:(List (Int×Int))):Int→Int→Option (Bool×(List (Int×Int))):=aP (aHJ m q j) Ag
def aI3 (j:AL) (q:AY) (m:(List (Int×Int))) (k2:(Int→Option (Bool×(List (Int×Int))))):Int→Option (Bool×(List (Int×Int))):=fun u=>(bif decide (u<(j.bf.length:Int))then(Af j.bf u).bind fun z=>(Af q ((CB m z).getD 0)).bind fun I=>(bif decide (I.Depth≥j.Depth)then some (false,m)else k2 (Ah (u+1)))else(bif ((j.bF.length:Int)==0)then some ((j.Depth==1),m)else(Af j.bF 0).bind fun J=>(Af q ((CB m J).getD 0)).bind fun L=>aOR j q m L.Depth 0))
def acJ (m:AL) (q:AY) (j:(List (Int×Int))):Int→Option (Bool×(List (Int×Int))):=bn (aI3 m q j) Ag
def yt (m:AY) (j:(List (Int×Int))) (q:AL):Option (Bool×(List (Int×Int))):=acJ q m j 0
def apk (ay RU jg r) (h:yt ay RU jg=some r):BF 218 [BM ay,.mp 0,EG jg] [.map (List.map (BX Bv Ac) RU)] (Ak r.1) [.map (List.map (BX Bv Ac) r.2)]:=Ap.aK Tryz.func218 rfl<|Aa<|Ad<|AO<|.a 2<|.p (BR Ac jg.bf CX rfl)<|.aW<|AP.block<|F9 (fun v1=>⟨BI 75 [(0,BM ay),(1,.mp 0),(5,.ptr 1 0),(13,Bz jg.bf),(14,AZ (jg.bf.length:Int)),(15,AZ v1)],[.map (List.map (BX Bv Ac) RU),.box (Aw (BD jg))],1⟩) _ _ _ (Ae 75 57379 [(0,true),(1,true)]) h<|fun J19 k2 M v1 h=>Aa<|Ad<|CM h (fun h=>Ad<|AP.block<|AU h fun x4 O h=>AO<|.p (Bd Ac O CX Di rfl)<|.aW<|AU h fun x5 U h=>H9 AA AA AA (.a 3<|.p (x:=(AZ ((CB RU x4).getD 0))) (fO (k:=0) (key:=x4) (m:=RU) Ac 0 QE He zero3 AA AA AA rfl)<|.p (Bd BD U Cm Dh rfl)<|.a 5<|.nil _)<|BL h (fun h=>Aa<|Yh) fun h=>Az<|.a 2<|.nil<|M _ _ (Ae 75 57379 [(0,true),(1,true)]) h) fun h=>AP.exit<|Ad<|AO<|.a 2<|.p (BR Ac jg.bF CX rfl)<|.aW<|BL h (fun h=>Aa<|Yh) fun h=>DL h fun x8 Y x9 Z h=>AO<|.a 4<|.p (Bd Ac Y CX Di rfl)<|.a 1<|.p (x:=(AZ ((CB RU x8).getD 0))) (fO (k:=0) (key:=x8) (m:=RU) Ac 0 QE He zero3 AA AA AA rfl)<|.p (Bd BD Z Cm Dh rfl)<|.aW<|Ad<|AO<|.a 2<|.p (BR Ac jg.bF CX rfl)<|.aW<|AP.block<|ES (fun j q=>⟨BI 75 [(0,BM ay),(1,.mp 0),(5,.ptr 1 0),(9,AZ j),(48,Bz jg.bF),(49,AZ (jg.bF.length:Int)),(50,AZ q)],[.map (List.map (BX Bv Ac) RU),.box (Aw (BD jg))],1⟩) _ _ _ _ (Ae 75 1970324836975139 [(0,true),(1,true)]) h<|fun J18 k12 u j q h=>Aa<|Ad<|CM h (fun h=>Ad<|AP.block<|AU h fun z I h=>AO<|.p (Bd Ac I CX Di rfl)<|.aW<|AU h fun x15 J h=>Az<|.a 4<|.p (x:=(AZ ((CB RU z).getD 0))) (fO (k:=0) (key:=z) (m:=RU) Ac 0 QE He zero3 AA AA AA rfl)<|.p (Bd BD J Cm Dh rfl)<|.a 2<|.p (x:=(AZ (P6 j x15.Depth))) (af2 rfl)<|.a 1<|.nil<|Az<|.a 2<|.nil<|u _ _ _ (Ae 75 1970324836975139 [(0,true),(1,true)]) h) fun h=>AP.exit<|AO<|.a 4<|AU h fun x16 L h=>.mg 68 6 (Ak x16) (.bi L)<|.aW<|Yh
def aNF (j:AY) (u:(Int→(List (Int×Int))→Option Int)):Int→(List (Int×Int))→Option Int:=fun m z=>(bif decide (m<(j.length:Int))then(Af j m).bind fun I=>(yt j z I).bind fun q=>(bif (!q.1)then some 15 else u (Ah (m+1)) q.2)else some 0)
def aQQ (j:AY):Int→(List (Int×Int))→Option Int:=aP (aNF j) Ag
def zk (j:AY):Option Int:=(aE5 j).bind fun m=>(bif (!m)then some 14 else(YH j).bind fun q=>aQQ j 0 q)
def agi (ay r) (h:zk ay=some r):BF 127 [BM ay] [] (AZ r) []:=Ap.aK Tryz.func127 rfl<|Aa<|Ad<|AU h fun O j h=>AO<|.a 1<|.ca (atG ay O j)<|.aW<|BL h CP fun h=>AU h fun U m h=>AO<|.a 1<|.f (x:=.mp 0) (EM [] [BM ay] (wL ay U m) rfl)<|.aW<|Ad<|AO<|.a 1<|.p (BR BD ay Cm rfl)<|.aW<|AP.block<|ES (fun J q=>⟨BI 24 [(0,BM ay),(3,.mp 0),(11,AZ (ay.length:Int)),(12,AZ J)],[.map (List.map (BX Bv Ac) q)],0⟩) _ _ _ _ (Ae 24 6153 [(0,true)]) h<|fun Y Z u J q h=>Aa<|Ad<|CM h (fun h=>Ad<|AP.block<|Aa<|DL h fun L z M I h=>AO<|.a 4<|.p (Bd BD z Cm Dh rfl)<|.a 1<|.f (x:=(Ak M.1)) (EM [.ent 0] [BM ay,.mp 0,EG L] (apk ay q L M I) rfl)<|.aW<|BL h CP fun h=>Az<|.a 2<|.nil<|u _ _ _ (Ae 24 6153 [(0,true)]) h) fun h=>Gg
end Go.Proofs.YtkkdimcnpacjhaaGreat
end
