/- Part 3 of what the laws' proofs lean on: states of the walk, typed functions of the program and their laws (short forms written by wip/shrink.py; no condition). -/
import Derived.Test.YtldfpencimjjlaaGreatRu2
set_option linter.defProp false
set_option linter.unnecessarySimpa false
set_option linter.unusedVariables false
set_option linter.unusedSimpArgs false
section
namespace Go.Proofs.YtldfpencimjjlaaGreat
open Go.RowKit Go.Sort
section
variable {α : Type}
def aK (le:α→α→Bool) (x:α):List α→List α
 | []=>[x]
 |y::l=>bif le x y then x::y::l else y::aK le x l
def QU (le:α→α→Bool) (l:List α):List α:=l.foldr (aK le) []
def aLB (le:α→α→Bool) (x:α):∀l,(aK le x l).Perm (x::l)
 | []=>.refl _
 |y::l=>by
  unfold aK;cases h:le x y with
  |true=>exact .refl _
  |false=>exact((aLB le x l).cons y).trans (.swap x y l)
def Za (le:α→α→Bool):∀l,(QU le l).Perm l
 | []=>.refl _
 |x::l=>(aLB le x (QU le l)).trans ((Za le l).cons x)
def aS6 {le:α→α→Bool} (q:∀x y z,le x y=true→le y z=true→le x z=true) (u:∀x y,le x y=false→le y x=true) (x:α):∀l,l.Pairwise (fun a b=>le a b=true)→(aK le x l).Pairwise (fun a b=>le a b=true)
 | [],_=>by simp[aK]
 |y::l,h=>by
  have h':=OU.1 h;unfold aK;cases m:le x y with
  |true=>
   refine OU.2 ⟨fun z j=>?_,h⟩;rcases Ei.1 j with rfl|j
   ·exact m
   exact q x y z m (h'.1 z j)
  |false=>
   refine OU.2 ⟨fun z j=>?_,aS6 q u x l h'.2⟩;rcases Ei.1 ((aLB le x l).mem_iff.1 j)with rfl|j
   ·exact u _ _ m
   exact h'.1 z j
def abA {le:α→α→Bool} (j:∀x y z,le x y=true→le y z=true→le x z=true) (m:∀x y,le x y=false→le y x=true):∀l:List α,(QU le l).Pairwise (fun a b=>le a b=true)
 | []=>.nil
 |x::l=>aS6 j m x _ (abA j m l)
def aRw {le:α→α→Bool} (j:∀x y z,le x y=true→le y z=true→le x z=true) (q:∀x y,le x y=false→le y x=true) (ha:∀x y,le x y=true→le y x=true→x=y) {l m:List α} (u:m.Perm l) (hs:m.Pairwise (fun a b=>le a b=true)):m=QU le l:=
 (u.trans (Za le l).symm).eq_of_pairwise (fun a b _ _ I J=>ha a b I J) hs (abA j q l)
def aOZ {e:α→D} {enc:α→List Value} (j:∀x,(e x).cells=(enc x).map .lit):∀l:List α,flat (l.map e)=(l.flatMap enc).map fun v=>.d (.lit v)
 | []=>rfl
 |x::l=>by rw[Ig,WR,aOZ j l,j,NJ,JU,aI];rfl
def aE0 {enc:α→List Value} {k:Nat} (j:∀x,(enc x).length=k):∀l:List α,(l.flatMap enc).length=l.length*k
 | []=>Ap
 |x::l=>by rw[NJ,EG,j,aE0 j l,Fa,Xn,aCY,Qm]
def aby {e:α→D} {enc:α→List Value} {k:Nat} (q:∀x,(e x).cells=(enc x).map .lit) (J:∀x,(enc x).length=k) (U:∀x,∀v∈enc x,v.oneCell'=true) {ok:Nat→Prop} {w:World} {H:List BO} {h:BO} {T:TypeId} {l:List α}:
 Em ok w H h (.arr T k (l.map e))↔h.size=k∧nG w T k h.v l.length (l.flatMap enc):=by
 have hl:=aE0 J l;constructor
 ·rintro⟨u,_,xs,m,z,L⟩;refine⟨u,?_⟩;rw[CM]at m
  have :xs=l.flatMap enc:=by
   rw[aOZ q]at z L;rw[CM]at z;refine jR z fun i hi M=>?_;have O:=(L i aCG).2;simp only[List.getD,JC,D9 M,IW,NP,D9 hi]at O;cases O with |d _ _ h=>rw[DV.ahp h]
  rw[←this];exact m
 rintro⟨u,m⟩;refine⟨u,fun x I=>?_,l.flatMap enc,by rw[CM];exact m,?_⟩
 ·obtain⟨n,_,rfl⟩:=Ee.1 I;rw[q,CM,J]
 rw[aOZ q];refine⟨Ap,fun i hi=>?_⟩;have j:i<(l.flatMap enc).length:=Fp
 simp only[List.getD,JC,D9 j,IW,NP];refine⟨?_,.d _ _ (.lit _)⟩;obtain⟨x,_,I⟩:=TW.1 (Df j);exact U x _ I
def aoa {j:Array Value} (hs:j.size=2):j= #[j.getD 0 undef,j.getD 1 undef]:=by
 refine ZI (by simp[hs]) fun i q m=>?_;simp at m;have :i=0∨i=1:=AA
 rcases this with rfl|rfl<;>simp[Array.getD,hs]
def Am.azT {P:Program} {f g:FuncId} {T:TypeId} {k:Nat} {e:α→D} {enc:α→List Value} (L:∀x,(e x).cells=(enc x).map .lit) (hk:∀x,(enc x).length=k) (h1:∀x,∀v∈enc x,v.oneCell'=true) {l r:List α}
 (h:∀(v:Value) (w:World),nG w T k v l.length (l.flatMap enc)→Calls P f #[v,.func (.func g) #[] #[]] w fun x w'=>x=.returned (.tuple #[])∧nG w' T k v r.length (r.flatMap enc)∧Turns v w w'):
 Am P f [.aZ 0,.d (.fn (.func g) [] [])] [.arr T k (l.map e)] (.fB []) [.arr T k (r.map e)]:=by
 intro ok X H w z M hs ha;have h0:=ha 0 Ap;have O:=ha 1 Ap;rw[aoa hs];obtain⟨hd,hh,hok⟩:=Fz M.ent M.hlen (k:=0) rfl;obtain hv:=Ph h0 hh
 have hf:z.getD 1 undef=.func (.func g) #[] #[]:=by
  simp only[List.getD,zQ,aIE,NP]at O;generalize z.getD 1 undef=u at O;cases O with
  |d _ _ O=>
   cases O with
   |fn _ _ _ vs us hl hm'=>
    have e1:vs= #[]:=dG MH;have e2:us= #[]:=dG (by simpa using hm');rw[e1,e2]
 rw[hv,hf];obtain⟨hz,how⟩:=(aby L hk h1).1 hok;refine(h hd.v w how).mono ?_;rintro x w' ⟨rfl,U,J⟩;have q:=fun b Y=>M.blk 0 _ hd b rfl rfl hh Y
 have hg:=M.change (ok':=ok) (H':=H) (w':=w') (es':=[.arr T k (r.map e)]) (fun c=>D8 hd.v=some c) J.os J.tape J.output J.size J.block (fun c L _=>⟨(q c L).1,(q c L).2.2⟩) (fun _ h=>h) (fun _ h=>.inl h) (.refl _) M.hlen (by
  intro j e' h' m Z
  match j,m with
  |0,m=>
   simp at m;subst m;rw[hh]at Z;obtain rfl:=CO Z;refine .inr ⟨(aby L hk h1).2 ⟨hz,U⟩,fun _ b Y=>⟨(q b Y).1,WG (q b Y).2.1 J.size,(q b Y).2.2,fun k' e'' h'' hne I=>?_⟩⟩
   match k',I with
   |0,_=>exact absurd rfl hne
   |k'+1,I=>simp at I
  |k+1,m=>simp at m)
 exact⟨_,ok,H,rfl,hg.1,.fB [] #[] rfl (fun i hi=>OE)⟩
end
section
variable {α : Type} [Inhabited α]
def abw {enc:α→List Value} {k:Nat} (m:∀x,(enc x).length=k) (l:List α):(flatK enc k l.toArray).toList=l.flatMap enc:=by
 have key:∀(l:List α) (t:Nat),t<l.length*k→(enc (l[t/k]?.getD default))[t % k]? =(l.flatMap enc)[t]? :=by
  intro l
  induction l with
  |nil=>intro t j;simp at j
  |cons x l z=>
   intro t j;rw[Fa,Xn,aCY]at j;rw[NJ];by_cases h:t<k
   ·rw[Nat.div_eq_of_lt h,Nat.mod_eq_of_lt h,Gj (by rw[m];exact h)];rfl
   have h':k≤t:=Uk h;rcases YB k with q|q
   ·subst q;simp at j
   have I:t/k=(t-k)/k+1:=Nat.div_eq_sub_div q h';rw[I,Nat.mod_eq_sub_mod h',Jd (by rw[m];exact h'),m,←z (t-k) AA,zQ]
 refine jR (by simp[aE0 m]) fun t J L=>?_;have j:t<l.length*k:=Uu
 have :=key l t j;rw[D9 L]at this;have u:=get_flatK enc k l.toArray t O7;rw[og _ _ O7]at u;rw[Array.getElem_toList,u];have M:(l.toArray)[t/k]! =l[t/k]?.getD default:=Ap
 rw[M];simp[List.getElem!_eq_getElem?_getD,this]
end
def TS (a b:Int):Int:=if a<b then -1 else if a>b then 1 else 0
def Y3 (p q:Int×Int×Int):Int:=if p.2.1=q.2.1 then(if p.2.2=q.2.2 then TS p.1 q.1 else TS p.2.2 q.2.2)else TS q.2.1 p.2.1
def aLA (a b:Int):TS a b<0↔a<b:=by
 unfold TS;split
 ·omega
 split<;>omega
def agW (p q:Int×Int×Int):Y3 p q<0↔q.2.1<p.2.1∨p.2.1=q.2.1∧(p.2.2<q.2.2∨p.2.2=q.2.2∧p.1<q.1):=by
 unfold Y3;split
 ·split
  ·rw[aLA];omega
  rw[aLA];omega
 rw[aLA];omega
def akB (a b:Int) (W:World):Calls Tryz.prog 405 #[.int .i64 a,.int .i64 b] W fun e w'=>e=.returned (.int .i64 (TS a b))∧w'=W:=by
 unfold TS
 go_enter Tryz.func405,Tryz.ntmps405
 go_wp2
 all_goals (go_ret;exact⟨rfl,rfl⟩)
set_option maxHeartbeats 1000000 in
def ahN (r p1 p2 p3 q1 q2 q3:Int) (hr:r=if p2=q2 then(if p3=q3 then TS p1 q1 else TS p3 q3)else TS q2 p2) (W:World):Calls Tryz.prog 404 #[.agg #[.int .i64 p1,.int .i64 p2,.int .i64 p3],.agg #[.int .i64 q1,.int .i64 q2,.int .i64 q3]] W fun e w'=>e=.returned (.int .i64 r)∧∃q m,w'=grow (W.drewN q) m:=by
 have j:=akB;generalize TS=c at j hr;have u:p2≠q2→c q2 p2=r:=fun h=>by rw[hr,Cc h]
 have z:p2=q2→p3≠q3→c p3 q3=r:=fun h k=>by rw[hr,CV h,Cc k]
 have I:p2=q2→p3=q3→c p1 q1=r:=fun h k=>by rw[hr,CV h,CV k]
 clear hr
 go_enter Tryz.func404,Tryz.ntmps404
 go_wp2_with (go_at_call 405;refine(j _ _ _).mono ?_;rintro e w' ⟨rfl,rfl⟩)
 all_goals go_ret
 ·rename_i h;rw[u Jz];exact⟨rfl,0,_,aKh⟩
 ·rename_i h k;rw[z Jz (by simpa using k)];exact⟨rfl,0,_,aKh⟩
 rename_i h k;rw[I Jz (by simpa using k)];exact⟨rfl,0,_,aKh⟩
def KF (p q:Int×Int×Int):Bool:= !decide (Y3 q p<0)
def yH (p q:Int×Int×Int):KF p q=true↔¬(p.2.1<q.2.1∨q.2.1=p.2.1∧(q.2.2<p.2.2∨q.2.2=p.2.2∧q.1<p.1)):=by
 unfold KF;rw[Sl,XC,agW]
def aHV (x y z:Int×Int×Int) (h:KF x y=true) (k:KF y z=true):KF x z=true:=by
 rw[yH]at *;omega
def ae3 (x y:Int×Int×Int) (h:KF x y=false):KF y x=true:=by
 have h:¬KF x y=true:=by rw[h];decide
 rw[yH]at *;omega
def aSX (x y:Int×Int×Int) (h:KF x y=true) (k:KF y x=true):x=y:=by
 rw[yH]at *;obtain⟨j,m,q⟩:=x;obtain⟨u,z,I⟩:=y;simp only[Ru]at *;omega
def acJ (p q:Int×Int×Int):KF p q=false↔(p.2.1<q.2.1∨q.2.1=p.2.1∧(q.2.2<p.2.2∨q.2.2=p.2.2∧q.1<p.1)):=by
 rw[←KX,yH,Decidable.not_not]
def amK (x y z:Int×Int×Int) (h:KF y x=false) (k:KF z y=false):KF z x=false:=by
 rw[acJ]at *;omega
section
variable {α : Type}
def aCx (f:α→Int×Int×Int) (l:List α):Option (List α):=if l.length≤1099511627776 then some (QU (fun x y=>KF (f x) (f y)) l)else none
def Oh (f:α→Int×Int×Int) (x:α):List Value:=[.int .i64 (f x).1,.int .i64 (f x).2.1,.int .i64 (f x).2.2]
def agL (f:α→Int×Int×Int) (x:α):(Oh f x).length=3:=rfl
def aRB (f:α→Int×Int×Int) (x:α):∀v∈Oh f x,v.oneCell'=true:=fun v j=>by
 simp[Oh]at j;rcases j with rfl|rfl|rfl<;>rfl
def aBR (f:α→Int×Int×Int) (x y:α):ltOf (fun x y=>Y3 (f x) (f y)) x y= !KF (f y) (f x):=by simp[ltOf,KF]
def alA (f:α→Int×Int×Int):SWO (ltOf fun x y:α=>Y3 (f x) (f y)):=by
 refine⟨fun x=>?_,fun x y z h k=>?_,fun x y z h k=>?_⟩
 ·rw[aBR,(yH (f x) (f x)).2 AA];rfl
 ·rw[aBR,Sl]at *;exact amK _ _ _ h k
 rw[aBR,Bool.not_eq_false']at *;exact aHV _ _ _ k h
variable [Inhabited α]
def aoi (f:α→Int×Int×Int) (blk off size:Nat) (w:World):CmpLays Tryz.prog 404 #[] (Oh f) 3 (fun x y=>Y3 (f x) (f y)) blk off size w:=
 fun m os j _ x y=>ahN (Y3 (f x) (f y)) (f x).1 (f x).2.1 (f x).2.2 (f y).1 (f y).2.1 (f y).2.2 rfl (sortWorldK (Oh f) 3 w blk off m j os)
set_option maxHeartbeats 2000000 in
def asj (f:α→Int×Int×Int) (hf:∀x y,f x=f y→x=y) (e:α→D) (he:∀x,e x=.agg [Aa (f x).1,Aa (f x).2.1,Aa (f x).2.2]) (l r:List α) (h:aCx f l=some r):
 BG 403 [.aZ 0,.d (.fn (.func 404) [] [])] [.arr 330 3 (l.map e)] (.fB []) [.arr 330 3 (r.map e)]:=by
 unfold aCx at h;split at h
 ·rename_i hn;obtain rfl:=CO h;have U:=agL f;refine Am.azT (enc:=Oh f) (fun x=>by rw[he];rfl) U (aRB f) fun v w how=>?_;generalize hr:QU (fun x y=>KF (f x) (f y)) l=r;have u:r.length=l.length:=by rw[←hr];exact(Za _ l).length_eq
  rcases how.2 with⟨rfl,h0⟩|⟨g,cap,I,rfl,hbase,hg,hnc,hcm,hcs,J⟩
  ·have hl:l=[]:=Gg h0;have hl':r=[]:=Gg (by rw[u,h0]);subst hl;subst hl';refine(AnyF.slices_SortFunc_none (P:=Tryz.prog) (ρ:=Tryz.YX) { Tryz.ase with } none 0 _ w).mono ?_;rintro e w' ⟨rfl,h⟩;subst h;exact⟨rfl,nG.nil _ _ _,Turns.refl _ _⟩
  have Y:g<w.heap.size:=(G6.1 hg).1;have m:=abw (enc:=Oh f) U l
  have hH:HoldsK (Oh f) 3 w g 0 l.toArray:=by
   unfold HoldsK;have L:(flatK (Oh f) 3 l.toArray).size=l.length*3:=Ap
   generalize flatK (Oh f) 3 l.toArray=F at m L;intro j M;refine⟨?_,by simp[World.frozen?,hg]⟩;have e0:(I.toList.take (l.length*3))[j]? =(l.flatMap (Oh f))[j]? :=by rw[J]
   rw[Na AA,←m]at e0;simp only[World.cell?,hg,JI];simp only[Option.isSome_none,Rh,JE];rw[←sK,e0,sK,og F j M,aA2 M];rfl
  have eg:∀args w,(callFunc 404 args).run Tryz.prog w=.ok (.enter 404 args) w:=enters_of Tryz.func404 A8 rfl;have :=AnyQ.slices_SortFunc (P:=Tryz.prog) (ρ:=Tryz.YX) Tryz.ase 3 Tryz.isAgg330 Tryz.sizeOf330 (Oh f) U (aRB f) (fun x y=>Y3 (f x) (f y)) (alA f) 404 #[] g 0 cap l.toArray w eg (aoi f _ _ _ _) hH Y DU;refine this.mono ?_;rintro e' w' ⟨rfl,O,n,os,hp,hs,rfl⟩;obtain⟨Z,_,q⟩:=hp;have hsz':O.size=l.length:=by simpa using Z
  have e1:O.extract 0 l.toArray.size=O:=by rw[←Z];exact Array.extract_size
  rw[e1,Array.extract_size]at q
  have hm:O.toList=r:=by
   rw[←hr];refine aRw (le:=fun x y=>KF (f x) (f y)) (fun x y z=>aHV (f x) (f y) (f z)) (fun x y=>ae3 (f x) (f y)) (fun x y h k=>hf _ _ (aSX (f x) (f y) h k)) q ?_;refine Jq.2 fun i j hi M hij=>?_;have :=hs i j (EZ _) hij (by simpa[hsz']using M);rw[aBR,og O i Fp,og O j aCG]at this;simpa using this
  obtain rfl:O=r.toArray:=by rw[←hm]
  have hF:=abw (enc:=Oh f) U r;have L:(flatK (Oh f) 3 r.toArray).size=l.length*3:=by simp[u]
  generalize hFF:flatK (Oh f) 3 r.toArray=F at hF L;refine⟨rfl,⟨by rw[aE0 U],.inr ⟨g,cap,putCells id 0 F I,by rw[u],EZ _,?_,AA,hcm,by simpa[putCells]using hcs,?_⟩⟩,⟨rfl,rfl,rfl,by simp[sortWorldK,putRowK],fun c hc hne=>?_⟩⟩
  ·unfold sortWorldK putRowK;rw[hFF,heap_grow_old _ _ aDZ];simp[putRow,mapBlock,Sort.ahead,Ol,hg,onCells]
  ·rw[←hF,u];apply ZB;intro j;by_cases M:j<l.length*3
   ·have hjc:j<I.size:=by have :=Js 3 hnc;omega
    rw[Na M,sK,sK];have hjF:j<F.size:=AA
    simp[putCells,hjF,hjc]
   rw[List.getElem?_take_eq_none AA,I7 DU]
  unfold sortWorldK putRowK;rw[heap_grow_old _ _ (by simpa using hc)];have :g≠c:=fun e=>hne qo;simp[putRow,mapBlock,Sort.ahead,Ol,this]
 cases h
end
end Go.Proofs.YtldfpencimjjlaaGreat
end
section
namespace Go.Proofs.YtldfpencimjjlaaGreat
open Go.RowKit
def Cb.freeze {C:EN} {ok:Nat→Prop} {H:List BO} {es:List Ar} {w:World} (q:Cb C ok H es w) {k:Nat} {e:Ar} {hd:BO} (hk:es[k]? =some e) (hl:e.live=true) (O:H[k]? =some hd):Cb C (fun b=>ok b∨D8 hd.v=some b) H (es.set k .dead) w:=by
 have z:k<es.length:=(Fb.1 hk).1;have L:=fun b m=>q.blk k _ hd b hk hl O m;have hg:ES ok w (fun b=>ok b∨D8 hd.v=some b) w:=fun b m=>⟨.inl m,rfl⟩
 refine⟨q.fr,fun b m=>.inl (q.yR b m),?_,?_,q.names,by simp[q.hlen],?_,?_,?_⟩
 ·rintro b (m|m)
  ·exact q.yS b m
  exact .inr (L b m).2.2
 ·rintro b (m|m)
  ·exact q.kL b m
  exact(L b m).2.1
 ·intro j e' h' he I;rcases N7 z he with⟨rfl,rfl⟩|⟨_,J⟩
  ·trivial
  exact(q.ent j e' h' J I).mono hg (.refl _) (fun _ _ _=>rfl)
 ·intro j e' h' b he M I m;rcases N7 z he with⟨rfl,rfl⟩|⟨hne,J⟩
  ·cases M
  have h3:=q.blk j e' h' b J M I m;refine⟨fun u=>?_,h3.2⟩;rcases u with u|u
  ·exact h3.1 u
  exact hne (q.E5 j k e' _ h' hd b J hk M hl I O m u)
 intro i j e1 e2 h1 h2 b he1 he2 U Y hh1 hh2 hb1 hb2;rcases N7 z he1 with⟨rfl,rfl⟩|⟨_,Z⟩
 ·cases U
 rcases N7 z he2 with⟨rfl,rfl⟩|⟨_,arR⟩
 ·cases Y
 exact q.E5 i j e1 e2 h1 h2 b Z arR U Y hh1 hh2 hb1 hb2
section
variable {P : Program} {o : Oper} {es : List Ar}
def afQ {t M O:TypeId} {x:Operand} {k:Nat} {m:List (Value×D)} (ht:P.underlying t=some (.map M O)) (U:es[k]? =some (.map m)) (ho:o.op=.range t x):BU P o [(x,.mp k)] es (.ptr es.length 0) (es.set k .dead++[.iter m []]):=
 .eff fun C ok H a w q hn=>by
  obtain⟨hd,Y,z⟩:=Fz q.ent q.hlen U;obtain⟨b,ms,clock,Z,I,h3⟩:=z;have hx:=Rj (hn (x,.mp k) Ap) Y;simp only at hx;have hb:b<w.heap.size:=(G6.1 I).1;have m0:=q.freeze U rfl Y;have g0:ES ok w (fun c=>ok c∨D8 hd.v=some c) w:=fun c u=>⟨.inl u,rfl⟩
  have J:D8 hd.v=some b:=by rw[Z];rfl
  have g1:ES (fun c=>ok c∨D8 hd.v=some c) w (fun c=>ok c∨D8 hd.v=some c) (w.alloc (.mapIter (some b) clock #[] clock)):=fun c u=>⟨u,Jk _ _ _ (m0.kL c u)⟩
  have L:Em (fun c=>ok c∨D8 hd.v=some c) (w.alloc (.mapIter (some b) clock #[] clock)) (H++[⟨.pointer (some ⟨w.heap.size,0,none⟩),0⟩]) ⟨.pointer (some ⟨w.heap.size,0,none⟩),0⟩ (.iter m []):=
   ⟨w.heap.size,b,ms,clock, #[],rfl,gV _ _,.inr J,(Jk _ _ _ hb).trans I,(h3.mono g0).mono g1,rfl,fun j i hj=>by simp at hj⟩
  obtain⟨m1,g2⟩:=m0.push (.mapIter (some b) clock #[] clock) ⟨.pointer (some ⟨w.heap.size,0,none⟩),0⟩ _ (aG2 w) L;refine⟨.pointer (some ⟨w.heap.size,0,none⟩),_,_,_,.inl ?_,g0.trans g2,Names.push _ _,m1,.ptr _ _ w.heap.size 0 aGS⟩;have hr:=run_range_map (P:=P) w t M O b ms clock ht I;simp[execOp,ho,hx,Z,hr]
def born_inj {ok:Nat→Prop} {w:World} {es:List (Value×D)} {ms:Array MapEntry} {clock:Nat} (h:JA ok w es ms clock) {i j:Nat} {m n:MapEntry} (hi:ms[i]? =some m) (u:ms[j]? =some n) (z:m.born=n.born):i=j:=by
 rcases yQ i j with q|q|q
 ·have :=h.inc i j m n q hi u;omega
 ·exact q
 have :=h.inc j i n m q u hi;omega
def al6 {ok:Nat→Prop} {w:World} {es:List (Value×D)} {ms:Array MapEntry} {clock:Nat} (h:JA ok w es ms clock):(ms.toList.map (·.born)).Nodup:=by
 unfold List.Nodup;rw[Jq];intro i j hi m q;simp only[CM,TM]at hi m;have u:ms[i]? =some ms[i]:=Qp
 have z:ms[j]? =some ms[j]:=by simp[m]
 simp only[MW,Array.getElem_toList];intro e;have :=born_inj h u z e;omega
def adZ {K V:Type} {x:Operand} {n i:Nat} {ek:K→Value} {ev:V→D} {m:List (K×V)} {vis:List Nat} {p:K×V} (hp:m[i]? =some p) (he:es[n]? =some (.iter (m.map (BX ek ev)) (vis++[i]))) (ho:o.op=.entry x):
 BU P o [(x,.ptr n 0)] es (.fB [.d (.lit (ek p.1)),.d (ev p.2)]) es:=
 .pure fun ok H a w u hl hn=>by
  obtain⟨hd,hh,I⟩:=Fz u hl he;obtain⟨bi,M,ms,clock,seen,O,h2,h3,h4,U,h6,h7⟩:=I;have J:=hn (x,.ptr n 0) Ap;simp only at J;generalize hv:a.eval x=v at J;cases J with
  |ptr _ _ b' s Y=>
   rw[hh]at Y;obtain rfl:=CO Y;simp only[Value.pointer.injEq,Ll,Addr.mk.injEq]at O;obtain⟨rfl,_⟩:=O;obtain⟨e,Z,q2⟩:=h7 vis.length i Ap;have L:(m.map (BX ek ev))[i]? =some (BX ek ev p):=by rw[JC,hp];rfl
   obtain⟨r1,r2,_⟩:=U.ent i _ e L Z;refine⟨.tuple #[e.key,e.val],?_,.fB _ _ rfl fun j hj=>?_⟩
   ·have q:seen.back?=some e.born:=by
     rw[Array.back?_eq_getElem?,h6];simpa using q2
    have z:e∈ms.toList:=by
     rw[Array.mem_toList_iff];exact Array.mem_of_getElem? Z
    have hf:ms.find? (·.born==e.born)=some e:=by rw[←Array.find?_toList];exact find_born e ms.toList (al6 U) z
    have g1:(getObj b').run P w=.ok (.mapIter (some M) clock seen clock) w:=by simp[getObj,Sem.run,h2]
    have g2:(getObj M).run P w=.ok (.map ms clock) w:=PS h4;simp[execOp,ho,hv,Instr.entry,g1,g2,q,hf]
   match j,hj with
   |0,_=>rw[show([AY.d (.lit (ek p.1)),.d (ev p.2)]:List AY).getD 0 .junk=.d (.lit (ek p.1))from rfl,show(#[e.key,e.val]:Array Value).getD 0 undef=e.key from rfl,r1];exact .d _ _ (.lit _)
   |1,_=>exact .d _ _ r2
end
def amy {P:Program} {w:World} {ok:Nat→Prop} {ty:TypeId} {bi U clock:Nat} {seen:Array Nat} {ms:Array MapEntry} {es:List (Value×D)} (hi:w.heap[bi]? =some (.mapIter (some U) clock seen clock)) (hb:w.heap[U]? =some (.map ms clock)) (hM:JA ok w es ms clock):
 ((leftOf ms seen).size=0∧(Instr.next (.pointer (some ⟨bi,0,none⟩)) false ty).run P w=.ok (.tuple #[.bool false]) w)∨
 ∃e∈(leftOf ms seen).toList,∃m:World,(m=w∨m=w.drew)∧(Instr.next (.pointer (some ⟨bi,0,none⟩)) false ty).run P w=.ok (.tuple #[.bool true,e.key,e.val]) (m.putObj bi (.mapIter (some U) clock (seen.push e.born) clock)):=by
 have u:∀x∈ms.toList,x.born<clock:=fun x z=>by
  obtain⟨i,hi,rfl⟩:=GZ z;have I:i<ms.size:=Fp
  have Y:i<es.length:=by rw[←hM.len];exact I
  have :=(hM.ent i es[i] ms[i] (by simp[Y]) (by simp[I])).2.2;simpa using this
 simp only[Instr.next,getObj,FD,Sem.run,hi,hb,Result.andThen,next_test_false seen ms clock clock u (Dk _),Rh,JE];unfold leftOf;have q:∀x∈(Array.filter (fun e=> !seen.contains e.born) ms).toList,x.born<clock:=fun x z=>u x (by simp at z ⊢;exact z.1);generalize Array.filter (fun e=> !seen.contains e.born) ms=L at q ⊢;have e1:L.filter (fun x=>decide (x.born<clock))=L:=Array.filter_eq_self.2 (fun x z=>by simpa using q x U3)
 have e2:L.filter (fun x=>decide (x.born≥clock))= #[]:=by
  rw[Array.filter_eq_empty_iff];intro x z;have :=q x U3;simp;omega
 simp only[e1,e2,Array.append_empty];by_cases h0:L.size=0
 ·left;have :L= #[]:=dG h0;subst this;refine⟨rfl,?_⟩;simp[choose,Sem.run,Question.forced]
 right;have Z:L.isEmpty=false:=by simp[Array.isEmpty,h0]
 simp only[Z,Rh,JE,Array.empty_append,Array.size_map]
 have hch:∃(j:Nat) (m:World),j<L.size∧(m=w∨m=w.drew)∧(choose (Question.mapNext L.size)).run P w=.ok j m:=by
  by_cases hf:L.size≤1
  ·exact⟨0,w,AA,.inl rfl,by simp[choose,Sem.run,Question.forced,hf]⟩
  exact⟨_,w.drew,iT _ AA,.inr rfl,by
   simp only[choose,Sem.run,Question.forced,G8,hf,JE,Question.cut]
   rfl⟩
 obtain⟨j,m,hj,J,M⟩:=hch;refine⟨L[j],Ap,m,J,?_⟩;have hi1:m.heap[bi]? =some (.mapIter (some U) clock seen clock):=by rcases J with rfl|rfl<;>exact hi
 have O:∀(o':Obj),(setObj bi o').run P m=.ok () (m.putObj bi o'):=fun o'=>by simp[setObj,Sem.run,hi1,World.putObj]
 simp only[M,Array.getElem?_map,aA2 hj,IW,FD,O,Result.andThen];rfl
section
variable {P : Program} {ops : Array Oper} {o : Oper} {rest l : List Oper} {σ : Ak} {Q : Exit → Ak → Prop} {K V : Type}
def agh {ms:Array MapEntry} {seen:Array Nat} {e:MapEntry} (h:e∈(leftOf ms seen).toList):e∈ms.toList∧e.born∉seen:=by
 unfold leftOf at h;simp at h;exact⟨by simpa using h.1,h.2⟩
def Ch.next {ek:K→Value} {ev:V→D} {x:Operand} {ty:Bool} (n:Nat) (m:List (K×V)) (vis:List Nat) (hn:σ.ents[n]? =some (.iter (m.map (BX ek ev)) vis)) (ho:o.op=.next x false) (hx:σ.get x=.ptr n 0) (hg:JL ops σ o.guard=some true)
 (h0:(∀i,i<m.length→i∈vis)→Ch P ops rest (σ.rW o.dst (.fB [.d (DL false)])) Q)
 (h1:∀i p,m[i]? =some p→i∉vis→Ch P ops rest (σ.put o.dst (.fB [.d (DL true),.d (.lit (ek p.1)),.d (ev p.2)]) (σ.ents.set n (.iter (m.map (BX ek ev)) (vis++[i])))) Q):Ch P ops (o::rest) σ Q:=by
 refine⟨fun ro l2 Q' C ok H a w z hk=>?_⟩;show wpListIn (Iz ro) 0 P ops Q' (o::(rest++l2)) a w;unfold wpListIn;rw[CV (PZ z (MS hg))];have hv:=hx▸z.get x;obtain⟨hd,Z,hent⟩:=Fz z.mem.ent z.mem.hlen hn;obtain⟨bi,L,ms,clock,seen,q1,q2,q3,q4,q5,q6,q7⟩:=hent
 have J:a.eval x=.pointer (some ⟨bi,0,none⟩):=by
  generalize a.eval x=v at hv;cases hv with
  |ptr _ _ b' s hH=>
   rw[Z]at hH;obtain rfl:=CO hH;simp only[Value.pointer.injEq,Ll,Addr.mk.injEq]at q1;obtain⟨rfl,_⟩:=q1;rfl
 have hlen:ms.size=m.length:=by rw[q5.len,CM]
 unfold Oper.wpIn;rw[iC _ _ _ (by rw[ho];intro c h;cases h)];rcases amy (P:=P) (ty:=o.type) q2 q4 q5 with⟨hs,hr⟩|⟨e,M,w1,hw1,hr⟩
 ·have he:(execOp a.eval o).run P w=.ok (.value (.tuple #[.bool false])) w:=by simp[execOp,ho,J,hr]
  rw[he];refine⟨fun _ _=>trivial,?_⟩
  refine(h0 fun i hi=>?_).run ro l2 Q' C ok H _ w (z.put o.dst (.refl _ _) (.refl _) z.mem (.fB _ _ rfl fun j q=>by
   match j,q with
   |0,_=>exact .d _ _ (.lit _))) hk
  have O:i<ms.size:=AA
  have hnot:ms[i]∉(leftOf ms seen).toList:=by
   have :leftOf ms seen= #[]:=dG hs;rw[this];simp
  have hin:ms[i].born∈seen:=by
   apply Vq;intro hc;refine hnot ?_;unfold leftOf;simp[hc]
  obtain⟨j,q,U⟩:=Array.getElem_of_mem hin;have hjv:j<vis.length:=AA
  obtain⟨e,r1,r2⟩:=q7 j vis[j] (by simp[hjv])
  have hb:e.born=ms[i].born:=by
   have e3:seen[j]? =some seen[j]:=by simp[q]
   rw[e3,U]at r2;exact(CO r2).symm
  have :=born_inj q5 r1 (show ms[i]? =some ms[i] by simp[O]) hb;rw[←this];simp
 have he:(execOp a.eval o).run P w=.ok (.value (.tuple #[.bool true,e.key,e.val])) (w1.putObj bi (.mapIter (some L) clock (seen.push e.born) clock)):=by simp[execOp,ho,J,hr]
 rw[he];refine⟨fun _ _=>trivial,?_⟩;obtain⟨aFo,hes⟩:=agh M;obtain⟨i,hi,hie⟩:=GZ aFo;have O:i<ms.size:=Fp
 have Y:ms[i]? =some e:=by rw[←hie];simp[O]
 have him:i<m.length:=AA
 have hpe:(m.map (BX ek ev))[i]? =some (BX ek ev m[i]):=by simp[him]
 obtain⟨r1,r2,_⟩:=q5.ent i _ e hpe Y
 have aFp:i∉vis:=fun hc=>by
  obtain⟨j,q,U⟩:=GZ hc;obtain⟨e2,s1,s2⟩:=q7 j i (by simp[←U,q]);rw[Y]at s1;obtain rfl:=CO s1;exact hes (Array.mem_of_getElem? s2)
 have I:Cb C ok H σ.ents w1∧ES ok w ok w1:=by
  rcases hw1 with rfl|rfl
  ·exact⟨z.mem,.refl _ _⟩
  exact z.mem.drew
 have hi1:w1.heap[bi]? =some (.mapIter (some L) clock seen clock):=by rcases hw1 with rfl|rfl<;>exact q2
 have u:w1.heap[L]? =some (.map ms clock):=(I.2 L q3).2.trans q4;have hne:L≠bi:=fun e=>by rw[e,hi1]at u;cases u
 obtain⟨m2,g2⟩:=I.1.ajO (o:=.mapIter (some L) clock (seen.push e.born) clock) (e':=.iter (m.map (BX ek ev)) (vis++[i])) hn rfl Z (by rw[q1];rfl)
  (fun g=>⟨bi,L,ms,clock,seen.push e.born,q1,WI (G6.1 hi1).1,q3,(XR hne).trans u,(q5.mono I.2).mono g,by simp[q6],fun j i' q=>by
   by_cases hjl:j<vis.length
   ·rw[Gj hjl]at q;obtain⟨e2,s1,s2⟩:=q7 j i' q;exact⟨e2,s1,by rw[Array.getElem?_push_lt AA];simpa[aA2 (show j<seen.size by omega)]using s2⟩
   have hj2:j=vis.length:=by
    have :=(Fb.1 q).1;simp at this;omega
   subst hj2;simp at q;subst q
   exact⟨e,Y,by rw[←q6];simp⟩⟩)
 have g3:=I.2.trans g2
 have hp:=(h1 i m[i] (by simp[him]) aFp).run ro l2 Q' C ok H (a.put o.dst (.tuple #[.bool true,e.key,e.val])) _ (z.put o.dst (x:=.fB [.d (DL true),.d (.lit (ek m[i].1)),.d (ev m[i].2)]) g3 (.refl _) m2 (.fB _ _ rfl fun j q=>by
  match j,q with
  |0,_=>exact .d _ _ (.lit _)
  |1,_=>
   show R ok _ H (.d (.lit (ek m[i].1))) e.key;rw[r1];exact .d _ _ (.lit _)
  |2,_=>exact .d _ _ (r2.mono g3))) hk
 exact hp
def AP.avO {A Rr:Type} {cd:Code} (S:List Nat→A→Ak) (m:List (K×V)) (step:A→K×V→Option A) (Kf:A→Option Rr) (r:Rr) (a0:A) (hs:CS σ (S [] a0))
 (L:∀vis:List Nat,vis.Nodup→(∀i,i∈vis↔i<m.length)→((vis.filterMap fun(i:Nat)=>m[i]?).foldlM step a0).bind Kf=some r)
 (round:∀(J:Ak→Prop) (vis:List Nat) (a:A),((∀i,i<m.length→i∈vis)→Kf a=some r)→(∀i p,m[i]? =some p→i∉vis→∃a',step a p=some a'∧∀s,CS s (S (vis++[i]) a')→J s)→AP P cd (S vis a) (Ko J Q)):AP P (.loop cd) σ Q:=by
 have U:∀vis:List Nat,vis.Nodup→(∀i∈vis,i<m.length)→∃rest,(vis++rest).Nodup∧(∀i,i∈vis++rest↔i<m.length):=fun vis q u=>by
  refine⟨(List.range m.length).filter fun i=> !vis.contains i,?_,fun i=>?_⟩
  ·refine lK.2 ⟨q,List.Pairwise.filter _ List.nodup_range,fun a ha b Y e=>?_⟩;subst e;rw[EY]at Y;simp[ha]at Y
  rw[GU,EY];constructor
  ·rintro(h|h)
   ·exact u i h
   simpa using h.1
  intro h;by_cases hc:i∈vis
  ·exact .inl hc
  exact .inr ⟨Jz,by simp[hc]⟩
 refine AP.loop (fun n s=>∃vis a,n=m.length-vis.length∧vis.Nodup∧(∀i∈vis,i<m.length)∧(vis.filterMap fun(i:Nat)=>m[i]?).foldlM step a0=some a∧CS s (S vis a)) (m.length) ⟨[],a0,Ap,YV,fun i h=>I8,rfl,hs⟩ ?_;rintro n s ⟨vis,a,rfl,q,u,hf,M⟩;refine Cm M (round _ vis a (fun hc=>?_) (fun i p hp hi=>?_))
 ·have :=L vis q (fun i=>⟨u i,hc i⟩);rw[hf]at this;exact this
 have him:i<m.length:=(Fb.1 hp).1;have z:(vis++[i]).Nodup:=lK.2 ⟨q,Ap,fun a ha b Y e=>by simp at Y;subst Y;subst e;exact hi ha⟩
 have I:∀j∈vis++[i],j<m.length:=fun j Z=>by
  rcases GU.1 Z with h|h
  ·exact u j h
  simp at h;subst h;exact him
 obtain⟨rest,h1,h2⟩:=U (vis++[i]) z I;have h3:=L _ h1 h2;rw[bG,bG]at h3;simp only[OV,List.filterMap_nil,hp,List.foldlM_append,UJ,List.foldlM_nil,hf,bind,pure,AQ]at h3;cases hst:step a p with
 |none=>rw[hst]at h3;simp at h3
 |some a'=>
  refine⟨a',rfl,fun s hs=>⟨m.length-(vis++[i]).length,?_,vis++[i],a',rfl,z,I,?_,hs⟩⟩
  ·have :vis.length<m.length:=by
    have M:vis.length≤(List.range m.length).length:=by
     refine aQZ q ?_;intro j Z;simpa using u j Z
    have O:(vis++[i]).length≤(List.range m.length).length:=by
     refine aQZ z ?_;intro j Z;simpa using I j Z
    simp at O;omega
   simp;omega
  rw[bG,List.foldlM_append,hf];simp[hp,hst]
end
def acB {α:Type}:∀(m:List α) (vis:List Nat),vis.Nodup→(∀i,i∈vis↔i<m.length)→(vis.filterMap fun(i:Nat)=>m[i]?).Perm m:=fun m vis j q=>by
 have u:vis.Perm (List.range m.length):=by
  rw[List.perm_iff_count];intro a;rw[j.count,List.nodup_range.count];simp[q a]
 have z:((List.range m.length).filterMap fun(i:Nat)=>m[i]?)=m:=by
  apply ZB;intro i
  have :∀(n:Nat),n≤m.length→((List.range n).filterMap fun(i:Nat)=>m[i]?)=m.take n:=by
   intro n
   induction n with
   |zero=>intro _;simp
   |succ n I=>
    intro L;rw[List.range_succ,bG,I AA];have hl:n<m.length:=AA
    simp[hl]
  rw[this m.length (Dk _),GI]
 have J:=u.filterMap (fun(i:Nat)=>m[i]?)
 rwa [z]at J
def aLR {α β:Type} {c:α→Bool} {f:α→β} {b:Nat}:∀(l:List α) (v:List β),
 l.foldlM (fun v p=>bif c p then(Bz b v [f p]).bind fun x=>some x else some v) v=if(v.length+(l.filter c).length)*b≤140737488355328∨l.filter c=[]then some (v++(l.filter c).map f)else none
 | [],v=>Ap
 |p::l,v=>by
  rw[UJ];cases q:c p with
  |false=>
   have m:=aLR (c:=c) (f:=f) (b:=b) l v;simp only[Aj,bind,AQ,m,SA,q,Rh,JE]
  |true=>
   simp only[Au,SA,q,JZ];have z:Bz b v [f p]=if(v.length+[f p].length)*b≤140737488355328 then some (v++[f p])else none:=rfl
   rw[z];by_cases j:(v.length+[f p].length)*b≤140737488355328
   ·rw[CV j];have m:=aLR (c:=c) (f:=f) (b:=b) l (v++[f p]);simp only[AQ,bind,m];have u:(v++[f p]).length+(l.filter c).length=v.length+(p::l.filter c).length:=DU
    rw[u];by_cases hl:l.filter c=[]
    ·rw[hl]at u ⊢;simp only[Fa,Md]at j ⊢;simp[j]
    simp[hl]
   rw[Cc j];simp only[Option.bind_none,bind];rw[Cc];rintro(h|h)
   ·refine j (Eh (Js _ ?_) h);simp
   cases h
def aSi {α β Rr:Type} {c:α→Bool} {f:α→β} {b:Nat} {q m:List α} {v:List β} {Kf:List β→Option Rr} {r:Rr} (z:q.Perm m) (I:∀x y,x.Perm y→Kf x=Kf y)
 (h:(m.foldlM (fun v p=>bif c p then(Bz b v [f p]).bind fun x=>some x else some v) v).bind Kf=some r):
 (q.foldlM (fun v p=>bif c p then(Bz b v [f p]).bind fun x=>some x else some v) v).bind Kf=some r:=by
 rw[aLR]at h ⊢;have j:=z.filter c
 have e:((v.length+(q.filter c).length)*b≤140737488355328∨q.filter c=[])↔((v.length+(m.filter c).length)*b≤140737488355328∨m.filter c=[]):=by
  rw[j.length_eq];constructor
  ·rintro(h|h)
   ·exact .inl h
   exact .inr (by rw[h]at j;exact j.symm.eq_nil)
  rintro(h|h)
  ·exact .inl h
  exact .inr (by rw[h]at j;exact j.eq_nil)
 by_cases u:((v.length+(m.filter c).length)*b≤140737488355328∨m.filter c=[])
 ·rw[CV u]at h;rw[CV (e.2 u)];simp only[AQ]at h ⊢;rw[←h];exact I _ _ ((j.map f).append_left v)
 rw[Cc u]at h;cases h
section
variable {K V : Type} [BEq K]
def FN :List (K×V)→K→Nat
 | [],_=>0
 |p::m,k=>bif k==p.1 then 0 else FN m k+1
def aUJ {ek:K→Value} {kd:TypeDesc} (hs:∀a b,Instr.sameNow kd (ek a) (ek b)=some (a==b)) (k:K) (v:V):∀(m:List (K×V)) (l:List MapEntry) (i:Nat),l.map (·.key)=m.map (fun p=>ek p.1)→
 (Instr.findNow kd (ek k) l i=some none∧C9 m k=none∧E8 m k v=m++[(k,v)]∧FN m k=m.length)∨
 ∃e p,Instr.findNow kd (ek k) l i=some (some (i+FN m k,e.val))∧l[FN m k]? =some e∧m[FN m k]? =some p∧C9 m k=some p.2∧(k==p.1)=true∧E8 m k v=m.set (FN m k) (k,v)
 | [],[],_,_=>.inl ⟨rfl,rfl,rfl,rfl⟩
 | [],_::_,_,h=>I8
 |_::_,[],_,h=>I8
 |p::m,e::l,i,h=>by
  simp only[Ig,aDS]at h;cases j:(k==p.1)with
  |true=>
   refine .inr ⟨e,p,?_,?_,?_,?_,j,?_⟩
   ·simp[Instr.findNow,h.1,hs,j,FN]
   ·simp[FN,j]
   ·simp[FN,j]
   ·simp[C9,j]
   simp[E8,FN,j]
  |false=>
   rcases aUJ hs k v m l (i+1) h.2 with⟨q,u,z,I⟩|⟨e',J,q,u,z,I,L,M⟩
   ·refine .inl ⟨?_,?_,?_,?_⟩
    ·simp[Instr.findNow,h.1,hs,j,q]
    ·simp[C9,j,u]
    ·simp[E8,j,z]
    simp[FN,j,I]
   refine .inr ⟨e',J,?_,by simpa[FN,j]using u,by simpa[FN,j]using z,?_,L,?_⟩
   ·simp[Instr.findNow,h.1,hs,j,q,FN];omega
   ·simp[C9,j,I]
   simp[E8,j,M,FN]
def aRp (k:K) (v:V):∀m:List (K×V),(E8 m k v)[FN m k]? =some (k,v)
 | []=>rfl
 |p::m=>by
  cases j:(k==p.1)with
  |true=>simp[E8,FN,j]
  |false=>simp[E8,FN,j,aRp k v m]
def acg (k:K) (v u:V):∀m:List (K×V),(E8 m k v).set (FN m k) (k,u)=E8 m k u
 | []=>rfl
 |p::m=>by
  cases j:(k==p.1)with
  |true=>simp[E8,FN,j]
  |false=>simp[E8,FN,j,acg k v u m]
end
section
variable {ok : Nat → Prop} {w : World} {es : List (Value × D)} {ms : Array MapEntry} {clock : Nat}
def SI.nil:SI #[] 0:=⟨rfl,fun i e h=>I8⟩
def SI.push (h:SI ms clock) {k v:Value}:SI (ms.push { key:=k,val:=v,born:=clock }) (clock+1):=by
 refine⟨by simp[h.1],fun i e j=>?_⟩;rw[aJj]at j;split at j
 ·rename_i m;obtain rfl:=CO j;rw[m];exact h.1
 exact h.2 i e j
def SI.modify (h:SI ms clock) (j:Nat) (f:MapEntry→MapEntry) (q:∀e,(f e).born=e.born):SI (ms.modify j f) clock:=by
 refine⟨by simp[h.1],fun i e m=>?_⟩;rw[Ol]at m;split at m
 ·rw[Ux]at m;obtain⟨u,z,rfl⟩:=m;rw[q];exact h.2 i u z
 exact h.2 i e m
def SI.find (h:SI ms clock) {n:Nat} (m:n<ms.size):ms.findIdx? (fun e=>(e.born:Int)==(n:Int))=some n:=by
 rw[Array.findIdx?_eq_some_iff_getElem];refine⟨m,?_,fun j q=>?_⟩
 ·have :=h.2 n ms[n] (by simp[m]);simp[this]
 have :=h.2 j ms[j] (by simp[Nat.lt_trans q m]);simp[this];omega
def aiv (ms:Array MapEntry) (j:Nat) (k v:Value) (m:∀e,ms[j]? =some e→e.key=k):(ms.modify j fun e=>{ e with val:=v })=ms.modify j fun e=>{ e with key:=k,val:=v }:=by
 apply nU;intro i;rw[Ol,Ol];split
 ·rename_i e;subst e;cases q:ms[j]? with
  |none=>rfl
  |some e=>simp[m e q]
 rfl
def ajN (ms:Array MapEntry) (j:Nat) (k v:Value) (m:∀e,ms[j]? =some e→e.val=v):(ms.modify j fun e=>{ e with key:=k })=ms.modify j fun e=>{ e with key:=k,val:=v }:=by
 apply nU;intro i;rw[Ol,Ol];split
 ·rename_i e;subst e;cases q:ms[j]? with
  |none=>rfl
  |some e=>simp[m e q]
 rfl
end
section
variable {P : Program} {o : Oper} {es : List Ar} {K V : Type} [BEq K]
def aio {t:TypeId} {j:Array (Nat×Operand)} {m:List (Nat×Nat)} {z:Value} {cs:List AY} (q:J8 P t m z) (vs:List AY) (u:Jm (fun(i:Nat)=>m[i]?) (FI z) j.toList vs=cs) (I:Nl (fun(i:Nat)=>m[i]?) (FI z).length j.toList vs=true) (J:o.op=.build t j):
 BU P o (Nb j.toList vs) es (.ag cs) es:=u▸aps q vs I J
def Qd (x y:Int):Int:=bif decide (y>x)then y else x
def aeX {x y:Operand} {ats:Array TypeId} {kd:IntKind} {a b:Int} (u:o.op=.call { callee:=.builtin .max,args:= #[x,y],argTypes:=ats }):
 BU P o [(x,.d (.lit (.int kd a))),(y,.d (.lit (.int kd b)))] es (.d (.lit (.int kd (Qd a b)))) es:=
 .pure fun ok H c w _ _ j=>by
  have m:=(Ea j).1.lit;have q:=(Ea j).2.lit;simp only at m q;have e:Qd a b=if b>a then b else a:=by unfold Qd;by_cases h:b>a<;>simp[h]
  refine⟨.int kd (Qd a b),?_,.d _ _ (.lit _)⟩;rw[e];simp[execOp,u,resolve,invoke,builtin,m,q,Go.run_max_int2]
def aON {t:TypeId} (z:o.op=.makeMap t none):BU P o [] es (.mp es.length) (es++[.eY []]):=
 .eff fun C ok H a w q O=>by
  have u:Em ok (w.alloc (.map #[] 0)) (H++[⟨.map (some w.heap.size),0⟩]) ⟨.map (some w.heap.size),0⟩ (.eY []):=
   ⟨w.heap.size, #[],0,rfl,(aJf w _).1,⟨rfl,fun i e m I=>by simp at I,fun i j m n _ q=>VI⟩,.nil⟩
  obtain⟨J,L⟩:=q.push (.map #[] 0) ⟨.map (some w.heap.size),0⟩ _ (fun b u=>aMs) u;refine⟨.map (some w.heap.size),_,ok,_,.inl ?_,L,Names.push _ _,J,.mp _ _ 0 rfl aGS⟩;have M:(newObj (.map #[] 0)).run P w=.ok w.heap.size (w.alloc (.map #[] 0)):=rfl;simp[execOp,z,Instr.makeMap,M]
def fJ {t J L:TypeId} {x y:Operand} {k:Nat} {ek:K→Value} (ev:V→D) (M:V) {z:Value} {m:List (K×V)} {key:K} (Z:P.underlying t=some (.map J L)) (hk:KeyTy P J ek) (hz:(P.info? L).bind (·.zero)=some z) (q:YC z=ev M) (u:z.cells.all (·.oneCell')=true)
 (he:es[k]? =some (.eY (m.map (BX ek ev)))) (ho:o.op=.lookup t x y false):BU P o [(x,.mp k),(y,.d (.lit (ek key)))] es (.d (ev ((C9 m key).getD M))) es:=
 .pure fun ok H a w j hl O=>by
  obtain⟨hd,hh,I⟩:=Fz j hl he;obtain⟨b,ms,clock,h1,h2,h3,_⟩:=I;have U:=Rj (Ea O).1 hh;have Y:=(Ea O).2.lit;simp only at U Y;obtain⟨v,hr,hv⟩:=aEK (key:=key) ev Z hk hz q u h2 h3 false;refine⟨v,?_,.d _ _ hv⟩;simp[execOp,ho,U,Y,h1,hr]
def ajY {t J L:TypeId} {x y:Operand} {k:Nat} {ek:K→Value} (ev:V→D) (M:V) {z:Value} {m:List (K×V)} {key:K} (Z:P.underlying t=some (.map J L)) (hk:KeyTy P J ek) (hz:(P.info? L).bind (·.zero)=some z) (q:YC z=ev M) (u:z.cells.all (·.oneCell')=true)
 (he:es[k]? =some (.eY (m.map (BX ek ev)))) (ho:o.op=.lookup t x y true):BU P o [(x,.mp k),(y,.d (.lit (ek key)))] es (.fB [.d (ev ((C9 m key).getD M)),.d (DL (C9 m key).isSome)]) es:=
 .pure fun ok H a w j hl O=>by
  obtain⟨hd,hh,I⟩:=Fz j hl he;obtain⟨b,ms,clock,h1,h2,h3,_⟩:=I;have U:=Rj (Ea O).1 hh;have Y:=(Ea O).2.lit;simp only at U Y;obtain⟨v,hr,hv⟩:=aEK (key:=key) ev Z hk hz q u h2 h3 true;refine⟨.tuple #[v,.bool (C9 m key).isSome],?_,.fB _ _ rfl fun i hi=>?_⟩
  ·simp[execOp,ho,U,Y,h1,hr]
  match i,hi with
  |0,_=>exact .d _ _ hv
  |1,_=>exact .d _ _ (.lit _)
def xH {C:EN} {ok:Nat→Prop} {H:List BO} {w:World} (I:Cb C ok H es w) {k:Nat} {es0 q:List (Value×D)} {b clock j:Nat} {ms m:Array MapEntry} {hd:BO} (J:es[k]? =some (.eY es0)) (L:H[k]? =some hd) (u:hd.v=.map (some b)) (z:w.heap[b]? =some (.map ms clock))
 (M:JA ok w q m j) (O:SI m j):(setObj b (.map m j)).run P w=.ok () (w.putObj b (.map m j))∧Cb C ok H (es.set k (.eY q)) (w.putObj b (.map m j))∧ES ok w ok (w.putObj b (.map m j)):=by
 refine⟨by simp[setObj,Sem.run,z,World.putObj],I.ajO J rfl L o9 fun U=>⟨b,m,j,u,WI (G6.1 z).1,M.mono U,O⟩⟩
def amn {t kt vt:TypeId} {x y u:Operand} {k:Nat} {ek:K→Value} (ev:V→D) {m:List (K×V)} {key:K} {val:V} (ht:P.underlying t=some (.map kt vt)) (J:KeyTy P kt ek) (Y:es[k]? =some (.eY (m.map (BX ek ev)))) (ho:o.op=.mapUpdate t x y u):
 BU P o [(x,.mp k),(y,.d (.lit (ek key))),(u,.d (ev val))] es .junk (es.set k (.eY ((E8 m key val).map (BX ek ev)))):=
 .eff fun C ok H a w L Z=>by
  obtain⟨hd,hh,hok⟩:=Fz L.ent L.hlen Y;obtain⟨b,ms,clock,M,O,U,h4⟩:=hok;have hx:=Rj (Z (x,.mp k) Ap) hh;have hy:=(Z (y,.d (.lit (ek key))) Ap).lit;have hu:DV ok w (ev val) (a.eval u):=by have :=Z (u,.d (ev val)) Ap;cases this with |d _ _ h=>exact h
  simp only at hx hy;obtain⟨kd,q,hs⟩:=J.same;have hks:ms.toList.map (·.key)=m.map (fun p=>ek p.1):=by rw[U.keys];simp[BX,l9]
  have z:=J.check;rcases aCd (i:=0) hs key val m ms.toList hks with⟨q1,_,q3⟩|⟨j,e,p,q1,q2,q3,_,q5,q6⟩
  ·have hM:=U.push (k:=ek key) hu;obtain⟨r1,r2,r3⟩:=xH (P:=P) L Y hh M O hM h4.push;refine⟨undef,_,ok,H,.inr ⟨rfl,?_⟩,r3,.refl _,?_,.junk _⟩
   ·simp[execOp,ho,hx,hy,M,Instr.mapUpdate,underlying,ht,PS O,z,Instr.findKey,q,q1,r1]
   rw[q3,JU];exact r2
  have hM:=U.modify (k:=ek key) hu j;obtain⟨r1,r2,r3⟩:=xH (P:=P) L Y hh M O hM (h4.modify j _ fun _=>rfl)
  have I:e.key=ek key:=by
   have h5:(m.map (BX ek ev))[j]? =some (BX ek ev p):=by rw[JC,q3];rfl
   rw[(U.ent j _ e h5 kK).1,J.eq _ _ q5];rfl
  have hst:∀w,(Instr.keyThatStays (ek key) (ek key)).run P w=.ok (ek key) w:=fun w=>by simp[Instr.keyThatStays,J.bits]
  have hms:ms[j]? =some e:=kK
  refine⟨undef,_,ok,H,.inr ⟨rfl,?_⟩,r3,.refl _,?_,.junk _⟩
  ·simp[execOp,ho,hx,hy,M,Instr.mapUpdate,underlying,ht,PS O,z,Instr.findKey,q,q1,hms,I,hst,r1]
  rw[q6,zB];exact r2
def aLE {t kt vt:TypeId} {x y:Operand} {k:Nat} {ek:K→Value} (ev:V→D) (J:V) {z:Value} {m:List (K×V)} {key:K} (ht:P.underlying t=some (.map kt vt)) (hk:KeyTy P kt ek) (hz:(P.info? vt).bind (·.zero)=some z) (hzv:YC z=ev J) (hzl:z.cells.all (·.oneCell')=true)
 (he:es[k]? =some (.eY (m.map (BX ek ev)))) (ho:o.op=.mapEntry t x y):
 BU P o [(x,.mp k),(y,.d (.lit (ek key)))] es (.fB [.d (ev ((C9 m key).getD J)),.d (Aa (FN m key:Nat))]) (es.set k (.eY ((E8 m key ((C9 m key).getD J)).map (BX ek ev)))):=
 .eff fun C ok H a w hm hn=>by
  obtain⟨hd,hh,hok⟩:=Fz hm.ent hm.hlen he;obtain⟨b,ms,clock,h1,h2,L,h4⟩:=hok;have hx:=Rj (Ea hn).1 hh;have hy:=(Ea hn).2.lit;simp only at hx hy;obtain⟨kd,M,hs⟩:=hk.same;have hks:ms.toList.map (·.key)=m.map (fun p=>ek p.1):=by rw[L.keys];simp[BX,l9]
  have O:=hk.check;have hml:ms.size=m.length:=by have :=L.len;simpa using this
  obtain⟨i0,hi0,hz'⟩:=jE.1 hz;rcases aUJ (i:=0) hs key ((C9 m key).getD J) m ms.toList hks with⟨q1,q2,q3,q4⟩|⟨e,p,q1,q2,q3,q4,q5,q6⟩
  ·have U:DV ok w (ev ((C9 m key).getD J)) z:=by
    rw[q2];have :=ad7 (ok:=ok) (w:=w) hzl;rw[hzv]at this;exact this
   have hM:=L.push (k:=ek key) U;obtain⟨r1,r2,Y⟩:=xH (P:=P) hm he hh h1 h2 hM h4.push;refine⟨.tuple #[z,goInt clock],_,ok,H,.inl ?_,Y,.refl _,?_,.fB _ _ rfl fun i hi=>?_⟩
   ·simp[execOp,ho,hx,hy,h1,Instr.mapEntry,underlying,ht,PS h2,O,Instr.findKey,M,q1,r1,zeroValue,typeInfo,hi0,hz']
   ·rw[q3,JU];exact r2
   match i,hi with
   |0,_=>
    have u:=U.mono Y;exact .d _ _ u
   |1,_=>
    have :goInt (clock:Nat)=.int .i64 (FN m key:Nat):=by rw[q4,←hml,←h4.1];rfl
    show R ok _ H (.d (Aa (FN m key:Nat))) (goInt clock);rw[this];exact .d _ _ (.lit _)
  have h5:(m.map (BX ek ev))[FN m key]? =some (BX ek ev p):=by rw[JC,q3];rfl
  have j:ms[FN m key]? =some e:=kK
  have q:=L.ent _ _ e h5 j;have U:DV ok w (ev ((C9 m key).getD J)) e.val:=by rw[q4];exact q.2.1
  have hM:=L.modify (k:=ek key) U (FN m key);have hmk:=ajN ms (FN m key) (ek key) e.val (fun e' Z=>by rw[j]at Z;rw[←CO Z]);rw[←hmk]at hM;have hkey:e.key=ek key:=by rw[q.1,hk.eq _ _ q5];rfl
  obtain⟨r1,r2,Y⟩:=xH (P:=P) hm he hh h1 h2 hM (h4.modify _ _ fun _=>rfl);have hst:∀w,(Instr.keyThatStays (ek key) (ek key)).run P w=.ok (ek key) w:=fun w=>by simp[Instr.keyThatStays,hk.bits]
  have I:e.born=FN m key:=h4.2 _ e j;refine⟨.tuple #[e.val,goInt (FN m key:Nat)],_,ok,H,.inl ?_,Y,.refl _,?_,.fB _ _ rfl fun i hi=>?_⟩
  ·simp[execOp,ho,hx,hy,h1,Instr.mapEntry,underlying,ht,PS h2,O,Instr.findKey,M,q1,j,hkey,hst,r1,I]
  ·rw[q6,zB];exact r2
  match i,hi with
  |0,_=>
   have u:=U.mono Y;exact .d _ _ u
  |1,_=>exact .d _ _ (.lit _)
def aL8 {t kt:TypeId} {x s u:Operand} {k:Nat} {ek:K→Value} (ev:V→D) {m:List (K×V)} {key:K} {z0 val:V} (hk:KeyTy P kt ek) (Z:es[k]? =some (.eY ((E8 m key z0).map (BX ek ev)))) (ho:o.op=.entryStore t x s u):
 BU P o [(x,.mp k),(s,.d (Aa (FN m key:Nat))),(u,.d (ev val))] es .junk (es.set k (.eY ((E8 m key val).map (BX ek ev)))):=
 .eff fun C ok H a w L M=>by
  obtain⟨hd,hh,O⟩:=Fz L.ent L.hlen Z;obtain⟨b,ms,clock,h1,h2,U,h4⟩:=O;have hx:=Rj (M (x,.mp k) Ap) hh;have hy:a.eval s=.int .i64 (FN m key:Nat):=(M (s,.d (Aa (FN m key:Nat))) Ap).lit;have hu:DV ok w (ev val) (a.eval u):=by have :=M (u,.d (ev val)) Ap;cases this with |d _ _ h=>exact h
  simp only at hx;have j:=aRp key z0 m;have h5:((E8 m key z0).map (BX ek ev))[FN m key]? =some (BX ek ev (key,z0)):=by rw[JC,j];rfl
  have q:FN m key<ms.size:=by
   have h6:=(Fb.1 j).1;have :=U.len;rw[CM]at this;omega
  have z:ms[FN m key]? =some ms[FN m key]:=by simp[q]
  have I:=U.ent _ _ _ h5 z;have hM:=U.modify (k:=ek key) hu (FN m key);have Y:=aiv ms (FN m key) (ek key) (a.eval u) (fun e' J=>by rw[z]at J;rw[←CO J];exact I.1);rw[←Y]at hM;obtain⟨r1,r2,r3⟩:=xH (P:=P) L Z hh h1 h2 hM (h4.modify _ _ fun _=>rfl);refine⟨undef,_,ok,H,.inr ⟨rfl,?_⟩,r3,.refl _,?_,.junk _⟩
  ·simp[execOp,ho,hx,hy,h1,Instr.entryStore,PS h2,asInt,asIntOf,h4.find q,r1]
  have e1:((E8 m key z0).map (BX ek ev)).set (FN m key) (ek key,ev val)=(E8 m key val).map (BX ek ev):=by
   rw[←acg key z0 val m,zB];rfl
  rw[←e1];exact r2
end
section
variable {P : Program} {σ : Ak} {Q : Exit → Ak → Prop} {c : Operand} {x y : Code}
def Dn {A:Type} {b:Bool} {u v z:A} (h:(bif b then u else v)=z) (j:u=z→AP P x σ Q) (m:v=z→AP P y σ Q) (q:σ.get c=.d (.lit (.bool b)):=by kernel_rfl):AP P (.cond c x y) σ Q:=
 AP.cond b q (fun e=>j (dK e h)) (fun e=>m (Zx e h))
def CB {A:Type} {b:Bool} {u v z:A} (h:(bif b then u else v)=z) (j:u=z→Q .normal σ) (m:v=z→AP P y σ Q) (q:σ.get c=.d (.lit (.bool b)):=by kernel_rfl):AP P (.cond c .skip y) σ Q:=Dn h (fun e=>AP.skip (j e)) m q
def BM {A:Type} {b:Bool} {u v z:A} (h:(bif b then u else v)=z) (j:u=z→AP P x σ Q) (m:v=z→Q .normal σ) (q:σ.get c=.d (.lit (.bool b)):=by kernel_rfl):AP P (.cond c x .skip) σ Q:=Dn h j (fun e=>AP.skip (m e)) q
end
section
variable {P : Program} {ops : Array Oper} {o : Oper} {rest : List Oper} {σ σ' : Ak} {K : Exit → Ak → Prop} {ns : List (Operand × AY)} {x : AY} {es' : List Ar}
def Ch.f (h:BU P o ns σ.ents x es') (k:Ch P ops rest (σ.put o.dst x es') K) (j:(ns.map fun n=>σ.get n.1)=ns.map (·.2):=by kernel_rfl) (m:JL ops σ o.guard=some true:=by kernel_rfl) (q:(Lh ns).all (tmpsOf o).contains=true:=by kernel_rfl):Ch P ops (o::rest) σ K:=Ch.e es' h k rfl j m q
def Chain.f (h:BU P o ns σ.ents x es') (k:Chain P ops rest (σ.put o.dst x es') σ') (j:(ns.map fun n=>σ.get n.1)=ns.map (·.2):=by kernel_rfl) (m:JL ops σ o.guard=some true:=by kernel_rfl):Chain P ops (o::rest) σ σ':=Chain.e es' h k rfl j m
def Ew.f {rs:List AY} {ess:List (List Ar)} {bs:List Bool} (h:BU P o ns σ.ents x es') (k:Ew P ops rest (σ.put o.dst x es') rs ess bs σ') (j:(ns.map fun n=>σ.get n.1)=ns.map (·.2):=by kernel_rfl) (m:JL ops σ o.guard=some true:=by kernel_rfl)
 (q:(Lh ns).all (tmpsOf o).contains=true:=by kernel_rfl):Ew P ops (o::rest) σ (x::rs) (es'::ess) (true::bs) σ':=Ew.e es' h k rfl j m q
end
def aTw {A:Type} {b:Bool} {u v z:A} (h:(bif b then u else v)=z):(b=true∧u=z)∨(b=false∧v=z):=by
 cases b with
 |true=>exact .inl ⟨rfl,h⟩
 |false=>exact .inr ⟨rfl,h⟩
def Cx {A:Type} {a b:A} (h:some a=some b):a=b:=CO h
def Xc {α β γ:Type} {x:Option α} {y:α→Option β} {f:α→β→Option γ} {z:γ} (h:(x.bind fun a=>(y a).bind (f a))=some z):∃a,x=some a∧∃b,y a=some b∧f a b=some z:=by
 obtain⟨a,j,h⟩:=CY h;obtain⟨b,m,h⟩:=CY h;exact⟨a,j,b,m,h⟩
def aEa {α β γ δ:Type} {x:Option α} {y:α→Option β} {w:α→β→Option δ} {f:α→β→δ→Option γ} {z:γ} (h:(x.bind fun a=>(y a).bind fun b=>(w a b).bind (f a b))=some z):∃a,x=some a∧∃b,y a=some b∧∃d,w a b=some d∧f a b d=some z:=by
 obtain⟨a,j,b,m,h⟩:=Xc h;obtain⟨d,q,h⟩:=CY h;exact⟨a,j,b,m,d,q,h⟩
def AU {α β:Type} {x:Option α} {f:α→Option β} {z:β} {G:Prop} (h:x.bind f=some z) (k:∀a,x=some a→f a=some z→G):G:=by
 obtain⟨a,j,h⟩:=CY h;exact k a j h
def DJ {α β γ:Type} {x:Option α} {y:α→Option β} {f:α→β→Option γ} {z:γ} {G:Prop} (h:(x.bind fun a=>(y a).bind (f a))=some z) (k:∀a,x=some a→∀b,y a=some b→f a b=some z→G):G:=by
 obtain⟨a,j,b,m,h⟩:=Xc h;exact k a j b m h
def UL {α β γ δ:Type} {x:Option α} {y:α→Option β} {w:α→β→Option δ} {f:α→β→δ→Option γ} {z:γ} {G:Prop} (h:(x.bind fun a=>(y a).bind fun b=>(w a b).bind (f a b))=some z) (k:∀a,x=some a→∀b,y a=some b→∀d,w a b=some d→f a b d=some z→G):G:=by
 obtain⟨a,j,b,m,d,q,h⟩:=aEa h;exact k a j b m d q h
section
variable {P : Program} {o : Oper} {es : List Ar} {α : Type}
def BQ {x y:Operand} {t e:TypeId} {i:Int} {agg:Bool} {size:Nat} (enc:α→D) {l:List α} {a:α} (h:Ae l i=some a) (j:P.underlying t=some (.slice e)) (m:EL P e agg size) (q:o.op=.indexAddr t x y) (hs:(enc a).cells.length=size:=by kernel_rfl):
 BU P o [(x,.d (BF enc l)),(y,.d (.lit (.int .i64 i)))] es (.d (.ref (enc a).cells 0)) es:=amq enc h j m hs q
def ED {t e:TypeId} {size m len:Nat} {z:Value} (hE:GN P t e size m) (I:(P.info? e).bind (·.zero)=some z) (ys:List D) {j:Array (Nat×Operand)} (J:o.op=.buildSlice t len j) (L:z.cells.all (·.oneCell')=true:=by kernel_rfl) (q:z.cells.size=size:=by kernel_rfl) (hlen:Nat.ble (len*size) 16777216=true:=by kernel_rfl)
 (M:Nl (fun i=>some (i*size,size)) (len*size) j.toList (ys.map .d)=true:=by kernel_rfl) (O:Jm (fun i=>some (i*size,size)) (Qn z (len*size)) j.toList (ys.map .d)=flat ys:=by kernel_rfl) (hl:ys.length=len:=by kernel_rfl) (u:ys.all (fun y=>decide (y.cells.length=size))=true:=by kernel_rfl):
 BU P o (Nb j.toList (ys.map .d)) es (.d (.sl ys)) es:=ajh hE I L q (GV hlen) (ys.map .d) ys M O hl u J
def ZC {t e:TypeId} {size m len:Nat} {z:Value} (hE:GN P t e size m) (I:(P.info? e).bind (·.zero)=some z) (ys:List D) {j:Array (Nat×Operand)} (J:o.op=.buildSlice t len j) (L:z.cells.all (·.oneCell')=true:=by kernel_rfl) (q:z.cells.size=size:=by kernel_rfl) (hlen:Nat.ble (len*size) 16777216=true:=by kernel_rfl)
 (M:Nl (fun i=>some (i*size,size)) (len*size) j.toList (ys.map .d)=true:=by kernel_rfl) (O:Jm (fun i=>some (i*size,size)) (Qn z (len*size)) j.toList (ys.map .d)=flat ys:=by kernel_rfl) (hl:ys.length=len:=by kernel_rfl) (u:ys.all (fun y=>decide (y.cells.length=size))=true:=by kernel_rfl):
 BU P o (Nb j.toList (ys.map .d)) es (.aZ es.length) (es++[.arr e size ys]):=aSv hE I L q (GV hlen) (ys.map .d) ys M O hl u J
def Ch.aM {ops:Array Oper} {l:List Oper} {σ:Ak} {K:Exit→Ak→Prop} [T:Kn P] {M:Ak→Prop} (n:Nat) (k:M (SQ (Hz T ops n l σ))) (hl:l.length=n:=by kernel_rfl) (h:(Hz T ops n l σ).isSome=true:=by kernel_rfl):Ch P ops l σ (Ko M K):=
 .a n (by rw[aBm (aT hl)];exact .bJ k) h
end
def GY {A:Type} {b:Bool} {u v z:A} {G:Prop} (h:(bif b then u else v)=z) (j:b=true→u=z→G) (k2:b=false→v=z→G):G:=by
 rcases aTw h with⟨e,h⟩|⟨e,h⟩
 ·exact j e h
 exact k2 e h
def akQ {A:Type} (o:Option A) (f:A→AY):AY:=match o with
 |none=>.d (.lit (.pointer none))
 |some a=>f a
def ake {A:Type} (o:Option A) (f:A→List Ar):List Ar:=match o with
 |none=>[]
 |some a=>f a
def bV {A B:Type} (o:Option A) (x:Option B) (f:A→Option B):Option B:=match o with
 |none=>x
 |some a=>f a
def aGP {A B:Type} {x z:Option B} {f:A→Option B} (h:bV none x f=z):x=z:=h
def aG7 {A B:Type} {x z:Option B} {a:A} {f:A→Option B} (h:bV (some a) x f=z):f a=z:=h
section
variable {P : Program} {o : Oper} {es : List Ar}
def aEV {t t':TypeId} {x y:Operand} {k off:Nat} (z:P.underlying t=some (.pointer (P.pointee t))) (I:o.op=.binOp .eql t x y t'):BU P o [(x,.ptr k off),(y,.d (.lit (.pointer none)))] es (.d (DL false)) es:=
 .pure fun _ _ a w _ _ m=>⟨.bool false,by
  have j:=(Ea m).1;have q:=(Ea m).2.lit;simp only at j q;generalize J:a.eval x=u at j;cases j with
  |ptr _ _ b s M=>
   have L:(eqGuard .eql t x y (Value.pointer (some ⟨b,off,none⟩)) (.pointer none)).run P w=.ok () w:=by
    unfold eqGuard;simp[pure,Sem.run_pure']
   simp only[execOp,I,J,q,FD,L,FU,run_eql_pointer_nil w t _ z,GK]
   rfl,.d _ _ (.lit _)⟩
def aB1 {t t':TypeId} {x y:Operand} (u:P.underlying t=some (.pointer (P.pointee t))) (z:o.op=.binOp .eql t x y t'):BU P o [(x,.d (.lit (.pointer none))),(y,.d (.lit (.pointer none)))] es (.d (DL true)) es:=
 .pure fun _ _ a w _ _ j=>⟨.bool true,by
  have m:=(Ea j).1.lit;have q:=(Ea j).2.lit;simp only at m q
  have I:(eqGuard .eql t x y (Value.pointer none) (.pointer none)).run P w=.ok () w:=by
   unfold eqGuard;simp[pure,Sem.run_pure']
  simp only[execOp,z,m,q,FD,I,FU,run_eql_pointer_nil w t _ u,GK]
  rfl,.d _ _ (.lit _)⟩
end
def aKd :List ResultVar→Bool
 | []=>true
 | .tmp _::rs=>aKd rs
 |_::_=>false
def aEx (σ:Ak):List ResultVar→List AY
 | []=>[]
 | .tmp t::rs=>σ.slots.getD t .junk::aEx σ rs
 |_::rs=>.junk::aEx σ rs
def ac5 {P:Program} {σ:Ak}:∀{rs:List ResultVar},aKd rs=true→Xg P σ rs (aEx σ rs)
 | [],_=>trivial
 | .tmp _::_,h=>⟨rfl,ac5 h⟩
def F5 {P:Program} {σ:Ak} {rs:List ResultVar} {j:AY} {E':List Ar} (π:List (Nat×Bool)) (ha:aKd rs=true:=by kernel_rfl) (m:Us σ.base σ.ents π=true:=by kernel_rfl) (q:j=(iR (aEx σ rs)).back π:=by kernel_rfl) (u:E'=Rs σ.ents π:=by kernel_rfl):
 ∃xs π,Xg P σ rs xs∧Us σ.base σ.ents π=true∧j=(iR xs).back π∧E'=Rs σ.ents π:=⟨_,π,ac5 ha,m,q,u⟩
def Yw :Nat→Nat→List (Nat×Nat×Nat)
 |0,_=>[]
 |n+1,x=>(x % 2048,x/2048 % 64,x/131072 % 2048)::Yw n (x/268435456)
def aO6 :List (Nat×Nat×Nat)→List (List Nat)→Nat→List (List Nat)
 | [],N,_=>N
 |t::Tr,N,n=>bif Nat.beq t.2.2 n then aO6 Tr (N++[t.2.1::N.getD t.1 []]) (n+1)else aO6 Tr N n
def UE (n x:Nat):List (List Nat):=aO6 (Yw n x) [[]] 1
section
variable {P : Program} [T : Kn P] {id : Nat} {ops : Array Oper} {σ : Ak} {Q : Exit → Ak → Prop} {y : Code}
def AP.asw (L:List (MI P)) (n x j:Nat) (m:AP P y (N8 T L ops σ ((UE n x).getD j [])) Q) (q:P.follows .mixedOrders=true:=by kernel_rfl) (u:xZ ops (UE n x) (Yw n x) [j]=true:=by kernel_rfl)
 (z:((Yw n x).map fun t=>Vy T L ops (N8 T L ops σ ((UE n x).getD t.1 [])) t.2.1)=(Yw n x).map fun t=>some (N8 T L ops σ ((UE n x).getD t.2.2 []),YU L t.2.1):=by kernel_rfl) (I:(UE n x).getD 0 [0]=[]:=by kernel_rfl):AP P (.seq (.region id ops true) y) σ Q:=
 AP.aEf L _ _ j m q u I z
def AP.asx (L:List (MI P)) (n x:Nat) (F:List Nat) (j:Ak) (m:Qg (fun k=>vU (N8 T L ops σ ((UE n x).getD k [])) j) F) (q:AP P y j Q) (u:P.follows .mixedOrders=true:=by kernel_rfl) (z:xZ ops (UE n x) (Yw n x) F=true:=by kernel_rfl)
 (I:((Yw n x).map fun t=>Vy T L ops (N8 T L ops σ ((UE n x).getD t.1 [])) t.2.1)=(Yw n x).map fun t=>some (N8 T L ops σ ((UE n x).getD t.2.2 []),YU L t.2.1):=by kernel_rfl) (J:(UE n x).getD 0 [0]=[]:=by kernel_rfl):AP P (.seq (.region id ops true) y) σ Q:=
 AP.aEg L _ _ F j m q u z J I
end
end Go.Proofs.YtldfpencimjjlaaGreat
end
section
namespace Go
open Go.Proofs.YtldfpencimjjlaaGreat
variable {P : Program}
def aF9 (w:World) (O U ty m:TypeId) (b o q z:Nat) (a:Addr) (u I k n:Nat) (cs:List Value)
 (Y:P.underlying O=some (.slice m)) (hs:(P.info? m).map (·.size)=some k) (Z:n=Nat.min u q) (hl:cs.length=n*k)
 (J:∀j v,cs[j]? =some v→w.cell? (a.add j)=some v) (hc:∀j,j<cs.length→(w.cell? ⟨b,o+j,none⟩).isSome=true) (hf:∀j,j<cs.length→w.frozen? ⟨b,o+j,none⟩=false) (h1:∀v∈cs,v.oneCell'=true):
 (Builtin.copy_ #[O,U] ty #[.slice (some ⟨b,o,none⟩) q z,.slice (some a) u I]).run P w=.ok (goInt n) (w.setCells b o cs):=by
 have L:=aKA (P:=P) w a cs J;have hst:=run_storeCells_cells (P:=P) b o cs 0 w (by simpa using hc) (by simpa using hf) h1;rw[hl]at L;cases M:P.info? m with
 |none=>simp[M]at hs
 |some i=>
  have hi:i.size=k:=by simpa[M]using hs
  simp[Builtin.copy_,aDu Y,Builtin.lenOf,Builtin.firstCells,sizeOf,typeInfo,M,hi,←Z,L,hst]
end Go
namespace Go.Proofs.YtldfpencimjjlaaGreat
open Go.Shelf Go.RowKit Go.Lib
section
variable {K V : Type} [BEq K]
def adk {α β:Type} (f:α→β):∀(l:List α) (j:Nat),(l.map f).eraseIdx j=(l.eraseIdx j).map f
 | [],_=>rfl
 |_::_,0=>rfl
 |x::l,j+1=>BI (f x:: ·) (adk f l j)
def Ns :List (K×V)→K→List (K×V)
 | [],_=>[]
 |p::l,k=>bif k==p.1 then l else p::Ns l k
def aSB {ek:K→Value} {kd:TypeDesc} (hs:∀a b,Instr.sameNow kd (ek a) (ek b)=some (a==b)) (k:K):∀(m:List (K×V)) (l:List MapEntry) (i:Nat),l.map (·.key)=m.map (fun p=>ek p.1)→
 (Instr.findNow kd (ek k) l i=some none∧Ns m k=m)∨∃(j:Nat) (e:MapEntry),Instr.findNow kd (ek k) l i=some (some (i+j,e.val))∧j<l.length∧Ns m k=m.eraseIdx j
 | [],[],_,_=>.inl ⟨rfl,rfl⟩
 | [],_::_,_,h=>I8
 |_::_,[],_,h=>I8
 |p::m,e::l,i,h=>by
  simp only[Ig,aDS]at h;cases q:(k==p.1)with
  |true=>
   refine .inr ⟨0,e,?_,Ap,?_⟩
   ·simp[Instr.findNow,h.1,hs,q]
   simp[Ns,q]
  |false=>
   rcases aSB hs k m l (i+1) h.2 with⟨u,z⟩|⟨j,e',u,z,I⟩
   ·refine .inl ⟨?_,?_⟩
    ·simp[Instr.findNow,h.1,hs,q,u]
    simp[Ns,q,z]
   refine .inr ⟨j+1,e',?_,U3,?_⟩
   ·simp[Instr.findNow,h.1,hs,q,u];omega
   simp[Ns,q,I]
def JA.erase {ok:Nat→Prop} {w:World} {es:List (Value×D)} {ms:Array MapEntry} {clock:Nat} (h:JA ok w es ms clock) {j:Nat} (I:j<ms.size):JA ok w (es.eraseIdx j) (ms.eraseIdxIfInBounds j) clock:=by
 have hE:ms.eraseIdxIfInBounds j=ms.eraseIdx j I:=by simp[Array.eraseIdxIfInBounds,I]
 have hl:=h.len
 have key:∀(i:Nat) (m:MapEntry),(ms.eraseIdx j I)[i]? =some m→∃u,(∀e,(es.eraseIdx j)[i]? =some e→es[u]? =some e)∧ms[u]? =some m∧u=(if i<j then i else i+1):=fun i m q=>by
  rw[Array.getElem?_eraseIdx]at q;refine⟨if i<j then i else i+1,fun e z=>?_,?_,rfl⟩
  ·rw[List.getElem?_eraseIdx]at z;split at z<;>rename_i c
   ·rw[CV c];exact z
   rw[Cc c];exact z
  split at q<;>rename_i c
  ·rw[CV c];exact q
  rw[Cc c];exact q
 rw[hE];refine⟨by rw[Array.size_eraseIdx,List.length_eraseIdx];split<;>omega,fun i e m z q=>?_,fun i k m n L q M=>?_⟩
 ·obtain⟨u,O,J,_⟩:=key i m q;exact h.ent u e m (O e z) J
 obtain⟨u,_,J,U⟩:=key i m q;obtain⟨k',_,Y,Z⟩:=key k n M;exact h.inc u k' m n (by rw[U,Z];split<;>split<;>omega) J Y
def alS {P:Program} {o:Oper} {es:List Ar} {t kt vt u:TypeId} {x y:Operand} {k:Nat} {ek:K→Value} (ev:V→D) {m:List (K×V)} {key:K} (ht:P.underlying t=some (.map kt vt)) (hk:KeyTy P kt ek) (M:es[k]? =some (.map (m.map (BX ek ev)))) (ho:o.op=.call { callee:=.builtin .delete,args:= #[x,y],argTypes:= #[t,u] }):
 BU P o [(x,.mp k),(y,.d (.lit (ek key)))] es .junk (es.set k (.map ((Ns m key).map (BX ek ev)))):=
 .eff fun C ok H a w I hn=>by
  obtain⟨hd,O,U⟩:=Fz I.ent I.hlen M;obtain⟨b,ms,clock,J,L,Y⟩:=U;have Z:=Rj (hn (x,.mp k) Ap) O;have hy:=(hn (y,.d (.lit (ek key))) Ap).lit;simp only at Z hy;obtain⟨kd,q,hs⟩:=hk.same;have hks:ms.toList.map (·.key)=m.map (fun p=>ek p.1):=by rw[Y.keys];simp[BX,l9]
  have z:=hk.check;rcases aSB (i:=0) hs key m ms.toList hks with⟨q1,q3⟩|⟨j,e,q1,q2,q3⟩
  ·obtain⟨r1,r2,r3⟩:=vH (P:=P) I M O J L Y;refine⟨.tuple #[],_,ok,H,.inl ?_,r3,.refl _,?_,.junk _⟩
   ·simp[execOp,ho,resolve,invoke,builtin,Builtin.delete_,Z,hy,J,underlying,ht,PS L,z,Instr.findKey,q,q1,r1]
   rw[q3];exact r2
  have hM:=Y.erase (j:=j) kK;obtain⟨r1,r2,r3⟩:=vH (P:=P) I M O J L hM;refine⟨.tuple #[],_,ok,H,.inl ?_,r3,.refl _,?_,.junk _⟩
  ·simp[execOp,ho,resolve,invoke,builtin,Builtin.delete_,Z,hy,J,underlying,ht,PS L,z,Instr.findKey,q,q1,r1]
  rw[q3,←adk];exact r2
end
section
variable {P : Program} {o : Oper} {es : List Ar}
def XO (x y:Int):Int:=bif decide (y<x)then y else x
def ao6 {x y:Operand} {ats:Array TypeId} {kd:IntKind} {a b:Int} (u:o.op=.call { callee:=.builtin .min,args:= #[x,y],argTypes:=ats }):
 BU P o [(x,.d (.lit (.int kd a))),(y,.d (.lit (.int kd b)))] es (.d (.lit (.int kd (XO a b)))) es:=
 .pure fun ok H c w _ _ j=>by
  have m:=(Ea j).1.lit;have q:=(Ea j).2.lit;simp only at m q;have e:XO a b=if b<a then b else a:=by unfold XO;by_cases h:b<a<;>simp[h]
  refine⟨.int kd (XO a b),?_,.d _ _ (.lit _)⟩;rw[e];simp[execOp,u,resolve,invoke,builtin,m,q,Go.run_min_int2]
end
set_option linter.unusedVariables false
set_option linter.unusedSimpArgs false
set_option maxHeartbeats 4000000 in
set_option maxRecDepth 100000 in
def ao5 (b n c i vb vc:Nat) (cs vs:List Value) (w:World) (hi:i<n) (hroom:n+1≤c) (hc63:c≤9223372036854775807) (hvb:vb≠b)
 (hcl:cs.length=n*29) (hvl:vs.length=29)
 (hcs:∀j v,cs[j]? =some v→w.cell? ⟨b,j,none⟩=some v) (hsp:∀j,j<(n+1)*29→(w.cell? ⟨b,j,none⟩).isSome=true) (hfz:∀j,j<(n+1)*29→w.frozen? ⟨b,j,none⟩=false)
 (hvs:∀j v,vs[j]? =some v→w.cell? ⟨vb,j,none⟩=some v) (h1c:∀v∈cs,v.oneCell'=true) (h1v:∀v∈vs,v.oneCell'=true)
 (tA tB:TypeId) (kA kB:Nat) (hsa:w.shape? vb=some (tA,kA)) (hsb:w.shape? b=some (tB,kB)) (hkB:kB≠0) (hfa:w.frozen? ⟨vb,0,none⟩=false) (hfe:w.frozen? ⟨vb,kA,none⟩=false):
 Calls Tryz.prog 64 #[.slice (some ⟨b,0,none⟩) n c,.int .i64 i,.slice (some ⟨vb,0,none⟩) 1 vc] w fun e w'=>
  e=.returned (.slice (some ⟨b,0,none⟩) (n+1) c)∧w'=(w.drew.setCells b ((i+1)*29) (cs.drop (i*29))).setCells b (i*29) vs:=by
 have hz2:¬((i:Int)=(n:Int)):=AA
 have hw1:Ag ((i:Int)+1)=(i:Int)+1:=QX
 have hw2:Ag ((n:Int)+1)=(n:Int)+1:=QX
 have hb1:(0:Int)≤(i:Int)+1:=AA
 have hin:i≤n:=AA
 have htn:((i:Int)+1).toNat=i+1:=AA
 have aF4:((n:Int)+1).toNat=n+1:=AA
 have hb2:¬(c=i+1):=AA
 have hb3:(i:Int)≤(n:Int)+1:=AA
 have hb4:¬(c=i):=AA
 have hb5:¬((c:Int)<(n:Int)+1):=AA
 have u:(Tryz.prog.info? 35).map (·.size)=some 29:=A8
 have O:∀w,(Go.sizeOf 35).run Tryz.prog w=.ok 29 w:=fun w=>by
  cases U:Tryz.prog.info? 35 with
  |none=>simp[U]at u
  |some i=>
   have h0:i.size=29:=by simpa[U]using u
   simp[sizeOf,typeInfo,U,h0]
 have Y:∀Z cb,(callFunc 98 #[.slice (some ⟨vb,0,none⟩) 1 vc,.slice (some ⟨b,(i+1)*29,none⟩) Z cb]).run Tryz.prog w=.ok (.value (.bool false)) w:=fun Z cb=>by
  rw[run_callFunc_extern Tryz.func98 A8 A8 A8 (e:=Extern.SlicesOverlaps.overlaps #[22,22] #[4]) A8,
   Lib.run_overlaps_apart w 22 4 35 X4 29 O ⟨vb,0,none⟩ ⟨b,(i+1)*29,none⟩ 1 vc Z cb hvb tA tB kA kB hsa hsb hkB hfa hfe]
  rfl
 have z:(cs.drop (i*29)).length=(n-i)*29:=by rw[Kw,hcl,Nat.sub_mul]
 have I:∀ty BD sc,(Builtin.copy_ #[22,22] ty #[.slice (some ⟨b,(i+1)*29,none⟩) (n-i) BD,.slice (some ⟨b,i*29,none⟩) (n+1-i) sc]).run Tryz.prog w.drew=.ok (goInt (n-i:Nat)) (w.drew.setCells b ((i+1)*29) (cs.drop (i*29))):=fun ty BD sc=>
  aF9 w.drew _ _ ty 35 b ((i+1)*29) (n-i) BD ⟨b,i*29,none⟩ (n+1-i) sc 29 (n-i) (cs.drop (i*29)) X4 u aFB z
   (fun j v m=>by rw[kY];exact hcs (i*29+j) v (by rwa [Pq]at m))
   (fun j m=>hsp _ aLX) (fun j m=>hfz _ aLX) (fun v hv=>h1c v (aOv hv))
 obtain⟨W1,q⟩:∃W1,W1=w.drew.setCells b ((i+1)*29) (cs.drop (i*29)):=⟨_,rfl⟩
 have J:∀k,k<(n+1)*29→(W1.cell? ⟨b,k,none⟩).isSome=true:=fun k hk=>by
  rw[q];exact isSome_setCells b (cs.drop (i*29)) ((i+1)*29) w.drew (fun j m=>hsp _ aLX) _ (hsp k hk)
 have L:∀(W:World),(∀x,W.cell? x=W1.cell? x)→(∀x,W.frozen? x=W1.frozen? x)→∀ty BD,(Builtin.copy_ #[22,22] ty #[.slice (some ⟨b,i*29,none⟩) (n+1-i) BD,.slice (some ⟨vb,0,none⟩) 1 vc]).run Tryz.prog W=.ok (goInt (1:Nat)) (W.setCells b (i*29) vs):=fun W M hWf ty BD=>
  aF9 W _ _ ty 35 b (i*29) (n+1-i) BD ⟨vb,0,none⟩ 1 vc 29 1 vs X4 u aFB (by rw[hvl])
   (fun j v m=>by
    rw[kY,M,q,World.cell?_setCells_out b _ _ _ _ (fun h _=>absurd h hvb),JI]
    exact hvs j v m)
   (fun j m=>by rw[M];exact J _ AA) (fun j m=>by rw[hWf,q,World.frozen?_setCells];exact hfz _ AA) h1v
 rw[←q]at I;have mixed:Tryz.prog.follows .mixedOrders=true:=A8
 go_enter Tryz.func64,Tryz.ntmps64
 go_wp2_with (simp only[Y])
 go_region_law_o (refine step_copy_runI rfl _ _ 22 22 rfl _ _ aBE aBE (I _ _ _) ?_)
 go_wp2_with (at_builtin;refine wpList_copy_runI _ rfl _ _ 22 22 rfl _ _ rfl rfl (L _ (fun _=>rfl) (fun _=>rfl) _ _) ?_)
 go_ret
 first|exact⟨rfl,rfl⟩|exact⟨rfl,by rw[q]⟩
set_option maxHeartbeats 4000000 in
set_option maxRecDepth 100000 in
def ai8 (b n c i vb vc:Nat) (cs vs:List Value) (w:World) (hi:i<n) (hnc:n≤c) (hroom:c<n+1) (hbig:(n+1)*376≤140737488355328)
 (hcl:cs.length=n*29) (hvl:vs.length=29)
 (hcs:∀j v,cs[j]? =some v→w.cell? ⟨b,j,none⟩=some v) (hvs:∀j v,vs[j]? =some v→w.cell? ⟨vb,j,none⟩=some v) (h1c:∀v∈cs,v.oneCell'=true) (h1v:∀v∈vs,v.oneCell'=true):
 Calls Tryz.prog 64 #[.slice (some ⟨b,0,none⟩) n c,.int .i64 i,.slice (some ⟨vb,0,none⟩) 1 vc] w fun e w'=>∃G ROW,e=.returned (.slice (some ⟨w.heap.size,0,none⟩) (n+1) G)∧n+1≤G∧G≤maxLen∧G*29≤ROW.size∧ROW.toList.take (i*29)=cs.take (i*29)∧
  w'=(((w.alloc (.cells ROW 35)).drew.setCells w.heap.size (i*29) vs).drew).setCells w.heap.size ((i+1)*29) (cs.drop (i*29)):=by
 have hE:GN Tryz.prog 22 35 29 376:=LV A8;obtain⟨i0,z0,Z,hz0,hzs,hzb,hzc⟩:=hE.info;have hsz:(Tryz.prog.info? 35).map (·.size)=some 29:=by rw[Z];simp[hzs]
 have mixed:Tryz.prog.follows .mixedOrders=true:=A8
 have hz2:¬((i:Int)=(n:Int)):=AA
 have hz3:(c:Int)<(n:Int)+1:=AA
 have hil:i*29<cs.length:=AA
 have hbw:b<w.heap.size:=block_lt_of_cell (hcs 0 _ (D9 AA));have hvw:vb<w.heap.size:=block_lt_of_cell (hvs 0 _ (D9 AA));have hkk:(n:Int)+1-(i:Int)=((n+1-i:Nat):Int):=AA
 have M:i+(n+1-i)=n+1:=AA
 have O:(cs.take (i*29)).length=i*29:=aBe
 have J:(Builtin.firstCells i0.size i (.slice (some ⟨b,0,none⟩) i c)).run Tryz.prog w.drew=.ok (cs.take (i*29)).toArray w.drew:=by
  rw[hzs]
  exact run_firstCells_some w.drew 29 i ⟨b,0,none⟩ i c (cs.take (i*29)) (by rw[O]) (fun j v m=>by
   rw[kY,JI];rw[oZ]at m;split at m
   ·exact hcs j v m
   cases m)
 have I:∀ty,(Builtin.append_ #[22,3] ty #[.slice (some ⟨b,0,none⟩) i c,.int .i64 ((n:Int)+1-(i:Int))]).run Tryz.prog w=
  .ok (.slice (some ⟨w.heap.size,0,none⟩) (n+1) (grownCap w (n+1) c 35)) (w.drew.alloc (.cells ((cs.take (i*29)).toArray++Builtin.zeroCells z0.cells (n+1-i)++Builtin.zeroCells z0.cells (grownCap w (n+1) c 35-(n+1))) 35)):=fun ty=>by
  have h:=Lib.run_append_grow_zeros w 22 3 ty 35 i0 z0 .i64 .i64 hE.und A8 Z hz0 (some ⟨b,0,none⟩) i c (cs.take (i*29)) J (n+1-i) AA AA AA AA (by rw[hzb];omega) (by rw[hzb,M];exact growslice_fits AA AA);rw[M]at h;rw[hkk];exact h
 have hGn:n+1≤grownCap w (n+1) c 35:=grownCap_ge w _ _ _;have U:=grownCap_le_maxLen w (n+1) c 35 aEY;obtain⟨G,hG⟩:∃G,G=grownCap w (n+1) c 35:=⟨_,rfl⟩
 obtain⟨ROW,q⟩:∃ROW:Array Value,ROW=(cs.take (i*29)).toArray++Builtin.zeroCells z0.cells (n+1-i)++Builtin.zeroCells z0.cells (G-(n+1)):=⟨_,rfl⟩
 rw[←hG]at I hGn U;rw[←q]at I
 have hRl:ROW.size=G*29:=by
  rw[q];simp[Builtin.zeroCells,hzc];omega
 have hRt:ROW.toList.take (i*29)=cs.take (i*29):=by
  rw[q];simp[Hr];rw[oD O]
 obtain⟨W1,u⟩:∃W1,W1=w.drew.alloc (.cells ROW 35):=⟨_,rfl⟩
 rw[←u]at I
 have hN:∀j,j<(n+1)*29→(W1.cell? ⟨w.heap.size,j,none⟩).isSome=true:=fun j m=>by
  rw[u,World.cell?_alloc_at (w:=w.drew) ROW _ w.heap.size j rfl,aA2 AA];rfl
 have hNf:∀j,W1.frozen? ⟨w.heap.size,j,none⟩=false:=fun j=>by rw[u];exact World.frozen?_alloc_at (w:=w.drew) ROW _ w.heap.size j rfl
 have hOb:∀j v,w.cell? ⟨b,j,none⟩=some v→W1.cell? ⟨b,j,none⟩=some v:=fun j v h=>by rw[u,World.cell?_alloc_past (w:=w.drew) _ b j hbw];exact h
 have hOv:∀j v,w.cell? ⟨vb,j,none⟩=some v→W1.cell? ⟨vb,j,none⟩=some v:=fun j v h=>by rw[u,World.cell?_alloc_past (w:=w.drew) _ vb j hvw];exact h
 have hcpA:∀(W:World),(∀x,W.cell? x=W1.cell? x)→(∀x,W.frozen? x=W1.frozen? x)→∀ty BD,(Builtin.copy_ #[22,22] ty #[.slice (some ⟨w.heap.size,i*29,none⟩) (n+1-i) BD,.slice (some ⟨vb,0,none⟩) 1 vc]).run Tryz.prog W=.ok (goInt (1:Nat)) (W.setCells w.heap.size (i*29) vs):=fun W z Y ty BD=>
  aF9 W _ _ ty 35 w.heap.size (i*29) (n+1-i) BD ⟨vb,0,none⟩ 1 vc 29 1 vs hE.und hsz aFB (by rw[hvl])
   (fun j v m=>by rw[kY,z,JI];exact hOv _ v (hvs j v m))
   (fun j m=>by rw[z];exact hN _ AA) (fun j m=>by rw[Y];exact hNf _) h1v
 have hG63:G≤9223372036854775807:=by unfold maxLen at U;omega
 have hGi:¬(G=i):=AA
 have hGim:¬(G=i+1):=AA
 have hci:¬(c=i):=AA
 have hbN:b≠w.heap.size:=AA
 have hdl:(cs.drop (i*29)).length=(n-i)*29:=by rw[Kw,hcl,Nat.sub_mul]
 have L:∀(W:World),(∀x,W.cell? x=(W1.setCells w.heap.size (i*29) vs).cell? x)→(∀x,W.frozen? x=(W1.setCells w.heap.size (i*29) vs).frozen? x)→∀ty BD sc,(Builtin.copy_ #[22,22] ty #[.slice (some ⟨w.heap.size,(i+1)*29,none⟩) (n-i) BD,.slice (some ⟨b,i*29,none⟩) (n-i) sc]).run Tryz.prog W=.ok (goInt (n-i:Nat)) (W.setCells w.heap.size ((i+1)*29) (cs.drop (i*29))):=fun W z Y ty BD sc=>
  aF9 W _ _ ty 35 w.heap.size ((i+1)*29) (n-i) BD ⟨b,i*29,none⟩ (n-i) sc 29 (n-i) (cs.drop (i*29)) hE.und hsz aFB hdl
   (fun j v m=>by
    rw[kY,z,World.cell?_setCells_out _ _ _ _ _ (fun h _=>absurd h hbN)]
    exact hOb _ v (hcs (i*29+j) v (by rwa [Pq]at m)))
   (fun j m=>by rw[z];exact isSome_setCells _ vs (i*29) W1 (fun t ht=>hN _ AA) _ (hN _ (by rw[hdl]at m;omega)))
   (fun j m=>by rw[Y,World.frozen?_setCells];exact hNf _) (fun v hv=>h1c v (aOv hv))
 subst u;have hE1:∀x,((w.alloc (.cells ROW 35)).drew).cell? x=(w.drew.alloc (.cells ROW 35)).cell? x:=fun x=>rfl;have hE2:∀x,((w.alloc (.cells ROW 35)).drew).frozen? x=(w.drew.alloc (.cells ROW 35)).frozen? x:=fun x=>rfl;have hF1:∀x,(((w.alloc (.cells ROW 35)).drew.setCells w.heap.size (i*29) vs).drew).cell? x=((w.drew.alloc (.cells ROW 35)).setCells w.heap.size (i*29) vs).cell? x:=fun x=>rfl;have hF2:∀x,(((w.alloc (.cells ROW 35)).drew.setCells w.heap.size (i*29) vs).drew).frozen? x=((w.drew.alloc (.cells ROW 35)).setCells w.heap.size (i*29) vs).frozen? x:=fun x=>rfl;have hw1:Ag ((i:Int)+1)=(i:Int)+1:=QX
 have hw2:Ag ((n:Int)+1)=(n:Int)+1:=QX
 have hw3:Ag ((n:Int)+1-(i:Int))=(n:Int)+1-(i:Int):=QX
 have hb1:(0:Int)≤(i:Int)+1:=AA
 have hin:i≤n:=AA
 have htn:((i:Int)+1).toNat=i+1:=AA
 have hb3:(i:Int)≤(n:Int):=AA
 clear hkk M J q hG hil O
 go_enter Tryz.func64,Tryz.ntmps64
 go_wp2_with (first
  |(at_builtin;refine aI1 _ rfl _ _ _ _ rfl _ _ rfl rfl _ _ (I _) ?_)
  |(at_builtin;refine wpList_copy_runI _ rfl _ _ 22 22 rfl _ _ rfl rfl (hcpA _ hE1 hE2 _ _) ?_)
  |(at_builtin;refine wpList_copy_runI _ rfl _ _ 22 22 rfl _ _ rfl rfl (L _ (fun _=>rfl) (fun _=>rfl) _ _ _) ?_))
 go_region_law_o (refine step_copy_runI rfl _ _ 22 22 rfl (.slice (some ⟨w.heap.size,(i+1)*29,none⟩) (n-i) (G-(i+1))) (.slice (some ⟨b,i*29,none⟩) (n-i) (c-i)) aBE aBE (L _ hF1 hF2 3 (G-(i+1)) (c-i)) ?_)
 go_wp2
 go_ret
 exact⟨G,ROW,rfl,hGn,U,aT hRl.symm,hRt,rfl⟩
def putAt (j:Array Value):Nat→List Value→Array Value
 |_,[]=>j
 |o,v::r=>putAt (j.setIfInBounds o v) (o+1) r
def ZO :∀(vs:List Value) (o:Nat) (j:Array Value),(putAt j o vs).size=j.size
 | [],_,_=>rfl
 |v::r,o,j=>by rw[putAt,ZO r];simp
def uP :∀(vs:List Value) (o:Nat) (m:Array Value),o+vs.length≤m.size→(putAt m o vs).toList=m.toList.take o++vs++m.toList.drop (o+vs.length)
 | [],o,m,_=>by simp[putAt]
 |v::r,o,m,h=>by
  simp only[Fa]at h;rw[putAt,uP r (o+1) _ DU,aP1];refine ZB fun j=>?_;simp only[Hr,List.getElem?_append,FY,eS,TM,oZ,aGx,Pq,Fa,X5,aQp]
  grind
def vP (b:Nat):∀(vs:List Value) (o:Nat) (w:World) (j:Array Value) (e:TypeId) (fr:Nat×Nat),w.heap[b]? =some (.cells j e fr)→(w.setCells b o vs).heap[b]? =some (.cells (putAt j o vs) e fr)
 | [],_,_,_,_,_,h=>h
 |v::r,o,w,j,e,fr,h=>by
  rw[World.setCells,putAt];refine vP b r (o+1) _ _ e fr ?_;simp[World.setCell,Ol,h]
set_option maxHeartbeats 4000000 in
set_option maxRecDepth 100000 in
def atF {v:Value} {n vb vc:Nat} {xs news:List Value} {w:World} (hown:nG w 35 29 v n xs) (hsrc:VP w (.slice (some ⟨vb,0,none⟩) 1 vc) 1 29 news) (hb:(n+1)*376≤140737488355328):
 Calls Tryz.prog 64 #[v,.int .i64 n,.slice (some ⟨vb,0,none⟩) 1 vc] w fun e w'=>∃v',e=.returned v'∧nG w' 35 29 v' (n+1) (xs++news)∧w.grownBy w' v.ownBlock∧∀g,D8 v'=some g→D8 v=some g∨w.heap.size≤g:=by
 have hE:GN Tryz.prog 22 35 29 376:=LV A8;obtain⟨v',w',q,u,z,I⟩:=aL2 (ty:=22) hE hown hsrc hb aEY;have mixed:Tryz.prog.follows .mixedOrders=true:=A8
 rcases hown.2 with⟨rfl,L⟩|⟨g,cap,M,rfl,_,Y,O,j,U,m⟩
 ·subst L
  go_enter Tryz.func64,Tryz.ntmps64
  go_wp2_with (at_builtin;refine aI1 _ rfl _ _ _ _ rfl _ _ rfl rfl _ _ q ?_)
  go_ret
  exact⟨v',rfl,u,z,I⟩
 have J:cap≤9223372036854775807:=by unfold maxLen at j;omega
 go_enter Tryz.func64,Tryz.ntmps64
 go_wp2_with (at_builtin;refine aI1 _ rfl _ _ _ _ rfl _ _ rfl rfl _ _ q ?_)
 all_goals (go_ret;exact⟨v',rfl,u,z,I⟩)
def qB (b:Nat):∀(vs:List Value) (o:Nat) (w:World),(w.setCells b o vs).os=w.os∧(w.setCells b o vs).tape=w.tape∧(w.setCells b o vs).output=w.output∧(w.setCells b o vs).heap.size=w.heap.size∧∀i,i≠b→(w.setCells b o vs).heap[i]? =w.heap[i]?
 | [],_,_=>⟨rfl,rfl,rfl,rfl,fun _ _=>rfl⟩
 |v::r,o,w=>by
  obtain⟨j,m,q,u,z⟩:=qB b r (o+1) (w.setCell ⟨b,o,none⟩ v);rw[World.setCells];refine⟨j,m,q,by rw[u];simp[World.setCell],fun i hi=>?_⟩;rw[z i hi];simp[World.setCell,Ol,Ne.symm hi]
def anT {j:Array Value} {xs vs:List Value} {a N k:Nat} (q:j.toList.take N=xs) (hl:xs.length=N) (m:vs.length=k) (ha:a≤N) (hs:N+k≤j.size):
 (putAt (putAt j (a+k) (xs.drop a)) a vs).toList.take (N+k)=xs.take a++vs++xs.drop a:=by
 have hd:(xs.drop a).length=N-a:=by rw[Kw,hl]
 rw[uP vs a _ (by rw[ZO];omega),uP (xs.drop a) (a+k) j AA,m,hd]
 have u:(j.toList.take (a+k)++xs.drop a++j.toList.drop (a+k+(N-a))).take a=xs.take a:=by
  rw[Hr,List.take_append_of_le_length DU,aOW,←q,aOW,yL AA,yL ha]
 have z:(j.toList.take (a+k)++xs.drop a++j.toList.drop (a+k+(N-a))).drop (a+k)=xs.drop a++j.toList.drop (a+k+(N-a)):=by
  rw[Hr,List.drop_left' DU]
 rw[u,z,←Hr,oD (by simp[hd,m,hl];omega)]
def arJ {j:Array Value} {xs vs:List Value} {a N k:Nat} (q:j.toList.take a=xs.take a) (hl:xs.length=N) (m:vs.length=k) (ha:a≤N) (hs:N+k≤j.size):
 (putAt (putAt j a vs) (a+k) (xs.drop a)).toList.take (N+k)=xs.take a++vs++xs.drop a:=by
 have hd:(xs.drop a).length=N-a:=by rw[Kw,hl]
 rw[uP (xs.drop a) (a+k) _ (by rw[ZO];omega),uP vs a j AA,m,hd,q];have u:(xs.take a++vs++j.toList.drop (a+k)).take (a+k)=xs.take a++vs:=oD (by simp[m,hl];omega);rw[u,oD (by simp[hd,m,hl];omega)]
def yj {w:World} {g n:Nat} {m:Array Value} {xs:List Value} {T:TypeId} {fr:Nat×Nat} (q:w.heap[g]? =some (.cells m T fr)) (u:m.toList.take n=xs) (j:Nat) (v:Value) (h:xs[j]? =some v):w.cell? ⟨g,j,none⟩=some v:=by
 unfold World.cell?;simp only[q];rw[←u,oZ]at h;split at h
 ·simpa using h
 cases h
def aht {w:World} {g:Nat} {m:Array Value} {T:TypeId} {fr:Nat×Nat} (q:w.heap[g]? =some (.cells m T fr)) (j:Nat) (h:j<m.size):(w.cell? ⟨g,j,none⟩).isSome=true:=by
 unfold World.cell?;simp[q,h]
def aMh {w:World} {g:Nat} {m:Array Value} {T:TypeId} (q:w.heap[g]? =some (.cells m T (0,0))) (j:Nat):w.frozen? ⟨g,j,none⟩=false:=by
 unfold World.frozen?;simp[q]
def aic {v:Value} {n vb vc i:Nat} {xs m:List Value} {w:World} (hi:i≤n) (I:nG w 35 29 v n xs) (h1:∀u∈xs,u.oneCell'=true) (hx:nG w 35 29 (.slice (some ⟨vb,0,none⟩) 1 vc) 1 m) (Y:∀u∈m,u.oneCell'=true) (hne:D8 v≠some vb) (hb:(n+1)*376≤140737488355328):
 Calls Tryz.prog 64 #[v,.int .i64 i,.slice (some ⟨vb,0,none⟩) 1 vc] w fun e w'=>∃v',e=.returned v'∧nG w' 35 29 v' (n+1) (xs.take (i*29)++m++xs.drop (i*29))∧Turns v w w'∧∀g,D8 v'=some g→D8 v=some g∨w.heap.size≤g:=by
 have J:=I.1;have L:m.length=29:=by have :=hx.1;omega
 rcases hx.2 with⟨e0,_⟩|⟨vb',aF5,aFq,e0,_,M,hvn,_,hvs,Z⟩
 ·cases e0
 injection e0 with e1 _ e3
 injection e1 with e1
 injection e1 with e1
 subst e1 e3;rcases ak i n with hin|hin
 ·rcases I.2 with⟨_,h0⟩|⟨g,cap,U,rfl,_,hg,hnc,hcm,hcs,z⟩
  ·omega
  have hgv:vb≠g:=fun e=>hne qo;have hil:i*29≤n*29:=Js _ hi;rcases ak n cap with q|q
  ·have hfit:(n+1)*29≤U.size:=Eh (Js _ q) hcs;refine(ao5 g n cap i vb vc xs m w hin q (by unfold maxLen at hcm;omega) hgv J L (yj hg z) (fun j hj=>aht hg j AA) (fun j _=>aMh hg j) (yj M Z) h1 Y 35 35 aFq.size U.size (by simp[World.shape?,M]) (by simp[World.shape?,hg]) AA (aMh M 0) (aMh M _)).mono ?_;rintro e w' ⟨rfl,rfl⟩;have hh:=vP g m (i*29) _ _ _ _ (vP g (xs.drop (i*29)) ((i+1)*29) w.drew U 35 (0,0) hg);obtain⟨a1,a2,a3,a4,a5⟩:=qB g (xs.drop (i*29)) ((i+1)*29) w.drew;obtain⟨b1,b2,b3,b4,b5⟩:=qB g m (i*29) (w.drew.setCells g ((i+1)*29) (xs.drop (i*29)));refine⟨_,rfl,⟨?_,.inr ⟨g,cap,_,rfl,EZ _,hh,q,hcm,by rw[ZO,ZO];exact hcs,?_⟩⟩,⟨b1.trans a1,b2.trans a2,b3.trans a3,by rw[b4,a4];exact Dk _,fun c hc hcb=>?_⟩,fun g' hg'=>.inl hg'⟩
   ·simp[L,J];omega
   ·have :=anT (a:=i*29) (k:=29) z J L hil AA;rw[show(i+1)*29=i*29+29 by omega,show(n+1)*29=n*29+29 by omega];exact this
   have O:c≠g:=fun e=>hcb qo;rw[b5 c O,a5 c O];rfl
  refine(ai8 g n cap i vb vc xs m w hin hnc AA hb J L (yj hg z) (yj M Z) h1 Y).mono ?_;rintro e w' ⟨G,ROW,rfl,hGn,hGm,hGs,hRt,rfl⟩
  have hal:((w.alloc (.cells ROW 35)).drew).heap[w.heap.size]? =some (.cells ROW 35 (0,0)):=by
   show(w.heap.push (.cells ROW 35 (0,0)))[w.heap.size]? =_;simp
  have hh:=vP w.heap.size (xs.drop (i*29)) ((i+1)*29) _ _ _ _ (show(((w.alloc (.cells ROW 35)).drew.setCells w.heap.size (i*29) m).drew).heap[w.heap.size]? =_ from vP w.heap.size m (i*29) _ ROW 35 (0,0) hal);obtain⟨a1,a2,a3,a4,a5⟩:=qB w.heap.size m (i*29) (w.alloc (.cells ROW 35)).drew;obtain⟨b1,b2,b3,b4,b5⟩:=qB w.heap.size (xs.drop (i*29)) ((i+1)*29) ((w.alloc (.cells ROW 35)).drew.setCells w.heap.size (i*29) m).drew;refine⟨_,rfl,⟨?_,.inr ⟨w.heap.size,G,_,rfl,EZ _,hh,hGn,hGm,by rw[ZO,ZO];exact hGs,?_⟩⟩,⟨b1.trans a1,b2.trans a2,b3.trans a3,?_,fun c hc hcb=>?_⟩,fun g' hg'=>.inr (by simp[D8]at hg';omega)⟩
  ·simp[L,J];omega
  ·have :=arJ (a:=i*29) (k:=29) hRt J L hil (by have :=Js 29 hGn;omega);rw[show(i+1)*29=i*29+29 by omega,show(n+1)*29=n*29+29 by omega];exact this
  ·rw[b4];show w.heap.size≤((w.alloc (.cells ROW 35)).drew.setCells w.heap.size (i*29) m).heap.size;rw[a4];show w.heap.size≤(w.heap.push (.cells ROW 35 (0,0))).size;simp
  have O:c≠w.heap.size:=AA
  rw[b5 c O];show((w.alloc (.cells ROW 35)).drew.setCells w.heap.size (i*29) m).heap[c]? =_;rw[a5 c O];show(w.heap.push (.cells ROW 35 (0,0)))[c]? =_;simp[aJj,O]
 have hni:i=n:=AA
 subst hni;refine(atF I ⟨AA,Y,.inl ⟨_,_,rfl,fun j u hj=>by rw[kY,JI];exact yj M Z j u hj⟩⟩ hb).mono ?_;rintro e w' ⟨v',rfl,h2,h3,h4⟩;refine⟨v',rfl,?_,⟨h3.os,h3.tape,h3.output,h3.size,fun k hk hne'=>h3.block k hk ?_⟩,h4⟩
 ·rw[QN AA,aBm AA,P6];exact h2
 rcases I.2 with⟨rfl,_⟩|⟨g,cap,U,rfl,_⟩
 ·simp[Value.ownBlock]
 intro e;exact hne' e.symm
def apT {j:Array Value} (hs:j.size=3):j= #[j.getD 0 undef,j.getD 1 undef,j.getD 2 undef]:=by
 refine ZI (by simp[hs]) fun i q m=>?_;simp at m;have :i=0∨i=1∨i=2:=AA
 rcases this with rfl|rfl|rfl<;>simp[Array.getD,hs]
def al0 {ok:Nat→Prop} {w:World} {H:List BO} {xs:List AY} {vs:List Value} (h:Fg ok w H xs vs) (n:Nat):Fg ok w H (xs.take n) (vs.take n):=by
 refine⟨by rw[FY,FY,h.1],fun i hi=>?_⟩;rw[FY]at hi;have :=h.2 i AA;rw[uU,uU]at this ⊢;rw[Na AA,Na AA];exact this
def akG {ok:Nat→Prop} {w:World} {H:List BO} {xs:List AY} {vs:List Value} (h:Fg ok w H xs vs) (n:Nat):Fg ok w H (xs.drop n) (vs.drop n):=by
 refine⟨by rw[Kw,Kw,h.1],fun i hi=>?_⟩;rw[Kw]at hi;have :=h.2 (n+i) AA;rw[uU,uU]at this ⊢;rw[Pq,Pq];exact this
def aaP {ok:Nat→Prop} {w:World} {H:List BO} {xs:List AY} {vs:List Value} (h:Fg ok w H xs vs):∀u∈vs,u.oneCell'=true:=fun u m=>by
 obtain⟨i,hi,rfl⟩:=GZ m;have j:=h.2 i (by rw[←h.1];exact hi);have :=j.2.leaf j.1
 rwa [uU,D9 hi]at this
def aSu {size:Nat}:∀{es:List D} (i:Nat),(∀x∈es,x.cells.length=size)→flat (es.take i)=(flat es).take (i*size)
 | [],i,_=>Tn
 |x::l,0,_=>Tn
 |x::l,i+1,h=>by
  have j:(x.cells.map AY.d).length=size:=by rw[CM];exact h x (Ep ..)
  rw[List.take_succ_cons,WR,WR,aSu i fun y m=>h y (FW _ m),Xn,aCY,Qm,←j,List.take_length_add_append]
def abN {size:Nat}:∀{es:List D} (i:Nat),(∀x∈es,x.cells.length=size)→flat (es.drop i)=(flat es).drop (i*size)
 | [],i,_=>Tn
 |x::l,0,_=>Tn
 |x::l,i+1,h=>by
  have j:(x.cells.map AY.d).length=size:=by rw[CM];exact h x (Ep ..)
  rw[List.drop_succ_cons,WR,abN i fun y m=>h y (FW _ m),Xn,aCY,Qm,←j,List.drop_length_add_append]
def Cb.kill {C:EN} {ok:Nat→Prop} {H:List BO} {es:List Ar} {w:World} (u:Cb C ok H es w) (k:Nat):Cb C ok H (es.set k .dead) w:=
 (u.change (ok':=ok) (H':=H) (w':=w) (es':=es.set k .dead) (fun _=>False) rfl rfl rfl (Dk _) (fun _ _ _=>rfl) (fun _ h=>h.elim) (fun _ h=>h) (fun _ h=>.inl h) (.refl _) (by simpa using u.hlen) (by
  intro j e' h' m q;by_cases z:k=j
  ·subst z;rw[aGx]at m;simp only[JZ]at m;split at m
   ·cases m;exact .inr ⟨trivial,fun h=>GL⟩
   cases m
  rw[YJ z]at m
  exact .inl ⟨m,q,fun _ _ _ h=>h⟩)).1
def aMj {α:Type} (l:List α) (i:Int) (m:List α):Option (List α):=match m with
 | [x]=>if(0≤i∧i≤(l.length:Int))∧l.length≤34359738368 then some (l.take i.toNat++x::l.drop i.toNat)else none
 |_=>none
def auD {α:Type} {e:α→D} (hk:∀x,(e x).cells.length=29) (l:List α) (q:Int) (m r:List α) (h:aMj l q m=some r):
 BG 64 [.aZ 0,.d (Aa q),.aZ 1] [.arr 35 29 (l.map e),.arr 35 29 (m.map e)] (.aZ 2) [.dead,.dead,.arr 35 29 (r.map e)]:=by
 unfold aMj at h;split at h
 case h_2=>cases h
 rename_i x;split at h
 case isFalse=>cases h
 rename_i hc;obtain⟨⟨hq0,hql⟩,hb⟩:=hc;obtain rfl:=CO h;obtain⟨i,rfl⟩:∃i:Nat,q=i:=⟨q.toNat,AA⟩
 have hi:i≤l.length:=AA
 rw[Z9];intro ok X H w M J hs ha;have h0:=ha 0 Ap;have hq:=ha 1 Ap;have h2:=ha 2 Ap;rw[apT hs];obtain⟨hd,hh,hok⟩:=Fz J.ent J.hlen (k:=0) rfl;obtain⟨O,U,Y⟩:=Fz J.ent J.hlen (k:=1) rfl;obtain hv:=Ph h0 hh;obtain hv1:=Ph h2 U
 have hq':M.getD 1 undef=.int .i64 i:=by
  simp only[List.getD,zQ,aIE,NP]at hq;cases hq with |d _ _ hq=>exact DV.ahp hq
 rw[hv,hv1,hq'];obtain⟨hz,Z,xs,how,L⟩:=hok;obtain⟨hz1,aF6,news,u,I⟩:=Y;rw[CM]at how
 obtain⟨g1,c1,hg1⟩:∃g1 c1,O.v=.slice (some ⟨g1,0,none⟩) 1 c1:=by
  rcases u.2 with⟨_,h⟩|⟨g,cap,cur,h,_⟩
  ·cases h
  exact⟨g,cap,h⟩
 have hne:D8 hd.v≠some g1:=fun hb=>by
  have :=J.E5 0 1 _ _ hd O g1 rfl rfl rfl rfl hh U hb (by rw[hg1];rfl);cases this
 rw[hg1]at u ⊢;refine(aic hi how (aaP L) u (aaP I) hne AA).mono ?_;rintro y w' ⟨v',rfl,j,ht,hblk⟩;have hlen:l.length+1=((l.take i++x::l.drop i).map e).length:=DU
 rw[hlen]at j
 have hfl:flat ((l.take i++x::l.drop i).map e)=(flat (l.map e)).take (i*29)++flat ([x].map e)++(flat (l.map e)).drop (i*29):=by
  rw[←aSu i Z,←abN i Z,←l7,←l7,JU,Ig,Ym,cG,Hr];rfl
 have hg:=J.turn (e:=.arr 35 29 ((l.take i++x::l.drop i).map e)) (h':=⟨v',29⟩) (w':=w') (k:=0) rfl rfl hh ht.os ht.tape ht.output ht.size ht.block (fun g hg=>⟨vF j hg,hblk g hg⟩) (fun hgr=>⟨rfl,fun y hy=>by
  obtain⟨z,_,rfl⟩:=Ee.1 hy
  exact hk z,_,j,by rw[hfl];exact(aEo (aEo (al0 L _) I) (akG L _)).mono hgr (.push _ _)⟩)
 refine⟨v',ok,H++[⟨v',29⟩],rfl,hg.1.kill 1,?_⟩;have hl:H.length=2:=J.hlen;have hr:(H++[(⟨v',29⟩:BO)])[2]? =some ⟨v',29⟩:=by rw[←hl];simp
 rcases j.2 with⟨rfl,_⟩|⟨g,cap,cur,rfl,_⟩
 ·exact .aZ 2 _ _ _ 29 hr
 exact .aZ 2 _ _ _ 29 hr
end Go.Proofs.YtldfpencimjjlaaGreat
end
section
namespace Go.Proofs.YtldfpencimjjlaaGreat
open Go.RowKit
section
variable {P : Program} {o : Oper} {es : List Ar}
def V3 {f:FuncId} {ops:Array Operand} {ats:Array TypeId} (eH:List AY) {gK:List AY} {j res':AY} {E':List Ar} (m:Am P f gK [] j E') (q:o.op=.call { callee:=.value (.func f),args:=ops,argTypes:=ats }) (u:Dl P f=true:=by kernel_rfl) (z:E'.all Ar.closed=true:=by kernel_rfl)
 (ha:Mc [] eH gK:=by repeat (first|exact trivial|refine⟨.inl rfl,?_⟩|refine⟨.inr (.inr ⟨rfl,rfl⟩),?_⟩)) (hl:ops.toList.length=eH.length:=by kernel_rfl) (I:j.up [] es.length=res':=by kernel_rfl):BU P o (F9 ops.toList eH) es res' (es++E'):=aQv m u z ha hl I q
def abW {f:FuncId} {ops:Array Operand} {ats:Array TypeId} (eH:List AY) {gK:List AY} {j res':AY} (m:Am P f gK [] j []) (q:o.op=.call { callee:=.value (.func f),args:=ops,argTypes:=ats }) (u:Dl P f=true:=by kernel_rfl)
 (ha:Mc [] eH gK:=by repeat (first|exact trivial|refine⟨.inl rfl,?_⟩|refine⟨.inr (.inr ⟨rfl,rfl⟩),?_⟩)) (hl:ops.toList.length=eH.length:=by kernel_rfl) (z:j.up [] es.length=res':=by kernel_rfl):BU P o (F9 ops.toList eH) es res' es:=adM m u ha hl z q
def ER {f:FuncId} {ops:Array Operand} {ats:Array TypeId} (srcs:List DW) (eH:List AY) {gK:List AY} {E E':List Ar} {j res':AY} (m:Am P f gK E j E') (q:o.op=.call { callee:=.value (.func f),args:=ops,argTypes:=ats }) (u:Dl P f=true:=by kernel_rfl) (z:RY srcs es E E'=true:=by kernel_rfl)
 (hE:TT srcs es srcs E:=by first|exact trivial|exact LU A8 trivial) (ha:Mc srcs eH gK:=by repeat (first|exact trivial|refine⟨.inl rfl,?_⟩|refine⟨⟨0,rfl,rfl⟩,?_⟩|refine⟨⟨1,rfl,rfl⟩,?_⟩|refine⟨⟨2,rfl,rfl⟩,?_⟩|refine⟨.inr (.inr ⟨rfl,rfl⟩),?_⟩)) (hl:ops.toList.length=eH.length:=by kernel_rfl)
 (I:res'=j.up srcs es.length:=by kernel_rfl):BU P o (F9 ops.toList eH) es res' (LW srcs es E'):=aRn srcs m u z hE ha hl I q
def dV {f:FuncId} {x:Operand} {ops:Array Operand} {ats:Array TypeId} (srcs:List DW) (fi ca eH:List AY) {gK:List AY} {E E':List Ar} {j res':AY} (m:Am P f gK E j E') (q:o.op=.call { callee:=.value x,args:=ops,argTypes:=ats }) (u:Dl P f=true:=by kernel_rfl) (z:RY srcs es E E'=true:=by kernel_rfl)
 (hE:TT srcs es srcs E:=by first|exact trivial|exact LU A8 trivial) (ha:Mc srcs (fi++eH++ca) gK:=by repeat (first|exact trivial|refine⟨.inl rfl,?_⟩|refine⟨⟨0,rfl,rfl⟩,?_⟩|refine⟨⟨1,rfl,rfl⟩,?_⟩|refine⟨⟨2,rfl,rfl⟩,?_⟩|refine⟨.inr (.inr ⟨rfl,rfl⟩),?_⟩)) (hl:ops.toList.length=eH.length:=by kernel_rfl)
 (I:res'=j.up srcs es.length:=by kernel_rfl):BU P o ((x,.fn (.func f) fi ca)::F9 ops.toList eH) es res' (LW srcs es E'):=akY srcs fi ca m u z hE ha hl I q
def aSe {f:FuncId} {x:Operand} {ops:Array Operand} {ats:Array TypeId} (srcs:List DW) (fi ca:List D) (eH:List AY) {gK:List AY} {E E':List Ar} {j res':AY} (m:Am P f gK E j E') (q:o.op=.call { callee:=.value x,args:=ops,argTypes:=ats }) (u:Dl P f=true:=by kernel_rfl) (z:RY srcs es E E'=true:=by kernel_rfl)
 (hE:TT srcs es srcs E:=by first|exact trivial|exact LU A8 trivial) (ha:Mc srcs (fi.map .d++eH++ca.map .d) gK:=by repeat (first|exact trivial|refine⟨.inl rfl,?_⟩|refine⟨⟨0,rfl,rfl⟩,?_⟩|refine⟨⟨1,rfl,rfl⟩,?_⟩|refine⟨⟨2,rfl,rfl⟩,?_⟩|refine⟨.inr (.inr ⟨rfl,rfl⟩),?_⟩)) (hl:ops.toList.length=eH.length:=by kernel_rfl)
 (I:res'=j.up srcs es.length:=by kernel_rfl):BU P o ((x,.d (.fn (.func f) fi ca))::F9 ops.toList eH) es res' (LW srcs es E'):=ahU srcs fi ca m u z hE ha hl I q
end
section
variable {P : Program} {ops : Array Oper} {o : Oper} {rest l : List Oper} {σ : Ak} {K : Exit → Ak → Prop}
def Ch.ca {f:FuncId} {eH:List AY} {j:AY} (m:Am P f eH [] j []) (k:Ch P ops rest (σ.rW o.dst (j.up [] σ.ents.length)) K) (q:Dl P f=true:=by kernel_rfl) (u:Uh σ o=some (f,eH):=by kernel_rfl)
 (hd:eH.all AY.Az=true:=by kernel_rfl) (z:JL ops σ o.guard=some true:=by kernel_rfl):Ch P ops (o::rest) σ K:=.call m q k u hd z
def Ew.ca {σ':Ak} {f:FuncId} {eH:List AY} {j:AY} {rs:List AY} {ess:List (List Ar)} {bs:List Bool} (m:Am P f eH [] j []) (k:Ew P ops rest (σ.rW o.dst (j.up [] σ.ents.length)) rs ess bs σ') (q:Dl P f=true:=by kernel_rfl) (u:Uh σ o=some (f,eH):=by kernel_rfl)
 (hd:eH.all AY.Az=true:=by kernel_rfl) (z:JL ops σ o.guard=some true:=by kernel_rfl):Ew P ops (o::rest) σ (j.up [] σ.ents.length::rs) (σ.ents::ess) (false::bs) σ':=.call m q k u hd z
end
section
variable {P : Program} {ops : Array Oper} {o : Oper} {rest l : List Oper} {σ : Ak} {K : Exit → Ak → Prop}
def Ch.aW [T:Kn P] {M:Ak→Prop} (k:M (SQ (Hz T ops l.length l σ))) (h:(Hz T ops l.length l σ).isSome=true:=by kernel_rfl):Ch P ops l σ (Ko M K):=.aM l.length k rfl h
def Ch.bi [T:Kn P] {A:Type} {b:Bool} {u v z:A} (h:(bif b then u else v)=z) (j:u=z→Ch P ops rest (σ.rW o.dst (.d (.lit (.bool true)))) K:=by exact fun h=>.aW<|Dx) (k2:v=z→Ch P ops rest (σ.rW o.dst (.d (.lit (.bool false)))) K:=by exact fun h=>.aW<|Dx)
 (hs:(Wy T ops σ o).map (fun r=>(r.x,r.E,r.bar))=some (.d (.lit (.bool b)),σ.ents,false):=by kernel_rfl):Ch P ops (o::rest) σ K:=GY h (fun e h=>.c (BI some e) (j h) hs) fun e h=>.c (BI some e) (k2 h) hs
def Di {A:Type} {b:Bool} {u v z:A} {G:Prop} (h:(bif b then u else v)=z) (j:b=true→u=z→G:=by exact fun e i=>aTU) (k2:b=false→v=z→G:=by exact fun e i=>aTU):G:=GY h j k2
def AZ [T:Kn P] {id:Nat} {y:Code} {Q:Exit→Ak→Prop} (k:AP P y (SQ (Hz T ops ops.toList.length ops.toList σ)) Q) (h:(Hz T ops ops.toList.length ops.toList σ).isSome=true:=by kernel_rfl):AP P (.seq (.region id ops false) y) σ Q:=AO (.aW k h)
end
section
variable {P : Program} {ops : Array Oper} {l : List Oper} {σ : Ak} {K : Exit → Ak → Prop}
def Ch.mg (a c:Nat) (x:AY) (j:Ch P ops (l.take (c+1)) σ (Ko (fun s=>s.wipe (List.range' a c)=(σ.wipe (List.range' a c)).rW (some (a+c)) x) K)) (m:Ch P ops (l.drop (c+1)) ((σ.wipe (List.range' a c)).rW (some (a+c)) x) K):Ch P ops l σ K:=.merge (c+1) (List.range' a c) (a+c) x j m
end
def Ad {σ S:Ak} (n w:Nat) (π:List (Nat×Bool)) (j:Us σ.base σ.ents π=true:=by kernel_rfl) (m:S=⟨Kv π (mk n w) σ.slots,Rs σ.ents π,σ.base⟩:=by kernel_rfl):CS σ S:=arF (mk n w) π j m
def OO {α β:Type} {y:α} {g:α→Option (Except Value β)} {r:Except Value β} (h:Kt (.ok y) g=some r):g y=some r:=h
def O4 {α β:Type} {u:Value} {g:α→Option (Except Value β)} {r:Except Value β} (h:Kt (.error u) g=some r):some (.error u)=some r:=h
def Bc :ByteArray:=⟨#[]⟩
def aL6 (k:IntKind) (n:Int):D:=.lit (.int k n)
def aSm :ByteArray:=⟨#[97]⟩
def jV :ByteArray:=⟨#[58]⟩
def rD :ByteArray:=⟨#[33]⟩
def wR :ByteArray:=⟨#[64]⟩
def wL :ByteArray:=⟨#[64,33]⟩
def aBd :ByteArray:=⟨#[33,114,58,97]⟩
def rM :ByteArray:=⟨#[64,97,110,110,58,97]⟩
def as6 :ByteArray:=⟨#[104,105]⟩
def Jv :ByteArray:=⟨#[84,101,120,116]⟩
def KU :ByteArray:=⟨#[78]⟩
def Lu :ByteArray:=⟨#[86,105,97]⟩
def MJ :ByteArray:=⟨#[76,101,118,101,108,115]⟩
def Lj :ByteArray:=⟨#[65,108,108,111,119]⟩
def MO :ByteArray:=⟨#[68,101,110,121]⟩
def Jb :ByteArray:=⟨#[84,97,114,103,101,116]⟩
def Lm :ByteArray:=⟨#[84,104,114,101,97,100]⟩
def EC :Value:=.int .i64 0
def DZ :Value:=.string Bc
def IL :Value:=.slice none 0 0
def aFW :Value:=.agg #[IL,IL,EC,EC,EC,EC,EC,EC,EC]
def aBx :Value:=.agg #[DZ,EC,EC,.bool false,DZ,IL,IL,IL,IL,EC,EC,EC,EC,EC,EC,EC]
def aDe :Value:=.agg #[DZ,EC]
def zC :Value:=.agg #[EC,DZ,DZ,EC,.bool false,DZ,EC,EC,IL,IL,DZ,EC,EC,.bool false,DZ,IL,IL,IL,IL,EC,EC,EC,EC,EC,EC,EC,EC,DZ,EC]
def Sub :Value:=.agg #[DZ,EC]
def aBM :Value:=.agg #[EC,EC,EC]
def aGD :Value:=.agg #[.map none,.map none,.map none]
def aQF :Value:=.agg #[EC,EC]
def aAc :Value:=.agg #[EC,DZ,EC]
def aDC :Value:=.agg #[EC,IL,IL,EC]
def aTq :Value:=.agg #[IL,IL,IL]
def aGI :Value:=.agg #[EC,EC]
def aCF :Value:=.agg #[]
def aCo :Value:=.agg #[IL]
def aDi :Value:=.agg #[EC,EC,EC,EC,EC,EC,EC]
def aEN :Value:=.agg #[IL]
def aaQ :Value:=.agg #[IL,IL,IL,IL,IL]
def aCt :Value:=.agg #[EC,DZ]
def aFu :Value:=.agg #[EC,.nilFunc]
def aBf :Value:=.agg #[EC]
def aDK :Value:=.agg #[]
def Fn2 :Value:=.agg #[EC,EC,EC,EC,EC]
def aBJ :Value:=.agg #[IL,IL]
def aAe :Value:=.agg #[IL,IL]
def aCU :Value:=.agg #[EC,EC,EC,IL]
def aDy :Value:=.agg #[EC,EC,EC]
structure Ht where
 User:ByteArray
 N:Int
def FC (x:Ht):D:=.agg [DY x.User,Aa x.N]
def afZ :Ht:=⟨Bc,0⟩
instance : Inhabited Ht:=⟨afZ⟩
structure Ii where
 Kind:Int
 N:Int
def FP (x:Ii):D:=.agg [Aa x.Kind,Aa x.N]
def amD :Ii:=⟨0,0⟩
instance : Inhabited Ii:=⟨amD⟩
structure Bd where
 Users:(List Ht)
 Kinds:(List Ii)
 User:Int
 Message:Int
 State:Int
 fQ:Int
 jK:Int
 mY:Int
 fC:Int
def Fr (x:Bd):D:=.agg [(BF FC) x.Users,(BF FP) x.Kinds,Aa x.User,Aa x.Message,Aa x.State,Aa x.fQ,Aa x.jK,Aa x.mY,Aa x.fC]
def LD :Bd:=⟨[],[],0,0,0,0,0,0,0⟩
instance : Inhabited Bd:=⟨LD⟩
structure Bj where
 Text:ByteArray
 N:Int
 Target:Int
 Thread:Bool
 Via:ByteArray
 Allow:(List ByteArray)
 gy:(List ByteArray)
 Levels:Bd
def Fh (x:Bj):D:=.agg [DY x.Text,Aa x.N,Aa x.Target,DL x.Thread,DY x.Via,(BF DY) x.Allow,(BF DY) x.gy,(BF FC) x.Levels.Users,(BF FP) x.Levels.Kinds,Aa x.Levels.User,Aa x.Levels.Message,Aa x.Levels.State,Aa x.Levels.fQ,Aa x.Levels.jK,Aa x.Levels.mY,Aa x.Levels.fC]
def ET :Bj:=⟨Bc,0,0,false,Bc,[],[],LD⟩
instance : Inhabited Bj:=⟨ET⟩
structure NT where
 Server:ByteArray
 Sum:Int
def aKt (x:NT):D:=.agg [DY x.Server,Aa x.Sum]
def XK :NT:=⟨Bc,0⟩
instance : Inhabited NT:=⟨XK⟩
structure AB where
 Id:Int
 Room:ByteArray
 aP:ByteArray
 Kind:Int
 State:Bool
 Key:ByteArray
 Time:Int
 Depth:Int
 bC:(List Int)
 bD:(List Int)
 Content:Bj
 Hash:Int
 qc:NT
def BA (x:AB):D:=.agg [Aa x.Id,DY x.Room,DY x.aP,Aa x.Kind,DL x.State,DY x.Key,Aa x.Time,Aa x.Depth,(BF Aa) x.bC,(BF Aa) x.bD,DY x.Content.Text,Aa x.Content.N,Aa x.Content.Target,DL x.Content.Thread,DY x.Content.Via,(BF DY) x.Content.Allow,(BF DY) x.Content.gy,(BF FC) x.Content.Levels.Users,(BF FP) x.Content.Levels.Kinds,Aa x.Content.Levels.User,Aa x.Content.Levels.Message,Aa x.Content.Levels.State,Aa x.Content.Levels.fQ,Aa x.Content.Levels.jK,Aa x.Content.Levels.mY,Aa x.Content.Levels.fC,Aa x.Hash,DY x.qc.Server,Aa x.qc.Sum]
def F6 :AB:=⟨0,Bc,Bc,0,false,Bc,0,0,[],[],ET,0,XK⟩
instance : Inhabited AB:=⟨F6⟩
structure F8 where
 b_:(List Int)
def KZ (x:F8):D:=.agg [(BF Eo) x.b_]
def aBP :F8:=⟨[]⟩
instance : Inhabited F8:=⟨aBP⟩
structure Np where
 az2:Int
 asz:Nat
def Ul (x:Np):D:=.agg [Aa x.az2,ad9 x.asz]
def ao8 :Np:=⟨0,0⟩
instance : Inhabited Np:=⟨ao8⟩
structure SK where
 oN:Int
 nJ:Int
def JO (x:SK):D:=.agg [Aa x.oN,Aa x.nJ]
def aAb :SK:=⟨0,0⟩
instance : Inhabited SK:=⟨aAb⟩
structure Ah where
 Kind:Int
 Key:ByteArray
 Id:Int
def BP (x:Ah):D:=.agg [Aa x.Kind,DY x.Key,Aa x.Id]
def ap2 :Ah:=⟨0,Bc,0⟩
instance : Inhabited Ah:=⟨ap2⟩
structure jo where
 am7:Int
def aqh :jo:=⟨0⟩
instance : Inhabited jo:=⟨aqh⟩
structure VR where
def qE (x:VR):D:=.agg []
def amc :VR:=⟨⟩
instance : Inhabited VR:=⟨amc⟩
structure OB where
 Eb:(List Ah)
 ajR:(List Int)
 asB:(List Int)
def Zt (x:OB):D:=.agg [(BF BP) x.Eb,(BF Aa) x.ajR,(BF Aa) x.asB]
def aAw :OB:=⟨[],[],[]⟩
instance : Inhabited OB:=⟨aAw⟩
structure QT where
 nJ:Int
 Je:Int
 Bo:Int
 asC:(List Int)
def KN (x:QT):D:=.agg [Aa x.nJ,Aa x.Je,Aa x.Bo,(BF Aa) x.asC]
def aqm :QT:=⟨0,0,0,[]⟩
instance : Inhabited QT:=⟨aqm⟩
structure TP where
 aa5:Int
 aa6:ByteArray
def KT (x:TP):D:=.agg [Aa x.aa5,DY x.aa6]
def aom :TP:=⟨0,Bc⟩
instance : Inhabited TP:=⟨aom⟩
structure Vu where
 arC:(List Int)
def uF (x:Vu):D:=.agg [(BF Aa) x.arC]
def ale :Vu:=⟨[]⟩
instance : Inhabited Vu:=⟨ale⟩
structure KC where
 nJ:Int
 zx:Int
 Bo:Int
def OD (x:KC):D:=.agg [Aa x.nJ,Aa x.zx,Aa x.Bo]
def ahy :KC:=⟨0,0,0⟩
instance : Inhabited KC:=⟨ahy⟩
structure O6 where
 Depth:Int
 Id:Int
 Target:Int
def MV (x:O6):D:=.agg [Aa x.Depth,Aa x.Id,Aa x.Target]
def bU :O6:=⟨0,0,0⟩
instance : Inhabited O6:=⟨bU⟩
structure JK where
 Id:Int
 Before:(List Ah)
 After:(List Ah)
 Err:Int
def kW :JK:=⟨0,[],[],0⟩
instance : Inhabited JK:=⟨kW⟩
structure Oy where
 Same:(List Ah)
 Power:(List Int)
 First:(List Ah)
 Others:(List Int)
 Last:(List Ah)
def gQ :Oy:=⟨[],[],[],[],[]⟩
instance : Inhabited Oy:=⟨gQ⟩
def aoZ :Dc Tryz.prog 35 10 10:=Dq A8
def aLV :EL Tryz.prog 31 true 16:=Fq A8
def aPp :(Tryz.prog.info? 31).bind (·.zero)=some (aBx):=A8
def aqN :Dc Tryz.prog 35 8 8:=Dq A8
def aTx :EL Tryz.prog 24 false 1:=Fq A8
def CQ :Tryz.prog.underlying 24=some (.slice 3):=A8
def arM :Dc Tryz.prog 35 9 9:=Dq A8
def akh :Dc Tryz.prog 31 5 5:=Dq A8
def agA :EL Tryz.prog 25 false 1:=Fq A8
def He :Tryz.prog.underlying 25=some (.slice 9):=A8
def alE :Dc Tryz.prog 31 6 6:=Dq A8
def arG :Dc Tryz.prog 31 7 7:=Dq A8
def aoH :Dc Tryz.prog 29 0 0:=Dq A8
def ae7 :EL Tryz.prog 26 false 1:=Fq A8
def IE :Tryz.prog.underlying 26=some (.slice 68):=A8
def apa :Dc Tryz.prog 29 1 1:=Dq A8
def aUM :EL Tryz.prog 27 false 1:=Fq A8
def IZ :Tryz.prog.underlying 27=some (.slice 97):=A8
def amw :Dc Tryz.prog 35 1 1:=Dq A8
def LM :EL Tryz.prog 9 false 1:=Fq A8
def N9 :Tryz.prog.underlying 9=some (.string):=A8
def ajJ :Dc Tryz.prog 35 2 2:=Dq A8
def an4 :Dc Tryz.prog 35 5 5:=Dq A8
def akS :Dc Tryz.prog 31 0 0:=Dq A8
def ahM :Dc Tryz.prog 31 4 4:=Dq A8
def ara :Dc Tryz.prog 35 12 27:=Dq A8
def agn :Dc Tryz.prog 33 0 0:=Dq A8
def Oe :EL Tryz.prog 68 true 2:=Fq A8
def asv :Dc Tryz.prog 68 0 0:=Dq A8
def Ce :Tryz.prog.underlying 22=some (.slice 35):=A8
def Dj :EL Tryz.prog 35 true 29:=Fq A8
def xR :Tryz.prog.underlying 171=some (.slice 5):=A8
def Tz :GN Tryz.prog 171 5 1 1:=LV A8
def Zk :(Tryz.prog.info? 5).bind (·.zero)=some (.int .u8 0):=A8
def VO :Tryz.prog.underlying 3=some (.int .i64):=A8
def ak5 :Tryz.prog.underlying 146=some (.int .u64):=A8
def aai :Tryz.prog.underlying 5=some (.int .u8):=A8
def aqp :Dc Tryz.prog 31 1 1:=Dq A8
def DX :EL Tryz.prog 3 false 1:=Fq A8
def aof :Dc Tryz.prog 31 2 2:=Dq A8
def amL :Dc Tryz.prog 31 3 3:=Dq A8
def ad6 :EL Tryz.prog 4 false 1:=Fq A8
def xO :EL Tryz.prog 29 true 9:=Fq A8
def aaX :(Tryz.prog.info? 29).bind (·.zero)=some (aFW):=A8
def aEv :(Tryz.prog.info? 68).bind (·.zero)=some (Sub):=A8
def afc :Dc Tryz.prog 68 1 1:=Dq A8
def Pn :EL Tryz.prog 97 true 2:=Fq A8
def aSf :(Tryz.prog.info? 97).bind (·.zero)=some (aQF):=A8
def apO :Dc Tryz.prog 97 0 0:=Dq A8
def jW :EL Tryz.prog 23 false 1:=Fq A8
def ak8 :Dc Tryz.prog 97 1 1:=Dq A8
def arY :Dc Tryz.prog 29 2 2:=Dq A8
def anJ :Dc Tryz.prog 29 3 3:=Dq A8
def ag1 :Dc Tryz.prog 29 4 4:=Dq A8
def asr :Dc Tryz.prog 29 5 5:=Dq A8
def aho :Dc Tryz.prog 29 6 6:=Dq A8
def alo :Dc Tryz.prog 29 7 7:=Dq A8
def ahL :Dc Tryz.prog 29 8 8:=Dq A8
def aUO :(Tryz.prog.info? 199).bind (·.zero)=some (aDi):=A8
def amr :ZR Tryz.prog 199 1 (aDi):=aBV A8 aUO A8
def aAZ :Tryz.prog.underlying 199=some (.array 7 3):=A8
def aaV :EL Tryz.prog 5 false 1:=Fq A8
def ZQ :GN Tryz.prog 25 9 1 16:=LV A8
def aBb :GN Tryz.prog 26 68 2 24:=LV A8
def aP3 :GN Tryz.prog 27 97 2 16:=LV A8
def Q7 :(Tryz.prog.info? 35).bind (·.zero)=some (zC):=A8
def agQ :Dc Tryz.prog 35 3 3:=Dq A8
def aRR :(Tryz.prog.info? 202).bind (·.zero)=some (aEN):=A8
def ami :J8 Tryz.prog 202 [(0,1)] (aEN):=LY A8 aRR A8
def ai4 :Dc Tryz.prog 35 0 0:=Dq A8
def EI :GN Tryz.prog 24 3 1 8:=LV A8
def zero3 :(Tryz.prog.info? 3).bind (·.zero)=some (.int .i64 0):=A8
def ajS :Dc Tryz.prog 202 0 0:=Dq A8
def aiI :EL Tryz.prog 171 false 1:=Fq A8
def zero9 :(Tryz.prog.info? 9).bind (·.zero)=some (.string Bc):=A8
def ag3 :Dc Tryz.prog 35 4 4:=Dq A8
def ajf :GN Tryz.prog 242 4 1 1:=LV A8
def uV :(Tryz.prog.info? 4).bind (·.zero)=some (.bool false):=A8
def adr :Tryz.prog.underlying 242=some (.slice 4):=A8
def ag9 :Dc Tryz.prog 35 6 6:=Dq A8
def agz :Dc Tryz.prog 35 7 7:=Dq A8
def aml :GN Tryz.prog 243 24 1 24:=LV A8
def zero24 :(Tryz.prog.info? 24).bind (·.zero)=some (.slice none 0 0):=A8
def afR :Tryz.prog.underlying 243=some (.slice 24):=A8
def alG :Dc Tryz.prog 35 11 26:=Dq A8
def ahP :Dc Tryz.prog 33 1 1:=Dq A8
def abE :(Tryz.prog.info? 33).bind (·.zero)=some (aDe):=A8
def ap7 :J8 Tryz.prog 33 [(0,1),(1,1)] (aDe):=LY A8 abE A8
def ahC :EL Tryz.prog 33 true 2:=Fq A8
def ajt :Dl Tryz.prog 88=true:=A8
def Le :GN Tryz.prog 22 35 29 376:=LV A8
def aoq :Dl Tryz.prog 314=true:=A8
def akx :Dl Tryz.prog 315=true:=A8
def aPi :(Tryz.prog.info? 252).bind (·.zero)=some (aFu):=A8
def aqZ :J8 Tryz.prog 252 [(0,1),(1,1)] (aFu):=LY A8 aPi A8
def an1 :GN Tryz.prog 253 252 2 16:=LV A8
def aaf :Tryz.prog.underlying 253=some (.slice 252):=A8
def aTF :EL Tryz.prog 252 true 2:=Fq A8
def apL :Dc Tryz.prog 252 0 0:=Dq A8
def ak4 :Dc Tryz.prog 252 1 1:=Dq A8
def aoS :EL Tryz.prog 218 false 1:=Fq A8
def amS :Dl Tryz.prog 253=true:=A8
def aj2 :Dl Tryz.prog 254=true:=A8
def aqM :Dl Tryz.prog 255=true:=A8
def anU :Dl Tryz.prog 256=true:=A8
def aqa :Dl Tryz.prog 257=true:=A8
def atG :Dl Tryz.prog 258=true:=A8
def aoD :Tryz.prog.underlying 4=some (.bool):=A8
def aC9 (x y:Ht):Bool:=(x.User.toList==y.User.toList&&(x.N==y.N&&true))
def akm (x y:Ht):bf Tryz.prog 2 68 [.string x.User,.int .i64 x.N] [.string y.User,.int .i64 y.N] (aC9 x y):=⟨fun d w=>qW A8 A8 A8 (l:=[(9,0),(3,1)]) A8 (RP (JR LM A8 w) (JR LM A8 w) (aN3 w _ _ _ _ N9)<|RP (JR DX A8 w) (JR DX A8 w) (WW w _ _ .i64 _ _ _ VO)<|vC _ _ _ _)⟩
def at1 :Program.eqGuardType Tryz.prog (Program.depth Tryz.prog) 68=false:=A8
def aHs :Tryz.prog.underlying 23=some (.int .i64):=A8
def aAu (x y:Ii):Bool:=(x.Kind==y.Kind&&(x.N==y.N&&true))
def aiX (x y:Ii):bf Tryz.prog 2 97 [.int .i64 x.Kind,.int .i64 x.N] [.int .i64 y.Kind,.int .i64 y.N] (aAu x y):=⟨fun d w=>qW A8 A8 A8 (l:=[(23,0),(3,1)]) A8 (RP (JR jW A8 w) (JR jW A8 w) (WW w _ _ .i64 _ _ _ aHs)<|RP (JR DX A8 w) (JR DX A8 w) (WW w _ _ .i64 _ _ _ VO)<|vC _ _ _ _)⟩
def alx :Program.eqGuardType Tryz.prog (Program.depth Tryz.prog) 97=false:=A8
def zn (x y:NT):Bool:=(x.Server.toList==y.Server.toList&&(x.Sum==y.Sum&&true))
def aog (x y:NT):bf Tryz.prog 2 33 [.string x.Server,.int .i64 x.Sum] [.string y.Server,.int .i64 y.Sum] (zn x y):=⟨fun d w=>qW A8 A8 A8 (l:=[(9,0),(3,1)]) A8 (RP (JR LM A8 w) (JR LM A8 w) (aN3 w _ _ _ _ N9)<|RP (JR DX A8 w) (JR DX A8 w) (WW w _ _ .i64 _ _ _ VO)<|vC _ _ _ _)⟩
def ama :Program.eqGuardType Tryz.prog (Program.depth Tryz.prog) 33=false:=A8
def QC :Tryz.prog.underlying 127=some (.map 3 3):=A8
def Hd :KeyTy Tryz.prog 3 Bq:=apJ VO
def anS :(Tryz.prog.info? 127).bind (·.zero)=some (.map none):=A8
def an5 :EL Tryz.prog 127 false 1:=Fq A8
def aKW :GN Tryz.prog 154 156 2 16:=LV A8
def aEs :(Tryz.prog.info? 156).bind (·.zero)=some (aGI):=A8
def afd :J8 Tryz.prog 156 [(0,1),(1,1)] (aGI):=LY A8 aEs A8
def Yo :Tryz.prog.underlying 154=some (.slice 156):=A8
def TD :EL Tryz.prog 156 true 2:=Fq A8
def ait :Dc Tryz.prog 156 0 0:=Dq A8
def ahw :Dc Tryz.prog 156 1 1:=Dq A8
def aob :J8 Tryz.prog 35 [(0,1),(1,1),(2,1),(3,1),(4,1),(5,1),(6,1),(7,1),(8,1),(9,1),(10,16),(26,1),(27,2)] (zC):=LY A8 Q7 A8
def Yg :Tryz.prog.underlying 53=some (.slice 102):=A8
def Ov :EL Tryz.prog 102 true 3:=Fq A8
def kN :(Tryz.prog.info? 102).bind (·.zero)=some (aAc):=A8
def ao0 :J8 Tryz.prog 102 [(0,1),(1,1),(2,1)] (aAc):=LY A8 kN A8
def alM :Dc Tryz.prog 102 0 0:=Dq A8
def amA :Dc Tryz.prog 102 1 1:=Dq A8
def apA :Dl Tryz.prog 212=true:=A8
def agD :Dl Tryz.prog 214=true:=A8
def L8 :Tryz.prog.underlying 54=some (.slice 102):=A8
def atY :Dc Tryz.prog 102 2 2:=Dq A8
def VQ :Tryz.prog.underlying 105=some (.slice 54):=A8
def vY :EL Tryz.prog 54 false 1:=Fq A8
def WO :(Tryz.prog.info? 54).bind (·.zero)=some (.slice none 0 0):=A8
def arX :EL Tryz.prog 105 false 1:=Fq A8
def aUV :Dl Tryz.prog 90=true:=A8
def UG :GN Tryz.prog 54 102 3 32:=LV A8
def aFs :Dl Tryz.prog 92=true:=A8
def Ri :Tryz.prog.underlying 103=some (.map 3 4):=A8
def akj :Dl Tryz.prog 216=true:=A8
def aqt :Dl Tryz.prog 217=true:=A8
def aRC :Dl Tryz.prog 164=true:=A8
def aSW :Dl Tryz.prog 218=true:=A8
def aqw :Dl Tryz.prog 23=true:=A8
def vO :Dl Tryz.prog 128=true:=A8
def aoX :Dl Tryz.prog 377=true:=A8
def anR :EL Tryz.prog 22 false 1:=Fq A8
def ab9 :(Tryz.prog.info? 258).bind (·.zero)=some (aBf):=A8
def afT :J8 Tryz.prog 258 [(0,1)] (aBf):=LY A8 ab9 A8
def amF :(match Tryz.prog.underlying 258 with |some (.interface _)=>false|some _=>true|none=>false)=true:=A8
def wo :Dl Tryz.prog 206=true:=A8
def TI :Dl Tryz.prog 205=true:=A8
def afN :(Tryz.prog.info? 283).bind (·.zero)=some (Fn2):=A8
def apk :ZR Tryz.prog 283 1 (Fn2):=aBV A8 afN A8
def ahF :EL Tryz.prog 283 true 5:=Fq A8
def aTa :Tryz.prog.underlying 283=some (.array 5 3):=A8
def agq :Dl Tryz.prog 89=true:=A8
def ah1 :J8 Tryz.prog 29 [(0,1),(1,1),(2,1),(3,1),(4,1),(5,1),(6,1),(7,1),(8,1)] (aFW):=LY A8 aaX A8
def asP :J8 Tryz.prog 68 [(0,1),(1,1)] (Sub):=LY A8 aEv A8
def ajB :Dl Tryz.prog 268=true:=A8
def aSc :EL Tryz.prog 199 true 7:=Fq A8
def aTr :Dl Tryz.prog 321=true:=A8
def aK6 :Dl Tryz.prog 320=true:=A8
def ab7 :(Tryz.prog.info? 288).bind (·.zero)=some (aBJ):=A8
def ali :ZR Tryz.prog 288 1 (aBJ):=aBV A8 ab7 A8
def ar8 :Tryz.prog.underlying 288=some (.array 2 27):=A8
def aQi :(Tryz.prog.info? 289).bind (·.zero)=some (aAe):=A8
def anH :ZR Tryz.prog 289 1 (aAe):=aBV A8 aQi A8
def aje :Tryz.prog.underlying 289=some (.array 2 26):=A8
def ar6 :Dl Tryz.prog 203=true:=A8
def abG :(Tryz.prog.info? 266).bind (·.zero)=some (aDK):=A8
def ajd :J8 Tryz.prog 266 [] (aDK):=LY A8 abG A8
def ai1 :(match Tryz.prog.underlying 266 with |some (.interface _)=>false|some _=>true|none=>false)=true:=A8
def adK :Dl Tryz.prog 221=true:=A8
def aiK :Tryz.prog.underlying 118=some (.int .u64):=A8
def as1 :(Tryz.prog.info? 131).bind (·.zero)=some (aTq):=A8
def aPv :(Tryz.prog.info? 164).bind (·.zero)=some (aCF):=A8
def apE :J8 Tryz.prog 164 [] (aCF):=LY A8 aPv A8
def atX :(match Tryz.prog.underlying 164 with |some (.interface _)=>false|some _=>true|none=>false)=true:=A8
def aNN :(Tryz.prog.info? 232).bind (·.zero)=some (aCt):=A8
def anl :J8 Tryz.prog 232 [(0,1),(1,1)] (aCt):=LY A8 aNN A8
def aHG :GN Tryz.prog 223 232 2 24:=LV A8
def iJ :Tryz.prog.underlying 223=some (.slice 232):=A8
def wV :EL Tryz.prog 232 true 2:=Fq A8
def agP :Dc Tryz.prog 232 0 0:=Dq A8
def atA :Dc Tryz.prog 232 1 1:=Dq A8
def afJ :Dl Tryz.prog 210=true:=A8
def aNq :(Tryz.prog.info? 326).bind (·.zero)=some (aCU):=A8
def asE :J8 Tryz.prog 326 [(0,1),(1,1),(2,1),(3,1)] (aCU):=LY A8 aNq A8
def aNM :GN Tryz.prog 323 326 4 48:=LV A8
def WS :Tryz.prog.underlying 323=some (.slice 326):=A8
def aG :EL Tryz.prog 326 true 4:=Fq A8
def ano :Dc Tryz.prog 326 3 3:=Dq A8
def agB :Dc Tryz.prog 326 0 0:=Dq A8
def ah7 :Dc Tryz.prog 326 1 1:=Dq A8
def aip :Dc Tryz.prog 326 2 2:=Dq A8
def agX :Dl Tryz.prog 398=true:=A8
def an6 :Dl Tryz.prog 395=true:=A8
def arN :wZ Tryz.prog 164 "fedchat/resolve.sort" 395=true:=A8
def agd :Dc Tryz.prog 131 1 1:=Dq A8
def aa1 :(Tryz.prog.info? 169).bind (·.zero)=some (aCo):=A8
def alh :J8 Tryz.prog 169 [(0,1)] (aCo):=LY A8 aa1 A8
def aiF :(match Tryz.prog.underlying 169 with |some (.interface _)=>false|some _=>true|none=>false)=true:=A8
def agC :Dc Tryz.prog 169 0 0:=Dq A8
def aL3 :(Tryz.prog.info? 330).bind (·.zero)=some (aDy):=A8
def aq8 :J8 Tryz.prog 330 [(0,1),(1,1),(2,1)] (aDy):=LY A8 aL3 A8
def aa3 :GN Tryz.prog 328 330 3 24:=LV A8
def mD :Tryz.prog.underlying 328=some (.slice 330):=A8
def kU :EL Tryz.prog 330 true 3:=Fq A8
def su (x y:KC):Bool:=(x.nJ==y.nJ&&(x.zx==y.zx&&(x.Bo==y.Bo&&true)))
def aiT (x y:KC):bf Tryz.prog 2 330 [.int .i64 x.nJ,.int .i64 x.zx,.int .i64 x.Bo] [.int .i64 y.nJ,.int .i64 y.zx,.int .i64 y.Bo] (su x y):=⟨fun d w=>qW A8 A8 A8 (l:=[(3,0),(3,1),(3,2)]) A8 (RP (JR DX A8 w) (JR DX A8 w) (WW w _ _ .i64 _ _ _ VO)<|RP (JR DX A8 w) (JR DX A8 w) (WW w _ _ .i64 _ _ _ VO)<|RP (JR DX A8 w) (JR DX A8 w) (WW w _ _ .i64 _ _ _ VO)<|vC _ _ _ _)⟩
def ako :Program.eqGuardType Tryz.prog (Program.depth Tryz.prog) 330=false:=A8
def agy :Dc Tryz.prog 330 0 0:=Dq A8
def aqA :Dl Tryz.prog 400=true:=A8
def aou :wZ Tryz.prog 169 "fedchat/resolve.sort" 400=true:=A8
def aiP :Dc Tryz.prog 131 0 0:=Dq A8
def amT :Dc Tryz.prog 131 2 2:=Dq A8
def aa0 :EL Tryz.prog 131 true 3:=Fq A8
def alU :mJ Tryz.prog 131 0 0 false 1=true:=A8
def zero22 :(Tryz.prog.info? 22).bind (·.zero)=some (.slice none 0 0):=A8
def akC :Dc Tryz.prog 92 2 2:=Dq A8
def atD :EL Tryz.prog 90 false 1:=Fq A8
def xu :Tryz.prog.underlying 90=some (.map 3 39):=A8
def iK :(Tryz.prog.info? 39).bind (·.zero)=some (.int .i64 0):=A8
def ahj :Dc Tryz.prog 92 1 1:=Dq A8
def ahW :EL Tryz.prog 89 false 1:=Fq A8
def fM :Tryz.prog.underlying 89=some (.map 3 54):=A8
def aD6 :GN Tryz.prog 105 54 1 24:=LV A8
def asQ :Dc Tryz.prog 92 0 0:=Dq A8
def aaJ :(Tryz.prog.info? 92).bind (·.zero)=some (aGD):=A8
def aQD :J8 Tryz.prog 92 [(0,1),(1,1),(2,1)] (aGD):=LY A8 aaJ A8
def aiE :EL Tryz.prog 84 false 1:=Fq A8
def aro :Dl Tryz.prog 50=true:=A8
def aOj :(Tryz.prog.info? 76).bind (·.zero)=some (aBM):=A8
def ah4 :J8 Tryz.prog 76 [(0,1),(1,1),(2,1)] (aBM):=LY A8 aOj A8
def ae0 :GN Tryz.prog 77 76 3 24:=LV A8
def aAz :Tryz.prog.underlying 77=some (.slice 76):=A8
def aLI :EL Tryz.prog 76 true 3:=Fq A8
def atI :Dc Tryz.prog 76 2 2:=Dq A8
def ahm :Dc Tryz.prog 76 0 0:=Dq A8
def asF :Dc Tryz.prog 76 1 1:=Dq A8
def anD :Dl Tryz.prog 38=true:=A8
def aqs :Dl Tryz.prog 17=true:=A8
def aso :J8 Tryz.prog 31 [(0,1),(1,1),(2,1),(3,1),(4,1),(5,1),(6,1),(7,9)] (aBx):=LY A8 aPp A8
def ajs :Dl Tryz.prog 20=true:=A8
def aUW :(Tryz.prog.info? 110).bind (·.zero)=some (aDC):=A8
def aqc :EL Tryz.prog 110 true 4:=Fq A8
def agO :Dc Tryz.prog 110 0 0:=Dq A8
def atK :J8 Tryz.prog 110 [(0,1),(1,1),(2,1),(3,1)] (aDC):=LY A8 aUW A8
def al3 :(Tryz.prog.info? 212).bind (·.zero)=some (aaQ):=A8
def agf :Dc Tryz.prog 212 0 0:=Dq A8
def as9 :Dc Tryz.prog 212 1 1:=Dq A8
def agk :Dc Tryz.prog 212 2 2:=Dq A8
def an3 :Dc Tryz.prog 212 3 3:=Dq A8
def alP :Dc Tryz.prog 212 4 4:=Dq A8
def amQ :EL Tryz.prog 212 true 5:=Fq A8
def alj :mJ Tryz.prog 212 4 4 false 1=true:=A8
def agM :Dc Tryz.prog 110 3 3:=Dq A8
def asy :EL Tryz.prog 39 false 1:=Fq A8
def aqW :Dc Tryz.prog 110 2 2:=Dq A8
def ao7 :Dc Tryz.prog 110 1 1:=Dq A8
def aTC :GN Tryz.prog 49 55 1 8:=LV A8
def aTy :(Tryz.prog.info? 55).bind (·.zero)=some (.int .i64 0):=A8
def iU :Tryz.prog.underlying 49=some (.slice 55):=A8
def tH (x y:Ah):Bool:=(x.Kind==y.Kind&&(x.Key.toList==y.Key.toList&&(x.Id==y.Id&&true)))
def aiQ (x y:Ah):bf Tryz.prog 2 102 [.int .i64 x.Kind,.string x.Key,.int .i64 x.Id] [.int .i64 y.Kind,.string y.Key,.int .i64 y.Id] (tH x y):=⟨fun d w=>qW A8 A8 A8 (l:=[(23,0),(9,1),(3,2)]) A8 (RP (JR jW A8 w) (JR jW A8 w) (WW w _ _ .i64 _ _ _ aHs)<|RP (JR LM A8 w) (JR LM A8 w) (aN3 w _ _ _ _ N9)<|RP (JR DX A8 w) (JR DX A8 w) (WW w _ _ .i64 _ _ _ VO)<|vC _ _ _ _)⟩
def asZ :Program.eqGuardType Tryz.prog (Program.depth Tryz.prog) 102=false:=A8
def aJr :EL Tryz.prog 55 false 1:=Fq A8
instance atg :Kn Tryz.prog where
 und:=[(9,.string),(3,.int .i64),(146,.int .u64),(5,.int .u8),(4,.bool),(23,.int .i64),(118,.int .u64)]
 aly:=⟨N9,VO,ak5,aai,aoD,aHs,aiK,trivial⟩
 ty:=[(31,true,16),(24,false,1),(25,false,1),(26,false,1),(27,false,1),(9,false,1),(68,true,2),(35,true,29),(3,false,1),(4,false,1),(29,true,9),(97,true,2),(23,false,1),(5,false,1),(171,false,1),(33,true,2),(252,true,2),(218,false,1),(127,false,1),(156,true,2),(102,true,3),(54,false,1),(105,false,1),(22,false,1),(283,true,5),(199,true,7),(232,true,2),(326,true,4),(330,true,3),(131,true,3),(90,false,1),(89,false,1),(84,false,1),(76,true,3),(110,true,4),(212,true,5),(39,false,1),(55,false,1)]
 hty:=⟨aLV,aTx,agA,ae7,aUM,LM,Oe,Dj,DX,ad6,xO,Pn,jW,aaV,aiI,ahC,aTF,aoS,an5,TD,Ov,vY,arX,anR,ahF,aSc,wV,aG,kU,aa0,atD,ahW,aiE,aLI,aqc,amQ,asy,aJr,trivial⟩
 fld:=[((35,10),10),((35,8),8),((35,9),9),((31,5),5),((31,6),6),((31,7),7),((29,0),0),((29,1),1),((35,1),1),((35,2),2),((35,5),5),((31,0),0),((31,4),4),((35,12),27),((33,0),0),((68,0),0),((31,1),1),((31,2),2),((31,3),3),((68,1),1),((97,0),0),((97,1),1),((29,2),2),((29,3),3),((29,4),4),((29,5),5),((29,6),6),((29,7),7),((29,8),8),((35,3),3),((35,0),0),((202,0),0),((35,4),4),((35,6),6),((35,7),7),((35,11),26),((33,1),1),((252,0),0),((252,1),1),((156,0),0),((156,1),1),((102,0),0),((102,1),1),((102,2),2),((232,0),0),((232,1),1),((326,3),3),((326,0),0),((326,1),1),((326,2),2),((131,1),1),((169,0),0),((330,0),0),((131,0),0),((131,2),2),((92,2),2),((92,1),1),((92,0),0),((76,2),2),((76,0),0),((76,1),1),((110,0),0),((212,0),0),((212,1),1),((212,2),2),((212,3),3),((212,4),4),((110,3),3),((110,2),2),((110,1),1)]
 hfld:=⟨aoZ,aqN,arM,akh,alE,arG,aoH,apa,amw,ajJ,an4,akS,ahM,ara,agn,asv,aqp,aof,amL,afc,apO,ak8,arY,anJ,ag1,asr,aho,alo,ahL,agQ,ai4,ajS,ag3,ag9,agz,alG,ahP,apL,ak4,ait,ahw,alM,amA,atY,agP,atA,ano,agB,ah7,aip,agd,agC,agy,aiP,amT,akC,ahj,asQ,atI,ahm,asF,agO,agf,as9,agk,an3,alP,agM,aqW,ao7,trivial⟩
 part:=[((131,0),0,false,1),((212,4),4,false,1)]
 hpart:=⟨alU,alj,trivial⟩
 zero:=[(31,aBx),(5,.int .u8 0),(29,aFW),(68,Sub),(97,aQF),(199,aDi),(35,zC),(202,aEN),(3,.int .i64 0),(9,.string Bc),(4,.bool false),(24,.slice none 0 0),(33,aDe),(252,aFu),(127,.map none),(156,aGI),(102,aAc),(54,.slice none 0 0),(258,aBf),(283,Fn2),(288,aBJ),(289,aAe),(266,aDK),(131,aTq),(164,aCF),(232,aCt),(326,aCU),(169,aCo),(330,aDy),(22,.slice none 0 0),(39,.int .i64 0),(92,aGD),(76,aBM),(110,aDC),(212,aaQ),(55,.int .i64 0)]
 hzero:=⟨⟨aPp,A8⟩,⟨Zk,A8⟩,⟨aaX,A8⟩,⟨aEv,A8⟩,⟨aSf,A8⟩,⟨aUO,A8⟩,⟨Q7,A8⟩,⟨aRR,A8⟩,⟨zero3,A8⟩,⟨zero9,A8⟩,⟨uV,A8⟩,⟨zero24,A8⟩,⟨abE,A8⟩,⟨aPi,A8⟩,⟨anS,A8⟩,⟨aEs,A8⟩,⟨kN,A8⟩,⟨WO,A8⟩,⟨ab9,A8⟩,⟨afN,A8⟩,⟨ab7,A8⟩,⟨aQi,A8⟩,⟨abG,A8⟩,⟨as1,A8⟩,⟨aPv,A8⟩,⟨aNN,A8⟩,⟨aNq,A8⟩,⟨aa1,A8⟩,⟨aL3,A8⟩,⟨zero22,A8⟩,⟨iK,A8⟩,⟨aaJ,A8⟩,⟨aOj,A8⟩,⟨aUW,A8⟩,⟨al3,A8⟩,⟨aTy,A8⟩,trivial⟩
 st:=[(202,[(0,1)],aEN),(33,[(0,1),(1,1)],aDe),(252,[(0,1),(1,1)],aFu),(156,[(0,1),(1,1)],aGI),(35,[(0,1),(1,1),(2,1),(3,1),(4,1),(5,1),(6,1),(7,1),(8,1),(9,1),(10,16),(26,1),(27,2)],zC),(102,[(0,1),(1,1),(2,1)],aAc),(258,[(0,1)],aBf),(29,[(0,1),(1,1),(2,1),(3,1),(4,1),(5,1),(6,1),(7,1),(8,1)],aFW),(68,[(0,1),(1,1)],Sub),(266,[],aDK),(164,[],aCF),(232,[(0,1),(1,1)],aCt),(326,[(0,1),(1,1),(2,1),(3,1)],aCU),(169,[(0,1)],aCo),(330,[(0,1),(1,1),(2,1)],aDy),(92,[(0,1),(1,1),(2,1)],aGD),(76,[(0,1),(1,1),(2,1)],aBM),(31,[(0,1),(1,1),(2,1),(3,1),(4,1),(5,1),(6,1),(7,9)],aBx),(110,[(0,1),(1,1),(2,1),(3,1)],aDC)]
 hst:=⟨ami,ap7,aqZ,afd,aob,ao0,afT,ah1,asP,ajd,apE,anl,asE,alh,aq8,aQD,ah4,aso,atK,trivial⟩
 arr:=[(199,1,aDi),(283,1,Fn2),(288,1,aBJ),(289,1,aAe)]
 harr:=⟨amr,apk,ali,anH,trivial⟩
abbrev E9 :=fun x=>Ar.arr 3 1 (List.map Aa x)
abbrev Ls :=fun x=>Ar.arr 5 1 (List.map Eo x)
abbrev Hu :=fun x=>Ar.arr 35 29 (List.map BA x)
abbrev W9 :=fun x=>Ar.arr 102 3 (List.map BP x)
abbrev vK :=fun x=>Ar.arr 9 1 (List.map DY x)
abbrev VN :=fun x=>Ar.arr 156 2 (List.map JO x)
abbrev ZM :=fun x=>Ar.arr 330 3 (List.map OD x)
abbrev BL :=fun x=>AY.d ((BF BA) x)
abbrev Ai :=fun x=>AY.d (DL x)
abbrev Bl :=fun x=>AY.d ((BF Aa) x)
abbrev AV :=fun x=>AY.d (Aa x)
abbrev EJ :=fun x=>AY.d ((BF BP) x)
abbrev NI :=fun x=>AY.d (Fh x)
abbrev Jh :=fun x=>AY.d ((BF DY) x)
abbrev Qr :=fun x=>AY.d ((BF FC) x)
abbrev Qz :=fun x=>AY.d ((BF FP) x)
abbrev NR :=fun x=>AY.d (Fr x)
abbrev EP :=fun x=>AY.d (BA x)
abbrev Kq :=fun x=>AY.d ((BF Eo) x)
abbrev Dv :=fun x=>AY.d (DY x)
abbrev OC :=fun x=>AY.d ((BF (BF BP)) x)
abbrev Y6 :=fun x=>AY.d (BP x)
abbrev V6 :=fun x=>AY.d ((BF KN) x)
end Go.Proofs.YtldfpencimjjlaaGreat
end
section
namespace Go.Proofs.YtldfpencimjjlaaGreat
open Go.RowKit
set_option maxRecDepth 20000
set_option maxHeartbeats 4000000
def aOA (j:AB) (q:(Int→Option Bool)):Int→Option Bool:=fun m=>(bif decide (m<(j.Content.Levels.Users.length:Int))then(Ae j.Content.Levels.Users m).bind fun u=>(bif decide ((u.User.size:Int)>2000)then some true else q (Ag (m+1)))else some false)
def aGk (j:AB):Int→Option Bool:=bg (aOA j) Af
def aJE (j:AB) (q:(Int→Option Bool)):Int→Option Bool:=fun m=>(bif decide (m<(j.Content.gy.length:Int))then(Ae j.Content.gy m).bind fun u=>(bif decide ((u.size:Int)>2000)then some true else q (Ag (m+1)))else aGk j 0)
def aPX (j:AB):Int→Option Bool:=bg (aJE j) Af
def aMJ (j:AB) (q:(Int→Option Bool)):Int→Option Bool:=fun m=>(bif decide (m<(j.Content.Allow.length:Int))then(Ae j.Content.Allow m).bind fun u=>(bif decide ((u.size:Int)>2000)then some true else q (Ag (m+1)))else aPX j 0)
def aT6 (j:AB):Int→Option Bool:=bg (aMJ j) Af
def zW (j:AB):Option Bool:=(bif decide ((j.bC.length:Int)>40)then some true else some (decide ((j.bD.length:Int)>40))).bind fun J=>(bif J then some true else some (decide ((j.Content.Allow.length:Int)>40))).bind fun L=>(bif L then some true else some (decide ((j.Content.gy.length:Int)>40))).bind fun M=>(bif M then some true else some (decide ((j.Content.Levels.Users.length:Int)>40))).bind fun O=>(bif O then some true else some (decide ((j.Content.Levels.Kinds.length:Int)>40))).bind fun U=>(bif U then some true else(bif decide ((j.Room.size:Int)>2000)then some true else some (decide ((j.aP.size:Int)>2000))).bind fun m=>(bif m then some true else some (decide ((j.Key.size:Int)>2000))).bind fun q=>(bif q then some true else some (decide ((j.Content.Text.size:Int)>2000))).bind fun u=>(bif u then some true else some (decide ((j.Content.Via.size:Int)>2000))).bind fun z=>(bif z then some true else some (decide ((j.qc.Server.size:Int)>2000))).bind fun I=>(bif I then some true else aT6 j 0))
def ajv (bF r) (h:zW bF=some r):BG 10 [EP bF] [] (Ai r) []:=Am.aN Tryz.func10 rfl<|AZ<|AZ<|Ac<|AO<|.a 2<|.p (BN Aa bF.bC CQ rfl)<|.a 1<|AU h fun x1 hx1 h=>.mg 13 5 (Ai x1) (.bi hx1 (k2:=fun h=>.a 2<|.p (BN Aa bF.bD CQ rfl)<|.aW<|Dx))<|.a 1<|AU h fun x3 hx3 h=>.mg 20 4 (Ai x3) (Di hx3 (k2:=fun e i=>by subst e;have h:=i;exact .a 2<|.p (BN DY bF.Content.Allow He rfl)<|.aW<|Dx))<|.a 1<|AU h fun x5 hx5 h=>.mg 26 4 (Ai x5) (Di hx5 (k2:=fun e i=>by subst e;have h:=i;exact .a 2<|.p (BN DY bF.Content.gy He rfl)<|.aW<|Dx))<|.a 1<|AU h fun x7 hx7 h=>.mg 32 5 (Ai x7) (Di hx7 (k2:=fun e i=>by subst e;have h:=i;exact .a 3<|.p (BN FC bF.Content.Levels.Users IE rfl)<|.aW<|Dx))<|.a 1<|AU h fun x9 DI h=>.mg 39 5 (Ai x9) (Di DI (k2:=fun e i=>by subst e;have h:=i;exact .a 3<|.p (BN FP bF.Content.Levels.Kinds IZ rfl)<|.aW<|Dx))<|.bJ<|BM h CP fun h=>Ac<|AO<|.a 4<|AU h fun x12 j h=>.mg 49 5 (Ai x12) (.bi j)<|.a 1<|AU h fun x14 m h=>.mg 56 4 (Ai x14) (Di m)<|.a 1<|AU h fun x16 q h=>.mg 62 4 (Ai x16) (Di q)<|.a 1<|AU h fun x18 u h=>.mg 68 4 (Ai x18) (Di u)<|.a 1<|AU h fun SC z h=>.mg 74 5 (Ai SC) (Di z)<|.bJ<|BM h CP fun h=>Ac<|AZ<|AP.block<|En (fun I=>⟨BH 125 [(3,.ptr 0 0),(4,AV I)],[.box (BD (Fh bF.Content))],0⟩) _ _ _ (Ad 125 24 [(1,true)]) h<|fun J40 k24 J I h=>Ac<|AO<|.a 3<|.p (BN DY bF.Content.Allow He rfl)<|.aW<|CB h (fun h=>Ac<|AP.block<|AU h fun Vz L h=>AO<|.a 3<|.p (BQ DY L He LM rfl)<|.aW<|BM h CP fun h=>Aw<|.a 3<|.nil<|J _ _ (Ad 125 24 [(0,true)]) h) fun h=>AP.exit<|Ac<|AZ<|AP.block<|En (fun M=>⟨BH 125 [(3,.ptr 0 0),(5,AV M)],[.box (BD (Fh bF.Content))],0⟩) _ _ _ (Ad 125 40 [(0,true)]) h<|fun J39 k29 O M h=>Ac<|AO<|.a 3<|.p (BN DY bF.Content.gy He rfl)<|.aW<|CB h (fun h=>Ac<|AP.block<|AU h fun x31 U h=>AO<|.a 3<|.p (BQ DY U He LM rfl)<|.aW<|BM h CP fun h=>Aw<|.a 3<|.nil<|O _ _ (Ad 125 40 [(0,true)]) h) fun h=>AP.exit<|Ac<|AZ<|AP.block<|En (fun Y=>⟨BH 125 [(3,.ptr 0 0),(6,AV Y)],[.box (BD (Fh bF.Content))],0⟩) _ _ _ (Ad 125 72 [(0,true)]) h<|fun J38 k34 Z Y h=>Ac<|AO<|.a 4<|.p (BN FC bF.Content.Levels.Users IE rfl)<|.aW<|CB h (fun h=>Ac<|AP.block<|AU h fun x36 alH h=>AO<|.a 4<|.p (BQ FC alH IE Oe rfl)<|.aW<|BM h CP fun h=>Aw<|.a 3<|.nil<|Z _ _ (Ad 125 72 [(0,true)]) h) fun h=>Gf
abbrev AX:=List AB
def aHJ (j:AX) (q:(Int→Option Bool)):Int→Option Bool:=fun m=>(bif decide (m<(j.length:Int))then(Ae j m).bind fun u=>(zW u).bind fun z=>(bif z then some true else q (Ag (m+1)))else some false)
def aTz (j:AX):Int→Option Bool:=bg (aHJ j) Af
def aU (j:AX) (m:Int):Option Bool:=(bif decide ((j.length:Int)>m)then some true else aTz j 0)
def aNi (ay Ie r) (h:aU ay Ie=some r):BG 9 [BL ay,AV Ie] [] (Ai r) []:=Am.aN Tryz.func9 rfl<|AZ<|Ac<|AO<|.a 1<|.p (BN BA ay Ce rfl)<|.aW<|BM h CP fun h=>Ac<|AZ<|AP.block<|En (fun u=>⟨BH 21 [(0,BL ay),(5,AV u)],[],0⟩) _ _ _ (Ad 21 33 []) h<|fun J L j u h=>Ac<|AO<|.a 2<|.p (BN BA ay Ce rfl)<|.aW<|CB h (fun h=>Ac<|AP.block<|DJ h fun z m I q h=>AO<|.a 2<|.p (BQ BA m Ce Dj rfl)<|.a 1<|.ca (ajv z I q)<|.bJ<|BM h CP fun h=>Aw<|.a 3<|.nil<|j _ _ (Ad 21 33 []) h) fun h=>Gf
def Ya (j:AL) (m:Int):Option AL:=(Il 1 0 (j.length:Int) (Ag ((j.length:Int)+m))).bind fun q=>some (gCopy q j)
def uf (kJ av2 r) (h:Ya kJ av2=some r):BG 224 [Kq kJ,AV av2] [] (.aZ 0) [(Ls r)]:=Am.aN Tryz.func224 rfl<|AO<|.f (D6 5 1 rfl)<|.bJ<|AU h fun m j h=>AO<|.a 1<|.p (BN Eo kJ xR rfl)<|.a 1<|.p (BN Eo kJ xR rfl)<|.a 2<|.f (XA Eo 0 j Tz Zk A8 A8 A8 BJ rfl)<|.aW<|AO<|.a 2<|.f (aqF (k:=1) Eo m kJ Tz A8 (fun _=>rfl) rfl)<|.bJ<|AZ<|V5
def WH  (q:(AL→Int→Option AL)):AL→Int→Option AL:=fun m j=>(bif decide (j≥128)then(Bz 1 m [EO .or .u8 (IntKind.u8.wrap j) 128]).bind fun u=>(Og .shr .u64 j 7).bind fun z=>q u z else(Bz 1 m [IntKind.u8.wrap j]).bind fun I=>some I)
def aQT  :AL→Int→Option AL:=aQ (WH) Af
def aCK (j:AL) (m:Int):Option AL:=aQT j m
def Y4 (j:AL) (m:Int):Option AL:=(Og .shl .u64 (IntKind.u64.wrap m) 1).bind fun q=>(bif decide (m<0)then aCK j (jY .u64 q)else aCK j q)
def pS (kJ Ie r) (h:Y4 kJ Ie=some r):BG 225 [.aZ 0,AV Ie] [(Ls kJ)] (.aZ 1) [.dead,(Ls r)]:=Am.aN Tryz.func225 rfl<|AO<|.f (D6 5 1 rfl)<|.bJ<|AU h fun q z h=>AO<|.a 2<|.p (aJ6 (k:=.u64) (k':=.u64) z rfl)<|.aW<|DN (fun s=>∃(I:Int),CS s ⟨BH 28 [(0,.aZ 1),(5,.d ((aL6 .u64) I))],[.dead,(Ls kJ)],1⟩∧aCK kJ I=some r) (by rintro s ⟨I,hs,h⟩;exact Cm hs<|Ac<|AP.block<|EW (fun U j=>⟨BH 28 [(0,.aZ 1),(5,.d ((aL6 .u64) j))],[.dead,(Ls U)],1⟩) _ _ _ _ (Ad 28 33 [(0,false),(1,true)]) h<|fun Y Z J U j h=>Ac<|AZ<|CB h (fun h=>AP.block<|AU h fun x7 L h=>AO<|.a 3<|.p (Wh (k:=.u8) (u:=(IntKind.u8.wrap j)) (v:=128) rfl)<|.p (ED Tz Zk [Eo (EO .or .u8 (IntKind.u8.wrap j) 128)] rfl)<|.f (El (k:=1) Eo L Tz A8 (fun _=>rfl) BJ rfl)<|.aW<|AU h fun x8 M h=>Aw<|.a 1<|.p (afS (k:=.u64) (k':=.u64) M rfl)<|.a 1<|.nil<|J _ _ _ (Ad 28 33 [(0,false),(2,true)]) h) fun h=>AP.exit<|AU h fun x9 O h=>AO<|.a 3<|.p (ED Tz Zk [Eo (IntKind.u8.wrap j)] rfl)<|.f (El (k:=1) Eo O Tz A8 (fun _=>rfl) BJ rfl)<|.aW<|by cases h;exact .ret (F5 [(0,false),(2,true)]))<|fun m=>AZ<|BM h (fun h=>Aw<|.a 1<|.p (akf (k:=.u64) (u:=q) rfl)<|.a 1<|.nil<|m _ ⟨(jY .u64 q),Ad 28 33 [(0,false),(0,true)],h⟩) fun h=>m _ ⟨q,Ad 28 33 [(0,false),(0,true)],h⟩
def yX (m:AL) (j:ByteArray):Option AL:=(Y4 m (j.size:Int)).bind fun q=>(Bz 1 q (BZ j)).bind fun u=>some u
def aTu (kJ gZ r) (h:yX kJ gZ=some r):BG 223 [.aZ 0,Dv gZ] [(Ls kJ)] (.aZ 1) [.dead,(Ls r)]:=Am.aN Tryz.func223 rfl<|AO<|.f (D6 5 1 rfl)<|.bJ<|DJ h fun q j u m h=>AO<|.a 3<|.f (x:=.aZ 2) (ER [.ent 0] [.aZ 0,AV (gZ.size:Int)] (pS kJ (gZ.size:Int) q j) rfl)<|.a 1<|.f (afU (k:=2) m Tz Zk N9 A8 rfl)<|.aW<|by cases h;exact .ret (F5 [(0,false),(3,true)])
def RD (m:AL) (j:ByteArray):Option AL:=(Ya m (Ag ((j.size:Int)+10))).bind fun q=>(yX q j).bind fun u=>some u
def aCf (kJ gZ r) (h:RD kJ gZ=some r):BG 170 [Kq kJ,Dv gZ] [] (.aZ 0) [(Ls r)]:=Am.aN Tryz.func170 rfl<|AO<|.f (D6 5 1 rfl)<|.bJ<|DJ h fun q j u m h=>AO<|.a 4<|.f (x:=.aZ 1) (V3 [Kq kJ,AV (Ag ((gZ.size:Int)+10))] (uf kJ (Ag ((gZ.size:Int)+10)) q j) rfl)<|.a 1<|.f (x:=.aZ 2) (ER [.ent 1] [.aZ 1,Dv gZ] (aTu q gZ u m) rfl)<|.aW<|Oc
def Nh (j:AL) (m:Int):Option AL:=(Ya j 10).bind fun q=>(Y4 q m).bind fun u=>some u
def Wn (kJ Ie r) (h:Nh kJ Ie=some r):BG 171 [Kq kJ,AV Ie] [] (.aZ 0) [(Ls r)]:=Am.aN Tryz.func171 rfl<|AO<|.f (D6 5 1 rfl)<|.bJ<|DJ h fun q j u m h=>AO<|.a 1<|.f (x:=.aZ 1) (V3 [Kq kJ,AV 10] (uf kJ 10 q j) rfl)<|.a 1<|.f (x:=.aZ 2) (ER [.ent 1] [.aZ 1,AV Ie] (pS q Ie u m) rfl)<|.aW<|Oc
def Yi (m:AL) (j:Bool):Option AL:=(Ya m 1).bind fun q=>(bif j then(Bz 1 q [1]).bind fun u=>some u else(Bz 1 q [0]).bind fun z=>some z)
def aS8 (kJ X8 r) (h:Yi kJ X8=some r):BG 172 [Kq kJ,Ai X8] [] (.aZ 0) [(Ls r)]:=Am.aN Tryz.func172 rfl<|AO<|.f (D6 5 1 rfl)<|.bJ<|AU h fun u j h=>AO<|.a 1<|.f (x:=.aZ 1) (V3 [Kq kJ,AV 1] (uf kJ 1 u j) rfl)<|.aW<|Ac<|AZ<|BM h (fun h=>AU h fun z m h=>AO<|.a 1<|.p (ED Tz Zk [Eo 1] rfl)<|.f (El (k:=1) Eo m Tz A8 (fun _=>rfl) BJ rfl)<|.aW<|Oc) fun h=>AU h fun I q h=>AO<|.a 1<|.p (ED Tz Zk [Eo 0] rfl)<|.f (El (k:=1) Eo q Tz A8 (fun _=>rfl) BJ rfl)<|.aW<|Oc
abbrev FV:=List ByteArray
def aNU (j:FV) (u:(AL→Int→Option AL)):AL→Int→Option AL:=fun q m=>(bif decide (m<(j.length:Int))then(Ae j m).bind fun z=>(yX q z).bind fun I=>u I (Ag (m+1))else some q)
def aR7 (j:FV):AL→Int→Option AL:=aQ (aNU j) Af
def aBp (m:AL) (j:FV):Option AL:=(Y4 m (j.length:Int)).bind fun q=>aR7 j q 0
def akJ (kJ dM r) (h:aBp kJ dM=some r):BG 226 [.aZ 0,Jh dM,.d (.fn (.func 223) [] [])] [(Ls kJ)] (.aZ 1) [.dead,(Ls r)]:=Am.aN Tryz.func226 rfl<|AO<|.f (D6 5 1 rfl)<|.bJ<|AU h fun L j h=>AO<|.a 2<|.p (BN DY dM He rfl)<|.f (x:=.aZ 2) (ER [.ent 0] [.aZ 0,AV (dM.length:Int)] (pS kJ (dM.length:Int) L j) rfl)<|.aW<|Ac<|AO<|.a 1<|.p (BN DY dM He rfl)<|.aW<|AP.block<|EW (fun m I=>⟨BH 25 [(0,.aZ 1),(2,.d (.fn (.func 223) [] [])),(13,Jh dM),(14,AV (dM.length:Int)),(15,AV I)],[.dead,(Ls m)],1⟩) _ _ _ _ (Ad 25 57349 [(0,false),(2,true)]) h<|fun O U q m I h=>AZ<|Ac<|CB h (fun h=>Ac<|AP.block<|AU h fun J u h=>AO<|.p (BQ DY u He LM rfl)<|.aW<|AU h fun M z h=>Aw<|.a 3<|.f (x:=.aZ 2) (aSe [.ent 1] [] [] [.aZ 1,Dv J] (aTu m J M z) rfl)<|.a 1<|.nil<|Aw<|.a 2<|.nil<|q _ _ _ (Ad 25 57349 [(0,false),(2,true)]) h) fun h=>AP.exit<|AZ<|aeb
def eu (m:AL) (j:FV):Option AL:=(Ya m (Ag ((Ag (8*(j.length:Int)))+10))).bind fun q=>(aBp q j).bind fun u=>some u
def aRe (kJ dM r) (h:eu kJ dM=some r):BG 173 [Kq kJ,Jh dM] [] (.aZ 0) [(Ls r)]:=Am.aN Tryz.func173 rfl<|AO<|.f (D6 5 1 rfl)<|.bJ<|DJ h fun q j u m h=>AO<|.a 2<|.p (BN DY dM He rfl)<|.a 2<|.f (x:=.aZ 1) (V3 [Kq kJ,AV (Ag ((Ag (8*(dM.length:Int)))+10))] (uf kJ (Ag ((Ag (8*(dM.length:Int)))+10)) q j) rfl)<|.a 1<|.f (x:=.aZ 2) (ER [.ent 1] [.aZ 1,Jh dM,.d (.fn (.func 223) [] [])] (akJ q dM u m) rfl)<|.aW<|Oc
def aGe (j:Bj) (u:(AL→Int→Option AL)):AL→Int→Option AL:=fun q m=>(bif decide (m<7)then(Ae ([j.Levels.User,j.Levels.Message,j.Levels.State,j.Levels.fQ,j.Levels.jK,j.Levels.mY,j.Levels.fC]:AL) m).bind fun z=>(Nh q z).bind fun I=>u I (Ag (m+1))else some q)
def aP5 (j:Bj):AL→Int→Option AL:=aQ (aGe j) Af
def aAQ (j:Bj) (z:(AL→Int→Option AL)):AL→Int→Option AL:=fun q m=>(bif decide (m<(j.Levels.Kinds.length:Int))then(Ae j.Levels.Kinds m).bind fun u=>(Nh q u.Kind).bind fun I=>(Nh I u.N).bind fun J=>z J (Ag (m+1))else aP5 j q 0)
def aII (j:Bj):AL→Int→Option AL:=aQ (aAQ j) Af
def aAY (j:Bj) (u:(AL→Int→Option AL)):AL→Int→Option AL:=fun L m=>(bif decide (m<(j.Levels.Users.length:Int))then(Ae j.Levels.Users m).bind fun q=>(RD L q.User).bind fun z=>(Nh z q.N).bind fun I=>u I (Ag (m+1))else(Nh L (j.Levels.Kinds.length:Int)).bind fun J=>aII j J 0)
def adF (j:Bj):AL→Int→Option AL:=aQ (aAY j) Af
def pV (j:Bj):Option AL:=(RD [] j.Text).bind fun m=>(Nh m j.N).bind fun q=>(Nh q j.Target).bind fun u=>(Yi u j.Thread).bind fun z=>(RD z j.Via).bind fun I=>(eu I j.Allow).bind fun J=>(eu J j.gy).bind fun L=>(Nh L (j.Levels.Users.length:Int)).bind fun M=>adF j M 0
def aeP (jq r) (h:pV jq=some r):BG 138 [NI jq] [] (Kq r) []:=Am.aN Tryz.func138 rfl<|AZ<|AU h fun x1 hx1 h=>AO<|.a 2<|.p (x:=(Kq x1)) (abW [.d (.lit (.slice none 0 0)),Dv jq.Text] (aCf [] jq.Text x1 hx1).view rfl)<|.aW<|AU h fun x2 hx2 h=>AO<|.a 3<|.ca (Wn x1 jq.N x2 hx2).view<|.aW<|AU h fun x3 hx3 h=>AO<|.a 3<|.ca (Wn x2 jq.Target x3 hx3).view<|.aW<|AU h fun x4 hx4 h=>AO<|.a 3<|.ca (aS8 x3 jq.Thread x4 hx4).view<|.aW<|AU h fun x5 hx5 h=>AO<|.a 3<|.ca (aCf x4 jq.Via x5 hx5).view<|.aW<|AU h fun x6 hx6 h=>AO<|.a 3<|.ca (aRe x5 jq.Allow x6 hx6).view<|.aW<|AU h fun x7 hx7 h=>AO<|.a 3<|.ca (aRe x6 jq.gy x7 hx7).view<|.aW<|AZ<|AU h fun x8 L9 h=>AO<|.a 3<|.p (BN FC jq.Levels.Users IE rfl)<|.ca (Wn x7 (jq.Levels.Users.length:Int) x8 L9).view<|.aW<|Ac<|AO<|.a 2<|.p (BN FC jq.Levels.Users IE rfl)<|.aW<|AP.block<|EW (fun v9 q=>⟨BH 103 [(3,Kq v9),(4,.ptr 0 0),(46,Qr jq.Levels.Users),(47,AV (jq.Levels.Users.length:Int)),(48,AV q)],[.box (BD (Fr jq.Levels))],0⟩) _ _ _ _ (Ad 103 492581209243672 [(1,true)]) h<|fun J32 k11 u v9 q h=>AZ<|Ac<|CB h (fun h=>Ac<|AP.block<|AU h fun z I h=>AO<|.p (BQ FC I IE Oe rfl)<|.aW<|DJ h fun J L x15 M h=>AP.draw A8 A8 A8 (.a 3<|.ca (aCf v9 z.User J L).view<|.a 2<|.ca (Wn J z.N x15 M).view<|.a 1<|.nil _)<|Aw<|.a 2<|.nil<|u _ _ _ (Ad 103 492581209243672 [(0,true)]) h) fun h=>AP.exit<|AU h fun x16 O h=>AO<|.a 3<|.p (BN FP jq.Levels.Kinds IZ rfl)<|.ca (Wn v9 (jq.Levels.Kinds.length:Int) x16 O).view<|.aW<|Ac<|AO<|.a 2<|.p (BN FP jq.Levels.Kinds IZ rfl)<|.aW<|AP.block<|EW (fun j U=>⟨BH 103 [(3,Kq j),(4,.ptr 0 0),(66,Qz jq.Levels.Kinds),(67,AV (jq.Levels.Kinds.length:Int)),(68,AV U)],[.box (BD (Fr jq.Levels))],0⟩) _ _ _ _ (Ad 103 516508834063867445272 [(0,true)]) h<|fun J31 k19 Y j U h=>AZ<|Ac<|CB h (fun h=>Ac<|AP.block<|AU h fun Z asJ h=>AO<|.p (BQ FP asJ IZ Pn rfl)<|.aW<|DJ h fun SE aAC x23 asK h=>AP.draw A8 A8 A8 (.a 3<|.ca (Wn j Z.Kind SE aAC).view<|.a 2<|.ca (Wn SE Z.N x23 asK).view<|.a 1<|.nil _)<|Aw<|.a 2<|.nil<|Y _ _ _ (Ad 103 516508834063867445272 [(0,true)]) h) fun h=>AP.exit<|Ac<|AZ<|AP.block<|EW (fun m v25=>⟨BH 103 [(3,Kq m),(94,.d ((MZ Aa) ([jq.Levels.User,jq.Levels.Message,jq.Levels.State,jq.Levels.fQ,jq.Levels.jK,jq.Levels.mY,jq.Levels.fC]:(List Int)))),(95,AV v25)],[],0⟩) _ _ _ _ (Ad 103 59421121885698253195157962760 []) h<|fun J30 k26 aAD m v25 h=>AZ<|Ac<|CB h (fun h=>Ac<|AP.block<|AU h fun x28 hx28 h=>AO<|.p (Res (k:=.i64) Aa hx28 aAZ DX A8 rfl)<|.aW<|AU h fun x29 hx29 h=>Aw<|.a 2<|.ca (Wn m x28 x29 hx29).view<|.a 1<|.nil<|Aw<|.a 2<|.nil<|aAD _ _ _ (Ad 103 59421121885698253195157962760 []) h) fun h=>Gf
def aOF  :Option Int:=some 860922984064492325
def agm  (r:Int) (h:aOF=some r):BG 169 [] [] (AV r) []:=Am.aN Tryz.func169 rfl<|iP
def aPC (j:AL) (u:(Int→Int→Option Int)):Int→Int→Option Int:=fun q m=>(bif decide (m<(j.length:Int))then(Ae j m).bind fun z=>u (EO .and .u64 (IntKind.u64.wrap ((EO .xor .u64 q (IntKind.u64.wrap z))*1099511628211)) 4611686018427387903) (Ag (m+1))else some (Ag q))
def aRt (j:AL):Int→Int→Option Int:=aQ (aPC j) Af
def aLh (j:Int) (m:AL):Option Int:=aRt m (EO .and .u64 (IntKind.u64.wrap j) 4611686018427387903) 0
def afw (aAE fF r) (h:aLh aAE fF=some r):BG 168 [AV aAE,Kq fF] [] (AV r) []:=Am.aN Tryz.func168 rfl<|AZ<|AO<|.a 2<|.p (QK (k:=.u64) (u:=(IntKind.u64.wrap aAE)) (v:=4611686018427387903) rfl)<|.aW<|Ac<|AO<|.a 1<|.p (BN Eo fF xR rfl)<|.aW<|AP.block<|EW (fun j z=>⟨BH 26 [(5,.d ((aL6 .u64) j)),(11,Kq fF),(12,AV (fF.length:Int)),(13,AV z)],[],0⟩) _ _ _ _ (Ad 26 14368 []) h<|fun J L m j z h=>AZ<|Ac<|CB h (fun h=>Ac<|AP.block<|AU h fun I q h=>AO<|.p (BQ Eo q xR aaV rfl)<|.aW<|Aw<|.a 3<|.p (ao4 (k:=.u64) (u:=j) (v:=(IntKind.u64.wrap I)) rfl)<|.a 1<|.p (QK (k:=.u64) (u:=(IntKind.u64.wrap ((EO .xor .u64 j (IntKind.u64.wrap I))*1099511628211))) (v:=4611686018427387903) rfl)<|.a 1<|.nil<|Aw<|.a 2<|.nil<|m _ _ _ (Ad 26 14368 []) h) fun h=>Gf
def sW (j:AL):Option Int:=(aOF).bind fun m=>(aLh m j).bind fun q=>some q
def aRP (kJ r) (h:sW kJ=some r):BG 137 [Kq kJ] [] (AV r) []:=Am.aN Tryz.func137 rfl<|AZ<|DJ h fun q j u m h=>AO<|.ca (agm  q j)<|.a 1<|.ca (afw q kJ u m)<|.aW<|Cj
def rE (j:AB):Option Int:=(pV j.Content).bind fun m=>(sW m).bind fun q=>some q
def aR0 (bF r) (h:rE bF=some r):BG 96 [EP bF] [] (AV r) []:=Am.aN Tryz.func96 rfl<|AZ<|DJ h fun q j u m h=>AO<|.a 2<|.ca (aeP bF.Content q j)<|.ca (aRP q u m)<|.aW<|Cj
def RX (j:FV):Option FV:=(Bz 16 [] j).bind fun m=>some m
def zy (ay r) (h:RX ay=some r):BG 121 [Jh ay] [] (.aZ 0) [(vK r)]:=Am.aN Tryz.func121 rfl<|AO<|.f (D6 9 1 rfl)<|.bJ<|AU h fun m j h=>AO<|.a 1<|.f (aCB 9 1 (El (k:=_) DY j ZQ A8 (fun _=>rfl) BJ rfl))<|.aW<|Oc
def dX (j:Bd):Option Bd:=(Bz 24 [] j.Users).bind fun m=>(Bz 16 [] (({ j with Users:=m }).Kinds)).bind fun q=>some ({ { j with Users:=m }with Kinds:=q })
def adf (ay r) (h:dX ay=some r):BG 122 [NR ay] [] (NR r) []:=Am.aN Tryz.func122 rfl<|AZ<|AU h fun j m h=>AO<|.a 2<|.f (aCB 68 2 (El (k:=_) FC m aBb A8 (fun _=>rfl) BJ rfl))<|.conv _ (PD (e:=68) (s:=2) 3 (xs:=List.map FC j) A8)<|.aW<|AU h fun q u h=>AO<|.a 2<|.f (aCB 97 2 (El (k:=_) FP u aP3 A8 (fun _=>rfl) BJ rfl))<|.conv _ (PD (e:=97) (s:=2) 5 (xs:=List.map FP q) A8)<|.aW<|AZ<|AP.ret<|by rw[←Cx h];exact⟨[NR ({ { ay with Users:=j }with Kinds:=q })],[],⟨⟨1,BD (Fr ({ { ay with Users:=j }with Kinds:=q })),true,9,A8,A8,A8,xO,GV A8,aCe,A8⟩,trivial⟩,A8,A8,A8⟩
def qQ (j:Bool):Option Int:=(bif j then some 5 else some 0)
def pq (j:Int) (m:Bool):Option Int:=(bif m then some 2 else(bif (j==6)then some 96 else(bif (j==7)then some 1 else(bif (j==9)then some 3 else(bif (j==11)then some 13 else(bif (j==12)then qQ (j==12)else(bif (j==13)then qQ (j==13)else qQ (j==14))))))))
def lU (j:Int):Option Int:=(bif (j==2)then some 19 else(bif (j==3)then some 128 else(bif (j==4)then some 34 else(bif (j==5)then pq j (j==5)else(bif (j==8)then pq j (j==8)else pq j (j==10))))))
def acD (jc r) (h:lU jc=some r):BG 152 [AV jc] [] (AV r) []:=Am.aN Tryz.func152 rfl<|AZ<|Ac<|AZ<|AP.block<|AZ<|Dn h CP fun h=>AZ<|Dn h CP fun h=>AZ<|Dn h CP fun h=>DN (fun s=>∃(u:Bool),CS s ⟨BH 26 [(3,AV jc),(10,Ai u)],[],0⟩∧pq jc u=some r) (by rintro s ⟨u,hs,h⟩;exact Cm hs<|Dn h CP fun h=>AZ<|Dn h CP fun h=>AZ<|Dn h CP fun h=>AZ<|Dn h CP fun h=>AZ<|Dn h CP fun h=>DN (fun s=>∃(j:Bool),CS s ⟨BH 26 [(22,Ai j)],[],0⟩∧qQ j=some r) (by rintro s ⟨j,hs,h⟩;exact Cm hs<|Qw)<|fun m=>AZ<|CB h (fun h=>m _ ⟨(jc==12),Ad 26 4194304 [],h⟩) fun h=>AZ<|CB h (fun h=>m _ ⟨(jc==13),Ad 26 4194304 [],h⟩) fun h=>Aw<|.a 2<|.nil<|m _ ⟨(jc==14),Ad 26 4194304 [],h⟩)<|fun q=>AZ<|CB h (fun h=>q _ ⟨(jc==5),Ad 26 1032 [],h⟩) fun h=>AZ<|CB h (fun h=>q _ ⟨(jc==8),Ad 26 1032 [],h⟩) fun h=>Aw<|.a 2<|.nil<|q _ ⟨(jc==10),Ad 26 1032 [],h⟩
def fP (j:Int) (m:Bool):Option Int:=(bif m then(lU j).bind fun q=>some q else(bif (j==14)then some 4 else some 0))
def lY (j:Int):Option Int:=(bif (j==2)then some 18 else(bif (j==3)then fP j (j==3)else(bif (j==4)then fP j (j==4)else(bif (j==5)then fP j (j==5)else fP j (j==6)))))
def aQG (jc r) (h:lY jc=some r):BG 123 [AV jc] [] (AV r) []:=Am.aN Tryz.func123 rfl<|AZ<|Ac<|AZ<|AP.block<|AZ<|Dn h CP fun h=>DN (fun s=>∃(j:Bool),CS s ⟨BH 15 [(0,AV jc),(3,AV jc),(6,Ai j)],[],0⟩∧fP jc j=some r) (by rintro s ⟨j,hs,h⟩;exact Cm hs<|Dn h (fun h=>AU h fun q m h=>AO<|.a 1<|.ca (acD jc q m)<|.aW<|Cj) fun h=>AZ<|Qw)<|fun K6=>AZ<|CB h (fun h=>K6 _ ⟨(jc==3),Ad 15 73 [],h⟩) fun h=>AZ<|CB h (fun h=>K6 _ ⟨(jc==4),Ad 15 73 [],h⟩) fun h=>AZ<|CB h (fun h=>K6 _ ⟨(jc==5),Ad 15 73 [],h⟩) fun h=>Aw<|.a 2<|.nil<|K6 _ ⟨(jc==6),Ad 15 73 [],h⟩
def aME (j:Bj):Option Bj:=some j
def aGj (u:Int) (j:Bj) (m:Bj):Option Bj:=(bif ((EO .and .i64 u 128) != 0)then(dX j.Levels).bind fun q=>aME ({ m with Levels:=q })else aME m)
def aNk (m:Int) (j:Bj) (u:Bj):Option Bj:=(bif ((EO .and .i64 m 64) != 0)then(RX j.gy).bind fun q=>aGj m j ({ u with gy:=q })else aGj m j u)
def aOq (m:Int) (j:Bj) (u:Bj):Option Bj:=(bif ((EO .and .i64 m 32) != 0)then(RX j.Allow).bind fun q=>aNk m j ({ u with Allow:=q })else aNk m j u)
def aHb (m:Int) (j:Bj) (q:Bj):Option Bj:=(bif ((EO .and .i64 m 16) != 0)then aOq m j ({ q with Via:=j.Via })else aOq m j q)
def aHl (m:Int) (j:Bj) (q:Bj):Option Bj:=(bif ((EO .and .i64 m 4) != 0)then aHb m j ({ q with Target:=j.Target })else aHb m j q)
def nD (m:Int) (j:Bj):Option Bj:=(bif (m==1)then(RX j.Allow).bind fun u=>(RX j.gy).bind fun z=>(dX j.Levels).bind fun I=>some ({ { { j with Allow:=u }with gy:=z }with Levels:=I })else(lY m).bind fun q=>(bif ((EO .and .i64 q 2) != 0)then aHl q j ({ ET with N:=j.N })else aHl q j ET))
def aTf (jc jr r) (h:nD jc jr=some r):BG 81 [AV jc,NI jr] [] (NI r) []:=Am.aN Tryz.func81 rfl<|AZ<|Ac<|AZ<|BM h (fun h=>UL h fun x2 hx2 x3 hx3 x4 hx4 h=>Gt A8 A8 A8 (.a 2<|.ca (zy jr.Allow x2 hx2).view<|.a 2<|.ca (zy jr.gy x3 hx3).view<|.a 2<|.ca (adf jr.Levels x4 hx4)<|.a 6<|.nil _)<|AZ<|AP.ret<|by rw[←Cx h];exact⟨[NI ({ { { jr with Allow:=x2 }with gy:=x3 }with Levels:=x4 })],[],⟨⟨1,BD (Fh ({ { { jr with Allow:=x2 }with gy:=x3 }with Levels:=x4 })),true,16,A8,A8,A8,aLV,GV A8,Sm,A8⟩,trivial⟩,A8,A8,A8⟩) fun h=>AZ<|AU h fun j hx5 h=>AO<|.a 1<|.ca (aQG jc j hx5)<|.aW<|DN (fun s=>∃(z:Bj),CS s ⟨BH 64 [(3,.ptr 0 0),(4,.ptr 1 0),(5,.ptr 2 0),(6,AV j)],[.box (BD (Fh jr)),.box (BD (Fh ET)),.box (BD (Fh z))],0⟩∧aHl j jr z=some r) (by rintro s ⟨z,hs,h⟩;exact Cm hs<|DN (fun s=>∃(I:Bj),CS s ⟨BH 64 [(3,.ptr 0 0),(4,.ptr 1 0),(5,.ptr 2 0),(6,AV j)],[.box (BD (Fh jr)),.box (BD (Fh ET)),.box (BD (Fh I))],0⟩∧aHb j jr I=some r) (by rintro s ⟨I,hs,h⟩;exact Cm hs<|DN (fun s=>∃(J:Bj),CS s ⟨BH 64 [(3,.ptr 0 0),(4,.ptr 1 0),(5,.ptr 2 0),(6,AV j)],[.box (BD (Fh jr)),.box (BD (Fh ET)),.box (BD (Fh J))],0⟩∧aOq j jr J=some r) (by rintro s ⟨J,hs,h⟩;exact Cm hs<|DN (fun s=>∃(L:Bj),CS s ⟨BH 64 [(3,.ptr 0 0),(4,.ptr 1 0),(5,.ptr 2 0),(6,AV j)],[.box (BD (Fh jr)),.box (BD (Fh ET)),.box (BD (Fh L))],0⟩∧aNk j jr L=some r) (by rintro s ⟨L,hs,h⟩;exact Cm hs<|DN (fun s=>∃(m:Bj),CS s ⟨BH 64 [(3,.ptr 0 0),(4,.ptr 1 0),(5,.ptr 2 0),(6,AV j)],[.box (BD (Fh jr)),.box (BD (Fh ET)),.box (BD (Fh m))],0⟩∧aGj j jr m=some r) (by rintro s ⟨m,hs,h⟩;exact Cm hs<|DN (fun s=>∃(q:Bj),CS s ⟨BH 64 [(4,.ptr 0 0),(5,.ptr 1 0)],[.box (BD (Fh ET)),.box (BD (Fh q))],0⟩∧aME q=some r) (by rintro s ⟨q,hs,h⟩;exact Cm hs<|AZ<|AP.ret<|by rw[←Cx h];exact⟨[NI q],[],⟨⟨0,BD (Fh q),true,16,A8,A8,A8,aLV,GV A8,Sm,A8⟩,trivial⟩,A8,A8,A8⟩)<|fun M=>AO<|.a 1<|.p (QK (k:=.i64) (u:=j) (v:=128) rfl)<|.aW<|BM h (fun h=>AU h fun O U h=>Aw<|.a 2<|.ca (adf jr.Levels O U)<|.a 2<|.nil<|M _ ⟨({ m with Levels:=O }),Ad 64 48 [(1,true),(2,true)],h⟩) fun h=>M _ ⟨m,Ad 64 48 [(1,true),(2,true)],h⟩)<|fun Y=>AO<|.a 1<|.p (QK (k:=.i64) (u:=j) (v:=64) rfl)<|.aW<|BM h (fun h=>AU h fun Z asM h=>Aw<|.a 2<|.ca (zy jr.gy Z asM).view<|.a 2<|.nil<|Y _ ⟨({ L with gy:=Z }),Ad 64 120 [(0,true),(1,true),(2,true)],h⟩) fun h=>Y _ ⟨L,Ad 64 120 [(0,true),(1,true),(2,true)],h⟩)<|fun K18=>AO<|.a 1<|.p (QK (k:=.i64) (u:=j) (v:=32) rfl)<|.aW<|BM h (fun h=>AU h fun SC afo h=>Aw<|.a 2<|.ca (zy jr.Allow SC afo).view<|.a 2<|.nil<|K18 _ ⟨({ J with Allow:=SC }),Ad 64 120 [(0,true),(1,true),(2,true)],h⟩) fun h=>K18 _ ⟨J,Ad 64 120 [(0,true),(1,true),(2,true)],h⟩)<|fun K21=>AO<|.a 1<|.p (QK (k:=.i64) (u:=j) (v:=16) rfl)<|.aW<|BM h (fun h=>Aw<|.a 4<|.nil<|K21 _ ⟨({ I with Via:=jr.Via }),Ad 64 120 [(0,true),(1,true),(2,true)],h⟩) fun h=>K21 _ ⟨I,Ad 64 120 [(0,true),(1,true),(2,true)],h⟩)<|fun K23=>AO<|.a 1<|.p (QK (k:=.i64) (u:=j) (v:=4) rfl)<|.aW<|BM h (fun h=>Aw<|.a 4<|.nil<|K23 _ ⟨({ z with Target:=jr.Target }),Ad 64 120 [(0,true),(1,true),(2,true)],h⟩) fun h=>K23 _ ⟨z,Ad 64 120 [(0,true),(1,true),(2,true)],h⟩)<|fun K25=>AO<|.a 1<|.p (QK (k:=.i64) (u:=j) (v:=2) rfl)<|.aW<|BM h (fun h=>Aw<|.a 4<|.nil<|K25 _ ⟨({ ET with N:=jr.N }),Ad 64 120 [(0,true),(1,true),(2,true)],h⟩) fun h=>K25 _ ⟨ET,Ad 64 120 [(0,true),(1,true),(2,true)],h⟩
def yA (j:AB):Option AB:=(nD j.Kind j.Content).bind fun m=>some ({ j with Content:=m })
def aTP (bF r) (h:yA bF=some r):BG 47 [EP bF] [] (EP r) []:=Am.aN Tryz.func47 rfl<|AZ<|AU h fun j m h=>AO<|.a 4<|.ca (aTf bF.Kind bF.Content j m)<|.aW<|AZ<|AP.ret<|by rw[←Cx h];exact⟨[EP ({ bF with Content:=j })],[],⟨⟨1,BD (BA ({ bF with Content:=j })),true,29,A8,A8,A8,Dj,GV A8,aCv,A8⟩,trivial⟩,A8,A8,A8⟩
def iy (j:F8) (m:Int):Option F8:=(Nh j.b_ m).bind fun q=>some ({ j with b_:=q })
def am9 (OQ Ie r) (h:iy OQ Ie=some r):BG 175 [.ptr 0 0,AV Ie] [.box (BD (KZ OQ))] (.fB []) [.box (BD (KZ r))]:=Am.aN Tryz.func175 rfl<|AU h fun m j h=>Aw<|.a 6<|.ca (Wn OQ.b_ Ie m j).view<|.a 3<|.nil<|Yd
def aKo (j:AL) (u:(Int→F8→Option F8)):Int→F8→Option F8:=fun m q=>(bif decide (m<(j.length:Int))then(Ae j m).bind fun z=>(iy q z).bind fun I=>u (Ag (m+1)) I else some q)
def aec (j:AL):Int→F8→Option F8:=aQ (aKo j) Af
def TJ (j:F8) (m:AL):Option F8:=aec m 0 j
def vI (tJ dM r) (h:TJ tJ dM=some r):BG 174 [.fn (.func 175) [.ptr 0 0] [],Bl dM] [.box (BD (KZ tJ))] (.fB []) [.box (BD (KZ r))]:=Am.aN Tryz.func174 rfl<|AO<|.a 1<|.p (BN Aa dM CQ rfl)<|.aW<|AP.block<|EW (fun z j=>⟨BH 16 [(0,.fn (.func 175) [.ptr 0 0] []),(6,Bl dM),(7,AV (dM.length:Int)),(8,AV z)],[.box (BD (KZ j))],1⟩) _ _ _ _ (Ad 16 449 [(0,true)]) h<|fun L M m z j h=>AZ<|Ac<|CB h (fun h=>Ac<|AP.block<|AU h fun I q h=>AO<|.p (BQ Aa q CQ DX rfl)<|.aW<|AU h fun J u h=>Aw<|.a 2<|.f (x:=.fB []) (dV [.ent 0] [.ptr 0 0] [] [AV I] (am9 j I J u) rfl)<|.nil<|Aw<|.a 2<|aCQ) fun h=>AP.exit<|Yd
def eI (j:F8) (m:ByteArray):Option F8:=(RD j.b_ m).bind fun q=>some ({ j with b_:=q })
def akU (OQ gZ r) (h:eI OQ gZ=some r):BG 177 [.ptr 0 0,Dv gZ] [.box (BD (KZ OQ))] (.fB []) [.box (BD (KZ r))]:=Am.aN Tryz.func177 rfl<|AU h fun m j h=>Aw<|.a 6<|.ca (aCf OQ.b_ gZ m j).view<|.a 3<|.nil<|Yd
def aLm (j:FV) (u:(Int→F8→Option F8)):Int→F8→Option F8:=fun m q=>(bif decide (m<(j.length:Int))then(Ae j m).bind fun z=>(eI q z).bind fun I=>u (Ag (m+1)) I else some q)
def aa4 (j:FV):Int→F8→Option F8:=aQ (aLm j) Af
def X7 (j:F8) (m:FV):Option F8:=aa4 m 0 j
def aAl (tJ dM r) (h:X7 tJ dM=some r):BG 176 [.fn (.func 177) [.ptr 0 0] [],Jh dM] [.box (BD (KZ tJ))] (.fB []) [.box (BD (KZ r))]:=Am.aN Tryz.func176 rfl<|AO<|.a 1<|.p (BN DY dM He rfl)<|.aW<|AP.block<|EW (fun z j=>⟨BH 16 [(0,.fn (.func 177) [.ptr 0 0] []),(6,Jh dM),(7,AV (dM.length:Int)),(8,AV z)],[.box (BD (KZ j))],1⟩) _ _ _ _ (Ad 16 449 [(0,true)]) h<|fun L M m z j h=>AZ<|Ac<|CB h (fun h=>Ac<|AP.block<|AU h fun I q h=>AO<|.p (BQ DY q He LM rfl)<|.aW<|AU h fun J u h=>Aw<|.a 2<|.f (x:=.fB []) (dV [.ent 0] [.ptr 0 0] [] [Dv I] (akU j I J u) rfl)<|.nil<|Aw<|.a 2<|aCQ) fun h=>AP.exit<|Yd
def yE (j:F8) (m:Bool):Option F8:=(Yi j.b_ m).bind fun q=>some ({ j with b_:=q })
def al5 (OQ X8 r) (h:yE OQ X8=some r):BG 179 [.ptr 0 0,Ai X8] [.box (BD (KZ OQ))] (.fB []) [.box (BD (KZ r))]:=Am.aN Tryz.func179 rfl<|AU h fun m j h=>Aw<|.a 6<|.ca (aS8 OQ.b_ X8 m j).view<|.a 3<|.nil<|Yd
def aKe (j:(List Bool)) (u:(Int→F8→Option F8)):Int→F8→Option F8:=fun m q=>(bif decide (m<(j.length:Int))then(Ae j m).bind fun z=>(yE q z).bind fun I=>u (Ag (m+1)) I else some q)
def afE (j:(List Bool)):Int→F8→Option F8:=aQ (aKe j) Af
def qU (j:F8) (m:(List Bool)):Option F8:=afE m 0 j
def afr (tJ dM r) (h:qU tJ dM=some r):BG 178 [.fn (.func 179) [.ptr 0 0] [],.d ((BF DL) dM)] [.box (BD (KZ tJ))] (.fB []) [.box (BD (KZ r))]:=Am.aN Tryz.func178 rfl<|AO<|.a 1<|.p (BN DL dM adr rfl)<|.aW<|AP.block<|EW (fun z j=>⟨BH 16 [(0,.fn (.func 179) [.ptr 0 0] []),(6,.d ((BF DL) dM)),(7,AV (dM.length:Int)),(8,AV z)],[.box (BD (KZ j))],1⟩) _ _ _ _ (Ad 16 449 [(0,true)]) h<|fun L M m z j h=>AZ<|Ac<|CB h (fun h=>Ac<|AP.block<|AU h fun I q h=>AO<|.p (BQ DL q adr ad6 rfl)<|.aW<|AU h fun J u h=>Aw<|.a 2<|.f (x:=.fB []) (dV [.ent 0] [.ptr 0 0] [] [Ai I] (al5 j I J u) rfl)<|.nil<|Aw<|.a 2<|aCQ) fun h=>AP.exit<|Yd
def aO4 (j:AL) (u:(AL→Int→Option AL)):AL→Int→Option AL:=fun q m=>(bif decide (m<(j.length:Int))then(Ae j m).bind fun z=>(Y4 q z).bind fun I=>u I (Ag (m+1))else some q)
def aTn (j:AL):AL→Int→Option AL:=aQ (aO4 j) Af
def aD1 (m:AL) (j:AL):Option AL:=(Y4 m (j.length:Int)).bind fun q=>aTn j q 0
def apM (kJ dM r) (h:aD1 kJ dM=some r):BG 276 [.aZ 0,Bl dM,.d (.fn (.func 225) [] [])] [(Ls kJ)] (.aZ 1) [.dead,(Ls r)]:=Am.aN Tryz.func276 rfl<|AO<|.f (D6 5 1 rfl)<|.bJ<|AU h fun L j h=>AO<|.a 2<|.p (BN Aa dM CQ rfl)<|.f (x:=.aZ 2) (ER [.ent 0] [.aZ 0,AV (dM.length:Int)] (pS kJ (dM.length:Int) L j) rfl)<|.aW<|Ac<|AO<|.a 1<|.p (BN Aa dM CQ rfl)<|.aW<|AP.block<|EW (fun m I=>⟨BH 25 [(0,.aZ 1),(2,.d (.fn (.func 225) [] [])),(13,Bl dM),(14,AV (dM.length:Int)),(15,AV I)],[.dead,(Ls m)],1⟩) _ _ _ _ (Ad 25 57349 [(0,false),(2,true)]) h<|fun O U q m I h=>AZ<|Ac<|CB h (fun h=>Ac<|AP.block<|AU h fun J u h=>AO<|.p (BQ Aa u CQ DX rfl)<|.aW<|AU h fun M z h=>Aw<|.a 3<|.f (x:=.aZ 2) (aSe [.ent 1] [] [] [.aZ 1,AV J] (pS m J M z) rfl)<|.a 1<|.nil<|Aw<|.a 2<|.nil<|q _ _ _ (Ad 25 57349 [(0,false),(2,true)]) h) fun h=>AP.exit<|AZ<|aeb
def Xh (m:AL) (j:AL):Option AL:=(Ya m (Ag ((Ag (2*(j.length:Int)))+10))).bind fun q=>(aD1 q j).bind fun u=>some u
def amd (kJ dM r) (h:Xh kJ dM=some r):BG 227 [Kq kJ,Bl dM] [] (.aZ 0) [(Ls r)]:=Am.aN Tryz.func227 rfl<|AO<|.f (D6 5 1 rfl)<|.bJ<|DJ h fun q j u m h=>AO<|.a 2<|.p (BN Aa dM CQ rfl)<|.a 2<|.f (x:=.aZ 1) (V3 [Kq kJ,AV (Ag ((Ag (2*(dM.length:Int)))+10))] (uf kJ (Ag ((Ag (2*(dM.length:Int)))+10)) q j) rfl)<|.a 1<|.f (x:=.aZ 2) (ER [.ent 1] [.aZ 1,Bl dM,.d (.fn (.func 225) [] [])] (apM q dM u m) rfl)<|.aW<|Oc
def mO (j:F8) (m:AL):Option F8:=(Xh j.b_ m).bind fun q=>some ({ j with b_:=q })
def aq9 (OQ dM r) (h:mO OQ dM=some r):BG 181 [.ptr 0 0,Bl dM] [.box (BD (KZ OQ))] (.fB []) [.box (BD (KZ r))]:=Am.aN Tryz.func181 rfl<|AU h fun m j h=>Aw<|.a 6<|.ca (amd OQ.b_ dM m j).view<|.a 3<|.nil<|Yd
abbrev Um:=List (List Int)
def aN5 (j:Um) (u:(Int→F8→Option F8)):Int→F8→Option F8:=fun m q=>(bif decide (m<(j.length:Int))then(Ae j m).bind fun z=>(mO q z).bind fun I=>u (Ag (m+1)) I else some q)
def aPr (j:Um):Int→F8→Option F8:=aQ (aN5 j) Af
def qg (j:F8) (m:Um):Option F8:=aPr m 0 j
def akI (tJ dM r) (h:qg tJ dM=some r):BG 180 [.fn (.func 181) [.ptr 0 0] [],.d ((BF (BF Aa)) dM)] [.box (BD (KZ tJ))] (.fB []) [.box (BD (KZ r))]:=Am.aN Tryz.func180 rfl<|AO<|.a 1<|.p (BN (BF Aa) dM afR rfl)<|.aW<|AP.block<|EW (fun z j=>⟨BH 16 [(0,.fn (.func 181) [.ptr 0 0] []),(6,.d ((BF (BF Aa)) dM)),(7,AV (dM.length:Int)),(8,AV z)],[.box (BD (KZ j))],1⟩) _ _ _ _ (Ad 16 449 [(0,true)]) h<|fun L M m z j h=>AZ<|Ac<|CB h (fun h=>Ac<|AP.block<|AU h fun I q h=>AO<|.p (BQ (BF Aa) q afR aTx rfl)<|.aW<|AU h fun J u h=>Aw<|.a 2<|.f (x:=.fB []) (dV [.ent 0] [.ptr 0 0] [] [Bl I] (aq9 j I J u) rfl)<|.nil<|Aw<|.a 2<|aCQ) fun h=>AP.exit<|Yd
def yh (j:AB):Option AL:=(TJ aBP [j.Id]).bind fun z=>(X7 z [j.Room,j.aP]).bind fun I=>(TJ I [j.Kind]).bind fun J=>(qU J [j.State]).bind fun L=>(X7 L [j.Key]).bind fun M=>(TJ M [j.Time,j.Depth]).bind fun O=>(qg O [j.bC,j.bD]).bind fun U=>(pV j.Content).bind fun Y=>(X7 U [QV Y]).bind fun Z=>(TJ Z [j.Hash]).bind fun m=>(X7 m [j.qc.Server]).bind fun q=>(TJ q [j.qc.Sum]).bind fun u=>some u.b_
def anI (bF r) (h:yh bF=some r):BG 139 [EP bF] [] (Kq r) []:=Am.aN Tryz.func139 rfl<|AZ<|AZ<|AU h fun x1 J h=>AO<|.a 1<|.p (x:=.fn (.func 175) [.ptr 1 0] []) (Q9 (fi:=[.ptr 1 0]) (ca:=[]) rfl rfl rfl)<|.a 2<|.p (ED EI zero3 [Aa bF.Id] rfl)<|.f (x:=.fB []) (ER [.ent 1] [.fn (.func 175) [.ptr 1 0] [],Bl [bF.Id]] (vI aBP [bF.Id] x1 J) rfl (ha:=⟨⟨_,_,rfl,⟨⟨0,rfl,rfl⟩,trivial⟩,trivial⟩,.inl rfl,trivial⟩))<|.bJ<|AU h fun x2 L h=>AO<|.a 1<|.p (x:=.fn (.func 177) [.ptr 1 0] []) (Q9 (fi:=[.ptr 1 0]) (ca:=[]) rfl rfl rfl)<|.a 4<|.p (ED ZQ zero9 [DY bF.Room,DY bF.aP] rfl)<|.f (x:=.fB []) (ER [.ent 1] [.fn (.func 177) [.ptr 1 0] [],Jh [bF.Room,bF.aP]] (aAl x1 [bF.Room,bF.aP] x2 L) rfl (ha:=⟨⟨_,_,rfl,⟨⟨0,rfl,rfl⟩,trivial⟩,trivial⟩,.inl rfl,trivial⟩))<|.bJ<|AU h fun x3 M h=>AO<|.a 1<|.p (x:=.fn (.func 175) [.ptr 1 0] []) (Q9 (fi:=[.ptr 1 0]) (ca:=[]) rfl rfl rfl)<|.a 2<|.p (ED EI zero3 [Aa bF.Kind] rfl)<|.f (x:=.fB []) (ER [.ent 1] [.fn (.func 175) [.ptr 1 0] [],Bl [bF.Kind]] (vI x2 [bF.Kind] x3 M) rfl (ha:=⟨⟨_,_,rfl,⟨⟨0,rfl,rfl⟩,trivial⟩,trivial⟩,.inl rfl,trivial⟩))<|.bJ<|AU h fun x4 O h=>AO<|.a 1<|.p (x:=.fn (.func 179) [.ptr 1 0] []) (Q9 (fi:=[.ptr 1 0]) (ca:=[]) rfl rfl rfl)<|.a 2<|.p (ED ajf uV [DL bF.State] rfl)<|.f (x:=.fB []) (ER [.ent 1] [.fn (.func 179) [.ptr 1 0] [],.d ((BF DL) [bF.State])] (afr x3 [bF.State] x4 O) rfl (ha:=⟨⟨_,_,rfl,⟨⟨0,rfl,rfl⟩,trivial⟩,trivial⟩,.inl rfl,trivial⟩))<|.bJ<|AU h fun x5 U h=>AO<|.a 1<|.p (x:=.fn (.func 177) [.ptr 1 0] []) (Q9 (fi:=[.ptr 1 0]) (ca:=[]) rfl rfl rfl)<|.a 2<|.p (ED ZQ zero9 [DY bF.Key] rfl)<|.f (x:=.fB []) (ER [.ent 1] [.fn (.func 177) [.ptr 1 0] [],Jh [bF.Key]] (aAl x4 [bF.Key] x5 U) rfl (ha:=⟨⟨_,_,rfl,⟨⟨0,rfl,rfl⟩,trivial⟩,trivial⟩,.inl rfl,trivial⟩))<|.bJ<|AU h fun x6 Y h=>AO<|.a 1<|.p (x:=.fn (.func 175) [.ptr 1 0] []) (Q9 (fi:=[.ptr 1 0]) (ca:=[]) rfl rfl rfl)<|.a 4<|.p (ED EI zero3 [Aa bF.Time,Aa bF.Depth] rfl)<|.f (x:=.fB []) (ER [.ent 1] [.fn (.func 175) [.ptr 1 0] [],Bl [bF.Time,bF.Depth]] (vI x5 [bF.Time,bF.Depth] x6 Y) rfl (ha:=⟨⟨_,_,rfl,⟨⟨0,rfl,rfl⟩,trivial⟩,trivial⟩,.inl rfl,trivial⟩))<|.bJ<|AU h fun x7 Z h=>AO<|.a 1<|.p (x:=.fn (.func 181) [.ptr 1 0] []) (Q9 (fi:=[.ptr 1 0]) (ca:=[]) rfl rfl rfl)<|.a 4<|.p (ED aml zero24 [(BF Aa) bF.bC,(BF Aa) bF.bD] rfl)<|.f (x:=.fB []) (ER [.ent 1] [.fn (.func 181) [.ptr 1 0] [],.d ((BF (BF Aa)) [bF.bC,bF.bD])] (akI x6 [bF.bC,bF.bD] x7 Z) rfl (ha:=⟨⟨_,_,rfl,⟨⟨0,rfl,rfl⟩,trivial⟩,trivial⟩,.inl rfl,trivial⟩))<|.bJ<|DJ h fun j L9 x9 DI h=>AO<|.a 1<|.p (x:=.fn (.func 177) [.ptr 1 0] []) (Q9 (fi:=[.ptr 1 0]) (ca:=[]) rfl rfl rfl)<|.a 2<|.ca (aeP bF.Content j L9)<|.p (aiy (l:=j) xR aai N9 rfl)<|.p (ED ZQ zero9 [DY (QV j)] rfl)<|.f (x:=.fB []) (ER [.ent 1] [.fn (.func 177) [.ptr 1 0] [],Jh [QV j]] (aAl x7 [QV j] x9 DI) rfl (ha:=⟨⟨_,_,rfl,⟨⟨0,rfl,rfl⟩,trivial⟩,trivial⟩,.inl rfl,trivial⟩))<|.bJ<|AU h fun m q h=>AO<|.a 1<|.p (x:=.fn (.func 175) [.ptr 1 0] []) (Q9 (fi:=[.ptr 1 0]) (ca:=[]) rfl rfl rfl)<|.a 2<|.p (ED EI zero3 [Aa bF.Hash] rfl)<|.f (x:=.fB []) (ER [.ent 1] [.fn (.func 175) [.ptr 1 0] [],Bl [bF.Hash]] (vI x9 [bF.Hash] m q) rfl (ha:=⟨⟨_,_,rfl,⟨⟨0,rfl,rfl⟩,trivial⟩,trivial⟩,.inl rfl,trivial⟩))<|.bJ<|AU h fun u z h=>AO<|.a 1<|.p (x:=.fn (.func 177) [.ptr 1 0] []) (Q9 (fi:=[.ptr 1 0]) (ca:=[]) rfl rfl rfl)<|.a 3<|.p (ED ZQ zero9 [DY bF.qc.Server] rfl)<|.f (x:=.fB []) (ER [.ent 1] [.fn (.func 177) [.ptr 1 0] [],Jh [bF.qc.Server]] (aAl m [bF.qc.Server] u z) rfl (ha:=⟨⟨_,_,rfl,⟨⟨0,rfl,rfl⟩,trivial⟩,trivial⟩,.inl rfl,trivial⟩))<|.bJ<|AU h fun x12 I h=>AO<|.a 1<|.p (x:=.fn (.func 175) [.ptr 1 0] []) (Q9 (fi:=[.ptr 1 0]) (ca:=[]) rfl rfl rfl)<|.a 3<|.p (ED EI zero3 [Aa bF.qc.Sum] rfl)<|.f (x:=.fB []) (ER [.ent 1] [.fn (.func 175) [.ptr 1 0] [],Bl [bF.qc.Sum]] (vI u [bF.qc.Sum] x12 I) rfl (ha:=⟨⟨_,_,rfl,⟨⟨0,rfl,rfl⟩,trivial⟩,trivial⟩,.inl rfl,trivial⟩))<|.bJ<|AZ<|Cj
def qA (j:AB):Option Int:=(yA j).bind fun m=>(yh ({ { m with Id:=0 }with qc:=XK })).bind fun q=>(sW q).bind fun u=>some u
def aRI (bF r) (h:qA bF=some r):BG 97 [EP bF] [] (AV r) []:=Am.aN Tryz.func97 rfl<|AZ<|AU h fun z j h=>AO<|.a 1<|.ca (aTP bF z j)<|.aW<|AZ<|DJ h fun u m I q h=>AO<|.a 1<|.ca (anI _ u m)<|.ca (aRP u I q)<|.aW<|Cj
def aew (m:AB) (j:ByteArray):Option AB:=(rE m).bind fun q=>(qA ({ m with Hash:=q })).bind fun u=>some ({ { { m with Hash:=q }with Id:=u }with qc:=(⟨j,({ { m with Hash:=q }with Id:=u }).Id⟩:NT) })
def aoB (bF abe r) (h:aew bF abe=some r):BG 62 [EP bF,Dv abe] [] (EP r) []:=Am.aN Tryz.func62 rfl<|AZ<|AU h fun j q h=>AO<|.a 1<|.ca (aR0 bF j q)<|.aW<|AU h fun m u h=>AO<|.a 1<|.ca (aRI _ m u)<|.aW<|AZ<|AZ<|AP.ret<|by rw[←Cx h];exact⟨[EP ({ { { bF with Hash:=j }with Id:=m }with qc:=(⟨abe,({ { bF with Hash:=j }with Id:=m }).Id⟩:NT) })],[],⟨⟨1,BD (BA ({ { { bF with Hash:=j }with Id:=m }with qc:=(⟨abe,({ { bF with Hash:=j }with Id:=m }).Id⟩:NT) })),true,29,A8,A8,A8,Dj,GV A8,aCe,A8⟩,trivial⟩,A8,A8,A8⟩
def qF (j:AB):Option AB:=(aew j aSm).bind fun m=>some m
def aCq (bF r) (h:qF bF=some r):BG 34 [EP bF] [] (EP r) []:=Am.aN Tryz.func34 rfl<|AZ<|AU h fun j m h=>AO<|.a 1<|.ca (aoB bF aSm j m)<|.aW<|AP.ret<|by rw[←Cx h];exact⟨[EP j],[],⟨⟨1,BD (BA j),true,29,A8,A8,A8,Dj,GV A8,aCv,A8⟩,trivial⟩,A8,A8,A8⟩
def aOR (j:AX) (m:(AB→Option Bool)) (k2:(Int→Option Int)):Int→Option Int:=fun q=>(bif decide (q<(j.length:Int))then(Ae j q).bind fun u=>(m u).bind fun z=>(bif z then some q else k2 (Ag (q+1)))else some (-1))
def aac (j:AX) (m:(AB→Option Bool)):Int→Option Int:=bg (aOR j m) Af
def eU (j:AX) (m:(AB→Option Bool)):Option Int:=aac j m 0
def aGv (m:(List AB)) (q:(AB→Option Bool)) (j:D) (u:UA Tryz.prog BA DL j q) (r:Int) (h:eU m q=some r):BG 87 [BL m,.d j] [] (AV r) []:=Am.aN Tryz.func87 rfl<|AZ<|Ac<|AO<|.a 1<|.p (BN BA m Ce rfl)<|.aW<|AP.block<|En (fun L=>⟨BH 19 [(0,BL m),(1,.d j),(7,AV (m.length:Int)),(8,AV L)],[],0⟩) _ _ _ (Ad 19 387 []) h<|fun M k2 z L h=>AZ<|Ac<|CB h (fun h=>Ac<|AP.block<|AZ<|DJ h fun O I U J h=>AO<|.a 3<|.p (BQ BA I Ce Dj rfl)<|.a 1<|.p (pI (d:=j) (u:UA Tryz.prog BA DL j q) J rfl)<|.bJ<|BM h CP fun h=>Aw<|.a 2<|.nil<|z _ _ (Ad 19 387 []) h) fun h=>Gf
def aDE (j:AB) (m:Int):Option Bool:=some (j.Id==m)
def at7 (bF c0 r) (h:aDE bF c0=some r):BG 88 [EP bF,.d (.ref (Aa c0).cells 0)] [] (Ai r) []:=Am.aN Tryz.func88 rfl<|iP
def aER (m:AX) (j:Int):Option Int:=(eU m (fun a0=>aDE a0 j)).bind fun q=>some q
def aRk (ay jg r) (h:aER ay jg=some r):BG 51 [BL ay,AV jg] [] (AV r) []:=Am.aN Tryz.func51 rfl<|AZ<|AU h fun m j h=>AO<|.a 1<|.conv _ (UU (cs:=BD (Aa jg)) 0 A8 A8)<|.p (x:=.d (.fn (.func 88) [] [(.ref (Aa jg).cells 0)])) (Va [(.ref (Aa jg).cells 0)] rfl rfl)<|.ca (aGv ay (fun a0=>aDE a0 jg) (.fn (.func 88) [] [(.ref (Aa jg).cells 0)]) ⟨88,[(.ref (Aa jg).cells 0)],rfl,ajt,fun a0 b q=>at7 a0 jg b q⟩ m j)<|.aW<|Cj
def mX (j:AX):Option AX:=(Bz 376 [] j).bind fun m=>some m
def aUf (fU r) (h:mX fU=some r):BG 45 [BL fU] [] (.aZ 0) [(Hu r)]:=by
 refine Am.aN Tryz.func45 rfl ?_;unfold mX at h;refine AO<|.f (D6 35 29 rfl)<|.bJ<|Ac<|sJ (x:=.tmp 3) (t':=22) (d:=4) (es:=List.map BA fU) 1 rfl (.a 1<|.nil _) A8 A8 A8 Ce A8 ?_;intro b j;cases b
 ·clear j;refine NM A8<|AP.skip ?_;obtain⟨q,m,h⟩:=CY h;refine AO<|.f (ZC Le Q7 [] rfl)<|.a 1<|.f (El (k:=1) BA m Le A8 (fun _=>rfl) BJ rfl)<|.aM 1 ?_;rw[←Cx h];exact .ret (F5 [(2,true)])
 replace j:=rX j;replace h:some []=some r:=yg
 refine Ql A8<|AO<|.f (D6 35 29 rfl)<|.bJ ?_;rw[←Cx h];exact .ret (F5 [(1,true)])
def lQ (j:AB):Option Bool:=(rE j).bind fun m=>some (m==j.Hash)
def aB5 (bF r) (h:lQ bF=some r):BG 63 [EP bF] [] (Ai r) []:=Am.aN Tryz.func63 rfl<|AZ<|AU h fun m j h=>Gt A8 A8 A8 (.a 1<|.ca (aR0 bF m j)<|.a 4<|.nil _)<|Cj
def abP (j:List AB) (m:Int) (q:List AB):Option AX:=aMj j m q
def akA (j:List AB) (m:Int) (q r:List AB) (h:abP j m q=some r):BG 64 [.aZ 0,AV m,.aZ 1] [(Hu j),(Hu q)] (.aZ 2) [.dead,.dead,(Hu r)]:=
 auD (fun _=>rfl) j m q r h
def aLs (j:AX):Option (AX×Int):=some (j,0)
def aHA (q:(Int→Option (AX×Int))) (j:Int) (u:AX) (m:AB) (z:Bool):Option (AX×Int):=(bif z then q (Ag (j+1))else(abP u j [m]).bind fun I=>some (I,0))
def afu (q:AX) (u:AX) (j:AB) (z:(Int→Option (AX×Int))):Int→Option (AX×Int):=fun m=>(bif decide (m<(q.length:Int))then(Ae q m).bind fun I=>aHA z m u j (decide (I.Id<j.Id))else aHA z m u j false)
def aiA (j:AX) (q:AX) (m:AB):Int→Option (AX×Int):=bg (afu j q m) Af
def alF (j:AX) (m:AB) (k2:(Int→Option (AX×Int))):Int→Option (AX×Int):=fun z=>(bif decide (z<(j.length:Int))then(Ae j z).bind fun O=>(bif (!(O.Room.toList==m.Room.toList))then some ([],13)else k2 (Ag (z+1)))else(aER j m.Id).bind fun u=>(bif decide (u<0)then some (decide ((j.length:Int)≥2000))else some false).bind fun U=>(bif U then some ([],29)else(mX j).bind fun q=>(bif decide (u≥0)then(lQ m).bind fun I=>(bif I then(Ae j u).bind fun J=>(lQ J).bind fun L=>some (!L)else some false).bind fun M=>(bif M then(Ae q u).bind fun Y=>aLs (q.set (u).toNat m)else aLs q)else aiA j q m 0)))
def aja (j:AX) (m:AB):Int→Option (AX×Int):=bg (alF j m) Af
def acA (j:AX) (m:AB):Option (AX×Int):=aja j m 0
def ah2 (ay jw r) (h:acA ay jw=some r):BG 35 [BL ay,EP jw] [] (.fB [.aZ 0,AV r.2]) [(Hu r.1)]:=Am.aN Tryz.func35 rfl<|AO<|.a 1<|.f (D6 35 29 rfl)<|.aW<|Ac<|AO<|.a 1<|.p (BN BA ay Ce rfl)<|.aW<|AP.block<|En (fun v1=>⟨BH 73 [(0,BL ay),(3,.ptr 0 0),(10,BL ay),(11,AV (ay.length:Int)),(12,AV v1)],[.box (BD (BA jw))],0⟩) _ _ _ (Ad 73 7177 [(0,true)]) h<|fun J30 k2 hk2 v1 h=>AZ<|Ac<|CB h (fun h=>Ac<|AP.block<|AU h fun x4 hx4 h=>AO<|.p (BQ BA hx4 Ce Dj rfl)<|.aW<|AZ<|BM h (fun h=>AO<|.f (D6 35 29 rfl)<|.aW<|Oc) fun h=>Aw<|.a 2<|.nil<|hk2 _ _ (Ad 73 7177 [(0,true)]) h) fun h=>AP.exit<|AU h fun x6 hx6 h=>AO<|.a 3<|.ca (aRk ay jw.Id x6 hx6)<|.aW<|Ac<|AO<|.a 2<|AU h fun x7 hx7 h=>.mg 28 4 (Ai x7) (.bi hx7 (fun h=>.a 1<|.p (BN BA ay Ce rfl)<|.aW<|Dx))<|.bJ<|BM h (fun h=>AO<|.f (D6 35 29 rfl)<|.aW<|V5) fun h=>AU h fun j J h=>AO<|.a 1<|.f (x:=.aZ 1) (V3 [BL ay] (aUf ay j J) rfl)<|.aW<|Ac<|AZ<|BM h (fun h=>DN (fun s=>∃(z:(List AB)),CS s ⟨BH 73 [(9,.aZ 0)],[(Hu z)],0⟩∧aLs z=some r) (by rintro s ⟨z,hs,h⟩;exact Cm hs<|AZ<|Zr)<|fun L=>AU h fun x14 M h=>AO<|.a 1<|.ca (aB5 jw x14 M)<|.a 1<|AU h fun x15 O h=>.mg 40 6 (Ai x15) (Di O (fun e i=>by subst e;have h:=i;exact DJ h fun x17 U x18 Y h=>.a 2<|.p (BQ BA U Ce Dj rfl)<|.a 1<|.ca (aB5 x17 x18 Y)<|.aW<|Dx))<|.bJ<|BM h (fun h=>AU h fun SC u h=>Aw<|.a 3<|.p (PV (e':=35) (kd:=.i64) BA u (k:=1) A8 Ce Dj rfl)<|.f (nO (e:=35) (size:=29) (v:=(EP jw)) (k:=1) (i:=(x6).toNat) (off:=0) (a':=jw) BA A8 (KQ u).2 A8 (Dj).size A8 (GV A8) A8 (fun _=>rfl) rfl)<|.nil<|L _ ⟨(j.set (x6).toNat jw),Ad 73 512 [(1,true)],h⟩) fun h=>L _ ⟨j,Ad 73 512 [(1,true)],h⟩) fun h=>AZ<|Ac<|AP.block<|En (fun m=>⟨BH 73 [(0,BL ay),(3,.ptr 0 0),(8,AV m),(9,.aZ 1)],[.box (BD (BA jw)),(Hu j)],0⟩) _ _ _ (Ad 73 777 [(0,true),(1,true)]) h<|fun J29 k22 Z m h=>Ac<|DN (fun s=>∃(I:Bool),CS s ⟨BH 73 [(0,BL ay),(3,.ptr 0 0),(8,AV m),(9,.aZ 1),(65,Ai I)],[.box (BD (BA jw)),(Hu j)],0⟩∧aHA k22 m j jw I=some r) (by rintro s ⟨I,hs,h⟩;exact Cm hs<|CB h (fun h=>AP.block<|Aw<|.a 3<|.nil<|Z _ _ (Ad 73 777 [(0,true),(1,true)]) h) fun h=>AP.exit<|AU h fun x25 hx25 h=>AO<|.a 3<|.f (ZC Le Q7 [BA jw] rfl)<|.f (x:=.aZ 3) (ER [.ent 1,.ent 2] [.aZ 1,AV m,.aZ 2] (akA j m [jw] x25 hx25) rfl (hE:=(LU A8<|LU A8<|trivial)))<|.aW<|by cases h;exact .ret (F5 [(3,true)]))<|fun K26=>GY h (fun q h=>AU h fun x28 hx28 h=>AP.draw A8 A8 A8 (.a 2<|.p (BN BA ay Ce rfl)<|.a 1<|.c (BI some q)<|.a 2<|.p (BQ BA hx28 Ce Dj rfl)<|.a 6<|.nil _)<|K26 _ ⟨(decide (x28.Id<jw.Id)),Ad 73 36893488147419104009 [(0,true),(1,true)],h⟩) fun q h=>AP.draw A8 A8 A8 (.a 2<|.p (BN BA ay Ce rfl)<|.a 1<|.c (BI some q)<|.a 9<|.nil _)<|K26 _ ⟨false,Ad 73 36893488147419104009 [(0,true),(1,true)],h⟩
def ZW (j:Int):Option Bool:=(bif decide (j≥1)then some (decide (j≤10))else some false).bind fun m=>some m
def jJ (jc r) (h:ZW jc=some r):BG 192 [AV jc] [] (Ai r) []:=Am.aN Tryz.func192 rfl<|AZ<|AO<|.a 2<|AU h fun m j h=>.mg 5 3 (Ai m) (.bi j)<|.aW<|Cj
def aIb (j:ByteArray) (m:ByteArray):Option (ByteArray×ByteArray×Bool):=(zF j m).bind fun q=>(bif decide (q≥0)then(NU j 0 q).bind fun u=>(NU j (Ag (q+(m.size:Int))) ((j).size)).bind fun z=>some (u,z,true)else some (j,Bc,false))
def am2 (fU Zc r) (h:aIb fU Zc=some r):BG 312 [Dv fU,Dv Zc] [] (.fB [Dv r.1,Dv r.2.1,Ai r.2.2]) []:=Am.aN Tryz.func312 rfl<|AZ<|Ac<|AU h fun z j h=>AO<|.a 2<|.ca (ajg fU Zc z j)<|.aW<|AZ<|BM h (fun h=>DJ h fun I m J q h=>Gt A8 A8 A8 (.a 2<|.p (aIF m (fun _=>rfl) (by intro u;cases u) N9 rfl)<|.a 5<|.p (aIF q (by intro u;cases u) (fun _=>rfl) N9 rfl)<|.a 3<|.nil _)<|Cj) fun h=>AZ<|Cj
def strings_Cut (m:ByteArray) (j:ByteArray):Option (ByteArray×ByteArray×Bool):=(aIb m j).bind fun q=>some (q.1,q.2.1,q.2.2)
def aiL (fU Zc r) (h:strings_Cut fU Zc=some r):BG 262 [Dv fU,Dv Zc] [] (.fB [Dv r.1,Dv r.2.1,Ai r.2.2]) []:=Am.aN Tryz.func262 rfl<|AZ<|AU h fun m j h=>AO<|.a 2<|.ca (am2 fU Zc m j)<|.aW<|Cj
def sD (j:Int):Option Bool:=(bif (j==95)then some true else some (j==46)).bind fun m=>(bif m then some true else some (j==45)).bind fun q=>(bif q then some true else some (j==61)).bind fun u=>some u
def ain (jq r) (h:sD jq=some r):BG 314 [.d (Eo jq)] [] (Ai r) []:=Am.aN Tryz.func314 rfl<|AZ<|AO<|.a 2<|AU h fun u j h=>.mg 5 3 (Ai u) (.bi j)<|.a 1<|AU h fun z m h=>.mg 10 2 (Ai z) (Di m)<|.a 1<|AU h fun I q h=>.mg 14 2 (Ai I) (Di q)<|.aW<|Cj
def iZ (j:Int):Option Bool:=(bif decide (j≥97)then some (decide (j≤122))else some false).bind fun m=>(bif m then some true else(bif decide (j≥48)then some (decide (j≤57))else some false).bind fun q=>some q).bind fun u=>some u
def aLu (jq r) (h:iZ jq=some r):BG 316 [.d (Eo jq)] [] (Ai r) []:=Am.aN Tryz.func316 rfl<|AZ<|AO<|.a 2<|AU h fun u j h=>.mg 5 3 (Ai u) (.bi j)<|.a 1<|AU h fun z m h=>.mg 10 6 (Ai z) (Di m (k2:=fun e i=>by subst e;have h:=i;exact .a 2<|AU h fun I q h=>.mg 12 3 (Ai I) (.bi q)<|.aW<|Dx))<|.aW<|Cj
def aPe (m:ByteArray) (j:(Int→Option Bool)) (I:(Int→Option Bool)):Int→Option Bool:=fun q=>(bif decide (q<(m.size:Int))then(Gx m q).bind fun J=>(iZ J).bind fun L=>(bif (!L)then(Gx m q).bind fun u=>(j u).bind fun z=>some (!z)else some false).bind fun M=>(bif M then some false else I (Ag (q+1)))else some true)
def aKp (m:ByteArray) (j:(Int→Option Bool)):Int→Option Bool:=bg (aPe m j) Af
def Zh (m:ByteArray) (j:(Int→Option Bool)):Option Bool:=(bif decide ((m.size:Int)<1)then some true else some (decide ((m.size:Int)>32))).bind fun q=>(bif q then some false else aKp m j 0)
def abM (u:ByteArray) (m:(Int→Option Bool)) (j:D) (q:UA Tryz.prog Eo DL j m) (r:Bool) (h:Zh u m=some r):BG 313 [Dv u,.d j] [] (Ai r) []:=Am.aN Tryz.func313 rfl<|AZ<|Ac<|AO<|.a 3<|AU h fun Z J h=>.mg 9 4 (Ai Z) (.bi J)<|.bJ<|BM h CP fun h=>Ac<|AZ<|AP.block<|En (fun Y=>⟨BH 33 [(0,Dv u),(1,.d j),(15,AV (u.size:Int)),(16,AV Y)],[],0⟩) _ _ _ (Ad 33 98307 []) h<|fun J14 k5 L Y h=>AZ<|Ac<|CB h (fun h=>Ac<|AP.block<|AZ<|DJ h fun x7 M x8 O h=>AO<|.a 2<|.p (VT (k:=.i64) M N9 rfl)<|.ca (aLu x7 x8 O)<|.a 1<|AU h fun x9 U h=>.mg 24 7 (Ai x9) (.bi U (fun h=>DJ h fun x11 z x12 I h=>.a 3<|.p (VT (k:=.i64) z N9 rfl)<|.p (pI (d:=j) (q:UA Tryz.prog Eo DL j m) I rfl)<|.aW<|Dx))<|.bJ<|BM h CP fun h=>Aw<|.a 2<|.nil<|L _ _ (Ad 33 98307 []) h) fun h=>Gf
def aAS (j:ByteArray):Option Bool:=(Zh j (fun a0=>sD a0)).bind fun m=>some m
def ajb (fU r) (h:aAS fU=some r):BG 263 [Dv fU] [] (Ai r) []:=Am.aN Tryz.func263 rfl<|AZ<|AU h fun m j h=>AO<|.a 1<|.ca (abM fU (fun a0=>sD a0) (.fn (.func 314) [] []) ⟨314,[],rfl,aoq,fun a0 b q=>ain a0 b q⟩ m j)<|.aW<|Cj
def yt (j:Int):Option Bool:=(bif (j==46)then some true else some (j==45)).bind fun m=>some m
def ag8 (jq r) (h:yt jq=some r):BG 315 [.d (Eo jq)] [] (Ai r) []:=Am.aN Tryz.func315 rfl<|AZ<|AO<|.a 2<|AU h fun m j h=>.mg 5 3 (Ai m) (.bi j)<|.aW<|Cj
def aA5 (j:ByteArray):Option Bool:=(Zh j (fun a0=>yt a0)).bind fun m=>(bif m then(Gx j 0).bind fun q=>(iZ q).bind fun u=>some u else some false).bind fun z=>(bif z then(Gx j (Ag ((j.size:Int)-1))).bind fun I=>(iZ I).bind fun J=>some J else some false).bind fun L=>some L
def ak7 (fU r) (h:aA5 fU=some r):BG 264 [Dv fU] [] (Ai r) []:=Am.aN Tryz.func264 rfl<|AZ<|AU h fun L j h=>AO<|.a 1<|.ca (abM fU (fun a0=>yt a0) (.fn (.func 315) [] []) ⟨315,[],rfl,akx,fun a0 b M=>ag8 a0 b M⟩ L j)<|.a 1<|AU h fun O m h=>.mg 6 3 (Ai O) (Di m (fun e i=>by subst e;have h:=i;exact DJ h fun U q Y u h=>.a 1<|.p (VT (k:=.i64) q N9 rfl)<|.ca (aLu U Y u)<|.aW<|Dx))<|.a 1<|AU h fun Z z h=>.mg 11 6 (Ai Z) (Di z (fun e i=>by subst e;have h:=i;exact DJ h fun x8 I x9 J h=>.a 4<|.p (VT (k:=.i64) I N9 rfl)<|.ca (aLu x8 x9 J)<|.aW<|Dx))<|.aW<|Cj
def jm (j:ByteArray) (m:ByteArray):Option (ByteArray×ByteArray×Bool):=(bif (j.toList==Bc.toList)then some true else(Gx j 0).bind fun J=>(strings_IndexByte m J).bind fun L=>some (decide (L<0))).bind fun M=>(bif M then some (Bc,Bc,false)else(NU j 1 ((j).size)).bind fun O=>(strings_Cut O jV).bind fun q=>(bif (!q.2.2)then some true else(aAS q.1).bind fun u=>some (!u)).bind fun U=>(bif U then some true else(aA5 q.2.1).bind fun z=>some (!z)).bind fun I=>(bif I then some (Bc,Bc,false)else some (q.1,q.2.1,true)))
def acv (Qo alK r) (h:jm Qo alK=some r):BG 199 [Dv Qo,Dv alK] [] (.fB [Dv r.1,Dv r.2.1,Ai r.2.2]) []:=Am.aN Tryz.func199 rfl<|AZ<|Ac<|AO<|.a 2<|AU h fun x1 u h=>.mg 12 6 (Ai x1) (.bi u (k2:=fun h=>DJ h fun x3 z x4 I h=>.a 2<|.p (VT (k:=.i64) z N9 rfl)<|.ca (ald alK x3 x4 I)<|.aW<|Dx))<|.bJ<|BM h CP fun h=>DJ h fun x6 J L M h=>AO<|.a 1<|.p (aIF J Sm (fun _=>rfl) N9 rfl)<|.ca (aiL x6 jV L M)<|.aW<|Ac<|AO<|.a 2<|AU h fun x8 O h=>.mg 28 4 (Ai x8) (.bi O (k2:=fun h=>AU h fun U j h=>.a 1<|.ca (ajb L.1 U j)<|.aW<|Dx))<|.a 1<|AU h fun Y m h=>.mg 34 3 (Ai Y) (Di m (k2:=fun e i=>by subst e;have h:=i;exact AU h fun Z q h=>.a 1<|.ca (ak7 L.2.1 Z q)<|.aW<|Dx))<|.bJ<|Qw
def pR (m:ByteArray) (j:ByteArray):Option Int:=(jm m j).bind fun q=>(bif (!q.2.2)then some 3 else some 0)
def aQO (fU aoJ r) (h:pR fU aoJ=some r):BG 305 [Dv fU,Dv aoJ] [] (AV r) []:=Am.aN Tryz.func305 rfl<|AZ<|Ac<|AU h fun m j h=>AO<|.a 2<|.ca (acv fU aoJ m j)<|.aW<|AZ<|Qw
def qw (j:ByteArray):Option Int:=(pR j rD).bind fun m=>some m
def aaE (fU r) (h:qw fU=some r):BG 248 [Dv fU] [] (AV r) []:=Am.aN Tryz.func248 rfl<|AZ<|AU h fun m j h=>AO<|.a 1<|.ca (aQO fU rD m j)<|.aW<|Cj
def dI (j:ByteArray):Option Int:=(pR j wR).bind fun m=>some m
def aE8 (fU r) (h:dI fU=some r):BG 249 [Dv fU] [] (AV r) []:=Am.aN Tryz.func249 rfl<|AZ<|AU h fun m j h=>AO<|.a 1<|.ca (aQO fU wR m j)<|.aW<|Cj
def aGy (j:ByteArray) (k2:(Int→Option Bool)):Int→Option Bool:=fun m=>(bif decide (m<(j.size:Int))then(Gx j m).bind fun q=>(bif decide (q<33)then some true else(Gx j m).bind fun u=>some (decide (u>126))).bind fun z=>(bif z then some false else k2 (Ag (m+1)))else(bif decide ((j.size:Int)≥1)then some (decide ((j.size:Int)≤32))else some false).bind fun I=>some I)
def aSs (j:ByteArray):Int→Option Bool:=bg (aGy j) Af
def aG4 (j:ByteArray):Option Bool:=aSs j 0
def akH (anj r) (h:aG4 anj=some r):BG 250 [Dv anj] [] (Ai r) []:=Am.aN Tryz.func250 rfl<|AZ<|Ac<|AZ<|AP.block<|En (fun I=>⟨BH 28 [(0,Dv anj),(5,AV (anj.size:Int)),(6,AV I)],[],0⟩) _ _ _ (Ad 28 97 []) h<|fun J k2 j I h=>AZ<|Ac<|CB h (fun h=>Ac<|AP.block<|AZ<|AU h fun O m h=>AO<|.a 2<|.p (VT (k:=.i64) m N9 rfl)<|.a 1<|AU h fun L q h=>.mg 13 5 (Ai L) (.bi q (k2:=fun h=>AU h fun U u h=>.a 2<|.p (VT (k:=.i64) u N9 rfl)<|.aW<|Dx))<|.bJ<|BM h CP fun h=>Aw<|.a 2<|.nil<|j _ _ (Ad 28 97 []) h) fun h=>AP.exit<|AO<|.a 3<|AU h fun M z h=>.mg 23 4 (Ai M) (.bi z)<|.aW<|Cj
def aAV (j:AB):Option Bool:=(qw j.Room).bind fun m=>(bif (m != 0)then some true else(dI j.aP).bind fun q=>some (q != 0)).bind fun u=>(bif u then some false else(bif (j.Kind==2)then(dI j.Key).bind fun z=>some (z==0)else(bif (j.Kind==9)then(aG4 j.Key).bind fun I=>some I else some true)))
def aoO (bF r) (h:aAV bF=some r):BG 193 [EP bF] [] (Ai r) []:=Am.aN Tryz.func193 rfl<|AZ<|Ac<|AU h fun I j h=>AO<|.a 2<|.ca (aaE bF.Room I j)<|.a 1<|AU h fun J m h=>.mg 7 5 (Ai J) (.bi m (k2:=fun h=>AU h fun L q h=>.a 2<|.ca (aE8 bF.aP L q)<|.aW<|Dx))<|.bJ<|BM h CP fun h=>Ac<|AZ<|AP.block<|AZ<|Dn h (fun h=>AU h fun M u h=>AO<|.a 2<|.ca (aE8 bF.Key M u)<|.aW<|Cj) fun h=>AZ<|BM h (fun h=>AU h fun O z h=>AO<|.a 2<|.ca (akH bF.Key O z)<|.aW<|Cj) fun h=>AZ<|Cj
def aMA (j:AL) (k2:(Int→Option Bool)):Int→Option Bool:=fun m=>(bif decide (m<(j.length:Int))then(Ae j m).bind fun q=>(bif decide (q<0)then some true else(bif decide (m>0)then(Ae j (Ag (m-1))).bind fun u=>some (decide (u≥q))else some false).bind fun z=>some z).bind fun I=>(bif I then some false else k2 (Ag (m+1)))else some true)
def acr (j:AL):Int→Option Bool:=bg (aMA j) Af
def yD (j:AL):Option Bool:=acr j 0
def aUH (ay r) (h:yD ay=some r):BG 194 [Bl ay] [] (Ai r) []:=Am.aN Tryz.func194 rfl<|AZ<|Ac<|AO<|.a 1<|.p (BN Aa ay CQ rfl)<|.aW<|AP.block<|En (fun I=>⟨BH 28 [(0,Bl ay),(5,Bl ay),(6,AV (ay.length:Int)),(7,AV I)],[],0⟩) _ _ _ (Ad 28 225 []) h<|fun J k2 j I h=>AZ<|Ac<|CB h (fun h=>Ac<|AP.block<|AU h fun O m h=>AO<|.a 1<|.p (BQ Aa m CQ DX rfl)<|.aW<|AO<|.a 2<|AU h fun L q h=>.mg 14 12 (Ai L) (.bi q (k2:=fun h=>.a 2<|AU h fun M u h=>.mg 17 8 (Ai M) (.bi u (fun h=>AU h fun U z h=>.a 3<|.p (BQ Aa z CQ DX rfl)<|.aW<|Dx))<|.aW<|Dx))<|.bJ<|BM h CP fun h=>Aw<|.a 2<|.nil<|j _ _ (Ad 28 225 []) h) fun h=>Gf
def rJ (j:Int):Option Bool:=(bif decide (j≥1)then some (decide (j≤14))else some false).bind fun m=>some m
def aQS (jc r) (h:rJ jc=some r):BG 251 [AV jc] [] (Ai r) []:=Am.aN Tryz.func251 rfl<|AZ<|AO<|.a 2<|AU h fun m j h=>.mg 5 3 (Ai m) (.bi j)<|.aW<|Cj
def aAr (j:Bd):Option Bool:=(bif ((j.Users.length:Int)==0)then some ((j.Kinds.length:Int)==0)else some false).bind fun z=>(bif z then some (j.User==0)else some false).bind fun I=>(bif I then some (j.Message==0)else some false).bind fun J=>(bif J then some (j.State==0)else some false).bind fun L=>(bif L then some (j.fQ==0)else some false).bind fun M=>(bif M then some (j.jK==0)else some false).bind fun m=>(bif m then some (j.mY==0)else some false).bind fun q=>(bif q then some (j.fC==0)else some false).bind fun u=>some u
def aiY (ay r) (h:aAr ay=some r):BG 306 [NR ay] [] (Ai r) []:=Am.aN Tryz.func306 rfl<|AZ<|AO<|.a 2<|.p (BN FC ay.Users IE rfl)<|.a 1<|AU h fun Y u h=>.mg 7 5 (Ai Y) (.bi u (fun h=>.a 2<|.p (BN FP ay.Kinds IZ rfl)<|.aW<|Dx))<|.a 1<|AU h fun Z z h=>.mg 14 3 (Ai Z) (Di z)<|.a 1<|AU h fun x5 I h=>.mg 19 3 (Ai x5) (Di I)<|.a 1<|AU h fun x7 J h=>.mg 24 3 (Ai x7) (Di J)<|.a 1<|AU h fun x9 L h=>.mg 29 3 (Ai x9) (Di L)<|.a 1<|AU h fun M j h=>.mg 34 3 (Ai M) (Di j)<|.a 1<|AU h fun O m h=>.mg 39 3 (Ai O) (Di m)<|.a 1<|AU h fun U q h=>.mg 44 3 (Ai U) (Di q)<|.aW<|Cj
def aD9 (j:Int):Option Int:=some j
def aG6 (j:Bj) (q:Int):Option Int:=(aAr j.Levels).bind fun m=>(bif (!m)then aD9 (EO .or .i64 q 128)else aD9 q)
def aGW (j:Bj) (m:Int):Option Int:=(bif decide ((j.gy.length:Int)>0)then aG6 j (EO .or .i64 m 64)else aG6 j m)
def aGO (j:Bj) (m:Int):Option Int:=(bif decide ((j.Allow.length:Int)>0)then aGW j (EO .or .i64 m 32)else aGW j m)
def aG3 (j:Bj) (m:Int):Option Int:=(bif (!(j.Via.toList==Bc.toList))then aGO j (EO .or .i64 m 16)else aGO j m)
def aE2 (j:Bj) (m:Int):Option Int:=(bif j.Thread then aG3 j (EO .or .i64 m 8)else aG3 j m)
def aGG (j:Bj) (m:Int):Option Int:=(bif (j.Target != 0)then aE2 j (EO .or .i64 m 4)else aE2 j m)
def zi (j:Bj) (m:Int):Option Int:=(bif (j.N != 0)then aGG j (EO .or .i64 m 2)else aGG j m)
def ny (j:Bj):Option Int:=(bif (!(j.Text.toList==Bc.toList))then zi j (EO .or .i64 0 1)else zi j 0)
def aSq (jq r) (h:ny jq=some r):BG 252 [NI jq] [] (AV r) []:=Am.aN Tryz.func252 rfl<|AZ<|AZ<|DN (fun s=>∃(j:Int),CS s ⟨BH 47 [(1,.ptr 0 0),(3,AV j)],[.box (BD (Fh jq))],0⟩∧zi jq j=some r) (by rintro s ⟨j,hs,h⟩;exact Cm hs<|DN (fun s=>∃(m:Int),CS s ⟨BH 47 [(1,.ptr 0 0),(3,AV m)],[.box (BD (Fh jq))],0⟩∧aGG jq m=some r) (by rintro s ⟨m,hs,h⟩;exact Cm hs<|DN (fun s=>∃(q:Int),CS s ⟨BH 47 [(1,.ptr 0 0),(3,AV q)],[.box (BD (Fh jq))],0⟩∧aE2 jq q=some r) (by rintro s ⟨q,hs,h⟩;exact Cm hs<|DN (fun s=>∃(z:Int),CS s ⟨BH 47 [(1,.ptr 0 0),(3,AV z)],[.box (BD (Fh jq))],0⟩∧aG3 jq z=some r) (by rintro s ⟨z,hs,h⟩;exact Cm hs<|DN (fun s=>∃(I:Int),CS s ⟨BH 47 [(1,.ptr 0 0),(3,AV I)],[.box (BD (Fh jq))],0⟩∧aGO jq I=some r) (by rintro s ⟨I,hs,h⟩;exact Cm hs<|DN (fun s=>∃(J:Int),CS s ⟨BH 47 [(1,.ptr 0 0),(3,AV J)],[.box (BD (Fh jq))],0⟩∧aGW jq J=some r) (by rintro s ⟨J,hs,h⟩;exact Cm hs<|DN (fun s=>∃(L:Int),CS s ⟨BH 47 [(1,.ptr 0 0),(3,AV L)],[.box (BD (Fh jq))],0⟩∧aG6 jq L=some r) (by rintro s ⟨L,hs,h⟩;exact Cm hs<|DN (fun s=>∃(v8:Int),CS s ⟨BH 47 [(3,AV v8)],[],0⟩∧aD9 v8=some r) (by rintro s ⟨v8,hs,h⟩;exact Cm hs<|AZ<|Cj)<|fun K9=>AU h fun x10 M h=>AO<|.a 2<|.ca (aiY jq.Levels x10 M)<|.aW<|BM h (fun h=>Aw<|.a 1<|.p (Wh (k:=.i64) (u:=L) (v:=128) rfl)<|.a 1<|.nil<|K9 _ ⟨(EO .or .i64 L 128),Ad 47 8 [],h⟩) fun h=>K9 _ ⟨L,Ad 47 8 [],h⟩)<|fun O=>AO<|.a 2<|.p (BN DY jq.gy He rfl)<|.aW<|BM h (fun h=>Aw<|.a 1<|.p (Wh (k:=.i64) (u:=J) (v:=64) rfl)<|.a 1<|.nil<|O _ ⟨(EO .or .i64 J 64),Ad 47 10 [(0,true)],h⟩) fun h=>O _ ⟨J,Ad 47 10 [(0,true)],h⟩)<|fun U=>AO<|.a 2<|.p (BN DY jq.Allow He rfl)<|.aW<|BM h (fun h=>Aw<|.a 1<|.p (Wh (k:=.i64) (u:=I) (v:=32) rfl)<|.a 1<|.nil<|U _ ⟨(EO .or .i64 I 32),Ad 47 10 [(0,true)],h⟩) fun h=>U _ ⟨I,Ad 47 10 [(0,true)],h⟩)<|fun Y=>AZ<|BM h (fun h=>Aw<|.a 1<|.p (Wh (k:=.i64) (u:=z) (v:=16) rfl)<|.a 1<|.nil<|Y _ ⟨(EO .or .i64 z 16),Ad 47 10 [(0,true)],h⟩) fun h=>Y _ ⟨z,Ad 47 10 [(0,true)],h⟩)<|fun Z=>AZ<|BM h (fun h=>Aw<|.a 1<|.p (Wh (k:=.i64) (u:=q) (v:=8) rfl)<|.a 1<|.nil<|Z _ ⟨(EO .or .i64 q 8),Ad 47 10 [(0,true)],h⟩) fun h=>Z _ ⟨q,Ad 47 10 [(0,true)],h⟩)<|fun K20=>AZ<|BM h (fun h=>Aw<|.a 1<|.p (Wh (k:=.i64) (u:=m) (v:=4) rfl)<|.a 1<|.nil<|K20 _ ⟨(EO .or .i64 m 4),Ad 47 10 [(0,true)],h⟩) fun h=>K20 _ ⟨m,Ad 47 10 [(0,true)],h⟩)<|fun K22=>AZ<|BM h (fun h=>Aw<|.a 1<|.p (Wh (k:=.i64) (u:=j) (v:=2) rfl)<|.a 1<|.nil<|K22 _ ⟨(EO .or .i64 j 2),Ad 47 10 [(0,true)],h⟩) fun h=>K22 _ ⟨j,Ad 47 10 [(0,true)],h⟩)<|fun K24=>AZ<|BM h (fun h=>Aw<|.a 1<|.p (Wh (k:=.i64) (u:=0) (v:=1) rfl)<|.a 1<|.nil<|K24 _ ⟨(EO .or .i64 0 1),Ad 47 10 [(0,true)],h⟩) fun h=>K24 _ ⟨0,Ad 47 10 [(0,true)],h⟩
def aIR (j:ByteArray) (q:(Int→Option Int)):Int→Option Int:=fun m=>(bif decide (m<(j.size:Int))then(Gx j m).bind fun u=>(bif decide (u<33)then some true else(Gx j m).bind fun z=>some (decide (z>126))).bind fun I=>(bif I then some 3 else q (Ag (m+1)))else some 0)
def aHg (j:ByteArray):Int→Option Int:=bg (aIR j) Af
def xk (j:ByteArray):Option Int:=(bif (j.toList==Bc.toList)then some 9 else(bif decide ((j.size:Int)>64)then some 7 else aHg j 0))
def aeW (alL r) (h:xk alL=some r):BG 307 [Dv alL] [] (AV r) []:=Am.aN Tryz.func307 rfl<|AZ<|Ac<|AP.block<|AZ<|Dn h CP fun h=>AZ<|BM h CP fun h=>Ac<|AZ<|AP.block<|En (fun z=>⟨BH 27 [(0,Dv alL),(12,AV (alL.size:Int)),(13,AV z)],[],0⟩) _ _ _ (Ad 27 12289 []) h<|fun I L j z h=>AZ<|Ac<|CB h (fun h=>Ac<|AP.block<|AZ<|AU h fun M m h=>AO<|.a 2<|.p (VT (k:=.i64) m N9 rfl)<|.a 1<|AU h fun J q h=>.mg 20 5 (Ai J) (.bi q (k2:=fun h=>AU h fun O u h=>.a 2<|.p (VT (k:=.i64) u N9 rfl)<|.aW<|Dx))<|.bJ<|BM h CP fun h=>Aw<|.a 2<|.nil<|j _ _ (Ad 27 12289 []) h) fun h=>Gf
def aLc (j:FV) (u:(Int→Option Int)):Int→Option Int:=fun m=>(bif decide (m<(j.length:Int))then(Ae j m).bind fun z=>(xk z).bind fun q=>(bif (q != 0)then some q else u (Ag (m+1)))else some 0)
def af4 (j:FV):Int→Option Int:=bg (aLc j) Af
def WC (j:FV):Option Int:=(bif decide ((j.length:Int)>100)then some 7 else af4 j 0)
def aRK (ay r) (h:WC ay=some r):BG 259 [Jh ay] [] (AV r) []:=Am.aN Tryz.func259 rfl<|AZ<|Ac<|AO<|.a 1<|.p (BN DY ay He rfl)<|.aW<|BM h CP fun h=>Ac<|AO<|.a 1<|.p (BN DY ay He rfl)<|.aW<|AP.block<|En (fun u=>⟨BH 21 [(9,Jh ay),(10,AV (ay.length:Int)),(11,AV u)],[],0⟩) _ _ _ (Ad 21 3584 []) h<|fun J L j u h=>AZ<|Ac<|CB h (fun h=>Ac<|AP.block<|AU h fun z m h=>AO<|.p (BQ DY m He LM rfl)<|.aW<|AU h fun I q h=>AO<|.a 1<|.ca (aeW z I q)<|.aW<|AZ<|BM h CP fun h=>Aw<|.a 2<|.nil<|j _ _ (Ad 21 3584 []) h) fun h=>Gf
def lT (j:Int):Option Bool:=(bif decide (j<(-1000))then some true else some (decide (j>1000))).bind fun m=>some m
def aIA (aDO r) (h:lT aDO=some r):BG 310 [AV aDO] [] (Ai r) []:=Am.aN Tryz.func310 rfl<|AZ<|AO<|.a 2<|AU h fun m j h=>.mg 5 3 (Ai m) (.bi j)<|.aW<|Cj
def aBA (m:Ht) (q:(Int→Option Int)) (u:Int) (z:Bool):Option Int:=(bif z then some 8 else(lT m.N).bind fun j=>(bif j then some 2 else q (Ag (u+1))))
abbrev MP:=List Ht
def aJb (j:MP) (z:(Int→Option Int)):Int→Option Int:=fun m=>(bif decide (m<(j.length:Int))then(Ae j m).bind fun q=>(dI q.User).bind fun I=>(bif (I != 0)then some 3 else(bif decide (m>0)then(Ae j (Ag (m-1))).bind fun u=>aBA q z m (Op.bytesLess (q.User.toList) (u.User.toList)||q.User.toList==u.User.toList)else aBA q z m false))else some 0)
def afB (j:MP):Int→Option Int:=bg (aJb j) Af
def aDv (j:MP):Option Int:=(bif decide ((j.length:Int)>100)then some 7 else afB j 0)
def as8 (ay r) (h:aDv ay=some r):BG 308 [Qr ay] [] (AV r) []:=Am.aN Tryz.func308 rfl<|AZ<|Ac<|AO<|.a 1<|.p (BN FC ay IE rfl)<|.aW<|BM h CP fun h=>Ac<|AO<|.a 1<|.p (BN FC ay IE rfl)<|.aW<|AP.block<|En (fun J=>⟨BH 39 [(0,Qr ay),(8,Qr ay),(9,AV (ay.length:Int)),(10,AV J)],[],0⟩) _ _ _ (Ad 39 1793 []) h<|fun Z k3 L J h=>AZ<|Ac<|CB h (fun h=>Ac<|AP.block<|AU h fun m M h=>AO<|.a 1<|.p (BQ FC M IE Oe rfl)<|.aW<|AP.block<|AU h fun x6 O h=>AO<|.a 2<|.ca (aE8 m.User x6 O)<|.aW<|Dn h CP fun h=>DN (fun s=>∃(U:Bool),CS s ⟨BH 39 [(0,Qr ay),(4,.ptr 0 0),(8,Qr ay),(9,AV (ay.length:Int)),(10,AV J),(20,Ai U)],[.box (BD (FC m))],0⟩∧aBA m k3 J U=some r) (by rintro s ⟨U,hs,h⟩;exact Cm hs<|Dn h CP fun h=>AU h fun Y q h=>AO<|.a 2<|.ca (aIA m.N Y q)<|.aW<|BM h CP fun h=>Aw<|.a 2<|.nil<|L _ _ (Ad 39 1793 []) h)<|fun u=>GY h (fun j h=>AU h fun z I h=>AP.draw A8 A8 A8 (.a 2<|.c (BI some j)<|.a 5<|.p (BQ FC I IE Oe rfl)<|.a 5<|.nil _)<|u _ ⟨(Op.bytesLess (m.User.toList) (z.User.toList)||m.User.toList==z.User.toList),Ad 39 1050385 [(0,true)],h⟩) fun j h=>AP.draw A8 A8 A8 (.a 2<|.c (BI some j)<|.a 11<|.nil _)<|u _ ⟨false,Ad 39 1050385 [(0,true)],h⟩) fun h=>Gf
def aDb (m:Ii) (q:(Int→Option Int)) (u:Int) (z:Bool):Option Int:=(bif z then some 8 else(lT m.N).bind fun j=>(bif j then some 2 else q (Ag (u+1))))
abbrev MX:=List Ii
def aPS (j:MX) (z:(Int→Option Int)):Int→Option Int:=fun m=>(bif decide (m<(j.length:Int))then(Ae j m).bind fun q=>(rJ q.Kind).bind fun I=>(bif (!I)then some 1 else(bif decide (m>0)then(Ae j (Ag (m-1))).bind fun u=>aDb q z m (decide (q.Kind≤u.Kind))else aDb q z m false))else some 0)
def aSa (j:MX):Int→Option Int:=bg (aPS j) Af
def aE1 (j:MX):Option Int:=(bif decide ((j.length:Int)>100)then some 7 else aSa j 0)
def ahb (ay r) (h:aE1 ay=some r):BG 309 [Qz ay] [] (AV r) []:=Am.aN Tryz.func309 rfl<|AZ<|Ac<|AO<|.a 1<|.p (BN FP ay IZ rfl)<|.aW<|BM h CP fun h=>Ac<|AO<|.a 1<|.p (BN FP ay IZ rfl)<|.aW<|AP.block<|En (fun I=>⟨BH 39 [(0,Qz ay),(8,Qz ay),(9,AV (ay.length:Int)),(10,AV I)],[],0⟩) _ _ _ (Ad 39 1793 []) h<|fun Z k3 J I h=>AZ<|Ac<|CB h (fun h=>Ac<|AP.block<|AU h fun m L h=>AO<|.a 1<|.p (BQ FP L IZ Pn rfl)<|.aW<|AP.block<|AU h fun x6 M h=>AO<|.a 2<|.ca (aQS m.Kind x6 M)<|.aW<|Dn h CP fun h=>DN (fun s=>∃(O:Bool),CS s ⟨BH 39 [(0,Qz ay),(4,.ptr 0 0),(8,Qz ay),(9,AV (ay.length:Int)),(10,AV I),(20,Ai O)],[.box (BD (FP m))],0⟩∧aDb m k3 I O=some r) (by rintro s ⟨O,hs,h⟩;exact Cm hs<|Dn h CP fun h=>AU h fun U q h=>AO<|.a 2<|.ca (aIA m.N U q)<|.aW<|BM h CP fun h=>Aw<|.a 2<|.nil<|J _ _ (Ad 39 1793 []) h)<|fun u=>GY h (fun j h=>AU h fun Y z h=>AP.draw A8 A8 A8 (.a 2<|.c (BI some j)<|.a 5<|.p (BQ FP z IZ Pn rfl)<|.a 5<|.nil _)<|u _ ⟨(decide (m.Kind≤Y.Kind)),Ad 39 1050385 [(0,true)],h⟩) fun j h=>AP.draw A8 A8 A8 (.a 2<|.c (BI some j)<|.a 11<|.nil _)<|u _ ⟨false,Ad 39 1050385 [(0,true)],h⟩) fun h=>Gf
def aQw (j:Bd) (q:(Int→Option Int)):Int→Option Int:=fun m=>(bif decide (m<7)then(Ae ([j.User,j.Message,j.State,j.fQ,j.jK,j.mY,j.fC]:AL) m).bind fun u=>(lT u).bind fun z=>(bif z then some 2 else q (Ag (m+1)))else some 0)
def aGs (j:Bd):Int→Option Int:=bg (aQw j) Af
def dS (j:Bd):Option Int:=(aDv j.Users).bind fun m=>(bif (m != 0)then some m else(aE1 j.Kinds).bind fun q=>(bif (q != 0)then some q else aGs j 0))
def aqY (ay r) (h:dS ay=some r):BG 260 [NR ay] [] (AV r) []:=Am.aN Tryz.func260 rfl<|AZ<|Ac<|AU h fun J j h=>AO<|.a 2<|.ca (as8 ay.Users J j)<|.aW<|AZ<|BM h CP fun h=>Ac<|AU h fun L m h=>AO<|.a 2<|.ca (ahb ay.Kinds L m)<|.aW<|AZ<|BM h CP fun h=>Ac<|AZ<|AP.block<|En (fun I=>⟨BH 40 [(33,.d ((MZ Aa) ([ay.User,ay.Message,ay.State,ay.fQ,ay.jK,ay.mY,ay.fC]:(List Int)))),(34,AV I)],[],0⟩) _ _ _ (Ad 40 25769803776 []) h<|fun M Y q I h=>AZ<|Ac<|CB h (fun h=>Ac<|AP.block<|AU h fun O u h=>AO<|.p (Res (k:=.i64) Aa u aAZ DX A8 rfl)<|.aW<|AU h fun U z h=>AO<|.a 1<|.ca (aIA O U z)<|.bJ<|BM h CP fun h=>Aw<|.a 2<|.nil<|q _ _ (Ad 40 25769803776 []) h) fun h=>Gf
def aEC (j:Bool):Option Int:=(bif j then some 7 else some 0)
def QS (m:Int) (j:Bj):Option Int:=(bif (m==9)then some (!(j.Text.toList==Bc.toList))else some false).bind fun u=>(bif u then(xk j.Text).bind fun z=>some z else(bif (m==12)then some (j.Text.toList==Bc.toList)else some false).bind fun I=>(bif I then some 9 else(bif (m==12)then some (decide ((j.Text.size:Int)>32))else some false).bind fun q=>(bif q then aEC q else aEC (decide ((j.Text.size:Int)>400)))))
def alp (jc jr r) (h:QS jc jr=some r):BG 253 [AV jc,NI jr] [] (AV r) []:=Am.aN Tryz.func253 rfl<|AZ<|Ac<|AP.block<|AO<|.a 2<|AU h fun J q h=>.mg 8 4 (Ai J) (.bi q)<|.aW<|Dn h (fun h=>AU h fun L u h=>AO<|.a 2<|.ca (aeW jr.Text L u)<|.aW<|Cj) fun h=>AO<|.a 2<|AU h fun M z h=>.mg 19 4 (Ai M) (.bi z)<|.aW<|Dn h CP fun h=>DN (fun s=>∃(I:Bool),CS s ⟨BH 37 [(24,Ai I)],[],0⟩∧aEC I=some r) (by rintro s ⟨I,hs,h⟩;exact Cm hs<|Qw)<|fun K10=>AO<|.a 2<|AU h fun j m h=>.mg 27 5 (Ai j) (.bi m)<|.aW<|CB h (fun h=>K10 _ ⟨j,Ad 37 16777216 [],h⟩) fun h=>Aw<|.a 5<|.nil<|K10 _ ⟨(decide ((jr.Text.size:Int)>400)),Ad 37 16777216 [],h⟩
def wI (j:Bj) (m:Int) (q:Int):Option Int:=(bif decide (j.N<m)then some true else some (decide (j.N>q))).bind fun u=>(bif u then some 2 else some 0)
def O1 (m:Int) (j:Bj):Option Int:=(bif (m==2)then wI j 0 4 else(bif (m==8)then wI j 0 1000000000 else(bif (m==10)then wI j 1 10000 else(bif (m==9)then(bif (j.N==1)then some true else some (j.N==2)).bind fun q=>(bif q then some true else some (j.N==6)).bind fun u=>(bif u then some 0 else some 2)else wI j 0 3))))
def atT (jc jr r) (h:O1 jc jr=some r):BG 254 [AV jc,NI jr] [] (AV r) []:=Am.aN Tryz.func254 rfl<|AZ<|AZ<|DN (fun s=>∃(q:Int) (u:Int),CS s ⟨BH 39 [(3,.ptr 0 0),(5,AV q),(6,AV u)],[.box (BD (Fh jr))],0⟩∧wI jr q u=some r) (by rintro s ⟨q,u,hs,h⟩;exact Cm hs<|Ac<|AO<|.a 4<|AU h fun L z h=>.mg 33 5 (Ai L) (.bi z)<|.bJ<|Qw)<|fun K6=>AZ<|AP.block<|AZ<|Dn h (fun h=>Aw<|.a 1<|.nil<|K6 _ ⟨0,4,Ad 39 104 [(0,true)],h⟩) fun h=>AZ<|Dn h (fun h=>Aw<|.a 1<|.nil<|K6 _ ⟨0,1000000000,Ad 39 104 [(0,true)],h⟩) fun h=>AZ<|Dn h (fun h=>Aw<|.a 2<|.nil<|K6 _ ⟨1,10000,Ad 39 104 [(0,true)],h⟩) fun h=>AZ<|BM h (fun h=>Ac<|AZ<|AO<|.a 2<|AU h fun I j h=>.mg 21 3 (Ai I) (.bi j)<|.a 1<|AU h fun J m h=>.mg 26 2 (Ai J) (Di m)<|.bJ<|Qw) fun h=>K6 _ ⟨0,3,Ad 39 104 [(0,true)],h⟩
def RF (m:Int) (j:Bj):Option Int:=(bif decide (j.Target<0)then some true else(bif (j.Target==0)then some (m != 11)else some false).bind fun q=>some q).bind fun u=>(bif u then some 2 else some 0)
def aix (jc jr r) (h:RF jc jr=some r):BG 255 [AV jc,NI jr] [] (AV r) []:=Am.aN Tryz.func255 rfl<|AZ<|Ac<|AO<|.a 3<|AU h fun q j h=>.mg 8 8 (Ai q) (.bi j (k2:=fun h=>.a 3<|AU h fun u m h=>.mg 12 3 (Ai u) (.bi m)<|.aW<|Dx))<|.bJ<|Qw
def dL (m:Int) (j:Bj):Option Int:=(bif j.Thread then some (j.Target==0)else some false).bind fun q=>(bif q then some 1 else some 0)
def ala (jc jr r) (h:dL jc jr=some r):BG 256 [AV jc,NI jr] [] (AV r) []:=Am.aN Tryz.func256 rfl<|AZ<|Ac<|AO<|.a 2<|AU h fun m j h=>.mg 7 4 (Ai m) (.bi j)<|.bJ<|Qw
def dD (m:Int) (j:Bj):Option Int:=(bif (j.Via.toList==Bc.toList)then some 0 else(bif (j.N != 3)then some 1 else(dI j.Via).bind fun q=>some q))
def akv (jc jr r) (h:dD jc jr=some r):BG 257 [AV jc,NI jr] [] (AV r) []:=Am.aN Tryz.func257 rfl<|AZ<|Ac<|AP.block<|AZ<|Dn h CP fun h=>AZ<|BM h CP fun h=>AU h fun m j h=>AO<|.a 2<|.ca (aE8 jr.Via m j)<|.aW<|Cj
def aOr (j:Bj) (J:(Int→Option Int)):Int→Option Int:=fun q=>(bif decide (q<(j.Allow.length:Int))then(Ae j.Allow q).bind fun m=>(qw m).bind fun z=>(bif (z != 0)then some 3 else(bif decide (q>0)then(Ae j.Allow (Ag (q-1))).bind fun u=>some (Op.bytesLess (m.toList) (u.toList)||m.toList==u.toList)else some false).bind fun I=>(bif I then some 8 else J (Ag (q+1))))else some 0)
def aQk (j:Bj):Int→Option Int:=bg (aOr j) Af
def Vj (m:Int) (j:Bj):Option Int:=(bif (m==6)then(WC j.Allow).bind fun q=>some q else(bif decide ((j.Allow.length:Int)>0)then some (j.N != 3)else some false).bind fun u=>(bif u then some 1 else(bif decide ((j.Allow.length:Int)>100)then some 7 else aQk j 0)))
def agi (jc jr r) (h:Vj jc jr=some r):BG 258 [AV jc,NI jr] [] (AV r) []:=Am.aN Tryz.func258 rfl<|AZ<|Ac<|AP.block<|AZ<|Dn h (fun h=>AU h fun Y z h=>AO<|.a 2<|.ca (aRK jr.Allow Y z)<|.aW<|Cj) fun h=>AO<|.a 2<|.p (BN DY jr.Allow He rfl)<|.a 1<|AU h fun Z I h=>.mg 18 4 (Ai Z) (.bi I)<|.aW<|Dn h CP fun h=>AO<|.a 2<|.p (BN DY jr.Allow He rfl)<|.aW<|BM h CP fun h=>Ac<|AO<|.a 2<|.p (BN DY jr.Allow He rfl)<|.aW<|AP.block<|En (fun U=>⟨BH 52 [(3,.ptr 0 0),(29,Jh jr.Allow),(30,AV (jr.Allow.length:Int)),(31,AV U)],[.box (BD (Fh jr))],0⟩) _ _ _ (Ad 52 3758096392 [(0,true)]) h<|fun J17 k8 J U h=>AZ<|Ac<|CB h (fun h=>Ac<|AP.block<|AU h fun L j h=>AO<|.a 1<|.p (BQ DY j He LM rfl)<|.aW<|Ac<|AU h fun M m h=>AO<|.a 1<|.ca (aaE L M m)<|.aW<|BM h CP fun h=>AO<|.a 2<|AU h fun O q h=>.mg 41 9 (Ai O) (.bi q (fun h=>AU h fun x15 u h=>.a 5<|.p (BQ DY u He LM rfl)<|.aW<|Dx))<|.bJ<|BM h CP fun h=>Aw<|.a 2<|.nil<|J _ _ (Ad 52 3758096392 [(0,true)]) h) fun h=>Gf
def aCR (n:Nat) (a0:Int) (j:Bj):Option Int:=bif n==253 then QS a0 j else bif n==254 then O1 a0 j else bif n==255 then RF a0 j else bif n==256 then dL a0 j else bif n==257 then dD a0 j else bif n==258 then Vj a0 j else none
def anz (n a0 j r) (h:aCR n a0 j=some r):Wv Tryz.prog Aa Fh Aa (ad9 n) (aCR n):=by
 by_cases q:n=253
 ·subst q;exact⟨253,[],rfl,amS,fun a0 j c m=>alp a0 j c m⟩
 by_cases u:n=254
 ·subst u;exact⟨254,[],rfl,aj2,fun a0 j c m=>atT a0 j c m⟩
 by_cases z:n=255
 ·subst z;exact⟨255,[],rfl,aqM,fun a0 j c m=>aix a0 j c m⟩
 by_cases I:n=256
 ·subst I;exact⟨256,[],rfl,anU,fun a0 j c m=>ala a0 j c m⟩
 by_cases J:n=257
 ·subst J;exact⟨257,[],rfl,aqa,fun a0 j c m=>akv a0 j c m⟩
 by_cases L:n=258
 ·subst L;exact⟨258,[],rfl,atG,fun a0 j c m=>agi a0 j c m⟩
 rw[aCR,jP q,jP u,jP z,jP I,jP J,jP L]at h;have h:(none:Option Int)=some r:=h;cases h
def aX :(List Np):=[(⟨1,253⟩:Np),(⟨2,254⟩:Np),(⟨4,255⟩:Np),(⟨8,256⟩:Np),(⟨16,257⟩:Np),(⟨32,258⟩:Np)]
def aJg (j:(Int→Bj→Option Int)) (m:Int) (q:Bj):Option Int:=j (Ag (m+1)) q
def XE (J:Int) (q:Int) (u:(Int→Bj→Option Int)):Int→Bj→Option Int:=fun m j=>(bif decide (m<(aX.length:Int))then(Ae aX m).bind fun z=>(bif ((EO .and .i64 J z.az2)==0)then aJg u m j else(aCR z.asz q j).bind fun I=>(bif (I != 0)then some I else aJg u m j))else(bif ((EO .and .i64 J 64) != 0)then(WC j.gy).bind fun L=>some L else(bif ((EO .and .i64 J 128) != 0)then(dS j.Levels).bind fun M=>some M else some 0)))
def LK (m:Int) (j:Int):Int→Bj→Option Int:=aQ (XE m j) Af
def Ky (j:Int) (m:Bj):Option Int:=(lU j).bind fun u=>(rJ j).bind fun z=>(bif (!z)then some true else(ny m).bind fun I=>some ((EO .andNot .i64 I u) != 0)).bind fun J=>(bif J then some 1 else(ny m).bind fun L=>(bif (L==0)then(lY j).bind fun q=>some (q==0)else some false).bind fun M=>(bif M then some 0 else LK u j 0 m))
def aoL (jc jr r) (h:Ky jc jr=some r):BG 195 [AV jc,NI jr] [] (AV r) []:=Am.aN Tryz.func195 rfl<|AZ<|AU h fun z Z h=>AO<|.a 1<|.ca (acD jc z Z)<|.aW<|Ac<|AU h fun x2 hx2 h=>AO<|.a 1<|.ca (aQS jc x2 hx2)<|.a 1<|AU h fun x3 hx3 h=>.mg 15 6 (Ai x3) (.bi hx3 (k2:=fun h=>AU h fun x5 hx5 h=>.a 1<|.ca (aSq jr x5 hx5)<|.a 1<|.p (apQ (k:=.i64) (u:=x5) (v:=z) rfl)<|.aW<|Dx))<|.bJ<|BM h CP fun h=>Ac<|AU h fun x7 hx7 h=>AO<|.a 1<|.ca (aSq jr x7 hx7)<|.a 1<|AU h fun x8 L9 h=>.mg 25 4 (Ai x8) (.bi L9 (fun h=>AU h fun x10 I h=>.a 1<|.ca (aQG jc x10 I)<|.aW<|Dx))<|.bJ<|BM h CP fun h=>AO<|.a 6<|.p (ED an1 aPi [Ul (⟨1,253⟩:Np),Ul (⟨2,254⟩:Np),Ul (⟨4,255⟩:Np),Ul (⟨8,256⟩:Np),Ul (⟨16,257⟩:Np),Ul (⟨32,258⟩:Np)] rfl)<|.aW<|Ac<|AO<|.a 1<|.p (BN Ul aX aaf rfl)<|.aW<|AP.block<|EW (fun m j=>⟨BH 69 [(0,AV jc),(3,.ptr 0 0),(5,AV z),(37,.d ((BF Ul) aX)),(38,AV (aX.length:Int)),(39,AV m)],[.box (BD (Fh j))],0⟩) _ _ _ _ (Ad 69 962072674345 [(0,true)]) h<|fun J25 k14 J m j h=>AZ<|Ac<|CB h (fun h=>DN (fun s=>CS s ⟨BH 69 [(0,AV jc),(3,.ptr 0 0),(5,AV z),(37,.d ((BF Ul) aX)),(38,AV (aX.length:Int)),(39,AV m)],[.box (BD (Fh j))],0⟩∧aJg k14 m j=some r) (by rintro s ⟨hs,h⟩;exact Cm hs<|Aw<|.a 2<|.nil<|J _ _ _ (Ad 69 962072674345 [(0,true)]) h)<|fun L=>AP.block<|AU h fun M O h=>AO<|.p (BQ Ul O aaf aTF rfl)<|.aW<|Ac<|AO<|.a 3<|.p (QK (k:=.i64) (u:=z) (v:=M.az2) rfl)<|.aW<|BM h (fun h=>AP.exit<|L _ ⟨Ad 69 962072674345 [(0,true)],h⟩) fun h=>AU h fun x19 q h=>AO<|.a 4<|.p (YR (anz M.asz jc j x19 q) q rfl)<|.aW<|AZ<|BM h CP fun h=>L _ ⟨Ad 69 962072674345 [(0,true)],h⟩) fun h=>AP.exit<|Ac<|AO<|.a 1<|.p (QK (k:=.i64) (u:=z) (v:=64) rfl)<|.aW<|BM h (fun h=>AU h fun SE U h=>AO<|.a 2<|.ca (aRK j.gy SE U)<|.aW<|Cj) fun h=>Ac<|AO<|.a 1<|.p (QK (k:=.i64) (u:=z) (v:=128) rfl)<|.aW<|BM h (fun h=>AU h fun x24 Y h=>AO<|.a 2<|.ca (aqY j.Levels x24 Y)<|.aW<|Cj) fun h=>AZ<|Cj
def YD (j:AB) (O:Bool):Option Int:=(bif O then some 1 else(aAV j).bind fun U=>(bif (!U)then some 3 else(bif decide (j.Time<0)then some true else some (decide (j.Time>1000000000))).bind fun Y=>(bif Y then some true else some (decide (j.Depth<1))).bind fun Z=>(bif Z then some true else some (decide (j.Depth>100000))).bind fun m=>(bif m then some 2 else(bif decide ((j.bC.length:Int)>10)then some true else some (decide ((j.bD.length:Int)>8))).bind fun q=>(bif q then some 7 else(yD j.bC).bind fun u=>(bif (!u)then some true else(yD j.bD).bind fun z=>some (!z)).bind fun I=>(bif I then some 8 else(bif ((j.bC.length:Int)==0)then some (j.Kind != 1)else some false).bind fun J=>(bif J then some 9 else(bif (j.Kind==1)then some (decide ((Ag ((j.bC.length:Int)+(j.bD.length:Int)))>0))else some false).bind fun L=>(bif L then some 6 else(Ky j.Kind j.Content).bind fun M=>some M)))))))
def aD2 (j:AB):Option Int:=(bif (j.Kind==2)then some true else some (j.Kind==9)).bind fun q=>(bif decide (j.Kind<1)then YD j true else(bif decide (j.Kind>14)then YD j true else(ZW j.Kind).bind fun m=>(bif (!(j.State==m))then YD j true else(bif (!(j.Key.toList==Bc.toList))then YD j (!q)else YD j false))))
def alz (bF r) (h:aD2 bF=some r):BG 153 [EP bF] [] (AV r) []:=Am.aN Tryz.func153 rfl<|AZ<|AO<|.a 3<|AU h fun x1 hx1 h=>.mg 7 4 (Ai x1) (.bi hx1)<|.aW<|Ac<|AP.block<|DN (fun s=>∃(v3:Bool),CS s ⟨BH 112 [(1,.ptr 0 0),(12,Ai v3)],[.box (BD (BA bF))],0⟩∧YD bF v3=some r) (by rintro s ⟨v3,hs,h⟩;exact Cm hs<|Dn h CP fun h=>AU h fun x5 hx5 h=>AO<|.a 1<|.ca (aoO bF x5 hx5)<|.aW<|Dn h CP fun h=>AO<|.a 3<|AU h fun x7 hx7 h=>.mg 46 4 (Ai x7) (.bi hx7)<|.a 1<|AU h fun x9 DI h=>.mg 52 3 (Ai x9) (Di DI)<|.a 1<|AU h fun x11 L h=>.mg 57 3 (Ai x11) (Di L)<|.aW<|Dn h CP fun h=>AO<|.a 2<|.p (BN Aa bF.bC CQ rfl)<|.a 1<|AU h fun x14 M h=>.mg 66 5 (Ai x14) (.bi M (k2:=fun h=>.a 2<|.p (BN Aa bF.bD CQ rfl)<|.aW<|Dx))<|.aW<|Dn h CP fun h=>AU h fun x17 O h=>AO<|.a 2<|.ca (aUH bF.bC x17 O)<|.a 1<|AU h fun x18 U h=>.mg 77 5 (Ai x18) (.bi U (k2:=fun h=>AU h fun SC Y h=>.a 2<|.ca (aUH bF.bD SC Y)<|.aW<|Dx))<|.aW<|Dn h CP fun h=>AO<|.a 2<|.p (BN Aa bF.bC CQ rfl)<|.a 1<|AU h fun SE Z h=>.mg 88 4 (Ai SE) (.bi Z)<|.aW<|Dn h CP fun h=>AO<|.a 3<|AU h fun x25 hx25 h=>.mg 97 9 (Ai x25) (.bi hx25 (fun h=>.a 2<|.p (BN Aa bF.bC CQ rfl)<|.a 2<|.p (BN Aa bF.bD CQ rfl)<|.aW<|Dx))<|.aW<|BM h CP fun h=>AU h fun x28 hx28 h=>AO<|.a 4<|.ca (aoL bF.Kind bF.Content x28 hx28)<|.aW<|Cj)<|fun u=>GY h (fun j h=>AP.draw A8 A8 A8 (.a 3<|.c (BI some j)<|.a 22<|.nil _)<|u _ ⟨true,Ad 112 4098 [(0,true)],h⟩) fun j h=>GY h (fun m h=>AP.draw A8 A8 A8 (.a 3<|.c (BI some j)<|.a 4<|.c (BI some m)<|.a 17<|.nil _)<|u _ ⟨true,Ad 112 4098 [(0,true)],h⟩) fun m h=>AU h fun J z h=>GY h (fun q h=>AP.draw A8 A8 A8 (.a 3<|.c (BI some j)<|.a 4<|.c (BI some m)<|.a 4<|.ca (jJ bF.Kind J z)<|.a 2<|.c (BI some q)<|.a 9<|.nil _)<|u _ ⟨true,Ad 112 4098 [(0,true)],h⟩) fun q h=>GY h (fun I h=>AP.draw A8 A8 A8 (.a 3<|.c (BI some j)<|.a 4<|.c (BI some m)<|.a 4<|.ca (jJ bF.Kind J z)<|.a 2<|.c (BI some q)<|.a 3<|.c (BI some I)<|.a 5<|.nil _)<|u _ ⟨(!x1),Ad 112 4098 [(0,true)],h⟩) fun I h=>AP.draw A8 A8 A8 (.a 3<|.c (BI some j)<|.a 4<|.c (BI some m)<|.a 4<|.ca (jJ bF.Kind J z)<|.a 2<|.c (BI some q)<|.a 3<|.c (BI some I)<|.a 5<|.nil _)<|u _ ⟨false,Ad 112 4098 [(0,true)],h⟩
def aJP (j:FV) (m:FV) (u:(Int→Option Bool)):Int→Option Bool:=fun q=>(bif decide (q<(j.length:Int))then(Ae j q).bind fun z=>(Ae m q).bind fun I=>(bif (!(z.toList==I.toList))then some false else u (Ag (q+1)))else some true)
def aQf (j:FV) (m:FV):Int→Option Bool:=bg (aJP j m) Af
def nY (j:FV) (m:FV):Option Bool:=(bif ((j.length:Int) != (m.length:Int))then some false else aQf j m 0)
def abI (eX fF r) (h:nY eX fF=some r):BG 196 [Jh eX,Jh fF] [] (Ai r) []:=Am.aN Tryz.func196 rfl<|AZ<|Ac<|AO<|.a 1<|.p (BN DY eX He rfl)<|.a 1<|.p (BN DY fF He rfl)<|.aW<|BM h CP fun h=>Ac<|AO<|.a 1<|.p (BN DY eX He rfl)<|.aW<|AP.block<|En (fun u=>⟨BH 26 [(0,Jh eX),(1,Jh fF),(12,AV (eX.length:Int)),(13,AV u)],[],0⟩) _ _ _ (Ad 26 12291 []) h<|fun z I j u h=>AZ<|Ac<|CB h (fun h=>Ac<|AP.block<|AZ<|DJ h fun J m L q h=>Gt A8 A8 A8 (.a 2<|.p (BQ DY m He LM rfl)<|.a 3<|.p (BQ DY q He LM rfl)<|.a 2<|.nil _)<|BM h CP fun h=>Aw<|.a 2<|.nil<|j _ _ (Ad 26 12291 []) h) fun h=>Gf
def aPk (j:MP) (m:MP) (u:(Int→Option Bool)):Int→Option Bool:=fun q=>(bif decide (q<(j.length:Int))then(Ae j q).bind fun z=>(Ae m q).bind fun I=>(bif (!aC9 z I)then some false else u (Ag (q+1)))else some true)
def aQX (j:MP) (m:MP):Int→Option Bool:=bg (aPk j m) Af
def aAy (j:MP) (m:MP):Option Bool:=(bif ((j.length:Int) != (m.length:Int))then some false else aQX j m 0)
def apo (eX fF r) (h:aAy eX fF=some r):BG 197 [Qr eX,Qr fF] [] (Ai r) []:=Am.aN Tryz.func197 rfl<|AZ<|Ac<|AO<|.a 1<|.p (BN FC eX IE rfl)<|.a 1<|.p (BN FC fF IE rfl)<|.aW<|BM h CP fun h=>Ac<|AO<|.a 1<|.p (BN FC eX IE rfl)<|.aW<|AP.block<|En (fun I=>⟨BH 26 [(0,Qr eX),(1,Qr fF),(12,AV (eX.length:Int)),(13,AV I)],[],0⟩) _ _ _ (Ad 26 12291 []) h<|fun J L q I h=>AZ<|Ac<|CB h (fun h=>Ac<|AP.block<|AZ<|DJ h fun j u m z h=>Gt A8 A8 A8 (.a 2<|.p (BQ FC u IE Oe rfl)<|.a 3<|.p (BQ FC z IE Oe rfl)<|.a 1<|.p (x:=(Ai (!aC9 j m))) (zH [.string j.User,.int .i64 j.N] [.string m.User,.int .i64 m.N] (akm j m) BJ at1 rfl)<|.nil _)<|BM h CP fun h=>Aw<|.a 2<|.nil<|q _ _ (Ad 26 12291 []) h) fun h=>Gf
def aO0 (j:MX) (m:MX) (u:(Int→Option Bool)):Int→Option Bool:=fun q=>(bif decide (q<(j.length:Int))then(Ae j q).bind fun z=>(Ae m q).bind fun I=>(bif (!aAu z I)then some false else u (Ag (q+1)))else some true)
def adh (j:MX) (m:MX):Int→Option Bool:=bg (aO0 j m) Af
def aDd (j:MX) (m:MX):Option Bool:=(bif ((j.length:Int) != (m.length:Int))then some false else adh j m 0)
def akd (eX fF r) (h:aDd eX fF=some r):BG 198 [Qz eX,Qz fF] [] (Ai r) []:=Am.aN Tryz.func198 rfl<|AZ<|Ac<|AO<|.a 1<|.p (BN FP eX IZ rfl)<|.a 1<|.p (BN FP fF IZ rfl)<|.aW<|BM h CP fun h=>Ac<|AO<|.a 1<|.p (BN FP eX IZ rfl)<|.aW<|AP.block<|En (fun I=>⟨BH 26 [(0,Qz eX),(1,Qz fF),(12,AV (eX.length:Int)),(13,AV I)],[],0⟩) _ _ _ (Ad 26 12291 []) h<|fun J L q I h=>AZ<|Ac<|CB h (fun h=>Ac<|AP.block<|AZ<|DJ h fun j u m z h=>Gt A8 A8 A8 (.a 2<|.p (BQ FP u IZ Pn rfl)<|.a 3<|.p (BQ FP z IZ Pn rfl)<|.a 1<|.p (x:=(Ai (!aAu j m))) (zH [.int .i64 j.Kind,.int .i64 j.N] [.int .i64 m.Kind,.int .i64 m.N] (aiX j m) BJ alx rfl)<|.nil _)<|BM h CP fun h=>Aw<|.a 2<|.nil<|q _ _ (Ad 26 12291 []) h) fun h=>Gf
def aDH (j:Bj) (m:Bj):Option Bool:=(bif (!(j.Text.toList==m.Text.toList))then some true else some (j.N != m.N)).bind fun x1=>(bif x1 then some true else some (j.Target != m.Target)).bind fun x3=>(bif x3 then some true else some (!(j.Thread==m.Thread))).bind fun x5=>(bif x5 then some true else some (!(j.Via.toList==m.Via.toList))).bind fun x7=>(bif x7 then some true else(nY j.Allow m.Allow).bind fun q=>some (!q)).bind fun x9=>(bif x9 then some true else(nY j.gy m.gy).bind fun u=>some (!u)).bind fun z=>(bif z then some false else(aAy j.Levels.Users m.Levels.Users).bind fun I=>(bif I then(aDd j.Levels.Kinds m.Levels.Kinds).bind fun J=>some J else some false).bind fun L=>(bif L then some (j.Levels.User==m.Levels.User)else some false).bind fun M=>(bif M then some (j.Levels.Message==m.Levels.Message)else some false).bind fun O=>(bif O then some (j.Levels.State==m.Levels.State)else some false).bind fun U=>(bif U then some (j.Levels.fQ==m.Levels.fQ)else some false).bind fun Y=>(bif Y then some (j.Levels.jK==m.Levels.jK)else some false).bind fun Z=>(bif Z then some (j.Levels.mY==m.Levels.mY)else some false).bind fun Nw=>(bif Nw then some (j.Levels.fC==m.Levels.fC)else some false).bind fun x32=>some x32)
def aq4 (eX fF r) (h:aDH eX fF=some r):BG 154 [NI eX,NI fF] [] (Ai r) []:=Am.aN Tryz.func154 rfl<|AZ<|AP.asx [] 108 0x68383206638310641830062182f064302e062302d05c082c05a082b060102a05e1029060302805c182805e302705a182705c202605a28250580024056002305818220500822056182104e0821058202004c0820056281f04a081f054301e050101e052301d04e101d050201c04c181c04e281b04a181b04c281a04a201a048181904400190461818042001804820170400017046281603e0016044101503c0815042101403a0814044201304018130380813042281203e18120360812040281103e2011034081103c2010038101003a280f036100f038280e036200e034180e032100d02a000d030100c028000c032200b02e180b026000b030280a02c180a024000a02e280902c2009022000902a2008026100802008080282807024100701e080702628060242006022180601c0806020280501e200501c100501a2004016100401000040182803014100300e000301628020142002012180200c0002010280100e200100c100100a08010082800006200000410000020000 [51,52] ⟨BH 121 [(2,.ptr 0 0),(3,.ptr 1 0),(5,.ptr 2 0),(6,.ptr 3 0)],[.box (BD (Fh eX)),.box (BD (Fh fF)),.box (BD (Fr eX.Levels)),.box (BD (Fr fF.Levels))],0⟩ ⟨jy (Ad 121 108 [(0,true),(1,true),(2,true),(3,true)]),jy (Ad 121 108 [(0,true),(1,true),(3,true),(2,true)]),trivial⟩<|Ac<|AO<|.a 5<|AU h fun x1 hx1 h=>.mg 16 6 (Ai x1) (.bi hx1)<|.a 1<|AU h fun x3 hx3 h=>.mg 24 5 (Ai x3) (Di hx3)<|.a 1<|AU h fun x5 hx5 h=>.mg 31 5 (Ai x5) (Di hx5)<|.a 1<|AU h fun x7 hx7 h=>.mg 38 5 (Ai x7) (Di hx7)<|.a 1<|AU h fun x9 DI h=>.mg 45 6 (Ai x9) (Di DI (k2:=fun e i=>by subst e;have h:=i;exact AU h fun x11 j h=>.a 4<|.ca (abI eX.Allow fF.Allow x11 j)<|.aW<|Dx))<|.a 1<|AU h fun x12 m h=>.mg 53 6 (Ai x12) (Di m (k2:=fun e i=>by subst e;have h:=i;exact AU h fun x14 q h=>.a 4<|.ca (abI eX.gy fF.gy x14 q)<|.aW<|Dx))<|.bJ<|BM h CP fun h=>AU h fun x16 u h=>AO<|.a 4<|.ca (apo eX.Levels.Users fF.Levels.Users x16 u)<|.a 1<|AU h fun x17 z h=>.mg 66 5 (Ai x17) (Di z (fun e i=>by subst e;have h:=i;exact AU h fun x19 I h=>.a 4<|.ca (akd eX.Levels.Kinds fF.Levels.Kinds x19 I)<|.aW<|Dx))<|.a 1<|AU h fun SC J h=>.mg 73 5 (Ai SC) (Di J)<|.a 1<|AU h fun SE L h=>.mg 80 5 (Ai SE) (Di L)<|.a 1<|AU h fun x24 M h=>.mg 87 5 (Ai x24) (Di M)<|.a 1<|AU h fun Vz O h=>.mg 94 5 (Ai Vz) (Di O)<|.a 1<|AU h fun x28 U h=>.mg 101 5 (Ai x28) (Di U)<|.a 1<|AU h fun Nw Y h=>.mg 108 5 (Ai Nw) (Di Y)<|.a 1<|AU h fun x32 Z h=>.mg 115 5 (Ai x32) (Di Z)<|.aW<|Cj
def eP (j:ByteArray):Option ByteArray:=(jm j wL).bind fun m=>some m.2.1
def aOT (Qo r) (h:eP Qo=some r):BG 155 [Dv Qo] [] (Dv r) []:=Am.aN Tryz.func155 rfl<|AZ<|AU h fun m j h=>AO<|.a 1<|.ca (acv Qo wL m j)<|.aW<|AZ<|Cj
def bZ (j:AB) (m:Bool):Option Int:=(bif m then some 6 else(qA j).bind fun q=>(bif (q != j.Id)then some 11 else(eP j.aP).bind fun u=>(bif (!zn j.qc (⟨u,j.Id⟩:NT))then some 12 else some 0)))
def aGQ (j:AB):Option Int:=(aD2 j).bind fun z=>(bif (z != 0)then some z else(lQ j).bind fun m=>(bif (!m)then(nD j.Kind j.Content).bind fun q=>(aDH j.Content q).bind fun u=>bZ j (!u)else bZ j false))
def alu (bF r) (h:aGQ bF=some r):BG 124 [EP bF] [] (AV r) []:=Am.aN Tryz.func124 rfl<|AZ<|Ac<|AU h fun Z M h=>AO<|.a 1<|.ca (alz bF Z M)<|.aW<|AZ<|BM h CP fun h=>Ac<|AP.block<|DN (fun s=>∃(O:Bool),CS s ⟨BH 40 [(1,.ptr 0 0),(9,Ai O)],[.box (BD (BA bF))],0⟩∧bZ bF O=some r) (by rintro s ⟨O,hs,h⟩;exact Cm hs<|Dn h CP fun h=>AU h fun x5 U h=>Gt A8 A8 A8 (.a 1<|.ca (aRI bF x5 U)<|.a 4<|.nil _)<|Dn h CP fun h=>AU h fun q Y h=>Gt A8 A8 A8 (.a 4<|.ca (aOT bF.aP q Y)<|.a 3<|.p (x:=(Ai (!zn bF.qc (⟨q,bF.Id⟩:NT)))) (zH [.string bF.qc.Server,.int .i64 bF.qc.Sum] [.string ((⟨q,bF.Id⟩:NT).Server),.int .i64 ((⟨q,bF.Id⟩:NT).Sum)] (aog bF.qc (⟨q,bF.Id⟩:NT)) BJ ama rfl)<|.a 1<|.nil _)<|Qw)<|fun K9=>AU h fun u m h=>GY h (fun j h=>DJ h fun z I J L h=>AP.draw A8 A8 A8 (.a 1<|.ca (aB5 bF u m)<|.a 1<|.c (BI some j)<|.a 6<|.ca (aTf bF.Kind bF.Content z I)<|.ca (aq4 bF.Content z J L)<|.a 3<|.nil _)<|K9 _ ⟨(!J),Ad 40 514 [(0,true)],h⟩) fun j h=>AP.draw A8 A8 A8 (.a 1<|.ca (aB5 bF u m)<|.a 1<|.c (BI some j)<|.a 11<|.nil _)<|K9 _ ⟨false,Ad 40 514 [(0,true)],h⟩
def aG9 (j:AX) (q:(Int→Option Int)):Int→Option Int:=fun m=>(bif decide (m<(j.length:Int))then(Ae j m).bind fun u=>(Ae j (Ag (m-1))).bind fun z=>(bif decide (u.Id≤z.Id)then some 8 else q (Ag (m+1)))else some 0)
def aEn (j:AX):Int→Option Int:=bg (aG9 j) Af
def Z7 (j:AX) (z:(Int→Option Int)):Int→Option Int:=fun m=>(bif decide (m<(j.length:Int))then(Ae j m).bind fun q=>(Ae j 0).bind fun u=>(bif (!(q.Room.toList==u.Room.toList))then some 13 else z (Ag (m+1)))else aEn j 1)
def qL (j:AX):Int→Option Int:=bg (Z7 j) Af
def uj (j:AX) (u:(Int→Option Int)):Int→Option Int:=fun m=>(bif decide (m<(j.length:Int))then(Ae j m).bind fun z=>(aGQ z).bind fun q=>(bif (q != 0)then some q else u (Ag (m+1)))else qL j 0)
def aLx (j:AX):Int→Option Int:=bg (uj j) Af
def Nr (j:AX):Option Int:=(bif decide ((j.length:Int)>2000)then some 7 else aLx j 0)
def aq0 (ay r) (h:Nr ay=some r):BG 83 [BL ay] [] (AV r) []:=Am.aN Tryz.func83 rfl<|AZ<|Ac<|AO<|.a 1<|.p (BN BA ay Ce rfl)<|.aW<|BM h CP fun h=>Ac<|AO<|.a 1<|.p (BN BA ay Ce rfl)<|.aW<|AP.block<|En (fun U=>⟨BH 56 [(0,BL ay),(12,BL ay),(13,AV (ay.length:Int)),(14,AV U)],[],0⟩) _ _ _ (Ad 56 28673 []) h<|fun Z k3 J U h=>AZ<|Ac<|CB h (fun h=>Ac<|AP.block<|AU h fun x5 L h=>AO<|.p (BQ BA L Ce Dj rfl)<|.aW<|AU h fun x6 M h=>AO<|.a 1<|.ca (alu x5 x6 M)<|.aW<|AZ<|BM h CP fun h=>Aw<|.a 2<|.nil<|J _ _ (Ad 56 28673 []) h) fun h=>AP.exit<|Ac<|AO<|.a 1<|.p (BN BA ay Ce rfl)<|.aW<|AP.block<|En (fun Y=>⟨BH 56 [(0,BL ay),(24,BL ay),(25,AV (ay.length:Int)),(26,AV Y)],[],0⟩) _ _ _ (Ad 56 117440513 []) h<|fun J21 k9 O Y h=>AZ<|Ac<|CB h (fun h=>Ac<|AP.block<|AU h fun x11 j h=>AO<|.p (BQ BA j Ce Dj rfl)<|.aW<|AU h fun x12 m h=>Gt A8 A8 A8 (.a 3<|.p (BQ BA m Ce Dj rfl)<|.a 3<|.nil _)<|BM h CP fun h=>Aw<|.a 2<|.nil<|O _ _ (Ad 56 117440513 []) h) fun h=>AP.exit<|Ac<|AZ<|AP.block<|En (fun q=>⟨BH 56 [(0,BL ay),(8,AV q)],[],0⟩) _ _ _ (Ad 56 257 []) h<|fun J20 k15 u q h=>Ac<|AO<|.a 2<|.p (BN BA ay Ce rfl)<|.aW<|CB h (fun h=>Ac<|AP.block<|DJ h fun x17 z x18 I h=>Gt A8 A8 A8 (.a 2<|.p (BQ BA z Ce Dj rfl)<|.a 5<|.p (BQ BA I Ce Dj rfl)<|.a 3<|.nil _)<|BM h CP fun h=>Aw<|.a 3<|.nil<|u _ _ (Ad 56 257 []) h) fun h=>Gf
def abV (j:AX) (u:(Int→(List (Int×Int))→Option (List (Int×Int)))):Int→(List (Int×Int))→Option (List (Int×Int)):=fun m q=>(bif decide (m≥0)then(Ae j m).bind fun z=>u (Ag (m-1)) (E8 q z.Id m)else some q)
def aRM (j:AX):Int→(List (Int×Int))→Option (List (Int×Int)):=aQ (abV j) Af
def Z8 (j:AX):Option (List (Int×Int)):=aRM j (Ag ((j.length:Int)-1)) []
def vG (ay r) (h:Z8 ay=some r):BG 91 [BL ay] [] (.mp 0) [.map (List.map (BX Bq Aa) r)]:=Am.aN Tryz.func91 rfl<|AZ<|AO<|.a 1<|.p (BN BA ay Ce rfl)<|.f (x:=.mp 0) (aRV (kd:=.i64) (n:=(ay.length:Int)) QC rfl)<|.aW<|Ac<|AO<|.a 1<|.p (BN BA ay Ce rfl)<|.aW<|AP.block<|EW (fun j q=>⟨BH 23 [(0,BL ay),(3,.mp 0),(4,AV j)],[.map (List.map (BX Bq Aa) q)],0⟩) _ _ _ _ (Ad 23 25 [(0,true)]) h<|fun J L u j q h=>Ac<|AZ<|CB h (fun h=>Ac<|AP.block<|AU h fun I z h=>Aw<|.a 3<|.p (BQ BA z Ce Dj rfl)<|.a 3<|.f (jd (k:=0) (key:=I.Id) (val:=j) (m:=q) Aa QC Hd A8 rfl)<|.nil<|Aw<|.a 3<|.nil<|u _ _ _ (Ad 23 25 [(0,true)]) h) fun h=>Ry
def aKi (j:AL) (m:(List (Int×Int))) (k2:(Int→Option Bool)):Int→Option Bool:=fun q=>(bif decide (q<(j.length:Int))then(Ae j q).bind fun u=>(bif (!((C9 m u).isSome))then some false else k2 (Ag (q+1)))else some true)
def aav (j:AL) (m:(List (Int×Int))):Int→Option Bool:=bg (aKi j m) Af
def uH (j:AL) (m:(List (Int×Int))):Option Bool:=aav j m 0
def afA (adY afs r) (h:uH adY afs=some r):BG 156 [Bl adY,.ptr 0 0] [.box [.mp 1],.map (List.map (BX Bq Aa) afs)] (Ai r) [.box [.mp 1],.map (List.map (BX Bq Aa) afs)]:=Am.aN Tryz.func156 rfl<|AZ<|Ac<|AO<|.a 1<|.p (BN Aa adY CQ rfl)<|.aW<|AP.block<|En (fun z=>⟨BH 23 [(1,.ptr 0 0),(8,Bl adY),(9,AV (adY.length:Int)),(10,AV z)],[.box [.mp 1],.map (List.map (BX Bq Aa) afs)],2⟩) _ _ _ (Ad 23 1794 [(0,true),(1,true)]) h<|fun I k2 j z h=>AZ<|Ac<|CB h (fun h=>Ac<|AP.block<|AU h fun q u h=>AO<|.p (BQ Aa u CQ DX rfl)<|.aW<|AO<|.a 2<|.p (x:=.fB [AV ((C9 afs q).getD 0),Ai ((C9 afs q).isSome)]) (zq (k:=1) (key:=q) (m:=afs) Aa 0 QC Hd zero3 A8 A8 A8 rfl)<|.aW<|AZ<|BM h (fun h=>AZ<|aRU) fun h=>Aw<|.a 2<|.nil<|j _ _ (Ad 23 1794 [(0,true),(1,true)]) h) fun h=>AP.exit<|AZ<|aRU
def aPc (j:AX) (I:(Int→(List (Int×Int))→Option Bool)):Int→(List (Int×Int))→Option Bool:=fun m q=>(bif decide (m<(j.length:Int))then(Ae j m).bind fun J=>(uH J.bC q).bind fun L=>(bif (!L)then some true else(Ae j m).bind fun u=>(uH u.bD q).bind fun z=>some (!z)).bind fun M=>(bif M then some false else I (Ag (m+1)) q)else some true)
def aRZ (j:AX):Int→(List (Int×Int))→Option Bool:=aQ (aPc j) Af
def aDY (j:AX):Option Bool:=(Z8 j).bind fun m=>aRZ j 0 m
def aia (ay r) (h:aDY ay=some r):BG 125 [BL ay] [] (Ai r) []:=Am.aN Tryz.func125 rfl<|AZ<|AU h fun x1 I h=>AO<|.a 1<|.f (x:=.mp 0) (ER [] [BL ay] (vG ay x1 I) rfl)<|.aW<|AO<|.p (x:=.fn (.func 156) [] [.ptr 1 0]) (Q9 (fi:=[]) (ca:=[.ptr 1 0]) rfl rfl rfl)<|.aW<|Ac<|AO<|.a 1<|.p (BN BA ay Ce rfl)<|.aW<|AP.block<|EW (fun U z=>⟨BH 33 [(0,BL ay),(4,.fn (.func 156) [] [.ptr 0 0]),(10,AV (ay.length:Int)),(11,AV U)],[.box [.mp 1],.map (List.map (BX Bq Aa) z)],0⟩) _ _ _ _ (Ad 33 3089 [(1,true),(0,true)]) h<|fun J13 k4 J U z h=>AZ<|Ac<|CB h (fun h=>Ac<|AP.block<|AZ<|DJ h fun Y L Z M h=>AO<|.a 3<|.p (BQ BA L Ce Dj rfl)<|.a 2<|.f (x:=(Ai Z)) (dV [.ent 0,.ent 1] [] [.ptr 0 0] [Bl Y.bC] (afA Y.bC z Z M) rfl (hE:=(LU A8<|LU A8<|trivial)))<|.a 1<|AU h fun x8 O h=>.mg 22 9 (Ai x8) (.bi O (k2:=fun h=>DJ h fun j m q u h=>.a 3<|.p (BQ BA m Ce Dj rfl)<|.a 2<|.f (x:=(Ai q)) (dV [.ent 0,.ent 1] [] [.ptr 0 0] [Bl j.bD] (afA j.bD z q u) rfl (hE:=(LU A8<|LU A8<|trivial)))<|.aW<|Dx))<|.bJ<|BM h CP fun h=>Aw<|.a 2<|.nil<|J _ _ _ (Ad 33 3089 [(0,true),(1,true)]) h) fun h=>Gf
def aHZ (j:AB) (z:AX) (m:(List (Int×Int))) (I:(Int→Int→Option (Bool×(List (Int×Int))))):Int→Int→Option (Bool×(List (Int×Int))):=fun q u=>(bif decide (u<(j.bC.length:Int))then(Ae j.bC u).bind fun J=>(Ae z ((C9 m J).getD 0)).bind fun L=>I (Qd q L.Depth) (Ag (u+1))else(bif decide (j.Depth>q)then some ((Ag (j.Depth-q))==1)else some false).bind fun M=>some (M,m))
def aae (m:AB) (q:AX) (j:(List (Int×Int))):Int→Int→Option (Bool×(List (Int×Int))):=aQ (aHZ m q j) Af
def aO5 (j:AB) (q:AX) (m:(List (Int×Int))) (k2:(Int→Option (Bool×(List (Int×Int))))):Int→Option (Bool×(List (Int×Int))):=fun u=>(bif decide (u<(j.bD.length:Int))then(Ae j.bD u).bind fun z=>(Ae q ((C9 m z).getD 0)).bind fun I=>(bif decide (I.Depth≥j.Depth)then some (false,m)else k2 (Ag (u+1)))else(bif ((j.bC.length:Int)==0)then some ((j.Depth==1),m)else(Ae j.bC 0).bind fun J=>(Ae q ((C9 m J).getD 0)).bind fun L=>aae j q m L.Depth 0))
def adt (m:AB) (q:AX) (j:(List (Int×Int))):Int→Option (Bool×(List (Int×Int))):=bg (aO5 m q j) Af
def aED (m:AX) (j:(List (Int×Int))) (q:AB):Option (Bool×(List (Int×Int))):=adt q m j 0
def aqj (ay UR jF r) (h:aED ay UR jF=some r):BG 126 [BL ay,.mp 0,EP jF] [.map (List.map (BX Bq Aa) UR)] (Ai r.1) [.map (List.map (BX Bq Aa) r.2)]:=Am.aN Tryz.func126 rfl<|AZ<|Ac<|AO<|.a 2<|.p (BN Aa jF.bD CQ rfl)<|.aW<|AP.block<|En (fun v1=>⟨BH 75 [(0,BL ay),(1,.mp 0),(5,.ptr 1 0),(13,Bl jF.bD),(14,AV (jF.bD.length:Int)),(15,AV v1)],[.map (List.map (BX Bq Aa) UR),.box (BD (BA jF))],1⟩) _ _ _ (Ad 75 57379 [(0,true),(1,true)]) h<|fun J19 k2 M v1 h=>AZ<|Ac<|CB h (fun h=>Ac<|AP.block<|AU h fun x4 O h=>AO<|.p (BQ Aa O CQ DX rfl)<|.aW<|AU h fun x5 U h=>Gt A8 A8 A8 (.a 3<|.p (x:=(AV ((C9 UR x4).getD 0))) (dR (k:=0) (key:=x4) (m:=UR) Aa 0 QC Hd zero3 A8 A8 A8 rfl)<|.p (BQ BA U Ce Dj rfl)<|.a 5<|.nil _)<|BM h (fun h=>AZ<|Zr) fun h=>Aw<|.a 2<|.nil<|M _ _ (Ad 75 57379 [(0,true),(1,true)]) h) fun h=>AP.exit<|Ac<|AO<|.a 2<|.p (BN Aa jF.bC CQ rfl)<|.aW<|BM h (fun h=>AZ<|Zr) fun h=>DJ h fun x8 Y x9 Z h=>AO<|.a 4<|.p (BQ Aa Y CQ DX rfl)<|.a 1<|.p (x:=(AV ((C9 UR x8).getD 0))) (dR (k:=0) (key:=x8) (m:=UR) Aa 0 QC Hd zero3 A8 A8 A8 rfl)<|.p (BQ BA Z Ce Dj rfl)<|.aW<|Ac<|AO<|.a 2<|.p (BN Aa jF.bC CQ rfl)<|.aW<|AP.block<|EW (fun j q=>⟨BH 75 [(0,BL ay),(1,.mp 0),(5,.ptr 1 0),(9,AV j),(48,Bl jF.bC),(49,AV (jF.bC.length:Int)),(50,AV q)],[.map (List.map (BX Bq Aa) UR),.box (BD (BA jF))],1⟩) _ _ _ _ (Ad 75 1970324836975139 [(0,true),(1,true)]) h<|fun J18 k12 u j q h=>AZ<|Ac<|CB h (fun h=>Ac<|AP.block<|AU h fun z I h=>AO<|.p (BQ Aa I CQ DX rfl)<|.aW<|AU h fun x15 J h=>Aw<|.a 4<|.p (x:=(AV ((C9 UR z).getD 0))) (dR (k:=0) (key:=z) (m:=UR) Aa 0 QC Hd zero3 A8 A8 A8 rfl)<|.p (BQ BA J Ce Dj rfl)<|.a 2<|.p (x:=(AV (Qd j x15.Depth))) (aeX rfl)<|.a 1<|.nil<|Aw<|.a 2<|.nil<|u _ _ _ (Ad 75 1970324836975139 [(0,true),(1,true)]) h) fun h=>AP.exit<|AO<|.a 4<|AU h fun x16 L h=>.mg 68 6 (Ai x16) (.bi L)<|.aW<|Zr
def aPB (j:AX) (u:(Int→(List (Int×Int))→Option Int)):Int→(List (Int×Int))→Option Int:=fun m z=>(bif decide (m<(j.length:Int))then(Ae j m).bind fun I=>(aED j z I).bind fun q=>(bif (!q.1)then some 15 else u (Ag (m+1)) q.2)else some 0)
def aei (j:AX):Int→(List (Int×Int))→Option Int:=aQ (aPB j) Af
def aG0 (j:AX):Option Int:=(aDY j).bind fun m=>(bif (!m)then some 14 else(Z8 j).bind fun q=>aei j 0 q)
def amC (ay r) (h:aG0 ay=some r):BG 84 [BL ay] [] (AV r) []:=Am.aN Tryz.func84 rfl<|AZ<|Ac<|AU h fun O j h=>AO<|.a 1<|.ca (aia ay O j)<|.aW<|BM h CP fun h=>AU h fun U m h=>AO<|.a 1<|.f (x:=.mp 0) (ER [] [BL ay] (vG ay U m) rfl)<|.aW<|Ac<|AO<|.a 1<|.p (BN BA ay Ce rfl)<|.aW<|AP.block<|EW (fun J q=>⟨BH 24 [(0,BL ay),(3,.mp 0),(11,AV (ay.length:Int)),(12,AV J)],[.map (List.map (BX Bq Aa) q)],0⟩) _ _ _ _ (Ad 24 6153 [(0,true)]) h<|fun Y Z u J q h=>AZ<|Ac<|CB h (fun h=>Ac<|AP.block<|AZ<|DJ h fun L z M I h=>AO<|.a 4<|.p (BQ BA z Ce Dj rfl)<|.a 1<|.f (x:=(Ai M.1)) (ER [.ent 0] [BL ay,.mp 0,EP L] (aqj ay q L M I) rfl)<|.aW<|BM h CP fun h=>Aw<|.a 2<|.nil<|u _ _ _ (Ad 24 6153 [(0,true)]) h) fun h=>Gf
end Go.Proofs.YtldfpencimjjlaaGreat
end
