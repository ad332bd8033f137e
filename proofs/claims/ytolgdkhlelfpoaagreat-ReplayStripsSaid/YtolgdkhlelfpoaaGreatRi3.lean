/- Part 3 of what the laws' proofs lean on: states of the walk, typed functions of the program and their laws (short forms written by wip/shrink.py; no condition). -/
import Derived.Test.YtolgdkhlelfpoaaGreatRi2
set_option linter.defProp false
set_option linter.unnecessarySimpa false
set_option linter.unusedVariables false
set_option linter.unusedSimpArgs false
section
namespace Go.Proofs.YtolgdkhlelfpoaaGreat
open Go.RowKit Go.Sort
section
variable {α : Type}
def ZB (le:α→α→Bool) (x:α):List α→List α
 | []=>[x]
 |y::l=>bif le x y then x::y::l else y::ZB le x l
def QY (le:α→α→Bool) (l:List α):List α:=l.foldr (ZB le) []
def aEc (le:α→α→Bool) (x:α):∀l,(ZB le x l).Perm (x::l)
 | []=>.refl _
 |y::l=>by
  unfold ZB;cases h:le x y with
  |true=>exact .refl _
  |false=>exact((aEc le x l).cons y).trans (.swap x y l)
def YK (le:α→α→Bool):∀l,(QY le l).Perm l
 | []=>.refl _
 |x::l=>(aEc le x (QY le l)).trans ((YK le l).cons x)
def aci {le:α→α→Bool} (m:∀x y z,le x y=true→le y z=true→le x z=true) (q:∀x y,le x y=false→le y x=true) (x:α):∀l,l.Pairwise (fun a b=>le a b=true)→(ZB le x l).Pairwise (fun a b=>le a b=true)
 | [],_=>by simp[ZB]
 |y::l,h=>by
  have h':=Ot.1 h;unfold ZB;cases j:le x y with
  |true=>
   refine Ot.2 ⟨fun z f=>?_,h⟩;rcases F5.1 f with rfl|f
   ·exact j
   exact m x y z j (h'.1 z f)
  |false=>
   refine Ot.2 ⟨fun z f=>?_,aci m q x l h'.2⟩;rcases F5.1 ((aEc le x l).mem_iff.1 f)with rfl|f
   ·exact q _ _ j
   exact h'.1 z f
def aJr {le:α→α→Bool} (f:∀x y z,le x y=true→le y z=true→le x z=true) (j:∀x y,le x y=false→le y x=true):∀l:List α,(QY le l).Pairwise (fun a b=>le a b=true)
 | []=>.nil
 |x::l=>aci f j x _ (aJr f j l)
def apt {le:α→α→Bool} (f:∀x y z,le x y=true→le y z=true→le x z=true) (j:∀x y,le x y=false→le y x=true) (ha:∀x y,le x y=true→le y x=true→x=y) {l m:List α} (q:m.Perm l) (s:m.Pairwise (fun a b=>le a b=true)):m=QY le l:=
 (q.trans (YK le l).symm).eq_of_pairwise (fun a b _ _ u I=>ha a b u I) s (aJr f j l)
def aHI {e:α→D} {enc:α→List Value} (f:∀x,(e x).cells=(enc x).map .lit):∀l:List α,flat (l.map e)=(l.flatMap enc).map fun v=>.d (.lit v)
 | []=>rfl
 |x::l=>by rw[Jr,UD,aHI f l,f,Lr,L6,pz];rfl
def Rep {enc:α→List Value} {k:Nat} (f:∀x,(enc x).length=k):∀l:List α,(l.flatMap enc).length=l.length*k
 | []=>BM
 |x::l=>by rw[Lr,Dz,f,Rep f l,FV,Wn,aB9,Oc]
def aKu {e:α→D} {enc:α→List Value} {k:Nat} (m:∀x,(e x).cells=(enc x).map .lit) (z:∀x,(enc x).length=k) (M:∀x,∀v∈enc x,v.oneCell'=true) {ok:Nat→Prop} {w:World} {H:List Bc} {h:Bc} {T:TypeId} {l:List α}:
 EW ok w H h (.arr T k (l.map e))↔h.size=k∧lH w T k h.v l.length (l.flatMap enc):=by
 have O:=Rep z l;constructor
 ·rintro⟨q,_,xs,j,s,I⟩;refine⟨q,?_⟩;rw[Cb]at j
  have :xs=l.flatMap enc:=by
   rw[aHI m]at s I;rw[Cb]at s;refine ZW s fun i hi J=>?_;have L:=(I i jC).2;simp only[List.getD,IX,Df J,Hr,Lj,Df hi]at L;cases L with |d _ _ h=>rw[DT.abI h]
  rw[←this];exact j
 rintro⟨q,j⟩;refine⟨q,fun x u=>?_,l.flatMap enc,by rw[Cb];exact j,?_⟩
 ·obtain⟨n,_,rfl⟩:=F8.1 u;rw[m,Cb,z]
 rw[aHI m];refine⟨BM,fun i hi=>?_⟩;have f:i<(l.flatMap enc).length:=FZ
 simp only[List.getD,IX,Df f,Hr,Lj];refine⟨?_,.d _ _ (.lit _)⟩;obtain⟨x,_,u⟩:=Rt.1 (EC f);exact M x _ u
def amV {f:Array Value} (j:f.size=2):f= #[f.getD 0 undef,f.getD 1 undef]:=by
 refine Xk YH fun i q m=>?_;simp at m;have :i=0∨i=1:=AA
 rcases this with rfl|rfl<;>simp[Array.getD,j]
def Ak.arH {P:Program} {f g:FuncId} {T:TypeId} {k:Nat} {e:α→D} {enc:α→List Value} (J:∀x,(e x).cells=(enc x).map .lit) (hk:∀x,(enc x).length=k) (h1:∀x,∀v∈enc x,v.oneCell'=true) {l r:List α}
 (h:∀(v:Value) (w:World),lH w T k v l.length (l.flatMap enc)→Calls P f #[v,.func (.func g) #[] #[]] w fun x w'=>x=.returned (.tuple #[])∧lH w' T k v r.length (r.flatMap enc)∧Turns v w w'):
 Ak P f [.aS 0,.d (.fn (.func g) [] [])] [.arr T k (l.map e)] (.eH []) [.arr T k (r.map e)]:=by
 intro ok X H w s L hs ha;have h0:=ha 0 BM;have M:=ha 1 BM;rw[amV hs];obtain⟨hd,Z,hok⟩:=FY L.ent L.hlen (k:=0) rfl;obtain hv:=Nj h0 Z
 have hf:s.getD 1 undef=.func (.func g) #[] #[]:=by
  simp only[List.getD,zC,aH6,Lj]at M;generalize s.getD 1 undef=u at M;cases M with
  |d _ _ M=>
   cases M with
   |fn _ _ _ vs us hl hm'=>
    have e1:vs= #[]:=Xt qQ;have e2:us= #[]:=Xt (by simpa using hm');rw[e1,e2]
 rw[hv,hf];obtain⟨hz,how⟩:=(aKu J hk h1).1 hok;refine(h hd.v w how).mono ?_;rintro x w' ⟨rfl,O,I⟩;have q:=fun b U=>L.blk 0 _ hd b rfl rfl Z U
 have hg:=L.change (ok':=ok) (H':=H) (w':=w') (es':=[.arr T k (r.map e)]) (fun c=>DC hd.v=some c) I.os I.tape I.output I.size I.block (fun c J _=>⟨(q c J).1,(q c J).2.2⟩) (fun _ h=>h) (fun _ h=>.inl h) (.refl _) L.hlen (by
  intro j e' h' m Y
  match j,m with
  |0,m=>
   simp at m;subst m;rw[Z]at Y;obtain rfl:=CJ Y;refine .inr ⟨(aKu J hk h1).2 ⟨hz,O⟩,fun _ b U=>⟨(q b U).1,Ud (q b U).2.1 I.size,(q b U).2.2,fun k' e'' h'' hne z=>?_⟩⟩
   match k',z with
   |0,_=>exact absurd rfl hne
   |k'+1,z=>simp at z
  |k+1,m=>simp at m)
 exact⟨_,ok,H,rfl,hg.1,.eH [] #[] rfl (fun i hi=>MS)⟩
end
section
variable {α : Type} [Inhabited α]
def aJk {enc:α→List Value} {k:Nat} (j:∀x,(enc x).length=k) (l:List α):(flatK enc k l.toArray).toList=l.flatMap enc:=by
 have key:∀(l:List α) (t:Nat),t<l.length*k→(enc (l[t/k]?.getD default))[t % k]? =(l.flatMap enc)[t]? :=by
  intro l
  induction l with
  |nil=>intro t f;simp at f
  |cons x l s=>
   intro t f;rw[FV,Wn,aB9]at f;rw[Lr];by_cases h:t<k
   ·rw[Nat.div_eq_of_lt h,Nat.mod_eq_of_lt h,G6 (by rw[j];exact h)];rfl
   have h':k≤t:=SN h;rcases Z7 k with m|m
   ·subst m;simp at f
   have u:t/k=(t-k)/k+1:=Nat.div_eq_sub_div m h';rw[u,Nat.mod_eq_sub_mod h',Io (by rw[j];exact h'),j,←s (t-k) AA,zC]
 refine ZW (by simp[Rep j]) fun t z I=>?_;have f:t<l.length*k:=SC
 have :=key l t f;rw[Df I]at this;have q:=get_flatK enc k l.toArray t Ku;rw[iG _ _ Ku]at q;rw[Array.getElem_toList,q];have J:(l.toArray)[t/k]! =l[t/k]?.getD default:=BM
 rw[J];simp[List.getElem!_eq_getElem?_getD,this]
end
def Rk (a b:Int):Int:=if a<b then -1 else if a>b then 1 else 0
def Ve (p q:Int×Int×Int):Int:=if p.2.1=q.2.1 then(if p.2.2=q.2.2 then Rk p.1 q.1 else Rk p.2.2 q.2.2)else Rk q.2.1 p.2.1
def aDF (a b:Int):Rk a b<0↔a<b:=by
 unfold Rk;split
 ·omega
 split<;>omega
def am9 (p q:Int×Int×Int):Ve p q<0↔q.2.1<p.2.1∨p.2.1=q.2.1∧(p.2.2<q.2.2∨p.2.2=q.2.2∧p.1<q.1):=by
 unfold Ve;split
 ·split
  ·rw[aDF];omega
  rw[aDF];omega
 rw[aDF];omega
def anE (a b:Int) (W:World):Calls Tryz.prog 423 #[.int .i64 a,.int .i64 b] W fun e w'=>e=.returned (.int .i64 (Rk a b))∧w'=W:=by
 unfold Rk
 go_enter Tryz.func423,Tryz.ntmps423
 go_wp2
 all_goals (go_ret;exact⟨rfl,rfl⟩)
set_option maxHeartbeats 1000000 in
def arF (r p1 p2 p3 q1 q2 q3:Int) (hr:r=if p2=q2 then(if p3=q3 then Rk p1 q1 else Rk p3 q3)else Rk q2 p2) (W:World):Calls Tryz.prog 422 #[.agg #[.int .i64 p1,.int .i64 p2,.int .i64 p3],.agg #[.int .i64 q1,.int .i64 q2,.int .i64 q3]] W fun e w'=>e=.returned (.int .i64 r)∧∃q j,w'=grow (W.drewN q) j:=by
 have f:=anE;generalize Rk=c at f hr;have m:p2≠q2→c q2 p2=r:=fun h=>by rw[hr,D8 h]
 have s:p2=q2→p3≠q3→c p3 q3=r:=fun h k=>by rw[hr,Ch h,D8 k]
 have u:p2=q2→p3=q3→c p1 q1=r:=fun h k=>by rw[hr,Ch h,Ch k]
 clear hr
 go_enter Tryz.func422,Tryz.ntmps422
 go_wp2_with (go_at_call 423;refine(f _ _ _).mono ?_;rintro e w' ⟨rfl,rfl⟩)
 all_goals go_ret
 ·rename_i h;rw[m Jp];exact⟨rfl,0,_,aDk⟩
 ·rename_i h k;rw[s Jp (by simpa using k)];exact⟨rfl,0,_,aDk⟩
 rename_i h k;rw[u Jp (by simpa using k)];exact⟨rfl,0,_,aDk⟩
def JH (p q:Int×Int×Int):Bool:= !decide (Ve q p<0)
def qU (p q:Int×Int×Int):JH p q=true↔¬(p.2.1<q.2.1∨q.2.1=p.2.1∧(q.2.2<p.2.2∨q.2.2=p.2.2∧q.1<p.1)):=by
 unfold JH;rw[Qu,Vm,am9]
def adV (x y z:Int×Int×Int) (h:JH x y=true) (k:JH y z=true):JH x z=true:=by
 rw[qU]at *;omega
def afP (x y:Int×Int×Int) (h:JH x y=false):JH y x=true:=by
 have h:¬JH x y=true:=by rw[h];decide
 rw[qU]at *;omega
def akn (x y:Int×Int×Int) (h:JH x y=true) (k:JH y x=true):x=y:=by
 rw[qU]at *;obtain⟨f,j,m⟩:=x;obtain⟨q,s,u⟩:=y;simp only[Qv]at *;omega
def ajp (p q:Int×Int×Int):JH p q=false↔(p.2.1<q.2.1∨q.2.1=p.2.1∧(q.2.2<p.2.2∨q.2.2=p.2.2∧q.1<p.1)):=by
 rw[←Jg,qU,Decidable.not_not]
def arP (x y z:Int×Int×Int) (h:JH y x=false) (k:JH z y=false):JH z x=false:=by
 rw[ajp]at *;omega
section
variable {α : Type}
def xY (f:α→Int×Int×Int) (l:List α):Option (List α):=if l.length≤1099511627776 then some (QY (fun x y=>JH (f x) (f y)) l)else none
def NZ (f:α→Int×Int×Int) (x:α):List Value:=[.int .i64 (f x).1,.int .i64 (f x).2.1,.int .i64 (f x).2.2]
def amN (f:α→Int×Int×Int) (x:α):(NZ f x).length=3:=rfl
def abb (f:α→Int×Int×Int) (x:α):∀v∈NZ f x,v.oneCell'=true:=fun v j=>by
 simp[NZ]at j;rcases j with rfl|rfl|rfl<;>rfl
def aBt (f:α→Int×Int×Int) (x y:α):ltOf (fun x y=>Ve (f x) (f y)) x y= !JH (f y) (f x):=by simp[ltOf,JH]
def ahN (f:α→Int×Int×Int):SWO (ltOf fun x y:α=>Ve (f x) (f y)):=by
 refine⟨fun x=>?_,fun x y z h k=>?_,fun x y z h k=>?_⟩
 ·rw[aBt,(qU (f x) (f x)).2 AA];rfl
 ·rw[aBt,Qu]at *;exact arP _ _ _ h k
 rw[aBt,Bool.not_eq_false']at *;exact adV _ _ _ k h
variable [Inhabited α]
def aoQ (f:α→Int×Int×Int) (blk off size:Nat) (w:World):CmpLays Tryz.prog 422 #[] (NZ f) 3 (fun x y=>Ve (f x) (f y)) blk off size w:=
 fun m os j _ x y=>arF (Ve (f x) (f y)) (f x).1 (f x).2.1 (f x).2.2 (f y).1 (f y).2.1 (f y).2.2 rfl (sortWorldK (NZ f) 3 w blk off m j os)
set_option maxHeartbeats 2000000 in
def akC (f:α→Int×Int×Int) (hf:∀x y,f x=f y→x=y) (e:α→D) (he:∀x,e x=.agg [AV (f x).1,AV (f x).2.1,AV (f x).2.2]) (l r:List α) (h:xY f l=some r):
 BF 421 [.aS 0,.d (.fn (.func 422) [] [])] [.arr 351 3 (l.map e)] (.eH []) [.arr 351 3 (r.map e)]:=by
 unfold xY at h;split at h
 ·rename_i hn;obtain rfl:=CJ h;have O:=amN f;refine Ak.arH (enc:=NZ f) (fun x=>by rw[he];rfl) O (abb f) fun v w how=>?_;generalize hr:QY (fun x y=>JH (f x) (f y)) l=r;have s:r.length=l.length:=by rw[←hr];exact(YK _ l).length_eq
  rcases how.2 with⟨rfl,h0⟩|⟨g,cap,u,rfl,hbase,hg,hnc,hcm,hcs,I⟩
  ·have hl:l=[]:=GR h0;have hl':r=[]:=GR (by rw[s,h0]);subst hl;subst hl';refine(AnyF.slices_SortFunc_none (P:=Tryz.prog) (ρ:=Tryz.UG) { Tryz.aky with } none 0 _ w).mono ?_;rintro e w' ⟨rfl,h⟩;subst h;exact⟨rfl,lH.nil _ _ _,Turns.refl _ _⟩
  have U:g<w.heap.size:=(FN.1 hg).1;have m:=aJk (enc:=NZ f) O l
  have hH:HoldsK (NZ f) 3 w g 0 l.toArray:=by
   unfold HoldsK;have J:(flatK (NZ f) 3 l.toArray).size=l.length*3:=BM
   generalize flatK (NZ f) 3 l.toArray=F at m J;intro j L;refine⟨?_,by simp[World.frozen?,hg]⟩;have e0:(u.toList.take (l.length*3))[j]? =(l.flatMap (NZ f))[j]? :=by rw[I]
   rw[Ll AA,←m]at e0;simp only[World.cell?,hg,Ik];simp only[Option.isSome_none,SQ,Ip];rw[←iM,e0,iM,iG F j L,dc L];rfl
  have eg:∀args w,(callFunc 422 args).run Tryz.prog w=.ok (.enter 422 args) w:=enters_of Tryz.func422 A8 rfl;have :=AnyQ.slices_SortFunc (P:=Tryz.prog) (ρ:=Tryz.UG) Tryz.aky 3 Tryz.isAgg351 Tryz.sizeOf351 (NZ f) O (abb f) (fun x y=>Ve (f x) (f y)) (ahN f) 422 #[] g 0 cap l.toArray w eg (aoQ f _ _ _ _) hH U E5;refine this.mono ?_;rintro e' w' ⟨rfl,M,n,os,hp,hs,rfl⟩;obtain⟨Y,_,q⟩:=hp;have Z:M.size=l.length:=by simpa using Y
  have e1:M.extract 0 l.toArray.size=M:=by rw[←Y];exact Array.extract_size
  rw[e1,Array.extract_size]at q
  have hm:M.toList=r:=by
   rw[←hr];refine apt (le:=fun x y=>JH (f x) (f y)) (fun x y z=>adV (f x) (f y) (f z)) (fun x y=>afP (f x) (f y)) (fun x y h k=>hf _ _ (akn (f x) (f y) h k)) q ?_;refine KX.2 fun i j hi L hij=>?_;have :=hs i j (EH _) hij (by simpa[Z]using L);rw[aBt,iG M i FZ,iG M j (by simpa using L)]at this;simpa using this
  obtain rfl:M=r.toArray:=by rw[←hm]
  have hF:=aJk (enc:=NZ f) O r;have J:(flatK (NZ f) 3 r.toArray).size=l.length*3:=by simp[s]
  generalize hFF:flatK (NZ f) 3 r.toArray=F at hF J;refine⟨rfl,⟨by rw[Rep O],.inr ⟨g,cap,putCells id 0 F u,by rw[s],EH _,?_,AA,hcm,by simpa[putCells]using hcs,?_⟩⟩,⟨rfl,rfl,rfl,by simp[sortWorldK,putRowK],fun c hc hne=>?_⟩⟩
  ·unfold sortWorldK putRowK;rw[hFF,heap_grow_old _ _ aBF];simp[putRow,mapBlock,Sort.ahead,NK,hg,onCells]
  ·rw[←hF,s];apply bQ;intro j;by_cases L:j<l.length*3
   ·have hjc:j<u.size:=by have :=J5 3 hnc;omega
    rw[Ll L,iM,iM];have hjF:j<F.size:=AA
    simp[putCells,hjF,hjc]
   rw[List.getElem?_take_eq_none AA,Kq E5]
  unfold sortWorldK putRowK;rw[heap_grow_old _ _ (by simpa using hc)];have :g≠c:=fun e=>hne jJ;simp[putRow,mapBlock,Sort.ahead,NK,this]
 cases h
end
end Go.Proofs.YtolgdkhlelfpoaaGreat
end
section
namespace Go.Proofs.YtolgdkhlelfpoaaGreat
open Go.RowKit
def CX.freeze {C:Dv} {ok:Nat→Prop} {H:List Bc} {es:List BI} {w:World} (m:CX C ok H es w) {k:Nat} {e:BI} {hd:Bc} (Z:es[k]? =some e) (hl:e.live=true) (L:H[k]? =some hd):CX C (fun b=>ok b∨DC hd.v=some b) H (es.set k .dead) w:=by
 have s:k<es.length:=(F6.1 Z).1;have I:=fun b f=>m.blk k _ hd b Z hl L f;have hg:Dw ok w (fun b=>ok b∨DC hd.v=some b) w:=fun b f=>⟨.inl f,rfl⟩
 refine⟨m.fr,fun b f=>.inl (m.wE b f),?_,?_,m.names,by simp[m.hlen],?_,?_,?_⟩
 ·rintro b (f|f)
  ·exact m.wF b f
  exact .inr (I b f).2.2
 ·rintro b (f|f)
  ·exact m.jG b f
  exact(I b f).2.1
 ·intro j e' h' he u;rcases Kw s he with⟨rfl,rfl⟩|⟨_,z⟩
  ·trivial
  exact(m.ent j e' h' z u).mono hg (.refl _) (fun _ _ _=>rfl)
 ·intro j e' h' b he J u f;rcases Kw s he with⟨rfl,rfl⟩|⟨hne,z⟩
  ·cases J
  have h3:=m.blk j e' h' b z J u f;refine⟨fun q=>?_,h3.2⟩;rcases q with q|q
  ·exact h3.1 q
  exact hne (m.CW j k e' _ h' hd b z Z J hl u L f q)
 intro i j e1 e2 h1 h2 b he1 he2 M O hh1 hh2 hb1 hb2;rcases Kw s he1 with⟨rfl,rfl⟩|⟨_,U⟩
 ·cases M
 rcases Kw s he2 with⟨rfl,rfl⟩|⟨_,Y⟩
 ·cases O
 exact m.CW i j e1 e2 h1 h2 b U Y M O hh1 hh2 hb1 hb2
section
variable {P : Program} {o : Oper} {es : List BI}
def af5 {t J L:TypeId} {x:Operand} {k:Nat} {m:List (Value×D)} (ht:P.underlying t=some (.map J L)) (M:es[k]? =some (.map m)) (ho:o.op=.range t x):Bd P o [(x,.mp k)] es (.ptr es.length 0) (es.set k .dead++[.iter m []]):=
 .eff fun C ok H a w f hn=>by
  obtain⟨hd,O,s⟩:=FY f.ent f.hlen M;obtain⟨b,ms,clock,U,u,h3⟩:=s;have Y:=Qs (hn (x,.mp k) BM) O;simp only at Y;have hb:b<w.heap.size:=(FN.1 u).1;have Z:=f.freeze M rfl O;have g0:Dw ok w (fun c=>ok c∨DC hd.v=some c) w:=fun c q=>⟨.inl q,rfl⟩
  have z:DC hd.v=some b:=by rw[U];rfl
  have g1:Dw (fun c=>ok c∨DC hd.v=some c) w (fun c=>ok c∨DC hd.v=some c) (w.alloc (.mapIter (some b) clock #[] clock)):=fun c q=>⟨q,Iz _ _ _ (Z.jG c q)⟩
  have I:EW (fun c=>ok c∨DC hd.v=some c) (w.alloc (.mapIter (some b) clock #[] clock)) (H++[⟨.pointer (some ⟨w.heap.size,0,none⟩),0⟩]) ⟨.pointer (some ⟨w.heap.size,0,none⟩),0⟩ (.iter m []):=
   ⟨w.heap.size,b,ms,clock, #[],rfl,cG _ _,.inr z,(Iz _ _ _ hb).trans u,(h3.mono g0).mono g1,rfl,fun j i hj=>by simp at hj⟩
  obtain⟨m1,g2⟩:=Z.push (.mapIter (some b) clock #[] clock) ⟨.pointer (some ⟨w.heap.size,0,none⟩),0⟩ _ (zU w) I;refine⟨.pointer (some ⟨w.heap.size,0,none⟩),_,_,_,.inl ?_,g0.trans g2,Names.push _ _,m1,.ptr _ _ w.heap.size 0 uU⟩;have hr:=run_range_map (P:=P) w t J L b ms clock ht u;simp[execOp,ho,Y,U,hr]
def born_inj {ok:Nat→Prop} {w:World} {es:List (Value×D)} {ms:Array MapEntry} {clock:Nat} (h:J9 ok w es ms clock) {i j:Nat} {m n:MapEntry} (hi:ms[i]? =some m) (q:ms[j]? =some n) (s:m.born=n.born):i=j:=by
 rcases qG i j with f|f|f
 ·have :=h.inc i j m n f hi q;omega
 ·exact f
 have :=h.inc j i n m f q hi;omega
def akc {ok:Nat→Prop} {w:World} {es:List (Value×D)} {ms:Array MapEntry} {clock:Nat} (h:J9 ok w es ms clock):(ms.toList.map (·.born)).Nodup:=by
 unfold List.Nodup;rw[KX];intro i j hi f m;simp only[Cb,RG]at hi f;have q:ms[i]? =some ms[i]:=Oj
 have s:ms[j]? =some ms[j]:=VA
 simp only[QC,Array.getElem_toList];intro e;have :=born_inj h q s e;omega
def anM {K V:Type} {x:Operand} {n i:Nat} {ek:K→Value} {ev:V→D} {m:List (K×V)} {vis:List Nat} {p:K×V} (Z:m[i]? =some p) (he:es[n]? =some (.iter (m.map (Aj ek ev)) (vis++[i]))) (ho:o.op=.entry x):
 Bd P o [(x,.ptr n 0)] es (.eH [.d (.lit (ek p.1)),.d (ev p.2)]) es:=
 .pure fun ok H a w q hl hn=>by
  obtain⟨hd,hh,z⟩:=FY q hl he;obtain⟨bi,L,ms,clock,seen,M,h2,h3,h4,O,h6,h7⟩:=z;have I:=hn (x,.ptr n 0) BM;simp only at I;generalize hv:a.eval x=v at I;cases I with
  |ptr _ _ b' s U=>
   rw[hh]at U;obtain rfl:=CJ U;simp only[Value.pointer.injEq,Ju,Addr.mk.injEq]at M;obtain⟨rfl,_⟩:=M;obtain⟨e,Y,q2⟩:=h7 vis.length i BM;have J:(m.map (Aj ek ev))[i]? =some (Aj ek ev p):=by rw[IX,Z];rfl
   obtain⟨r1,r2,_⟩:=O.ent i _ e J Y;refine⟨.tuple #[e.key,e.val],?_,.eH _ _ rfl fun j hj=>?_⟩
   ·have f:seen.back?=some e.born:=by
     rw[Array.back?_eq_getElem?,h6];simpa using q2
    have u:e∈ms.toList:=by
     rw[Array.mem_toList_iff];exact Array.mem_of_getElem? Y
    have hf:ms.find? (·.born==e.born)=some e:=by rw[←Array.find?_toList];exact find_born e ms.toList (akc O) u
    have g1:(getObj b').run P w=.ok (.mapIter (some L) clock seen clock) w:=by simp[getObj,Sem.run,h2]
    have g2:(getObj L).run P w=.ok (.map ms clock) w:=QZ h4;simp[execOp,ho,hv,Instr.entry,g1,g2,f,hf]
   match j,hj with
   |0,_=>rw[show([Ac.d (.lit (ek p.1)),.d (ev p.2)]:List Ac).getD 0 .junk=.d (.lit (ek p.1))from rfl,show(#[e.key,e.val]:Array Value).getD 0 undef=e.key from rfl,r1];exact .d _ _ (.lit _)
   |1,_=>exact .d _ _ r2
end
def ana {P:Program} {w:World} {ok:Nat→Prop} {ty:TypeId} {bi M clock:Nat} {seen:Array Nat} {ms:Array MapEntry} {es:List (Value×D)} (hi:w.heap[bi]? =some (.mapIter (some M) clock seen clock)) (hb:w.heap[M]? =some (.map ms clock)) (hM:J9 ok w es ms clock):
 ((leftOf ms seen).size=0∧(Instr.next (.pointer (some ⟨bi,0,none⟩)) false ty).run P w=.ok (.tuple #[.bool false]) w)∨
 ∃e∈(leftOf ms seen).toList,∃f:World,(f=w∨f=w.drew)∧(Instr.next (.pointer (some ⟨bi,0,none⟩)) false ty).run P w=.ok (.tuple #[.bool true,e.key,e.val]) (f.putObj bi (.mapIter (some M) clock (seen.push e.born) clock)):=by
 have q:∀x∈ms.toList,x.born<clock:=fun x s=>by
  obtain⟨i,hi,rfl⟩:=Gj s;have u:i<ms.size:=FZ
  have O:i<es.length:=by rw[←hM.len];exact u
  have :=(hM.ent i es[i] ms[i] (by simp[O]) (by simp[u])).2.2;simpa using this
 simp only[Instr.next,getObj,Eh,Sem.run,hi,hb,Result.andThen,next_test_false seen ms clock clock q (Dy _),SQ,Ip];unfold leftOf;have m:∀x∈(Array.filter (fun e=> !seen.contains e.born) ms).toList,x.born<clock:=fun x s=>q x (by simp at s ⊢;exact s.1);generalize Array.filter (fun e=> !seen.contains e.born) ms=L at m ⊢;have e1:L.filter (fun x=>decide (x.born<clock))=L:=Array.filter_eq_self.2 (fun x s=>by simpa using m x PV)
 have e2:L.filter (fun x=>decide (x.born≥clock))= #[]:=by
  rw[Array.filter_eq_empty_iff];intro x s;have :=m x PV;simp;omega
 simp only[e1,e2,Array.append_empty];by_cases h0:L.size=0
 ·left;have :L= #[]:=Xt h0;subst this;refine⟨rfl,?_⟩;simp[choose,Sem.run,Question.forced]
 right;have U:L.isEmpty=false:=by simp[Array.isEmpty,h0]
 simp only[U,SQ,Ip,Array.empty_append,Array.size_map]
 have Y:∃(j:Nat) (f:World),j<L.size∧(f=w∨f=w.drew)∧(choose (Question.mapNext L.size)).run P w=.ok j f:=by
  by_cases hf:L.size≤1
  ·exact⟨0,w,AA,.inl rfl,by simp[choose,Sem.run,Question.forced,hf]⟩
  exact⟨_,w.drew,aH _ AA,.inr rfl,by
   simp only[choose,Sem.run,Question.forced,G8,hf,Ip,Question.cut]
   rfl⟩
 obtain⟨j,f,hj,z,I⟩:=Y;refine⟨L[j],BM,f,z,?_⟩;have Z:f.heap[bi]? =some (.mapIter (some M) clock seen clock):=by rcases z with rfl|rfl<;>exact hi
 have J:∀(o':Obj),(setObj bi o').run P f=.ok () (f.putObj bi o'):=fun o'=>by simp[setObj,Sem.run,Z,World.putObj]
 simp only[I,Array.getElem?_map,dc hj,Hr,Eh,J,Result.andThen];rfl
section
variable {P : Program} {ops : Array Oper} {o : Oper} {rest l : List Oper} {σ : Ap} {Q : Exit → Ap → Prop} {K V : Type}
def ajZ {ms:Array MapEntry} {seen:Array Nat} {e:MapEntry} (h:e∈(leftOf ms seen).toList):e∈ms.toList∧e.born∉seen:=by
 unfold leftOf at h;simp at h;exact⟨by simpa using h.1,h.2⟩
def Cj.next {ek:K→Value} {ev:V→D} {x:Operand} {ty:Bool} (n:Nat) (m:List (K×V)) (vis:List Nat) (hn:σ.ents[n]? =some (.iter (m.map (Aj ek ev)) vis)) (ho:o.op=.next x false) (hx:σ.get x=.ptr n 0) (hg:JF ops σ o.guard=some true)
 (h0:(∀i,i<m.length→i∈vis)→Cj P ops rest (σ.qo o.dst (.eH [.d (Cm false)])) Q)
 (h1:∀i p,m[i]? =some p→i∉vis→Cj P ops rest (σ.put o.dst (.eH [.d (Cm true),.d (.lit (ek p.1)),.d (ev p.2)]) (σ.ents.set n (.iter (m.map (Aj ek ev)) (vis++[i])))) Q):Cj P ops (o::rest) σ Q:=by
 refine⟨fun ro l2 Q' C ok H a w u hk=>?_⟩;show wpListIn (Hy ro) 0 P ops Q' (o::(rest++l2)) a w;unfold wpListIn;rw[Ch (Np u (KU hg))];have hv:=hx▸u.get x;obtain⟨hd,Y,Z⟩:=FY u.mem.ent u.mem.hlen hn;obtain⟨bi,J,ms,clock,seen,q1,q2,q3,q4,q5,q6,q7⟩:=Z
 have I:a.eval x=.pointer (some ⟨bi,0,none⟩):=by
  generalize a.eval x=v at hv;cases hv with
  |ptr _ _ b' s hH=>
   rw[Y]at hH;obtain rfl:=CJ hH;simp only[Value.pointer.injEq,Ju,Addr.mk.injEq]at q1;obtain⟨rfl,_⟩:=q1;rfl
 have hlen:ms.size=m.length:=by rw[q5.len,Cb]
 unfold Oper.wpIn;rw[bG _ _ _ (by rw[ho];intro c h;cases h)];rcases ana (P:=P) (ty:=o.type) q2 q4 q5 with⟨hs,hr⟩|⟨e,L,w1,hw1,hr⟩
 ·have he:(execOp a.eval o).run P w=.ok (.value (.tuple #[.bool false])) w:=by simp[execOp,ho,I,hr]
  rw[he];refine⟨fun _ _=>trivial,?_⟩
  refine(h0 fun i hi=>?_).run ro l2 Q' C ok H _ w (u.put o.dst (.refl _ _) (.refl _) u.mem (.eH _ _ rfl fun j f=>by
   match j,f with
   |0,_=>exact .d _ _ (.lit _))) hk
  have M:i<ms.size:=AA
  have hnot:ms[i]∉(leftOf ms seen).toList:=by
   have :leftOf ms seen= #[]:=Xt hs;rw[this];simp
  have hin:ms[i].born∈seen:=by
   apply Uy;intro hc;refine hnot ?_;unfold leftOf;simp[hc]
  obtain⟨j,f,O⟩:=Array.getElem_of_mem hin;have hjv:j<vis.length:=AA
  obtain⟨e,r1,r2⟩:=q7 j vis[j] (by simp[hjv])
  have hb:e.born=ms[i].born:=by
   have e3:seen[j]? =some seen[j]:=VA
   rw[e3,O]at r2;exact(CJ r2).symm
  have :=born_inj q5 r1 (show ms[i]? =some ms[i] by simp[M]) hb;rw[←this];simp
 have he:(execOp a.eval o).run P w=.ok (.value (.tuple #[.bool true,e.key,e.val])) (w1.putObj bi (.mapIter (some J) clock (seen.push e.born) clock)):=by simp[execOp,ho,I,hr]
 rw[he];refine⟨fun _ _=>trivial,?_⟩;obtain⟨axA,hes⟩:=ajZ L;obtain⟨i,hi,hie⟩:=Gj axA;have M:i<ms.size:=FZ
 have U:ms[i]? =some e:=by rw[←hie];simp[M]
 have him:i<m.length:=AA
 have hpe:(m.map (Aj ek ev))[i]? =some (Aj ek ev m[i]):=by simp[him]
 obtain⟨r1,r2,_⟩:=q5.ent i _ e hpe U
 have axB:i∉vis:=fun hc=>by
  obtain⟨j,f,O⟩:=Gj hc;obtain⟨e2,s1,s2⟩:=q7 j i (by simp[←O,f]);rw[U]at s1;obtain rfl:=CJ s1;exact hes (Array.mem_of_getElem? s2)
 have z:CX C ok H σ.ents w1∧Dw ok w ok w1:=by
  rcases hw1 with rfl|rfl
  ·exact⟨u.mem,.refl _ _⟩
  exact u.mem.drew
 have hi1:w1.heap[bi]? =some (.mapIter (some J) clock seen clock):=by rcases hw1 with rfl|rfl<;>exact q2
 have q:w1.heap[J]? =some (.map ms clock):=(z.2 J q3).2.trans q4;have hne:J≠bi:=fun e=>by rw[e,hi1]at q;cases q
 obtain⟨m2,g2⟩:=z.1.adi (o:=.mapIter (some J) clock (seen.push e.born) clock) (e':=.iter (m.map (Aj ek ev)) (vis++[i])) hn rfl Y (by rw[q1];rfl)
  (fun g=>⟨bi,J,ms,clock,seen.push e.born,q1,U9 (FN.1 hi1).1,q3,(WE hne).trans q,(q5.mono z.2).mono g,by simp[q6],fun j i' f=>by
   by_cases hjl:j<vis.length
   ·rw[G6 hjl]at f;obtain⟨e2,s1,s2⟩:=q7 j i' f;exact⟨e2,s1,by rw[Array.getElem?_push_lt AA];simpa[dc (show j<seen.size by omega)]using s2⟩
   have hj2:j=vis.length:=by
    have :=(F6.1 f).1;simp at this;omega
   subst hj2;simp at f;subst f
   exact⟨e,U,by rw[←q6];simp⟩⟩)
 have g3:=z.2.trans g2
 have hp:=(h1 i m[i] (by simp[him]) axB).run ro l2 Q' C ok H (a.put o.dst (.tuple #[.bool true,e.key,e.val])) _ (u.put o.dst (x:=.eH [.d (Cm true),.d (.lit (ek m[i].1)),.d (ev m[i].2)]) g3 (.refl _) m2 (.eH _ _ rfl fun j f=>by
  match j,f with
  |0,_=>exact .d _ _ (.lit _)
  |1,_=>
   show R ok _ H (.d (.lit (ek m[i].1))) e.key;rw[r1];exact .d _ _ (.lit _)
  |2,_=>exact .d _ _ (r2.mono g3))) hk
 exact hp
def AB.atX {A Rr:Type} {cd:Code} (S:List Nat→A→Ap) (m:List (K×V)) (step:A→K×V→Option A) (Kf:A→Option Rr) (r:Rr) (a0:A) (hs:CG σ (S [] a0))
 (I:∀vis:List Nat,vis.Nodup→(∀i,i∈vis↔i<m.length)→((vis.filterMap fun(i:Nat)=>m[i]?).foldlM step a0).bind Kf=some r)
 (round:∀(J:Ap→Prop) (vis:List Nat) (a:A),((∀i,i<m.length→i∈vis)→Kf a=some r)→(∀i p,m[i]? =some p→i∉vis→∃a',step a p=some a'∧∀s,CG s (S (vis++[i]) a')→J s)→AB P cd (S vis a) (Jd J Q)):AB P (.loop cd) σ Q:=by
 have O:∀vis:List Nat,vis.Nodup→(∀i∈vis,i<m.length)→∃rest,(vis++rest).Nodup∧(∀i,i∈vis++rest↔i<m.length):=fun vis f q=>by
  refine⟨(List.range m.length).filter fun i=> !vis.contains i,?_,fun i=>?_⟩
  ·refine mO.2 ⟨f,List.Pairwise.filter _ List.nodup_range,fun a ha b U e=>?_⟩;subst e;rw[FK]at U;simp[ha]at U
  rw[Gp,FK];constructor
  ·rintro(h|h)
   ·exact q i h
   simpa using h.1
  intro h;by_cases Z:i∈vis
  ·exact .inl Z
  exact .inr ⟨Jp,by simp[Z]⟩
 refine AB.loop (fun n s=>∃vis a,n=m.length-vis.length∧vis.Nodup∧(∀i∈vis,i<m.length)∧(vis.filterMap fun(i:Nat)=>m[i]?).foldlM step a0=some a∧CG s (S vis a)) (m.length) ⟨[],a0,BM,Xb,fun i h=>H8,rfl,hs⟩ ?_;rintro n s ⟨vis,a,rfl,f,q,hf,L⟩;refine Ce L (round _ vis a (fun Z=>?_) (fun i p hp hi=>?_))
 ·have :=I vis f (fun i=>⟨q i,Z i⟩);rw[hf]at this;exact this
 have him:i<m.length:=(F6.1 hp).1;have u:(vis++[i]).Nodup:=mO.2 ⟨f,BM,fun a ha b U e=>by simp at U;subst U;subst e;exact hi ha⟩
 have z:∀j∈vis++[i],j<m.length:=fun j Y=>by
  rcases Gp.1 Y with h|h
  ·exact q j h
  simp at h;subst h;exact him
 obtain⟨rest,h1,h2⟩:=O (vis++[i]) u z;have h3:=I _ h1 h2;rw[bY,bY]at h3;simp only[Ns,List.filterMap_nil,hp,List.foldlM_append,SK,List.foldlM_nil,hf,bind,pure,Af]at h3;cases hst:step a p with
 |none=>rw[hst]at h3;simp at h3
 |some a'=>
  refine⟨a',rfl,fun s hs=>⟨m.length-(vis++[i]).length,?_,vis++[i],a',rfl,u,z,?_,hs⟩⟩
  ·have :vis.length<m.length:=by
    have L:vis.length≤(List.range m.length).length:=by
     refine aJZ f ?_;intro j Y;simpa using q j Y
    have M:(vis++[i]).length≤(List.range m.length).length:=by
     refine aJZ u ?_;intro j Y;simpa using z j Y
    simp at M;omega
   simp;omega
  rw[bY,List.foldlM_append,hf];simp[hp,hst]
end
def ajj {α:Type}:∀(m:List α) (vis:List Nat),vis.Nodup→(∀i,i∈vis↔i<m.length)→(vis.filterMap fun(i:Nat)=>m[i]?).Perm m:=fun m vis f j=>by
 have q:vis.Perm (List.range m.length):=by
  rw[List.perm_iff_count];intro a;rw[f.count,List.nodup_range.count];simp[j a]
 have s:((List.range m.length).filterMap fun(i:Nat)=>m[i]?)=m:=by
  apply bQ;intro i
  have :∀(n:Nat),n≤m.length→((List.range n).filterMap fun(i:Nat)=>m[i]?)=m.take n:=by
   intro n
   induction n with
   |zero=>intro _;simp
   |succ n u=>
    intro J;rw[List.range_succ,bY,u AA];have z:n<m.length:=AA
    simp[z]
  rw[this m.length (Dy _),Il]
 have I:=q.filterMap (fun(i:Nat)=>m[i]?)
 rwa [s]at I
def aCj {α β:Type} {c:α→Bool} {f:α→β} {b:Nat}:∀(l:List α) (v:List β),
 l.foldlM (fun v p=>bif c p then(DN b v [f p]).bind fun x=>some x else some v) v=if(v.length+(l.filter c).length)*b≤140737488355328∨l.filter c=[]then some (v++(l.filter c).map f)else none
 | [],v=>BM
 |p::l,v=>by
  rw[SK];cases q:c p with
  |false=>
   have m:=aCj (c:=c) (f:=f) (b:=b) l v;simp only[BO,bind,Af,m,X3,q,SQ,Ip]
  |true=>
   simp only[Bj,X3,q,KE];have z:DN b v [f p]=if(v.length+[f p].length)*b≤140737488355328 then some (v++[f p])else none:=rfl
   rw[z];by_cases j:(v.length+[f p].length)*b≤140737488355328
   ·rw[Ch j];have m:=aCj (c:=c) (f:=f) (b:=b) l (v++[f p]);simp only[Af,bind,m];have s:(v++[f p]).length+(l.filter c).length=v.length+(p::l.filter c).length:=E5
    rw[s];by_cases u:l.filter c=[]
    ·rw[u]at s ⊢;simp only[FV,OB]at j ⊢;simp[j]
    simp[u]
   rw[D8 j];simp only[Option.bind_none,bind];rw[D8];rintro(h|h)
   ·refine j (EZ (J5 _ ?_) h);simp
   cases h
def apu {α β Rr:Type} {c:α→Bool} {f:α→β} {b:Nat} {q m:List α} {v:List β} {Kf:List β→Option Rr} {r:Rr} (u:q.Perm m) (z:∀x y,x.Perm y→Kf x=Kf y)
 (h:(m.foldlM (fun v p=>bif c p then(DN b v [f p]).bind fun x=>some x else some v) v).bind Kf=some r):
 (q.foldlM (fun v p=>bif c p then(DN b v [f p]).bind fun x=>some x else some v) v).bind Kf=some r:=by
 rw[aCj]at h ⊢;have j:=u.filter c
 have e:((v.length+(q.filter c).length)*b≤140737488355328∨q.filter c=[])↔((v.length+(m.filter c).length)*b≤140737488355328∨m.filter c=[]):=by
  rw[j.length_eq];constructor
  ·rintro(h|h)
   ·exact .inl h
   exact .inr (by rw[h]at j;exact j.symm.eq_nil)
  rintro(h|h)
  ·exact .inl h
  exact .inr (by rw[h]at j;exact j.eq_nil)
 by_cases s:((v.length+(m.filter c).length)*b≤140737488355328∨m.filter c=[])
 ·rw[Ch s]at h;rw[Ch (e.2 s)];simp only[Af]at h ⊢;rw[←h];exact z _ _ ((j.map f).append_left v)
 rw[D8 s]at h;cases h
section
variable {K V : Type} [BEq K]
def Ew :List (K×V)→K→Nat
 | [],_=>0
 |p::m,k=>bif k==p.1 then 0 else Ew m k+1
def abG {ek:K→Value} {kd:TypeDesc} (j:∀a b,Instr.sameNow kd (ek a) (ek b)=some (a==b)) (k:K) (v:V):∀(m:List (K×V)) (l:List MapEntry) (i:Nat),l.map (·.key)=m.map (fun p=>ek p.1)→
 (Instr.findNow kd (ek k) l i=some none∧Bq m k=none∧DI m k v=m++[(k,v)]∧Ew m k=m.length)∨
 ∃e p,Instr.findNow kd (ek k) l i=some (some (i+Ew m k,e.val))∧l[Ew m k]? =some e∧m[Ew m k]? =some p∧Bq m k=some p.2∧(k==p.1)=true∧DI m k v=m.set (Ew m k) (k,v)
 | [],[],_,_=>.inl ⟨rfl,rfl,rfl,rfl⟩
 | [],_::_,_,h=>H8
 |_::_,[],_,h=>H8
 |p::m,e::l,i,h=>by
  simp only[Jr,aEx]at h;cases f:(k==p.1)with
  |true=>
   refine .inr ⟨e,p,?_,?_,?_,?_,f,?_⟩
   ·simp[Instr.findNow,h.1,j,f,Ew]
   ·simp[Ew,f]
   ·simp[Ew,f]
   ·simp[Bq,f]
   simp[DI,Ew,f]
  |false=>
   rcases abG j k v m l (i+1) h.2 with⟨q,s,u,z⟩|⟨e',I,q,s,u,z,J,L⟩
   ·refine .inl ⟨?_,?_,?_,?_⟩
    ·simp[Instr.findNow,h.1,j,f,q]
    ·simp[Bq,f,s]
    ·simp[DI,f,u]
    simp[Ew,f,z]
   refine .inr ⟨e',I,?_,by simpa[Ew,f]using s,by simpa[Ew,f]using u,?_,J,?_⟩
   ·simp[Instr.findNow,h.1,j,f,q,Ew];omega
   ·simp[Bq,f,z]
   simp[DI,f,L,Ew]
def aLK (k:K) (v:V):∀m:List (K×V),(DI m k v)[Ew m k]? =some (k,v)
 | []=>rfl
 |p::m=>by
  cases f:(k==p.1)with
  |true=>simp[DI,Ew,f]
  |false=>simp[DI,Ew,f,aLK k v m]
def aap (k:K) (v u:V):∀m:List (K×V),(DI m k v).set (Ew m k) (k,u)=DI m k u
 | []=>rfl
 |p::m=>by
  cases f:(k==p.1)with
  |true=>simp[DI,Ew,f]
  |false=>simp[DI,Ew,f,aap k v u m]
end
section
variable {ok : Nat → Prop} {w : World} {es : List (Value × D)} {ms : Array MapEntry} {clock : Nat}
def QS.nil:QS #[] 0:=⟨rfl,fun i e h=>H8⟩
def QS.push (h:QS ms clock) {k v:Value}:QS (ms.push { key:=k,val:=v,born:=clock }) (clock+1):=by
 refine⟨by simp[h.1],fun i e f=>?_⟩;rw[aI3]at f;split at f
 ·rename_i j;obtain rfl:=CJ f;rw[j];exact h.1
 exact h.2 i e f
def QS.modify (h:QS ms clock) (j:Nat) (f:MapEntry→MapEntry) (q:∀e,(f e).born=e.born):QS (ms.modify j f) clock:=by
 refine⟨by simp[h.1],fun i e m=>?_⟩;rw[NK]at m;split at m
 ·rw[TI]at m;obtain⟨s,u,rfl⟩:=m;rw[q];exact h.2 i s u
 exact h.2 i e m
def QS.find (h:QS ms clock) {n:Nat} (f:n<ms.size):ms.findIdx? (fun e=>(e.born:Int)==(n:Int))=some n:=by
 rw[Array.findIdx?_eq_some_iff_getElem];refine⟨f,?_,fun j m=>?_⟩
 ·have :=h.2 n ms[n] VA;simp[this]
 have :=h.2 j ms[j] (by simp[Nat.lt_trans m f]);simp[this];omega
def aoE (ms:Array MapEntry) (j:Nat) (k v:Value) (f:∀e,ms[j]? =some e→e.key=k):(ms.modify j fun e=>{ e with val:=v })=ms.modify j fun e=>{ e with key:=k,val:=v }:=by
 apply iF;intro i;rw[NK,NK];split
 ·rename_i e;subst e;cases m:ms[j]? with
  |none=>rfl
  |some e=>simp[f e m]
 rfl
def ase (ms:Array MapEntry) (j:Nat) (k v:Value) (f:∀e,ms[j]? =some e→e.val=v):(ms.modify j fun e=>{ e with key:=k })=ms.modify j fun e=>{ e with key:=k,val:=v }:=by
 apply iF;intro i;rw[NK,NK];split
 ·rename_i e;subst e;cases m:ms[j]? with
  |none=>rfl
  |some e=>simp[f e m]
 rfl
end
section
variable {P : Program} {o : Oper} {es : List BI} {K V : Type} [BEq K]
def aoJ {t:TypeId} {f:Array (Nat×Operand)} {j:List (Nat×Nat)} {z:Value} {cs:List Ac} (m:I7 P t j z) (vs:List Ac) (q:Iu (fun(i:Nat)=>j[i]?) (Eo z) f.toList vs=cs) (s:LZ (fun(i:Nat)=>j[i]?) (Eo z).length f.toList vs=true) (u:o.op=.build t f):
 Bd P o (LW f.toList vs) es (.ag cs) es:=q▸aiq m vs s u
def Ui (x y:Int):Int:=bif decide (y>x)then y else x
def anQ {x y:Operand} {ats:Array TypeId} {kd:IntKind} {a b:Int} (q:o.op=.call { callee:=.builtin .max,args:= #[x,y],argTypes:=ats }):
 Bd P o [(x,.d (.lit (.int kd a))),(y,.d (.lit (.int kd b)))] es (.d (.lit (.int kd (Ui a b)))) es:=
 .pure fun ok H c w _ _ f=>by
  have j:=(ER f).1.lit;have m:=(ER f).2.lit;simp only at j m;have e:Ui a b=if b>a then b else a:=by unfold Ui;by_cases h:b>a<;>simp[h]
  refine⟨.int kd (Ui a b),?_,.d _ _ (.lit _)⟩;rw[e];simp[execOp,q,resolve,invoke,builtin,j,m,Go.run_max_int2]
def aCX {t:TypeId} (s:o.op=.makeMap t none):Bd P o [] es (.mp es.length) (es++[.bf []]):=
 .eff fun C ok H a w f L=>by
  have q:EW ok (w.alloc (.map #[] 0)) (H++[⟨.map (some w.heap.size),0⟩]) ⟨.map (some w.heap.size),0⟩ (.bf []):=
   ⟨w.heap.size, #[],0,rfl,(aFf w _).1,⟨rfl,fun i e m u=>lW,fun i j m n _ f=>TV⟩,.nil⟩
  obtain⟨z,I⟩:=f.push (.map #[] 0) ⟨.map (some w.heap.size),0⟩ _ (fun b q=>aEj) q;refine⟨.map (some w.heap.size),_,ok,_,.inl ?_,I,Names.push _ _,z,.mp _ _ 0 rfl uU⟩;have J:(newObj (.map #[] 0)).run P w=.ok w.heap.size (w.alloc (.map #[] 0)):=rfl;simp[execOp,s,Instr.makeMap,J]
def Vt {t u I:TypeId} {x y:Operand} {k:Nat} {ek:K→Value} (ev:V→D) (J:V) {z:Value} {m:List (K×V)} {key:K} (U:P.underlying t=some (.map u I)) (Y:KeyTy P u ek) (Z:(P.info? I).bind (·.zero)=some z) (j:VY z=ev J) (q:z.cells.all (·.oneCell')=true)
 (he:es[k]? =some (.bf (m.map (Aj ek ev)))) (ho:o.op=.lookup t x y false):Bd P o [(x,.mp k),(y,.d (.lit (ek key)))] es (.d (ev ((Bq m key).getD J))) es:=
 .pure fun ok H a w f hl L=>by
  obtain⟨hd,hh,s⟩:=FY f hl he;obtain⟨b,ms,clock,h1,h2,h3,_⟩:=s;have M:=Qs (ER L).1 hh;have O:=(ER L).2.lit;simp only at M O;obtain⟨v,hr,hv⟩:=yB (key:=key) ev U Y Z j q h2 h3 false;refine⟨v,?_,.d _ _ hv⟩;simp[execOp,ho,M,O,h1,hr]
def afM {t u I:TypeId} {x y:Operand} {k:Nat} {ek:K→Value} (ev:V→D) (J:V) {z:Value} {m:List (K×V)} {key:K} (U:P.underlying t=some (.map u I)) (Y:KeyTy P u ek) (Z:(P.info? I).bind (·.zero)=some z) (j:VY z=ev J) (q:z.cells.all (·.oneCell')=true)
 (he:es[k]? =some (.bf (m.map (Aj ek ev)))) (ho:o.op=.lookup t x y true):Bd P o [(x,.mp k),(y,.d (.lit (ek key)))] es (.eH [.d (ev ((Bq m key).getD J)),.d (Cm (Bq m key).isSome)]) es:=
 .pure fun ok H a w f hl L=>by
  obtain⟨hd,hh,s⟩:=FY f hl he;obtain⟨b,ms,clock,h1,h2,h3,_⟩:=s;have M:=Qs (ER L).1 hh;have O:=(ER L).2.lit;simp only at M O;obtain⟨v,hr,hv⟩:=yB (key:=key) ev U Y Z j q h2 h3 true;refine⟨.tuple #[v,.bool (Bq m key).isSome],?_,.eH _ _ rfl fun i hi=>?_⟩
  ·simp[execOp,ho,M,O,h1,hr]
  match i,hi with
  |0,_=>exact .d _ _ hv
  |1,_=>exact .d _ _ (.lit _)
def iY {C:Dv} {ok:Nat→Prop} {H:List Bc} {w:World} (u:CX C ok H es w) {k:Nat} {es0 m:List (Value×D)} {b clock f:Nat} {ms j:Array MapEntry} {hd:Bc} (z:es[k]? =some (.bf es0)) (I:H[k]? =some hd) (q:hd.v=.map (some b)) (s:w.heap[b]? =some (.map ms clock))
 (J:J9 ok w m j f) (L:QS j f):(setObj b (.map j f)).run P w=.ok () (w.putObj b (.map j f))∧CX C ok H (es.set k (.bf m)) (w.putObj b (.map j f))∧Dw ok w ok (w.putObj b (.map j f)):=by
 refine⟨by simp[setObj,Sem.run,s,World.putObj],u.adi z rfl I (by rw[q];rfl) fun M=>⟨b,j,f,q,U9 (FN.1 s).1,J.mono M,L⟩⟩
def asi {t kt vt:TypeId} {x y u:Operand} {k:Nat} {ek:K→Value} (ev:V→D) {m:List (K×V)} {key:K} {val:V} (ht:P.underlying t=some (.map kt vt)) (z:KeyTy P kt ek) (O:es[k]? =some (.bf (m.map (Aj ek ev)))) (ho:o.op=.mapUpdate t x y u):
 Bd P o [(x,.mp k),(y,.d (.lit (ek key))),(u,.d (ev val))] es .junk (es.set k (.bf ((DI m key val).map (Aj ek ev)))):=
 .eff fun C ok H a w I U=>by
  obtain⟨hd,Y,Z⟩:=FY I.ent I.hlen O;obtain⟨b,ms,clock,J,L,M,h4⟩:=Z;have hx:=Qs (U (x,.mp k) BM) Y;have hy:=(U (y,.d (.lit (ek key))) BM).lit;have hu:DT ok w (ev val) (a.eval u):=by have :=U (u,.d (ev val)) BM;cases this with |d _ _ h=>exact h
  simp only at hx hy;obtain⟨kd,f,hs⟩:=z.same;have hks:ms.toList.map (·.key)=m.map (fun p=>ek p.1):=by rw[M.keys];simp[Aj,lg]
  have q:=z.check;rcases yK (i:=0) hs key val m ms.toList hks with⟨q1,_,q3⟩|⟨j,e,p,q1,q2,q3,_,q5,q6⟩
  ·have hM:=M.push (k:=ek key) hu;obtain⟨r1,r2,r3⟩:=iY (P:=P) I O Y J L hM h4.push;refine⟨undef,_,ok,H,.inr ⟨rfl,?_⟩,r3,.refl _,?_,.junk _⟩
   ·simp[execOp,ho,hx,hy,J,Instr.mapUpdate,underlying,ht,QZ L,q,Instr.findKey,f,q1,r1]
   rw[q3,L6];exact r2
  have hM:=M.modify (k:=ek key) hu j;obtain⟨r1,r2,r3⟩:=iY (P:=P) I O Y J L hM (h4.modify j _ fun _=>rfl)
  have s:e.key=ek key:=by
   have h5:(m.map (Aj ek ev))[j]? =some (Aj ek ev p):=by rw[IX,q3];rfl
   rw[(M.ent j _ e h5 kT).1,z.eq _ _ q5];rfl
  have hst:∀w,(Instr.keyThatStays (ek key) (ek key)).run P w=.ok (ek key) w:=fun w=>by simp[Instr.keyThatStays,z.bits]
  have hms:ms[j]? =some e:=kT
  refine⟨undef,_,ok,H,.inr ⟨rfl,?_⟩,r3,.refl _,?_,.junk _⟩
  ·simp[execOp,ho,hx,hy,J,Instr.mapUpdate,underlying,ht,QZ L,q,Instr.findKey,f,q1,hms,s,hst,r1]
  rw[q6,aBK];exact r2
def aEq {t kt vt:TypeId} {x y:Operand} {k:Nat} {ek:K→Value} (ev:V→D) (u:V) {z:Value} {m:List (K×V)} {key:K} (ht:P.underlying t=some (.map kt vt)) (Z:KeyTy P kt ek) (hz:(P.info? vt).bind (·.zero)=some z) (hzv:VY z=ev u) (hzl:z.cells.all (·.oneCell')=true)
 (he:es[k]? =some (.bf (m.map (Aj ek ev)))) (ho:o.op=.mapEntry t x y):
 Bd P o [(x,.mp k),(y,.d (.lit (ek key)))] es (.eH [.d (ev ((Bq m key).getD u)),.d (AV (Ew m key:Nat))]) (es.set k (.bf ((DI m key ((Bq m key).getD u)).map (Aj ek ev)))):=
 .eff fun C ok H a w hm hn=>by
  obtain⟨hd,hh,hok⟩:=FY hm.ent hm.hlen he;obtain⟨b,ms,clock,h1,h2,I,h4⟩:=hok;have hx:=Qs (ER hn).1 hh;have hy:=(ER hn).2.lit;simp only at hx hy;obtain⟨kd,J,hs⟩:=Z.same;have hks:ms.toList.map (·.key)=m.map (fun p=>ek p.1):=by rw[I.keys];simp[Aj,lg]
  have L:=Z.check;have hml:ms.size=m.length:=by have :=I.len;simpa using this
  obtain⟨i0,hi0,hz'⟩:=dQ.1 hz;rcases abG (i:=0) hs key ((Bq m key).getD u) m ms.toList hks with⟨q1,q2,q3,q4⟩|⟨e,p,q1,q2,q3,q4,q5,q6⟩
  ·have M:DT ok w (ev ((Bq m key).getD u)) z:=by
    rw[q2];have :=aKm (ok:=ok) (w:=w) hzl;rw[hzv]at this;exact this
   have hM:=I.push (k:=ek key) M;obtain⟨r1,r2,O⟩:=iY (P:=P) hm he hh h1 h2 hM h4.push;refine⟨.tuple #[z,goInt clock],_,ok,H,.inl ?_,O,.refl _,?_,.eH _ _ rfl fun i hi=>?_⟩
   ·simp[execOp,ho,hx,hy,h1,Instr.mapEntry,underlying,ht,QZ h2,L,Instr.findKey,J,q1,r1,zeroValue,typeInfo,hi0,hz']
   ·rw[q3,L6];exact r2
   match i,hi with
   |0,_=>
    have q:=M.mono O;exact .d _ _ q
   |1,_=>
    have :goInt (clock:Nat)=.int .i64 (Ew m key:Nat):=by rw[q4,←hml,←h4.1];rfl
    show R ok _ H (.d (AV (Ew m key:Nat))) (goInt clock);rw[this];exact .d _ _ (.lit _)
  have h5:(m.map (Aj ek ev))[Ew m key]? =some (Aj ek ev p):=by rw[IX,q3];rfl
  have f:ms[Ew m key]? =some e:=kT
  have j:=I.ent _ _ e h5 f;have M:DT ok w (ev ((Bq m key).getD u)) e.val:=by rw[q4];exact j.2.1
  have hM:=I.modify (k:=ek key) M (Ew m key);have hmk:=ase ms (Ew m key) (ek key) e.val (fun e' U=>by rw[f]at U;rw[←CJ U]);rw[←hmk]at hM;have Y:e.key=ek key:=by rw[j.1,Z.eq _ _ q5];rfl
  obtain⟨r1,r2,O⟩:=iY (P:=P) hm he hh h1 h2 hM (h4.modify _ _ fun _=>rfl);have hst:∀w,(Instr.keyThatStays (ek key) (ek key)).run P w=.ok (ek key) w:=fun w=>by simp[Instr.keyThatStays,Z.bits]
  have s:e.born=Ew m key:=h4.2 _ e f;refine⟨.tuple #[e.val,goInt (Ew m key:Nat)],_,ok,H,.inl ?_,O,.refl _,?_,.eH _ _ rfl fun i hi=>?_⟩
  ·simp[execOp,ho,hx,hy,h1,Instr.mapEntry,underlying,ht,QZ h2,L,Instr.findKey,J,q1,f,Y,hst,r1,s]
  ·rw[q6,aBK];exact r2
  match i,hi with
  |0,_=>
   have q:=M.mono O;exact .d _ _ q
  |1,_=>exact .d _ _ (.lit _)
def aHb {t kt:TypeId} {x s u:Operand} {k:Nat} {ek:K→Value} (ev:V→D) {m:List (K×V)} {key:K} {z0 val:V} (hk:KeyTy P kt ek) (Y:es[k]? =some (.bf ((DI m key z0).map (Aj ek ev)))) (ho:o.op=.entryStore t x s u):
 Bd P o [(x,.mp k),(s,.d (AV (Ew m key:Nat))),(u,.d (ev val))] es .junk (es.set k (.bf ((DI m key val).map (Aj ek ev)))):=
 .eff fun C ok H a w J L=>by
  obtain⟨hd,Z,M⟩:=FY J.ent J.hlen Y;obtain⟨b,ms,clock,h1,h2,O,h4⟩:=M;have hx:=Qs (L (x,.mp k) BM) Z;have hy:a.eval s=.int .i64 (Ew m key:Nat):=(L (s,.d (AV (Ew m key:Nat))) BM).lit;have hu:DT ok w (ev val) (a.eval u):=by have :=L (u,.d (ev val)) BM;cases this with |d _ _ h=>exact h
  simp only at hx;have f:=aLK key z0 m;have h5:((DI m key z0).map (Aj ek ev))[Ew m key]? =some (Aj ek ev (key,z0)):=by rw[IX,f];rfl
  have j:Ew m key<ms.size:=by
   have h6:=(F6.1 f).1;have :=O.len;rw[Cb]at this;omega
  have q:ms[Ew m key]? =some ms[Ew m key]:=YH
  have z:=O.ent _ _ _ h5 q;have hM:=O.modify (k:=ek key) hu (Ew m key);have U:=aoE ms (Ew m key) (ek key) (a.eval u) (fun e' I=>by rw[q]at I;rw[←CJ I];exact z.1);rw[←U]at hM;obtain⟨r1,r2,r3⟩:=iY (P:=P) J Y Z h1 h2 hM (h4.modify _ _ fun _=>rfl);refine⟨undef,_,ok,H,.inr ⟨rfl,?_⟩,r3,.refl _,?_,.junk _⟩
  ·simp[execOp,ho,hx,hy,h1,Instr.entryStore,QZ h2,asInt,asIntOf,h4.find j,r1]
  have e1:((DI m key z0).map (Aj ek ev)).set (Ew m key) (ek key,ev val)=(DI m key val).map (Aj ek ev):=by
   rw[←aap key z0 val m,aBK];rfl
  rw[←e1];exact r2
end
section
variable {P : Program} {σ : Ap} {Q : Exit → Ap → Prop} {c : Operand} {x y : Code}
def Ae {A:Type} {b:Bool} {u v z:A} (h:(bif b then u else v)=z) (f:u=z→AB P x σ Q) (j:v=z→AB P y σ Q) (m:σ.get c=.d (.lit (.bool b)):=by kernel_rfl):AB P (.cond c x y) σ Q:=
 AB.cond b m (fun e=>f (pK e h)) (fun e=>j (pG e h))
end
def aHi {A:Type} {b:Bool} {u v z:A} (h:(bif b then u else v)=z):(b=true∧u=z)∨(b=false∧v=z):=by
 cases b with
 |true=>exact .inl ⟨rfl,h⟩
 |false=>exact .inr ⟨rfl,h⟩
def CU {A:Type} {a b:A} (h:some a=some b):a=b:=CJ h
def Yd {α β γ:Type} {x:Option α} {y:α→Option β} {f:α→β→Option γ} {z:γ} (h:(x.bind fun a=>(y a).bind (f a))=some z):∃a,x=some a∧∃b,y a=some b∧f a b=some z:=by
 obtain⟨a,j,h⟩:=CY h;obtain⟨b,m,h⟩:=CY h;exact⟨a,j,b,m,h⟩
def yJ {α β γ δ:Type} {x:Option α} {y:α→Option β} {w:α→β→Option δ} {f:α→β→δ→Option γ} {z:γ} (h:(x.bind fun a=>(y a).bind fun b=>(w a b).bind (f a b))=some z):∃a,x=some a∧∃b,y a=some b∧∃d,w a b=some d∧f a b d=some z:=by
 obtain⟨a,j,b,m,h⟩:=Yd h;obtain⟨d,q,h⟩:=CY h;exact⟨a,j,b,m,d,q,h⟩
def AO {α β:Type} {x:Option α} {f:α→Option β} {z:β} {G:Prop} (h:x.bind f=some z) (k:∀a,x=some a→f a=some z→G):G:=by
 obtain⟨a,j,h⟩:=CY h;exact k a j h
def CB {α β γ:Type} {x:Option α} {y:α→Option β} {f:α→β→Option γ} {z:γ} {G:Prop} (h:(x.bind fun a=>(y a).bind (f a))=some z) (k:∀a,x=some a→∀b,y a=some b→f a b=some z→G):G:=by
 obtain⟨a,j,b,m,h⟩:=Yd h;exact k a j b m h
def Pn {α β γ δ:Type} {x:Option α} {y:α→Option β} {w:α→β→Option δ} {f:α→β→δ→Option γ} {z:γ} {G:Prop} (h:(x.bind fun a=>(y a).bind fun b=>(w a b).bind (f a b))=some z) (k:∀a,x=some a→∀b,y a=some b→∀d,w a b=some d→f a b d=some z→G):G:=by
 obtain⟨a,j,b,m,d,q,h⟩:=yJ h;exact k a j b m d q h
section
variable {P : Program} {o : Oper} {es : List BI} {α : Type}
def BP {x y:Operand} {t e:TypeId} {i:Int} {agg:Bool} {size:Nat} (enc:α→D) {l:List α} {a:α} (h:BK l i=some a) (f:P.underlying t=some (.slice e)) (j:Dc P e agg size) (m:o.op=.indexAddr t x y) (q:(enc a).cells.length=size:=by kernel_rfl):
 Bd P o [(x,.d (Ai enc l)),(y,.d (.lit (.int .i64 i)))] es (.d (.ref (enc a).cells 0)) es:=asb enc h f j q m
def EG {t e:TypeId} {size j len:Nat} {z:Value} (hE:Fe P t e size j) (s:(P.info? e).bind (·.zero)=some z) (ys:List D) {f:Array (Nat×Operand)} (u:o.op=.buildSlice t len f) (I:z.cells.all (·.oneCell')=true:=by kernel_rfl) (m:z.cells.size=size:=by kernel_rfl) (hlen:Nat.ble (len*size) 16777216=true:=by kernel_rfl)
 (J:LZ (fun i=>some (i*size,size)) (len*size) f.toList (ys.map .d)=true:=by kernel_rfl) (L:Iu (fun i=>some (i*size,size)) (Oe z (len*size)) f.toList (ys.map .d)=flat ys:=by kernel_rfl) (M:ys.length=len:=by kernel_rfl) (q:ys.all (fun y=>decide (y.cells.length=size))=true:=by kernel_rfl):
 Bd P o (LW f.toList (ys.map .d)) es (.d (.sl ys)) es:=ar0 hE s I m (Eb hlen) (ys.map .d) ys J L M q u
def Jc {t e:TypeId} {size j len:Nat} {z:Value} (hE:Fe P t e size j) (s:(P.info? e).bind (·.zero)=some z) (ys:List D) {f:Array (Nat×Operand)} (u:o.op=.buildSlice t len f) (I:z.cells.all (·.oneCell')=true:=by kernel_rfl) (m:z.cells.size=size:=by kernel_rfl) (hlen:Nat.ble (len*size) 16777216=true:=by kernel_rfl)
 (J:LZ (fun i=>some (i*size,size)) (len*size) f.toList (ys.map .d)=true:=by kernel_rfl) (L:Iu (fun i=>some (i*size,size)) (Oe z (len*size)) f.toList (ys.map .d)=flat ys:=by kernel_rfl) (M:ys.length=len:=by kernel_rfl) (q:ys.all (fun y=>decide (y.cells.length=size))=true:=by kernel_rfl):
 Bd P o (LW f.toList (ys.map .d)) es (.aS es.length) (es++[.arr e size ys]):=ab5 hE s I m (Eb hlen) (ys.map .d) ys J L M q u
def Cj.aM {ops:Array Oper} {l:List Oper} {σ:Ap} {K:Exit→Ap→Prop} [T:Kn P] {M:Ap→Prop} (n:Nat) (k:M (Qb (Gn T ops n l σ))) (f:l.length=n:=by kernel_rfl) (h:(Gn T ops n l σ).isSome=true:=by kernel_rfl):Cj P ops l σ (Jd M K):=
 .a n (by rw[yO (dD f)];exact .aY k) h
end
def FW {A:Type} {b:Bool} {u v z:A} {G:Prop} (h:(bif b then u else v)=z) (f:b=true→u=z→G) (k2:b=false→v=z→G):G:=by
 rcases aHi h with⟨e,h⟩|⟨e,h⟩
 ·exact f e h
 exact k2 e h
def ajk {A:Type} (o:Option A) (f:A→Ac):Ac:=match o with
 |none=>.d (.lit (.pointer none))
 |some a=>f a
def amT {A:Type} (o:Option A) (f:A→List BI):List BI:=match o with
 |none=>[]
 |some a=>f a
def UE {A B:Type} (o:Option A) (x:Option B) (f:A→Option B):Option B:=match o with
 |none=>x
 |some a=>f a
def dJ {A B:Type} {x z:Option B} {f:A→Option B} (h:UE none x f=z):x=z:=h
def bC {A B:Type} {x z:Option B} {a:A} {f:A→Option B} (h:UE (some a) x f=z):f a=z:=h
section
variable {P : Program} {o : Oper} {es : List BI}
def aBj {t t':TypeId} {x y:Operand} {k off:Nat} (q:P.underlying t=some (.pointer (P.pointee t))) (z:o.op=.binOp .eql t x y t'):Bd P o [(x,.ptr k off),(y,.d (.lit (.pointer none)))] es (.d (Cm false)) es:=
 .pure fun _ _ a w _ _ j=>⟨.bool false,by
  have f:=(ER j).1;have m:=(ER j).2.lit;simp only at f m;generalize I:a.eval x=u at f;cases f with
  |ptr _ _ b s L=>
   have J:(eqGuard .eql t x y (Value.pointer (some ⟨b,off,none⟩)) (.pointer none)).run P w=.ok () w:=by
    unfold eqGuard;simp[pure,Sem.run_pure']
   simp only[execOp,z,I,m,Eh,J,Ep,run_eql_pointer_nil w t _ q,FM]
   rfl,.d _ _ (.lit _)⟩
def wU {t t':TypeId} {x y:Operand} (q:P.underlying t=some (.pointer (P.pointee t))) (s:o.op=.binOp .eql t x y t'):Bd P o [(x,.d (.lit (.pointer none))),(y,.d (.lit (.pointer none)))] es (.d (Cm true)) es:=
 .pure fun _ _ a w _ _ f=>⟨.bool true,by
  have j:=(ER f).1.lit;have m:=(ER f).2.lit;simp only at j m
  have u:(eqGuard .eql t x y (Value.pointer none) (.pointer none)).run P w=.ok () w:=by
   unfold eqGuard;simp[pure,Sem.run_pure']
  simp only[execOp,s,j,m,Eh,u,Ep,run_eql_pointer_nil w t _ q,FM]
  rfl,.d _ _ (.lit _)⟩
end
def aG1 :List ResultVar→Bool
 | []=>true
 | .tmp _::rs=>aG1 rs
 |_::_=>false
def aBe (σ:Ap):List ResultVar→List Ac
 | []=>[]
 | .tmp t::rs=>σ.slots.getD t .junk::aBe σ rs
 |_::rs=>.junk::aBe σ rs
def abE {P:Program} {σ:Ap}:∀{rs:List ResultVar},aG1 rs=true→VW P σ rs (aBe σ rs)
 | [],_=>trivial
 | .tmp _::_,h=>⟨rfl,abE h⟩
def EO {P:Program} {σ:Ap} {rs:List ResultVar} {f:Ac} {E':List BI} (π:List (Nat×Bool)) (ha:aG1 rs=true:=by kernel_rfl) (j:S9 σ.base σ.ents π=true:=by kernel_rfl) (m:f=(ZX (aBe σ rs)).back π:=by kernel_rfl) (q:E'=QO σ.ents π:=by kernel_rfl):
 ∃xs π,VW P σ rs xs∧S9 σ.base σ.ents π=true∧f=(ZX xs).back π∧E'=QO σ.ents π:=⟨_,π,abE ha,j,m,q⟩
def XF :Nat→Nat→List (Nat×Nat×Nat)
 |0,_=>[]
 |n+1,x=>(x % 2048,x/2048 % 64,x/131072 % 2048)::XF n (x/268435456)
def aGZ :List (Nat×Nat×Nat)→List (List Nat)→Nat→List (List Nat)
 | [],N,_=>N
 |t::Tr,N,n=>bif Nat.beq t.2.2 n then aGZ Tr (N++[t.2.1::N.getD t.1 []]) (n+1)else aGZ Tr N n
def Tc (n x:Nat):List (List Nat):=aGZ (XF n x) [[]] 1
section
variable {P : Program} [T : Kn P] {id : Nat} {ops : Array Oper} {σ : Ap} {Q : Exit → Ap → Prop} {y : Code}
def AB.aqm (L:List (LC P)) (n x f:Nat) (j:AB P y (LG T L ops σ ((Tc n x).getD f [])) Q) (m:P.follows .mixedOrders=true:=by kernel_rfl) (q:mM ops (Tc n x) (XF n x) [f]=true:=by kernel_rfl)
 (s:((XF n x).map fun t=>VB T L ops (LG T L ops σ ((Tc n x).getD t.1 [])) t.2.1)=(XF n x).map fun t=>some (LG T L ops σ ((Tc n x).getD t.2.2 []),Vb L t.2.1):=by kernel_rfl) (u:(Tc n x).getD 0 [0]=[]:=by kernel_rfl):AB P (.seq (.region id ops true) y) σ Q:=
 AB.aww L _ _ f j m q u s
def AB.akI (L:List (LC P)) (n x:Nat) (F:List Nat) (f:Ap) (j:OY (fun k=>qK (LG T L ops σ ((Tc n x).getD k [])) f) F) (m:AB P y f Q) (q:P.follows .mixedOrders=true:=by kernel_rfl) (s:mM ops (Tc n x) (XF n x) F=true:=by kernel_rfl)
 (u:((XF n x).map fun t=>VB T L ops (LG T L ops σ ((Tc n x).getD t.1 [])) t.2.1)=(XF n x).map fun t=>some (LG T L ops σ ((Tc n x).getD t.2.2 []),Vb L t.2.1):=by kernel_rfl) (z:(Tc n x).getD 0 [0]=[]:=by kernel_rfl):AB P (.seq (.region id ops true) y) σ Q:=
 AB.awx L _ _ F f j m q s z u
end
end Go.Proofs.YtolgdkhlelfpoaaGreat
end
section
namespace Go
open Go.Proofs.YtolgdkhlelfpoaaGreat
variable {P : Program}
def vS (w:World) (L O ty f:TypeId) (b o m s:Nat) (a:Addr) (q u k n:Nat) (cs:List Value)
 (U:P.underlying L=some (.slice f)) (M:(P.info? f).map (·.size)=some k) (Y:n=Nat.min q m) (Z:cs.length=n*k)
 (z:∀j v,cs[j]? =some v→w.cell? (a.add j)=some v) (hc:∀j,j<cs.length→(w.cell? ⟨b,o+j,none⟩).isSome=true) (hf:∀j,j<cs.length→w.frozen? ⟨b,o+j,none⟩=false) (h1:∀v∈cs,v.oneCell'=true):
 (Builtin.copy_ #[L,O] ty #[.slice (some ⟨b,o,none⟩) m s,.slice (some a) q u]).run P w=.ok (goInt n) (w.setCells b o cs):=by
 have I:=aCz (P:=P) w a cs z;have hst:=run_storeCells_cells (P:=P) b o cs 0 w (by simpa using hc) (by simpa using hf) h1;rw[Z]at I;cases J:P.info? f with
 |none=>simp[J]at M
 |some i=>
  have hi:i.size=k:=by simpa[J]using M
  simp[Builtin.copy_,xg U,Builtin.lenOf,Builtin.firstCells,sizeOf,typeInfo,J,hi,←Y,I,hst]
end Go
namespace Go.Proofs.YtolgdkhlelfpoaaGreat
open Go.Shelf Go.RowKit Go.Lib
set_option linter.unusedVariables false
set_option linter.unusedSimpArgs false
set_option maxHeartbeats 4000000 in
set_option maxRecDepth 100000 in
def afk (b n c i vb vc:Nat) (cs vs:List Value) (w:World) (hi:i<n) (hroom:n+1≤c) (hc63:c≤9223372036854775807) (hvb:vb≠b)
 (hcl:cs.length=n*29) (hvl:vs.length=29)
 (hcs:∀j v,cs[j]? =some v→w.cell? ⟨b,j,none⟩=some v) (hsp:∀j,j<(n+1)*29→(w.cell? ⟨b,j,none⟩).isSome=true) (hfz:∀j,j<(n+1)*29→w.frozen? ⟨b,j,none⟩=false)
 (hvs:∀j v,vs[j]? =some v→w.cell? ⟨vb,j,none⟩=some v) (h1c:∀v∈cs,v.oneCell'=true) (h1v:∀v∈vs,v.oneCell'=true)
 (tA tB:TypeId) (kA kB:Nat) (hsa:w.shape? vb=some (tA,kA)) (hsb:w.shape? b=some (tB,kB)) (hkB:kB≠0) (hfa:w.frozen? ⟨vb,0,none⟩=false) (hfe:w.frozen? ⟨vb,kA,none⟩=false):
 Calls Tryz.prog 98 #[.slice (some ⟨b,0,none⟩) n c,.int .i64 i,.slice (some ⟨vb,0,none⟩) 1 vc] w fun e w'=>
  e=.returned (.slice (some ⟨b,0,none⟩) (n+1) c)∧w'=(w.drew.setCells b ((i+1)*29) (cs.drop (i*29))).setCells b (i*29) vs:=by
 have hz2:¬((i:Int)=(n:Int)):=AA
 have hw1:BJ ((i:Int)+1)=(i:Int)+1:=PU
 have hw2:BJ ((n:Int)+1)=(n:Int)+1:=PU
 have hb1:(0:Int)≤(i:Int)+1:=AA
 have hin:i≤n:=AA
 have htn:((i:Int)+1).toNat=i+1:=AA
 have aym:((n:Int)+1).toNat=n+1:=AA
 have hb2:¬(c=i+1):=AA
 have hb3:(i:Int)≤(n:Int)+1:=AA
 have hb4:¬(c=i):=AA
 have hb5:¬((c:Int)<(n:Int)+1):=AA
 have q:(Tryz.prog.info? 55).map (·.size)=some 29:=A8
 have L:∀w,(Go.sizeOf 55).run Tryz.prog w=.ok 29 w:=fun w=>by
  cases M:Tryz.prog.info? 55 with
  |none=>simp[M]at q
  |some i=>
   have h0:i.size=29:=by simpa[M]using q
   simp[sizeOf,typeInfo,M,h0]
 have O:∀U Y,(callFunc 139 #[.slice (some ⟨vb,0,none⟩) 1 vc,.slice (some ⟨b,(i+1)*29,none⟩) U Y]).run Tryz.prog w=.ok (.value (.bool false)) w:=fun U Y=>by
  rw[run_callFunc_extern Tryz.func139 A8 A8 A8 (e:=Extern.SlicesOverlaps.overlaps #[22,22] #[4]) A8,
   Lib.run_overlaps_apart w 22 4 55 jq 29 L ⟨vb,0,none⟩ ⟨b,(i+1)*29,none⟩ 1 vc U Y hvb tA tB kA kB hsa hsb hkB hfa hfe]
  rfl
 have s:(cs.drop (i*29)).length=(n-i)*29:=by rw[Jt,hcl,Nat.sub_mul]
 have u:∀ty Ag Z,(Builtin.copy_ #[22,22] ty #[.slice (some ⟨b,(i+1)*29,none⟩) (n-i) Ag,.slice (some ⟨b,i*29,none⟩) (n+1-i) Z]).run Tryz.prog w.drew=.ok (goInt (n-i:Nat)) (w.drew.setCells b ((i+1)*29) (cs.drop (i*29))):=fun ty Ag Z=>
  vS w.drew _ _ ty 55 b ((i+1)*29) (n-i) Ag ⟨b,i*29,none⟩ (n+1-i) Z 29 (n-i) (cs.drop (i*29)) jq q aBV s
   (fun j v f=>by rw[cu];exact hcs (i*29+j) v (by rwa [OQ]at f))
   (fun j f=>hsp _ aE1) (fun j f=>hfz _ aE1) (fun v hv=>h1c v (aFJ hv))
 obtain⟨W1,m⟩:∃W1,W1=w.drew.setCells b ((i+1)*29) (cs.drop (i*29)):=⟨_,rfl⟩
 have z:∀k,k<(n+1)*29→(W1.cell? ⟨b,k,none⟩).isSome=true:=fun k hk=>by
  rw[m];exact isSome_setCells b (cs.drop (i*29)) ((i+1)*29) w.drew (fun j f=>hsp _ aE1) _ (hsp k hk)
 have I:∀(W:World),(∀x,W.cell? x=W1.cell? x)→(∀x,W.frozen? x=W1.frozen? x)→∀ty Ag,(Builtin.copy_ #[22,22] ty #[.slice (some ⟨b,i*29,none⟩) (n+1-i) Ag,.slice (some ⟨vb,0,none⟩) 1 vc]).run Tryz.prog W=.ok (goInt (1:Nat)) (W.setCells b (i*29) vs):=fun W J hWf ty Ag=>
  vS W _ _ ty 55 b (i*29) (n+1-i) Ag ⟨vb,0,none⟩ 1 vc 29 1 vs jq q aBV (by rw[hvl])
   (fun j v f=>by
    rw[cu,J,m,World.cell?_setCells_out b _ _ _ _ (fun h _=>absurd h hvb),Ik]
    exact hvs j v f)
   (fun j f=>by rw[J];exact z _ AA) (fun j f=>by rw[hWf,m,World.frozen?_setCells];exact hfz _ AA) h1v
 rw[←m]at u;have mixed:Tryz.prog.follows .mixedOrders=true:=A8
 go_enter Tryz.func98,Tryz.ntmps98
 go_wp2_with (simp only[O])
 go_region_law_o (refine step_copy_runI rfl _ _ 22 22 rfl _ _ ug ug (u _ _ _) ?_)
 go_wp2_with (at_builtin;refine wpList_copy_runI _ rfl _ _ 22 22 rfl _ _ rfl rfl (I _ (fun _=>rfl) (fun _=>rfl) _ _) ?_)
 go_ret
 first|exact⟨rfl,rfl⟩|exact⟨rfl,by rw[m]⟩
set_option maxHeartbeats 4000000 in
set_option maxRecDepth 100000 in
def arW (b n c i vb vc:Nat) (cs vs:List Value) (w:World) (hi:i<n) (hnc:n≤c) (hroom:c<n+1) (hbig:(n+1)*376≤140737488355328)
 (hcl:cs.length=n*29) (hvl:vs.length=29)
 (hcs:∀j v,cs[j]? =some v→w.cell? ⟨b,j,none⟩=some v) (hvs:∀j v,vs[j]? =some v→w.cell? ⟨vb,j,none⟩=some v) (h1c:∀v∈cs,v.oneCell'=true) (h1v:∀v∈vs,v.oneCell'=true):
 Calls Tryz.prog 98 #[.slice (some ⟨b,0,none⟩) n c,.int .i64 i,.slice (some ⟨vb,0,none⟩) 1 vc] w fun e w'=>∃G ROW,e=.returned (.slice (some ⟨w.heap.size,0,none⟩) (n+1) G)∧n+1≤G∧G≤maxLen∧G*29≤ROW.size∧ROW.toList.take (i*29)=cs.take (i*29)∧
  w'=(((w.alloc (.cells ROW 55)).drew.setCells w.heap.size (i*29) vs).drew).setCells w.heap.size ((i+1)*29) (cs.drop (i*29)):=by
 have hE:Fe Tryz.prog 22 55 29 376:=KW A8;obtain⟨i0,z0,U,hz0,Y,Z,hzc⟩:=hE.info;have hsz:(Tryz.prog.info? 55).map (·.size)=some 29:=by rw[U];simp[Y]
 have mixed:Tryz.prog.follows .mixedOrders=true:=A8
 have hz2:¬((i:Int)=(n:Int)):=AA
 have hz3:(c:Int)<(n:Int)+1:=AA
 have hil:i*29<cs.length:=AA
 have hbw:b<w.heap.size:=block_lt_of_cell (hcs 0 _ (Df AA));have hvw:vb<w.heap.size:=block_lt_of_cell (hvs 0 _ (Df AA));have hkk:(n:Int)+1-(i:Int)=((n+1-i:Nat):Int):=AA
 have J:i+(n+1-i)=n+1:=AA
 have L:(cs.take (i*29)).length=i*29:=aLE
 have z:(Builtin.firstCells i0.size i (.slice (some ⟨b,0,none⟩) i c)).run Tryz.prog w.drew=.ok (cs.take (i*29)).toArray w.drew:=by
  rw[Y]
  exact run_firstCells_some w.drew 29 i ⟨b,0,none⟩ i c (cs.take (i*29)) (by rw[L]) (fun j v f=>by
   rw[cu,Ik];rw[iV]at f;split at f
   ·exact hcs j v f
   cases f)
 have u:∀ty,(Builtin.append_ #[22,3] ty #[.slice (some ⟨b,0,none⟩) i c,.int .i64 ((n:Int)+1-(i:Int))]).run Tryz.prog w=
  .ok (.slice (some ⟨w.heap.size,0,none⟩) (n+1) (grownCap w (n+1) c 55)) (w.drew.alloc (.cells ((cs.take (i*29)).toArray++Builtin.zeroCells z0.cells (n+1-i)++Builtin.zeroCells z0.cells (grownCap w (n+1) c 55-(n+1))) 55)):=fun ty=>by
  have h:=Lib.run_append_grow_zeros w 22 3 ty 55 i0 z0 .i64 .i64 hE.und A8 U hz0 (some ⟨b,0,none⟩) i c (cs.take (i*29)) z (n+1-i) AA AA AA AA (by rw[Z];omega) (by rw[Z,J];exact growslice_fits AA AA);rw[J]at h;rw[hkk];exact h
 have hGn:n+1≤grownCap w (n+1) c 55:=grownCap_ge w _ _ _;have M:=grownCap_le_maxLen w (n+1) c 55 vU;obtain⟨G,hG⟩:∃G,G=grownCap w (n+1) c 55:=⟨_,rfl⟩
 obtain⟨ROW,m⟩:∃ROW:Array Value,ROW=(cs.take (i*29)).toArray++Builtin.zeroCells z0.cells (n+1-i)++Builtin.zeroCells z0.cells (G-(n+1)):=⟨_,rfl⟩
 rw[←hG]at u hGn M;rw[←m]at u
 have hRl:ROW.size=G*29:=by
  rw[m];simp[Builtin.zeroCells,hzc];omega
 have hRt:ROW.toList.take (i*29)=cs.take (i*29):=by
  rw[m];simp[Gy];rw[oG L]
 obtain⟨W1,q⟩:∃W1,W1=w.drew.alloc (.cells ROW 55):=⟨_,rfl⟩
 rw[←q]at u
 have hN:∀j,j<(n+1)*29→(W1.cell? ⟨w.heap.size,j,none⟩).isSome=true:=fun j f=>by
  rw[q,World.cell?_alloc_at (w:=w.drew) ROW _ w.heap.size j rfl,dc AA];rfl
 have hNf:∀j,W1.frozen? ⟨w.heap.size,j,none⟩=false:=fun j=>by rw[q];exact World.frozen?_alloc_at (w:=w.drew) ROW _ w.heap.size j rfl
 have hOb:∀j v,w.cell? ⟨b,j,none⟩=some v→W1.cell? ⟨b,j,none⟩=some v:=fun j v h=>by rw[q,World.cell?_alloc_past (w:=w.drew) _ b j hbw];exact h
 have hOv:∀j v,w.cell? ⟨vb,j,none⟩=some v→W1.cell? ⟨vb,j,none⟩=some v:=fun j v h=>by rw[q,World.cell?_alloc_past (w:=w.drew) _ vb j hvw];exact h
 have hcpA:∀(W:World),(∀x,W.cell? x=W1.cell? x)→(∀x,W.frozen? x=W1.frozen? x)→∀ty Ag,(Builtin.copy_ #[22,22] ty #[.slice (some ⟨w.heap.size,i*29,none⟩) (n+1-i) Ag,.slice (some ⟨vb,0,none⟩) 1 vc]).run Tryz.prog W=.ok (goInt (1:Nat)) (W.setCells w.heap.size (i*29) vs):=fun W s O ty Ag=>
  vS W _ _ ty 55 w.heap.size (i*29) (n+1-i) Ag ⟨vb,0,none⟩ 1 vc 29 1 vs hE.und hsz aBV (by rw[hvl])
   (fun j v f=>by rw[cu,s,Ik];exact hOv _ v (hvs j v f))
   (fun j f=>by rw[s];exact hN _ AA) (fun j f=>by rw[O];exact hNf _) h1v
 have hG63:G≤9223372036854775807:=by unfold maxLen at M;omega
 have hGi:¬(G=i):=AA
 have hGim:¬(G=i+1):=AA
 have hci:¬(c=i):=AA
 have hbN:b≠w.heap.size:=AA
 have hdl:(cs.drop (i*29)).length=(n-i)*29:=by rw[Jt,hcl,Nat.sub_mul]
 have I:∀(W:World),(∀x,W.cell? x=(W1.setCells w.heap.size (i*29) vs).cell? x)→(∀x,W.frozen? x=(W1.setCells w.heap.size (i*29) vs).frozen? x)→∀ty Ag sc,(Builtin.copy_ #[22,22] ty #[.slice (some ⟨w.heap.size,(i+1)*29,none⟩) (n-i) Ag,.slice (some ⟨b,i*29,none⟩) (n-i) sc]).run Tryz.prog W=.ok (goInt (n-i:Nat)) (W.setCells w.heap.size ((i+1)*29) (cs.drop (i*29))):=fun W s O ty Ag sc=>
  vS W _ _ ty 55 w.heap.size ((i+1)*29) (n-i) Ag ⟨b,i*29,none⟩ (n-i) sc 29 (n-i) (cs.drop (i*29)) hE.und hsz aBV hdl
   (fun j v f=>by
    rw[cu,s,World.cell?_setCells_out _ _ _ _ _ (fun h _=>absurd h hbN)]
    exact hOb _ v (hcs (i*29+j) v (by rwa [OQ]at f)))
   (fun j f=>by rw[s];exact isSome_setCells _ vs (i*29) W1 (fun t ht=>hN _ AA) _ (hN _ (by rw[hdl]at f;omega)))
   (fun j f=>by rw[O,World.frozen?_setCells];exact hNf _) (fun v hv=>h1c v (aFJ hv))
 subst q;have hE1:∀x,((w.alloc (.cells ROW 55)).drew).cell? x=(w.drew.alloc (.cells ROW 55)).cell? x:=fun x=>rfl;have hE2:∀x,((w.alloc (.cells ROW 55)).drew).frozen? x=(w.drew.alloc (.cells ROW 55)).frozen? x:=fun x=>rfl;have hF1:∀x,(((w.alloc (.cells ROW 55)).drew.setCells w.heap.size (i*29) vs).drew).cell? x=((w.drew.alloc (.cells ROW 55)).setCells w.heap.size (i*29) vs).cell? x:=fun x=>rfl;have hF2:∀x,(((w.alloc (.cells ROW 55)).drew.setCells w.heap.size (i*29) vs).drew).frozen? x=((w.drew.alloc (.cells ROW 55)).setCells w.heap.size (i*29) vs).frozen? x:=fun x=>rfl;have hw1:BJ ((i:Int)+1)=(i:Int)+1:=PU
 have hw2:BJ ((n:Int)+1)=(n:Int)+1:=PU
 have hw3:BJ ((n:Int)+1-(i:Int))=(n:Int)+1-(i:Int):=PU
 have hb1:(0:Int)≤(i:Int)+1:=AA
 have hin:i≤n:=AA
 have htn:((i:Int)+1).toNat=i+1:=AA
 have hb3:(i:Int)≤(n:Int):=AA
 clear hkk J z m hG hil L
 go_enter Tryz.func98,Tryz.ntmps98
 go_wp2_with (first
  |(at_builtin;refine aC6 _ rfl _ _ _ _ rfl _ _ rfl rfl _ _ (u _) ?_)
  |(at_builtin;refine wpList_copy_runI _ rfl _ _ 22 22 rfl _ _ rfl rfl (hcpA _ hE1 hE2 _ _) ?_)
  |(at_builtin;refine wpList_copy_runI _ rfl _ _ 22 22 rfl _ _ rfl rfl (I _ (fun _=>rfl) (fun _=>rfl) _ _ _) ?_))
 go_region_law_o (refine step_copy_runI rfl _ _ 22 22 rfl (.slice (some ⟨w.heap.size,(i+1)*29,none⟩) (n-i) (G-(i+1))) (.slice (some ⟨b,i*29,none⟩) (n-i) (c-i)) ug ug (I _ hF1 hF2 3 (G-(i+1)) (c-i)) ?_)
 go_wp2
 go_ret
 exact⟨G,ROW,rfl,hGn,M,dD hRl.symm,hRt,rfl⟩
def putAt (f:Array Value):Nat→List Value→Array Value
 |_,[]=>f
 |o,v::r=>putAt (f.setIfInBounds o v) (o+1) r
def Z8 :∀(vs:List Value) (o:Nat) (f:Array Value),(putAt f o vs).size=f.size
 | [],_,_=>rfl
 |v::r,o,f=>by rw[putAt,Z8 r];simp
def mD :∀(vs:List Value) (o:Nat) (f:Array Value),o+vs.length≤f.size→(putAt f o vs).toList=f.toList.take o++vs++f.toList.drop (o+vs.length)
 | [],o,f,_=>by simp[putAt]
 |v::r,o,f,h=>by
  simp only[FV]at h;rw[putAt,mD r (o+1) _ E5,aDh];refine bQ fun j=>?_;simp only[Gy,List.getElem?_append,Gt,WY,RG,iV,List.getElem?_set,OQ,FV,Y6,aIW]
  grind
def jr (b:Nat):∀(vs:List Value) (o:Nat) (w:World) (f:Array Value) (e:TypeId) (fr:Nat×Nat),w.heap[b]? =some (.cells f e fr)→(w.setCells b o vs).heap[b]? =some (.cells (putAt f o vs) e fr)
 | [],_,_,_,_,_,h=>h
 |v::r,o,w,f,e,fr,h=>by
  rw[World.setCells,putAt];refine jr b r (o+1) _ _ e fr ?_;simp[World.setCell,NK,h]
set_option maxHeartbeats 4000000 in
set_option maxRecDepth 100000 in
def agL {v:Value} {n vb vc:Nat} {xs news:List Value} {w:World} (hown:lH w 55 29 v n xs) (hsrc:U3 w (.slice (some ⟨vb,0,none⟩) 1 vc) 1 29 news) (hb:(n+1)*376≤140737488355328):
 Calls Tryz.prog 98 #[v,.int .i64 n,.slice (some ⟨vb,0,none⟩) 1 vc] w fun e w'=>∃v',e=.returned v'∧lH w' 55 29 v' (n+1) (xs++news)∧w.grownBy w' v.ownBlock∧∀g,DC v'=some g→DC v=some g∨w.heap.size≤g:=by
 have hE:Fe Tryz.prog 22 55 29 376:=KW A8;obtain⟨v',w',m,q,s,u⟩:=aFK (ty:=22) hE hown hsrc hb vU;have mixed:Tryz.prog.follows .mixedOrders=true:=A8
 rcases hown.2 with⟨rfl,I⟩|⟨g,cap,J,rfl,_,O,L,f,M,j⟩
 ·subst I
  go_enter Tryz.func98,Tryz.ntmps98
  go_wp2_with (at_builtin;refine aC6 _ rfl _ _ _ _ rfl _ _ rfl rfl _ _ m ?_)
  go_ret
  exact⟨v',rfl,q,s,u⟩
 have z:cap≤9223372036854775807:=by unfold maxLen at f;omega
 go_enter Tryz.func98,Tryz.ntmps98
 go_wp2_with (at_builtin;refine aC6 _ rfl _ _ _ _ rfl _ _ rfl rfl _ _ m ?_)
 all_goals (go_ret;exact⟨v',rfl,q,s,u⟩)
def jK (b:Nat):∀(vs:List Value) (o:Nat) (w:World),(w.setCells b o vs).os=w.os∧(w.setCells b o vs).tape=w.tape∧(w.setCells b o vs).output=w.output∧(w.setCells b o vs).heap.size=w.heap.size∧∀i,i≠b→(w.setCells b o vs).heap[i]? =w.heap[i]?
 | [],_,_=>⟨rfl,rfl,rfl,rfl,fun _ _=>rfl⟩
 |v::r,o,w=>by
  obtain⟨f,j,m,q,s⟩:=jK b r (o+1) (w.setCell ⟨b,o,none⟩ v);rw[World.setCells];refine⟨f,j,m,by rw[q];simp[World.setCell],fun i hi=>?_⟩;rw[s i hi];simp[World.setCell,NK,Ne.symm hi]
def aqX {f:Array Value} {xs vs:List Value} {a N k:Nat} (q:f.toList.take N=xs) (j:xs.length=N) (m:vs.length=k) (ha:a≤N) (z:N+k≤f.size):
 (putAt (putAt f (a+k) (xs.drop a)) a vs).toList.take (N+k)=xs.take a++vs++xs.drop a:=by
 have hd:(xs.drop a).length=N-a:=by rw[Jt,j]
 rw[mD vs a _ (by rw[Z8];omega),mD (xs.drop a) (a+k) f AA,m,hd]
 have s:(f.toList.take (a+k)++xs.drop a++f.toList.drop (a+k+(N-a))).take a=xs.take a:=by
  rw[Gy,List.take_append_of_le_length E5,aEh,←q,aEh,iw AA,iw ha]
 have u:(f.toList.take (a+k)++xs.drop a++f.toList.drop (a+k+(N-a))).drop (a+k)=xs.drop a++f.toList.drop (a+k+(N-a)):=by
  rw[Gy,List.drop_left' E5]
 rw[s,u,←Gy,oG (by simp[hd,m,j];omega)]
def alF {f:Array Value} {xs vs:List Value} {a N k:Nat} (q:f.toList.take a=xs.take a) (j:xs.length=N) (m:vs.length=k) (ha:a≤N) (u:N+k≤f.size):
 (putAt (putAt f a vs) (a+k) (xs.drop a)).toList.take (N+k)=xs.take a++vs++xs.drop a:=by
 have hd:(xs.drop a).length=N-a:=by rw[Jt,j]
 rw[mD (xs.drop a) (a+k) _ (by rw[Z8];omega),mD vs a f AA,m,hd,q];have s:(xs.take a++vs++f.toList.drop (a+k)).take (a+k)=xs.take a++vs:=oG (by simp[m,j];omega);rw[s,oG (by simp[hd,m,j];omega)]
def iy {w:World} {g n:Nat} {f:Array Value} {xs:List Value} {T:TypeId} {fr:Nat×Nat} (m:w.heap[g]? =some (.cells f T fr)) (q:f.toList.take n=xs) (j:Nat) (v:Value) (h:xs[j]? =some v):w.cell? ⟨g,j,none⟩=some v:=by
 unfold World.cell?;simp only[m];rw[←q,iV]at h;split at h
 ·simpa using h
 cases h
def aeu {w:World} {g:Nat} {f:Array Value} {T:TypeId} {fr:Nat×Nat} (m:w.heap[g]? =some (.cells f T fr)) (j:Nat) (h:j<f.size):(w.cell? ⟨g,j,none⟩).isSome=true:=by
 unfold World.cell?;simp[m,h]
def aFT {w:World} {g:Nat} {f:Array Value} {T:TypeId} (m:w.heap[g]? =some (.cells f T (0,0))) (j:Nat):w.frozen? ⟨g,j,none⟩=false:=by
 unfold World.frozen?;simp[m]
def asK {v:Value} {n vb vc i:Nat} {xs f:List Value} {w:World} (hi:i≤n) (s:lH w 55 29 v n xs) (h1:∀u∈xs,u.oneCell'=true) (hx:lH w 55 29 (.slice (some ⟨vb,0,none⟩) 1 vc) 1 f) (O:∀u∈f,u.oneCell'=true) (hne:DC v≠some vb) (hb:(n+1)*376≤140737488355328):
 Calls Tryz.prog 98 #[v,.int .i64 i,.slice (some ⟨vb,0,none⟩) 1 vc] w fun e w'=>∃v',e=.returned v'∧lH w' 55 29 v' (n+1) (xs.take (i*29)++f++xs.drop (i*29))∧Turns v w w'∧∀g,DC v'=some g→DC v=some g∨w.heap.size≤g:=by
 have z:=s.1;have I:f.length=29:=by have :=hx.1;omega
 rcases hx.2 with⟨e0,_⟩|⟨vb',ayn,axC,e0,_,J,hvn,_,hvs,U⟩
 ·cases e0
 injection e0 with e1 _ e3
 injection e1 with e1
 injection e1 with e1
 subst e1 e3;rcases YV i n with Y|Y
 ·rcases s.2 with⟨_,h0⟩|⟨g,cap,M,rfl,_,hg,hnc,hcm,hcs,q⟩
  ·omega
  have hgv:vb≠g:=fun e=>hne jJ;have hil:i*29≤n*29:=J5 _ hi;rcases YV n cap with m|m
  ·have hfit:(n+1)*29≤M.size:=EZ (J5 _ m) hcs;refine(afk g n cap i vb vc xs f w Y m (by unfold maxLen at hcm;omega) hgv z I (iy hg q) (fun j hj=>aeu hg j AA) (fun j _=>aFT hg j) (iy J U) h1 O 55 55 axC.size M.size (by simp[World.shape?,J]) (by simp[World.shape?,hg]) AA (aFT J 0) (aFT J _)).mono ?_;rintro e w' ⟨rfl,rfl⟩;have hh:=jr g f (i*29) _ _ _ _ (jr g (xs.drop (i*29)) ((i+1)*29) w.drew M 55 (0,0) hg);obtain⟨a1,a2,a3,a4,a5⟩:=jK g (xs.drop (i*29)) ((i+1)*29) w.drew;obtain⟨b1,b2,b3,b4,b5⟩:=jK g f (i*29) (w.drew.setCells g ((i+1)*29) (xs.drop (i*29)));refine⟨_,rfl,⟨?_,.inr ⟨g,cap,_,rfl,EH _,hh,m,hcm,by rw[Z8,Z8];exact hcs,?_⟩⟩,⟨b1.trans a1,b2.trans a2,b3.trans a3,by rw[b4,a4];exact Dy _,fun c hc hcb=>?_⟩,fun g' Z=>.inl Z⟩
   ·simp[I,z];omega
   ·have :=aqX (a:=i*29) (k:=29) q z I hil AA;rw[show(i+1)*29=i*29+29 by omega,show(n+1)*29=n*29+29 by omega];exact this
   have L:c≠g:=fun e=>hcb jJ;rw[b5 c L,a5 c L];rfl
  refine(arW g n cap i vb vc xs f w Y hnc AA hb z I (iy hg q) (iy J U) h1 O).mono ?_;rintro e w' ⟨G,ROW,rfl,hGn,hGm,hGs,hRt,rfl⟩
  have hal:((w.alloc (.cells ROW 55)).drew).heap[w.heap.size]? =some (.cells ROW 55 (0,0)):=by
   show(w.heap.push (.cells ROW 55 (0,0)))[w.heap.size]? =_;simp
  have hh:=jr w.heap.size (xs.drop (i*29)) ((i+1)*29) _ _ _ _ (show(((w.alloc (.cells ROW 55)).drew.setCells w.heap.size (i*29) f).drew).heap[w.heap.size]? =_ from jr w.heap.size f (i*29) _ ROW 55 (0,0) hal);obtain⟨a1,a2,a3,a4,a5⟩:=jK w.heap.size f (i*29) (w.alloc (.cells ROW 55)).drew;obtain⟨b1,b2,b3,b4,b5⟩:=jK w.heap.size (xs.drop (i*29)) ((i+1)*29) ((w.alloc (.cells ROW 55)).drew.setCells w.heap.size (i*29) f).drew;refine⟨_,rfl,⟨?_,.inr ⟨w.heap.size,G,_,rfl,EH _,hh,hGn,hGm,by rw[Z8,Z8];exact hGs,?_⟩⟩,⟨b1.trans a1,b2.trans a2,b3.trans a3,?_,fun c hc hcb=>?_⟩,fun g' Z=>.inr (by simp[DC]at Z;omega)⟩
  ·simp[I,z];omega
  ·have :=alF (a:=i*29) (k:=29) hRt z I hil (by have :=J5 29 hGn;omega);rw[show(i+1)*29=i*29+29 by omega,show(n+1)*29=n*29+29 by omega];exact this
  ·rw[b4];show w.heap.size≤((w.alloc (.cells ROW 55)).drew.setCells w.heap.size (i*29) f).heap.size;rw[a4];show w.heap.size≤(w.heap.push (.cells ROW 55 (0,0))).size;simp
  have L:c≠w.heap.size:=AA
  rw[b5 c L];show((w.alloc (.cells ROW 55)).drew.setCells w.heap.size (i*29) f).heap[c]? =_;rw[a5 c L];show(w.heap.push (.cells ROW 55 (0,0)))[c]? =_;simp[aI3,L]
 have hni:i=n:=AA
 subst hni;refine(agL s ⟨AA,O,.inl ⟨_,_,rfl,fun j u hj=>by rw[cu,Ik];exact iy J U j u hj⟩⟩ hb).mono ?_;rintro e w' ⟨v',rfl,h2,h3,h4⟩;refine⟨v',rfl,?_,⟨h3.os,h3.tape,h3.output,h3.size,fun k hk hne'=>h3.block k hk ?_⟩,h4⟩
 ·rw[Pv AA,yO AA,TJ];exact h2
 rcases s.2 with⟨rfl,_⟩|⟨g,cap,M,rfl,_⟩
 ·simp[Value.ownBlock]
 intro e;exact hne' e.symm
def ajA {f:Array Value} (j:f.size=3):f= #[f.getD 0 undef,f.getD 1 undef,f.getD 2 undef]:=by
 refine Xk YH fun i q m=>?_;simp at m;have :i=0∨i=1∨i=2:=AA
 rcases this with rfl|rfl|rfl<;>simp[Array.getD,j]
def al0 {ok:Nat→Prop} {w:World} {H:List Bc} {xs:List Ac} {vs:List Value} (h:FB ok w H xs vs) (n:Nat):FB ok w H (xs.take n) (vs.take n):=by
 refine⟨by rw[Gt,Gt,h.1],fun i hi=>?_⟩;rw[Gt]at hi;have :=h.2 i AA;rw[jX,jX]at this ⊢;rw[Ll AA,Ll AA];exact this
def ar9 {ok:Nat→Prop} {w:World} {H:List Bc} {xs:List Ac} {vs:List Value} (h:FB ok w H xs vs) (n:Nat):FB ok w H (xs.drop n) (vs.drop n):=by
 refine⟨by rw[Jt,Jt,h.1],fun i hi=>?_⟩;rw[Jt]at hi;have :=h.2 (n+i) AA;rw[jX,jX]at this ⊢;rw[OQ,OQ];exact this
def aKp {ok:Nat→Prop} {w:World} {H:List Bc} {xs:List Ac} {vs:List Value} (h:FB ok w H xs vs):∀u∈vs,u.oneCell'=true:=fun u j=>by
 obtain⟨i,hi,rfl⟩:=Gj j;have f:=h.2 i (by rw[←h.1];exact hi);have :=f.2.leaf f.1
 rwa [jX,Df hi]at this
def aMf {size:Nat}:∀{es:List D} (i:Nat),(∀x∈es,x.cells.length=size)→flat (es.take i)=(flat es).take (i*size)
 | [],i,_=>RN
 |x::l,0,_=>RN
 |x::l,i+1,h=>by
  have f:(x.cells.map Ac.d).length=size:=by rw[Cb];exact h x (Ez ..)
  rw[List.take_succ_cons,UD,UD,aMf i fun y j=>h y (G9 _ j),Wn,aB9,Oc,←f,List.take_length_add_append]
def aJ1 {size:Nat}:∀{es:List D} (i:Nat),(∀x∈es,x.cells.length=size)→flat (es.drop i)=(flat es).drop (i*size)
 | [],i,_=>RN
 |x::l,0,_=>RN
 |x::l,i+1,h=>by
  have f:(x.cells.map Ac.d).length=size:=by rw[Cb];exact h x (Ez ..)
  rw[List.drop_succ_cons,UD,aJ1 i fun y j=>h y (G9 _ j),Wn,aB9,Oc,←f,List.drop_length_add_append]
def CX.kill {C:Dv} {ok:Nat→Prop} {H:List Bc} {es:List BI} {w:World} (q:CX C ok H es w) (k:Nat):CX C ok H (es.set k .dead) w:=
 (q.change (ok':=ok) (H':=H) (w':=w) (es':=es.set k .dead) (fun _=>False) rfl rfl rfl (Dy _) (fun _ _ _=>rfl) (fun _ h=>h.elim) (fun _ h=>h) (fun _ h=>.inl h) (.refl _) (by simpa using q.hlen) (by
  intro j e' h' f m;by_cases s:k=j
  ·subst s;rw[List.getElem?_set]at f;simp only[KE]at f;split at f
   ·cases f;exact .inr ⟨trivial,fun h=>Gz⟩
   cases f
  rw[VI s]at f
  exact .inl ⟨f,m,fun _ _ _ h=>h⟩)).1
def aGq {α:Type} (l:List α) (i:Int) (m:List α):Option (List α):=match m with
 | [x]=>if(0≤i∧i≤(l.length:Int))∧l.length≤34359738368 then some (l.take i.toNat++x::l.drop i.toNat)else none
 |_=>none
def ams {α:Type} {e:α→D} (hk:∀x,(e x).cells.length=29) (l:List α) (q:Int) (m r:List α) (h:aGq l q m=some r):
 BF 98 [.aS 0,.d (AV q),.aS 1] [.arr 55 29 (l.map e),.arr 55 29 (m.map e)] (.aS 2) [.dead,.dead,.arr 55 29 (r.map e)]:=by
 unfold aGq at h;split at h
 case h_2=>cases h
 rename_i x;split at h
 case isFalse=>cases h
 rename_i hc;obtain⟨⟨hq0,hql⟩,hb⟩:=hc;obtain rfl:=CJ h;obtain⟨i,rfl⟩:∃i:Nat,q=i:=⟨q.toNat,AA⟩
 have hi:i≤l.length:=AA
 rw[YI];intro ok X H w J u hs ha;have h0:=ha 0 BM;have hq:=ha 1 BM;have h2:=ha 2 BM;rw[ajA hs];obtain⟨hd,hh,hok⟩:=FY u.ent u.hlen (k:=0) rfl;obtain⟨L,M,O⟩:=FY u.ent u.hlen (k:=1) rfl;obtain hv:=Nj h0 hh;obtain hv1:=Nj h2 M
 have hq':J.getD 1 undef=.int .i64 i:=by
  simp only[List.getD,zC,aH6,Lj]at hq;cases hq with |d _ _ hq=>exact DT.abI hq
 rw[hv,hv1,hq'];obtain⟨hz,U,xs,Y,I⟩:=hok;obtain⟨hz1,ayo,news,j,s⟩:=O;rw[Cb]at Y
 obtain⟨g1,c1,Z⟩:∃g1 c1,L.v=.slice (some ⟨g1,0,none⟩) 1 c1:=by
  rcases j.2 with⟨_,h⟩|⟨g,cap,cur,h,_⟩
  ·cases h
  exact⟨g,cap,h⟩
 have hne:DC hd.v≠some g1:=fun hb=>by
  have :=u.CW 0 1 _ _ hd L g1 rfl rfl rfl rfl hh M hb (by rw[Z];rfl);cases this
 rw[Z]at j ⊢;refine(asK hi Y (aKp I) j (aKp s) hne AA).mono ?_;rintro y w' ⟨v',rfl,f,ht,hblk⟩;have hlen:l.length+1=((l.take i++x::l.drop i).map e).length:=E5
 rw[hlen]at f
 have hfl:flat ((l.take i++x::l.drop i).map e)=(flat (l.map e)).take (i*29)++flat ([x].map e)++(flat (l.map e)).drop (i*29):=by
  rw[←aMf i U,←aJ1 i U,←ZR,←ZR,L6,Jr,XE,XZ,Gy];rfl
 have hg:=u.turn (e:=.arr 55 29 ((l.take i++x::l.drop i).map e)) (h':=⟨v',29⟩) (w':=w') (k:=0) rfl rfl hh ht.os ht.tape ht.output ht.size ht.block (fun g hg=>⟨mJ f hg,hblk g hg⟩) (fun hgr=>⟨rfl,fun y hy=>by
  obtain⟨z,_,rfl⟩:=F8.1 hy
  exact hk z,_,f,by rw[hfl];exact(wI (wI (al0 I _) s) (ar9 I _)).mono hgr (.push _ _)⟩)
 refine⟨v',ok,H++[⟨v',29⟩],rfl,hg.1.kill 1,?_⟩;have hl:H.length=2:=u.hlen;have hr:(H++[(⟨v',29⟩:Bc)])[2]? =some ⟨v',29⟩:=by rw[←hl];simp
 rcases f.2 with⟨rfl,_⟩|⟨g,cap,cur,rfl,_⟩
 ·exact .aS 2 _ _ _ 29 hr
 exact .aS 2 _ _ _ 29 hr
end Go.Proofs.YtolgdkhlelfpoaaGreat
end
section
namespace Go.Proofs.YtolgdkhlelfpoaaGreat
open Go.RowKit
section
variable {P : Program} {o : Oper} {es : List BI}
def Nl {f:FuncId} {ops:Array Operand} {ats:Array TypeId} (dP:List Ac) {eU:List Ac} {j res':Ac} {E':List BI} (m:Ak P f eU [] j E') (q:o.op=.call { callee:=.value (.func f),args:=ops,argTypes:=ats }) (s:DV P f=true:=by kernel_rfl) (u:E'.all BI.closed=true:=by kernel_rfl)
 (ha:LD [] dP eU:=by repeat (first|exact trivial|refine⟨.inl rfl,?_⟩|refine⟨.inr (.inr ⟨rfl,rfl⟩),?_⟩)) (z:ops.toList.length=dP.length:=by kernel_rfl) (I:j.up [] es.length=res':=by kernel_rfl):Bd P o (Ei ops.toList dP) es res' (es++E'):=aed m s u ha z I q
def adZ {f:FuncId} {ops:Array Operand} {ats:Array TypeId} (dP:List Ac) {eU:List Ac} {j res':Ac} (m:Ak P f eU [] j []) (q:o.op=.call { callee:=.value (.func f),args:=ops,argTypes:=ats }) (s:DV P f=true:=by kernel_rfl)
 (ha:LD [] dP eU:=by repeat (first|exact trivial|refine⟨.inl rfl,?_⟩|refine⟨.inr (.inr ⟨rfl,rfl⟩),?_⟩)) (u:ops.toList.length=dP.length:=by kernel_rfl) (z:j.up [] es.length=res':=by kernel_rfl):Bd P o (Ei ops.toList dP) es res' es:=acI m s ha u z q
def Di {f:FuncId} {ops:Array Operand} {ats:Array TypeId} (srcs:List DU) (dP:List Ac) {eU:List Ac} {E E':List BI} {j res':Ac} (m:Ak P f eU E j E') (q:o.op=.call { callee:=.value (.func f),args:=ops,argTypes:=ats }) (s:DV P f=true:=by kernel_rfl) (u:QD srcs es E E'=true:=by kernel_rfl)
 (hE:RF srcs es srcs E:=by first|exact trivial|exact KF A8 trivial) (ha:LD srcs dP eU:=by repeat (first|exact trivial|refine⟨.inl rfl,?_⟩|refine⟨⟨0,rfl,rfl⟩,?_⟩|refine⟨⟨1,rfl,rfl⟩,?_⟩|refine⟨⟨2,rfl,rfl⟩,?_⟩|refine⟨.inr (.inr ⟨rfl,rfl⟩),?_⟩)) (z:ops.toList.length=dP.length:=by kernel_rfl)
 (I:res'=j.up srcs es.length:=by kernel_rfl):Bd P o (Ei ops.toList dP) es res' (Jz srcs es E'):=aej srcs m s u hE ha z I q
def Xr {f:FuncId} {x:Operand} {ops:Array Operand} {ats:Array TypeId} (srcs:List DU) (fi ca dP:List Ac) {eU:List Ac} {E E':List BI} {j res':Ac} (m:Ak P f eU E j E') (q:o.op=.call { callee:=.value x,args:=ops,argTypes:=ats }) (s:DV P f=true:=by kernel_rfl) (u:QD srcs es E E'=true:=by kernel_rfl)
 (hE:RF srcs es srcs E:=by first|exact trivial|exact KF A8 trivial) (ha:LD srcs (fi++dP++ca) eU:=by repeat (first|exact trivial|refine⟨.inl rfl,?_⟩|refine⟨⟨0,rfl,rfl⟩,?_⟩|refine⟨⟨1,rfl,rfl⟩,?_⟩|refine⟨⟨2,rfl,rfl⟩,?_⟩|refine⟨.inr (.inr ⟨rfl,rfl⟩),?_⟩)) (z:ops.toList.length=dP.length:=by kernel_rfl)
 (I:res'=j.up srcs es.length:=by kernel_rfl):Bd P o ((x,.fn (.func f) fi ca)::Ei ops.toList dP) es res' (Jz srcs es E'):=aqP srcs fi ca m s u hE ha z I q
def aa7 {f:FuncId} {x:Operand} {ops:Array Operand} {ats:Array TypeId} (srcs:List DU) (fi ca:List D) (dP:List Ac) {eU:List Ac} {E E':List BI} {j res':Ac} (m:Ak P f eU E j E') (q:o.op=.call { callee:=.value x,args:=ops,argTypes:=ats }) (s:DV P f=true:=by kernel_rfl) (u:QD srcs es E E'=true:=by kernel_rfl)
 (hE:RF srcs es srcs E:=by first|exact trivial|exact KF A8 trivial) (ha:LD srcs (fi.map .d++dP++ca.map .d) eU:=by repeat (first|exact trivial|refine⟨.inl rfl,?_⟩|refine⟨⟨0,rfl,rfl⟩,?_⟩|refine⟨⟨1,rfl,rfl⟩,?_⟩|refine⟨⟨2,rfl,rfl⟩,?_⟩|refine⟨.inr (.inr ⟨rfl,rfl⟩),?_⟩)) (z:ops.toList.length=dP.length:=by kernel_rfl)
 (I:res'=j.up srcs es.length:=by kernel_rfl):Bd P o ((x,.d (.fn (.func f) fi ca))::Ei ops.toList dP) es res' (Jz srcs es E'):=ajQ srcs fi ca m s u hE ha z I q
end
section
variable {P : Program} {ops : Array Oper} {o : Oper} {rest l : List Oper} {σ : Ap} {K : Exit → Ap → Prop}
def Cj.ca {f:FuncId} {dP:List Ac} {j:Ac} (m:Ak P f dP [] j []) (k:Cj P ops rest (σ.qo o.dst (j.up [] σ.ents.length)) K) (q:DV P f=true:=by kernel_rfl) (s:SA σ o=some (f,dP):=by kernel_rfl)
 (hd:dP.all Ac.yI=true:=by kernel_rfl) (u:JF ops σ o.guard=some true:=by kernel_rfl):Cj P ops (o::rest) σ K:=.call m q k s hd u
def Ej.ca {σ':Ap} {f:FuncId} {dP:List Ac} {j:Ac} {rs:List Ac} {ess:List (List BI)} {bs:List Bool} (m:Ak P f dP [] j []) (k:Ej P ops rest (σ.qo o.dst (j.up [] σ.ents.length)) rs ess bs σ') (q:DV P f=true:=by kernel_rfl) (s:SA σ o=some (f,dP):=by kernel_rfl)
 (hd:dP.all Ac.yI=true:=by kernel_rfl) (u:JF ops σ o.guard=some true:=by kernel_rfl):Ej P ops (o::rest) σ (j.up [] σ.ents.length::rs) (σ.ents::ess) (false::bs) σ':=.call m q k s hd u
end
section
variable {P : Program} {ops : Array Oper} {o : Oper} {rest l : List Oper} {σ : Ap} {K : Exit → Ap → Prop}
def Cj.aW [T:Kn P] {M:Ap→Prop} (k:M (Qb (Gn T ops l.length l σ))) (h:(Gn T ops l.length l σ).isSome=true:=by kernel_rfl):Cj P ops l σ (Jd M K):=.aM l.length k rfl h
def Cj.bi [T:Kn P] {A:Type} {b:Bool} {u v z:A} (h:(bif b then u else v)=z) (j:u=z→Cj P ops rest (σ.qo o.dst (.d (.lit (.bool true)))) K:=by exact fun h=>.aW<|CM) (k2:v=z→Cj P ops rest (σ.qo o.dst (.d (.lit (.bool false)))) K:=by exact fun h=>.aW<|CM)
 (f:(Ul T ops σ o).map (fun r=>(r.x,r.E,r.bar))=some (.d (.lit (.bool b)),σ.ents,false):=by kernel_rfl):Cj P ops (o::rest) σ K:=FW h (fun e h=>.c (Ba some e) (j h) f) fun e h=>.c (Ba some e) (k2 h) f
def D7 {A:Type} {b:Bool} {u v z:A} {G:Prop} (h:(bif b then u else v)=z) (f:b=true→u=z→G:=by exact fun e i=>ae3) (k2:b=false→v=z→G:=by exact fun e i=>ae3):G:=FW h f k2
def AU [T:Kn P] {id:Nat} {y:Code} {Q:Exit→Ap→Prop} (k:AB P y (Qb (Gn T ops ops.toList.length ops.toList σ)) Q) (h:(Gn T ops ops.toList.length ops.toList σ).isSome=true:=by kernel_rfl):AB P (.seq (.region id ops false) y) σ Q:=AL (.aW k h)
end
section
variable {P : Program} {ops : Array Oper} {l : List Oper} {σ : Ap} {K : Exit → Ap → Prop}
def Cj.mg (a c:Nat) (x:Ac) (f:Cj P ops (l.take (c+1)) σ (Jd (fun s=>s.wipe (List.range' a c)=(σ.wipe (List.range' a c)).qo (some (a+c)) x) K)) (j:Cj P ops (l.drop (c+1)) ((σ.wipe (List.range' a c)).qo (some (a+c)) x) K):Cj P ops l σ K:=.merge (c+1) (List.range' a c) (a+c) x f j
end
def Ad {σ S:Ap} (n w:Nat) (π:List (Nat×Bool)) (f:S9 σ.base σ.ents π=true:=by kernel_rfl) (j:S=⟨Jh π (mk n w) σ.slots,QO σ.ents π,σ.base⟩:=by kernel_rfl):CG σ S:=al5 (mk n w) π f j
def ML {α β:Type} {y:α} {g:α→Option (Except Value β)} {r:Except Value β} (h:JY (.ok y) g=some r):g y=some r:=h
def MP {α β:Type} {u:Value} {g:α→Option (Except Value β)} {r:Except Value β} (h:JY (.error u) g=some r):some (.error u)=some r:=h
def BZ :ByteArray:=⟨#[]⟩
def Qo (k:IntKind) (n:Int):D:=.lit (.int k n)
def aID :ByteArray:=⟨#[33,114,58,97]⟩
def iD :ByteArray:=⟨#[64,117,58,97]⟩
def xK :ByteArray:=⟨#[97]⟩
def asw :ByteArray:=⟨#[104,105]⟩
def arI :ByteArray:=⟨#[64,119,58,98]⟩
def abO :ByteArray:=⟨#[98]⟩
def bW :ByteArray:=⟨#[58]⟩
def lV :ByteArray:=⟨#[33]⟩
def lU :ByteArray:=⟨#[64]⟩
def oU :ByteArray:=⟨#[64,33]⟩
def GN :ByteArray:=⟨#[84,101,120,116]⟩
def Gs :ByteArray:=⟨#[78]⟩
def JR :ByteArray:=⟨#[86,105,97]⟩
def JA :ByteArray:=⟨#[76,101,118,101,108,115]⟩
def IY :ByteArray:=⟨#[65,108,108,111,119]⟩
def J8 :ByteArray:=⟨#[68,101,110,121]⟩
def Gx :ByteArray:=⟨#[84,97,114,103,101,116]⟩
def JX :ByteArray:=⟨#[84,104,114,101,97,100]⟩
structure He where
 User:ByteArray
 N:Int
def ES (x:He):D:=.agg [CO x.User,AV x.N]
def aiy :He:=⟨BZ,0⟩
instance : Inhabited He:=⟨aiy⟩
structure IL where
 Kind:Int
 N:Int
def EY (x:IL):D:=.agg [AV x.Kind,AV x.N]
def aqO :IL:=⟨0,0⟩
instance : Inhabited IL:=⟨aqO⟩
structure D9 where
 Users:(List He)
 Kinds:(List IL)
 User:Int
 Message:Int
 State:Int
 gB:Int
 jT:Int
 nX:Int
 gY:Int
def Ea (x:D9):D:=.agg [(Ai ES) x.Users,(Ai EY) x.Kinds,AV x.User,AV x.Message,AV x.State,AV x.gB,AV x.jT,AV x.nX,AV x.gY]
def KY :D9:=⟨[],[],0,0,0,0,0,0,0⟩
instance : Inhabited D9:=⟨KY⟩
structure Bo where
 Text:ByteArray
 N:Int
 Target:Int
 Thread:Bool
 Via:ByteArray
 Allow:(List ByteArray)
 gu:(List ByteArray)
 Levels:D9
def EK (x:Bo):D:=.agg [CO x.Text,AV x.N,AV x.Target,Cm x.Thread,CO x.Via,(Ai CO) x.Allow,(Ai CO) x.gu,(Ai ES) x.Levels.Users,(Ai EY) x.Levels.Kinds,AV x.Levels.User,AV x.Levels.Message,AV x.Levels.State,AV x.Levels.gB,AV x.Levels.jT,AV x.Levels.nX,AV x.Levels.gY]
def DW :Bo:=⟨BZ,0,0,false,BZ,[],[],KY⟩
instance : Inhabited Bo:=⟨DW⟩
structure Na where
 Server:ByteArray
 Sum:Int
def aiG (x:Na):D:=.agg [CO x.Server,AV x.Sum]
def WX :Na:=⟨BZ,0⟩
instance : Inhabited Na:=⟨WX⟩
structure AP where
 Id:Int
 Room:ByteArray
 bF:ByteArray
 Kind:Int
 State:Bool
 Key:ByteArray
 Time:Int
 Depth:Int
 bD:(List Int)
 bM:(List Int)
 Content:Bo
 Hash:Int
 pR:Na
def Am (x:AP):D:=.agg [AV x.Id,CO x.Room,CO x.bF,AV x.Kind,Cm x.State,CO x.Key,AV x.Time,AV x.Depth,(Ai AV) x.bD,(Ai AV) x.bM,CO x.Content.Text,AV x.Content.N,AV x.Content.Target,Cm x.Content.Thread,CO x.Content.Via,(Ai CO) x.Content.Allow,(Ai CO) x.Content.gu,(Ai ES) x.Content.Levels.Users,(Ai EY) x.Content.Levels.Kinds,AV x.Content.Levels.User,AV x.Content.Levels.Message,AV x.Content.Levels.State,AV x.Content.Levels.gB,AV x.Content.Levels.jT,AV x.Content.Levels.nX,AV x.Content.Levels.gY,AV x.Hash,CO x.pR.Server,AV x.pR.Sum]
def G5 :AP:=⟨0,BZ,BZ,0,false,BZ,0,0,[],[],DW,0,WX⟩
instance : Inhabited AP:=⟨G5⟩
structure Ee where
 b_:(List Int)
def Fz (x:Ee):D:=.agg [(Ai CV) x.b_]
def wo :Ee:=⟨[]⟩
instance : Inhabited Ee:=⟨wo⟩
structure N8 where
 arV:Int
 akJ:Nat
def Sr (x:N8):D:=.agg [AV x.arV,aJm x.akJ]
def aj2 :N8:=⟨0,0⟩
instance : Inhabited N8:=⟨aj2⟩
structure QE where
 nJ:Int
 lu:Int
def Gv (x:QE):D:=.agg [AV x.nJ,AV x.lu]
def xA :QE:=⟨0,0⟩
instance : Inhabited QE:=⟨xA⟩
structure Aw where
 Kind:Int
 Key:ByteArray
 Id:Int
def BD (x:Aw):D:=.agg [AV x.Kind,CO x.Key,AV x.Id]
def arb :Aw:=⟨0,BZ,0⟩
instance : Inhabited Aw:=⟨arb⟩
structure cV where
 af8:Int
def anz :cV:=⟨0⟩
instance : Inhabited cV:=⟨anz⟩
structure UL where
def Y5 (x:UL):D:=.agg []
def ala :UL:=⟨⟩
instance : Inhabited UL:=⟨ala⟩
structure N9 where
 BG:(List Aw)
 YN:(List Int)
 akL:(List Int)
def QL (x:N9):D:=.agg [(Ai BD) x.BG,(Ai AV) x.YN,(Ai AV) x.akL]
def U5 :N9:=⟨[],[],[]⟩
instance : Inhabited N9:=⟨U5⟩
structure OX where
 lu:Int
 Gf:Int
 yX:Int
 akM:(List Int)
def KD (x:OX):D:=.agg [AV x.lu,AV x.Gf,AV x.yX,(Ai AV) x.akM]
def arS :OX:=⟨0,0,0,[]⟩
instance : Inhabited OX:=⟨arS⟩
structure Qn where
 WQ:Int
 WR:ByteArray
def JL (x:Qn):D:=.agg [AV x.WQ,CO x.WR]
def ahv :Qn:=⟨0,BZ⟩
instance : Inhabited Qn:=⟨ahv⟩
structure U8 where
 ajV:(List Int)
def Yc (x:U8):D:=.agg [(Ai AV) x.ajV]
def al4 :U8:=⟨[]⟩
instance : Inhabited U8:=⟨al4⟩
structure LH where
 lu:Int
 wY:Int
 yX:Int
def Lc (x:LH):D:=.agg [AV x.lu,AV x.wY,AV x.yX]
def apC :LH:=⟨0,0,0⟩
instance : Inhabited LH:=⟨apC⟩
structure acN where
 Id:Int
 Before:(List Aw)
 After:(List Aw)
 Err:Int
def asN :acN:=⟨0,[],[],0⟩
instance : Inhabited acN:=⟨asN⟩
structure aMq where
 Same:(List Aw)
 Power:(List Int)
 First:(List Aw)
 Others:(List Int)
 Last:(List Aw)
def alN :aMq:=⟨[],[],[],[],[]⟩
instance : Inhabited aMq:=⟨alN⟩
structure aG9 where
 Pos:Int
 Id:Int
 Status:Int
 Gone:Bool
def aoK :aG9:=⟨0,0,0,false⟩
instance : Inhabited aG9:=⟨aoK⟩
structure aGz where
 User:ByteArray
 Thread:Int
 Id:Int
 Time:Int
def anp :aGz:=⟨BZ,0,0,0⟩
instance : Inhabited aGz:=⟨anp⟩
structure aCN where
 User:ByteArray
 Until:Int
def aoH :aCN:=⟨BZ,0⟩
instance : Inhabited aCN:=⟨aoH⟩
structure aMm where
 Id:ByteArray
 Events:(List AP)
 Rows:(List aG9)
 Waiting:(List AP)
 ayg:(List Int)
 State:(List Aw)
 Next:Int
 axE:(List aGz)
 aye:(List aCN)
def agF :aMm:=⟨BZ,[],[],[],[],[],0,[],[]⟩
instance : Inhabited aMm:=⟨agF⟩
def Ci :Tryz.prog.underlying 22=some (.slice 55):=A8
def UK :Tryz.prog.underlying 216=some (.slice 5):=A8
def I8 :Fe Tryz.prog 216 5 1 1:=KW A8
def OV :(Tryz.prog.info? 5).bind (·.zero)=some (.int .u8 0):=A8
def Wi :Tryz.prog.underlying 3=some (.int .i64):=A8
def apB :Tryz.prog.underlying 228=some (.int .u64):=A8
def rY :Tryz.prog.underlying 5=some (.int .u8):=A8
def FI :Tryz.prog.underlying 9=some (.string):=A8
def F7 :Tryz.prog.underlying 45=some (.slice 9):=A8
def JV :Dc Tryz.prog 9 false 1:=El A8
def ahR :DF Tryz.prog 51 0 0:=DK A8
def agE :DF Tryz.prog 51 1 1:=DK A8
def D5 :Dc Tryz.prog 3 false 1:=El A8
def apI :DF Tryz.prog 51 2 2:=DK A8
def aoP :DF Tryz.prog 51 3 3:=DK A8
def aay :Dc Tryz.prog 4 false 1:=El A8
def amB :DF Tryz.prog 51 4 4:=DK A8
def al9 :DF Tryz.prog 51 5 5:=DK A8
def aiZ :Dc Tryz.prog 45 false 1:=El A8
def agi :DF Tryz.prog 51 6 6:=DK A8
def ag7 :DF Tryz.prog 51 7 7:=DK A8
def mF :Dc Tryz.prog 49 true 9:=El A8
def aIx :(Tryz.prog.info? 49).bind (·.zero)=some (.agg #[.slice none 0 0,.slice none 0 0,.int .i64 0,.int .i64 0,.int .i64 0,.int .i64 0,.int .i64 0,.int .i64 0,.int .i64 0]):=A8
def af0 :DF Tryz.prog 49 0 0:=DK A8
def ach :Dc Tryz.prog 46 false 1:=El A8
def FU :Tryz.prog.underlying 46=some (.slice 173):=A8
def Ji :Dc Tryz.prog 173 true 2:=El A8
def rF :(Tryz.prog.info? 173).bind (·.zero)=some (.agg #[.string BZ,.int .i64 0]):=A8
def anP :DF Tryz.prog 173 0 0:=DK A8
def ap9 :DF Tryz.prog 173 1 1:=DK A8
def ao7 :DF Tryz.prog 49 1 1:=DK A8
def aKi :Dc Tryz.prog 47 false 1:=El A8
def FX :Tryz.prog.underlying 47=some (.slice 208):=A8
def Jo :Dc Tryz.prog 208 true 2:=El A8
def ae7 :(Tryz.prog.info? 208).bind (·.zero)=some (.agg #[.int .i64 0,.int .i64 0]):=A8
def ahx :DF Tryz.prog 208 0 0:=DK A8
def aBr :Dc Tryz.prog 44 false 1:=El A8
def aki :DF Tryz.prog 208 1 1:=DK A8
def akg :DF Tryz.prog 49 2 2:=DK A8
def ahw :DF Tryz.prog 49 3 3:=DK A8
def ahp :DF Tryz.prog 49 4 4:=DK A8
def ajl :DF Tryz.prog 49 5 5:=DK A8
def ahS :DF Tryz.prog 49 6 6:=DK A8
def aqT :DF Tryz.prog 49 7 7:=DK A8
def afv :DF Tryz.prog 49 8 8:=DK A8
def aKa :(Tryz.prog.info? 211).bind (·.zero)=some (.agg #[.int .i64 0,.int .i64 0,.int .i64 0,.int .i64 0,.int .i64 0,.int .i64 0,.int .i64 0]):=A8
def asI :Y4 Tryz.prog 211 1 (.agg #[.int .i64 0,.int .i64 0,.int .i64 0,.int .i64 0,.int .i64 0,.int .i64 0,.int .i64 0]):=rG A8 aKa A8
def aBS :Tryz.prog.underlying 211=some (.array 7 3):=A8
def aDQ :Dc Tryz.prog 5 false 1:=El A8
def ajL :DF Tryz.prog 55 10 10:=DK A8
def Ro :Dc Tryz.prog 51 true 16:=El A8
def Md :Fe Tryz.prog 45 9 1 16:=KW A8
def yc :Fe Tryz.prog 46 173 2 24:=KW A8
def aGk :Fe Tryz.prog 47 208 2 16:=KW A8
def aa4 :(Tryz.prog.info? 51).bind (·.zero)=some (.agg #[.string BZ,.int .i64 0,.int .i64 0,.bool false,.string BZ,.slice none 0 0,.slice none 0 0,.slice none 0 0,.slice none 0 0,.int .i64 0,.int .i64 0,.int .i64 0,.int .i64 0,.int .i64 0,.int .i64 0,.int .i64 0]):=A8
def QT :(Tryz.prog.info? 55).bind (·.zero)=some (.agg #[.int .i64 0,.string BZ,.string BZ,.int .i64 0,.bool false,.string BZ,.int .i64 0,.int .i64 0,.slice none 0 0,.slice none 0 0,.string BZ,.int .i64 0,.int .i64 0,.bool false,.string BZ,.slice none 0 0,.slice none 0 0,.slice none 0 0,.slice none 0 0,.int .i64 0,.int .i64 0,.int .i64 0,.int .i64 0,.int .i64 0,.int .i64 0,.int .i64 0,.int .i64 0,.string BZ,.int .i64 0]):=A8
def agB :DF Tryz.prog 55 3 3:=DK A8
def DY :Dc Tryz.prog 55 true 29:=El A8
def aaY :(Tryz.prog.info? 262).bind (·.zero)=some (.agg #[.slice none 0 0]):=A8
def anR :I7 Tryz.prog 262 [(0,1)] (.agg #[.slice none 0 0]):=Ja A8 aaY A8
def agx :DF Tryz.prog 55 0 0:=DK A8
def ET :Fe Tryz.prog 24 3 1 8:=KW A8
def zero3 :(Tryz.prog.info? 3).bind (·.zero)=some (.int .i64 0):=A8
def Bv :Tryz.prog.underlying 24=some (.slice 3):=A8
def arR :DF Tryz.prog 262 0 0:=DK A8
def ah0 :Dc Tryz.prog 216 false 1:=El A8
def an3 :DF Tryz.prog 55 1 1:=DK A8
def ar4 :DF Tryz.prog 55 2 2:=DK A8
def zero9 :(Tryz.prog.info? 9).bind (·.zero)=some (.string BZ):=A8
def aoa :DF Tryz.prog 55 4 4:=DK A8
def arJ :Fe Tryz.prog 303 4 1 1:=KW A8
def oI :(Tryz.prog.info? 4).bind (·.zero)=some (.bool false):=A8
def adz :Tryz.prog.underlying 303=some (.slice 4):=A8
def alT :DF Tryz.prog 55 5 5:=DK A8
def ahb :DF Tryz.prog 55 6 6:=DK A8
def aiI :DF Tryz.prog 55 7 7:=DK A8
def aiB :DF Tryz.prog 55 8 8:=DK A8
def aMk :Dc Tryz.prog 24 false 1:=El A8
def aq1 :DF Tryz.prog 55 9 9:=DK A8
def asZ :Fe Tryz.prog 304 24 1 24:=KW A8
def zero24 :(Tryz.prog.info? 24).bind (·.zero)=some (.slice none 0 0):=A8
def acZ :Tryz.prog.underlying 304=some (.slice 24):=A8
def afw :DF Tryz.prog 55 11 26:=DK A8
def aow :DF Tryz.prog 55 12 27:=DK A8
def anA :DF Tryz.prog 53 0 0:=DK A8
def aiT :DF Tryz.prog 53 1 1:=DK A8
def aeg :(Tryz.prog.info? 53).bind (·.zero)=some (.agg #[.string BZ,.int .i64 0]):=A8
def apk :I7 Tryz.prog 53 [(0,1),(1,1)] (.agg #[.string BZ,.int .i64 0]):=Ja A8 aeg A8
def ahd :Dc Tryz.prog 53 true 2:=El A8
def ajf :DV Tryz.prog 137=true:=A8
def LM :Fe Tryz.prog 22 55 29 376:=KW A8
def aqf :I7 Tryz.prog 55 [(0,1),(1,1),(2,1),(3,1),(4,1),(5,1),(6,1),(7,1),(8,1),(9,1),(10,16),(26,1),(27,2)] (.agg #[.int .i64 0,.string BZ,.string BZ,.int .i64 0,.bool false,.string BZ,.int .i64 0,.int .i64 0,.slice none 0 0,.slice none 0 0,.string BZ,.int .i64 0,.int .i64 0,.bool false,.string BZ,.slice none 0 0,.slice none 0 0,.slice none 0 0,.slice none 0 0,.int .i64 0,.int .i64 0,.int .i64 0,.int .i64 0,.int .i64 0,.int .i64 0,.int .i64 0,.int .i64 0,.string BZ,.int .i64 0]):=Ja A8 QT A8
def aiM :I7 Tryz.prog 51 [(0,1),(1,1),(2,1),(3,1),(4,1),(5,1),(6,1),(7,9)] (.agg #[.string BZ,.int .i64 0,.int .i64 0,.bool false,.string BZ,.slice none 0 0,.slice none 0 0,.slice none 0 0,.slice none 0 0,.int .i64 0,.int .i64 0,.int .i64 0,.int .i64 0,.int .i64 0,.int .i64 0,.int .i64 0]):=Ja A8 aa4 A8
def as6 :DV Tryz.prog 237=true:=A8
def amZ :DV Tryz.prog 238=true:=A8
def aI2 :(Tryz.prog.info? 314).bind (·.zero)=some (.agg #[.int .i64 0,.nilFunc]):=A8
def agb :I7 Tryz.prog 314 [(0,1),(1,1)] (.agg #[.int .i64 0,.nilFunc]):=Ja A8 aI2 A8
def akZ :Fe Tryz.prog 315 314 2 16:=KW A8
def aL1 :Tryz.prog.underlying 315=some (.slice 314):=A8
def aMF :Dc Tryz.prog 314 true 2:=El A8
def aog :DF Tryz.prog 314 0 0:=DK A8
def asP :DF Tryz.prog 314 1 1:=DK A8
def akf :Dc Tryz.prog 244 false 1:=El A8
def ai5 :DV Tryz.prog 359=true:=A8
def ahl :DV Tryz.prog 360=true:=A8
def ale :DV Tryz.prog 361=true:=A8
def arU :DV Tryz.prog 362=true:=A8
def aiR :DV Tryz.prog 363=true:=A8
def akH :DV Tryz.prog 364=true:=A8
def akq :Tryz.prog.underlying 4=some (.bool):=A8
def uN (x y:He):Bool:=(x.User.toList==y.User.toList&&(x.N==y.N&&true))
def alO (x y:He):dG Tryz.prog 2 173 [.string x.User,.int .i64 x.N] [.string y.User,.int .i64 y.N] (uN x y):=⟨fun d w=>xI A8 A8 A8 (l:=[(9,0),(3,1)]) A8 (VQ (L8 JV A8 w) (L8 JV A8 w) (run_equalIn_string w _ _ _ _ FI)<|VQ (L8 D5 A8 w) (L8 D5 A8 w) (Yo w _ _ .i64 _ _ _ Wi)<|zk _ _ _ _)⟩
def ari :Program.eqGuardType Tryz.prog (Program.depth Tryz.prog) 173=false:=A8
def aaG :Tryz.prog.underlying 44=some (.int .i64):=A8
def uh (x y:IL):Bool:=(x.Kind==y.Kind&&(x.N==y.N&&true))
def asv (x y:IL):dG Tryz.prog 2 208 [.int .i64 x.Kind,.int .i64 x.N] [.int .i64 y.Kind,.int .i64 y.N] (uh x y):=⟨fun d w=>xI A8 A8 A8 (l:=[(44,0),(3,1)]) A8 (VQ (L8 aBr A8 w) (L8 aBr A8 w) (Yo w _ _ .i64 _ _ _ aaG)<|VQ (L8 D5 A8 w) (L8 D5 A8 w) (Yo w _ _ .i64 _ _ _ Wi)<|zk _ _ _ _)⟩
def aq7 :Program.eqGuardType Tryz.prog (Program.depth Tryz.prog) 208=false:=A8
def tu (x y:Na):Bool:=(x.Server.toList==y.Server.toList&&(x.Sum==y.Sum&&true))
def alI (x y:Na):dG Tryz.prog 2 53 [.string x.Server,.int .i64 x.Sum] [.string y.Server,.int .i64 y.Sum] (tu x y):=⟨fun d w=>xI A8 A8 A8 (l:=[(9,0),(3,1)]) A8 (VQ (L8 JV A8 w) (L8 JV A8 w) (run_equalIn_string w _ _ _ _ FI)<|VQ (L8 D5 A8 w) (L8 D5 A8 w) (Yo w _ _ .i64 _ _ _ Wi)<|zk _ _ _ _)⟩
def aoz :Program.eqGuardType Tryz.prog (Program.depth Tryz.prog) 53=false:=A8
def P8 :Tryz.prog.underlying 144=some (.map 3 3):=A8
def GU :KeyTy Tryz.prog 3 Au:=afC Wi
def apH :(Tryz.prog.info? 144).bind (·.zero)=some (.map none):=A8
def akT :Dc Tryz.prog 144 false 1:=El A8
def aFa :Fe Tryz.prog 185 187 2 16:=KW A8
def SPr :(Tryz.prog.info? 187).bind (·.zero)=some (.agg #[.int .i64 0,.int .i64 0]):=A8
def afp :I7 Tryz.prog 187 [(0,1),(1,1)] (.agg #[.int .i64 0,.int .i64 0]):=Ja A8 SPr A8
def WM :Tryz.prog.underlying 185=some (.slice 187):=A8
def RS :Dc Tryz.prog 187 true 2:=El A8
def asQ :DF Tryz.prog 187 0 0:=DK A8
def aku :DF Tryz.prog 187 1 1:=DK A8
def XJ :Tryz.prog.underlying 25=some (.slice 92):=A8
def IW :Dc Tryz.prog 92 true 3:=El A8
def Zo :(Tryz.prog.info? 92).bind (·.zero)=some (.agg #[.int .i64 0,.string BZ,.int .i64 0]):=A8
def ah2 :I7 Tryz.prog 92 [(0,1),(1,1),(2,1)] (.agg #[.int .i64 0,.string BZ,.int .i64 0]):=Ja A8 Zo A8
def alL :DF Tryz.prog 92 0 0:=DK A8
def aqz :DF Tryz.prog 92 1 1:=DK A8
def amq :DV Tryz.prog 145=true:=A8
def aoq :DV Tryz.prog 147=true:=A8
def Gi :Tryz.prog.underlying 26=some (.slice 92):=A8
def agv :DF Tryz.prog 92 2 2:=DK A8
def VR :Tryz.prog.underlying 119=some (.slice 26):=A8
def kL :Dc Tryz.prog 26 false 1:=El A8
def zero26 :(Tryz.prog.info? 26).bind (·.zero)=some (.slice none 0 0):=A8
def arO :Dc Tryz.prog 119 false 1:=El A8
def adu :DV Tryz.prog 130=true:=A8
def Tn :Fe Tryz.prog 26 92 3 32:=KW A8
def vY :DV Tryz.prog 60=true:=A8
def Yt :Tryz.prog.underlying 104=some (.map 3 4):=A8
def ank :DV Tryz.prog 300=true:=A8
def ahu :DV Tryz.prog 301=true:=A8
def aJV :DV Tryz.prog 229=true:=A8
def aJh :DV Tryz.prog 302=true:=A8
def oL :DV Tryz.prog 163=true:=A8
def arL :DV Tryz.prog 397=true:=A8
def amG :Dc Tryz.prog 22 false 1:=El A8
def aIw :(Tryz.prog.info? 150).bind (·.zero)=some (.agg #[.int .i64 0]):=A8
def amW :I7 Tryz.prog 150 [(0,1)] (.agg #[.int .i64 0]):=Ja A8 aIw A8
def akS :(match Tryz.prog.underlying 150 with |some (.interface _)=>false|some _=>true|none=>false)=true:=A8
def ig :DV Tryz.prog 86=true:=A8
def Rx :DV Tryz.prog 84=true:=A8
def aeH :(Tryz.prog.info? 200).bind (·.zero)=some (.agg #[.int .i64 0,.int .i64 0,.int .i64 0,.int .i64 0,.int .i64 0]):=A8
def amo :Y4 Tryz.prog 200 1 (.agg #[.int .i64 0,.int .i64 0,.int .i64 0,.int .i64 0,.int .i64 0]):=rG A8 aeH A8
def apD :Dc Tryz.prog 200 true 5:=El A8
def aeh :Tryz.prog.underlying 200=some (.array 5 3):=A8
def amY :DV Tryz.prog 240=true:=A8
def ar2 :I7 Tryz.prog 49 [(0,1),(1,1),(2,1),(3,1),(4,1),(5,1),(6,1),(7,1),(8,1)] (.agg #[.slice none 0 0,.slice none 0 0,.int .i64 0,.int .i64 0,.int .i64 0,.int .i64 0,.int .i64 0,.int .i64 0,.int .i64 0]):=Ja A8 aIx A8
def apE :I7 Tryz.prog 173 [(0,1),(1,1)] (.agg #[.string BZ,.int .i64 0]):=Ja A8 rF A8
def al2 :DV Tryz.prog 123=true:=A8
def adK :Dc Tryz.prog 211 true 7:=El A8
def aJF :DV Tryz.prog 184=true:=A8
def aI0 :DV Tryz.prog 183=true:=A8
def aId :(Tryz.prog.info? 213).bind (·.zero)=some (.agg #[.slice none 0 0,.slice none 0 0]):=A8
def afH :Y4 Tryz.prog 213 1 (.agg #[.slice none 0 0,.slice none 0 0]):=rG A8 aId A8
def ai2 :Tryz.prog.underlying 213=some (.array 2 47):=A8
def adH :(Tryz.prog.info? 214).bind (·.zero)=some (.agg #[.slice none 0 0,.slice none 0 0]):=A8
def ape :Y4 Tryz.prog 214 1 (.agg #[.slice none 0 0,.slice none 0 0]):=rG A8 adH A8
def ag1 :Tryz.prog.underlying 214=some (.array 2 46):=A8
def alE :DV Tryz.prog 82=true:=A8
def ad9 :(Tryz.prog.info? 317).bind (·.zero)=some (.agg #[]):=A8
def ahD :I7 Tryz.prog 317 [] (.agg #[]):=Ja A8 ad9 A8
def anB :(match Tryz.prog.underlying 317 with |some (.interface _)=>false|some _=>true|none=>false)=true:=A8
def aeR :DV Tryz.prog 305=true:=A8
def aoX :Tryz.prog.underlying 89=some (.int .u64):=A8
def anl :(Tryz.prog.info? 147).bind (·.zero)=some (.agg #[.slice none 0 0,.slice none 0 0,.slice none 0 0]):=A8
def aLN :(Tryz.prog.info? 194).bind (·.zero)=some (.agg #[]):=A8
def ags :I7 Tryz.prog 194 [] (.agg #[]):=Ja A8 aLN A8
def aqW :(match Tryz.prog.underlying 194 with |some (.interface _)=>false|some _=>true|none=>false)=true:=A8
def aI7 :(Tryz.prog.info? 284).bind (·.zero)=some (.agg #[.int .i64 0,.string BZ]):=A8
def aiW :I7 Tryz.prog 284 [(0,1),(1,1)] (.agg #[.int .i64 0,.string BZ]):=Ja A8 aI7 A8
def aDn :Fe Tryz.prog 279 284 2 24:=KW A8
def dX :Tryz.prog.underlying 279=some (.slice 284):=A8
def jc :Dc Tryz.prog 284 true 2:=El A8
def aoW :DF Tryz.prog 284 0 0:=DK A8
def aoT :DF Tryz.prog 284 1 1:=DK A8
def adC :DV Tryz.prog 298=true:=A8
def aFW :(Tryz.prog.info? 347).bind (·.zero)=some (.agg #[.int .i64 0,.int .i64 0,.int .i64 0,.slice none 0 0]):=A8
def aiO :I7 Tryz.prog 347 [(0,1),(1,1),(2,1),(3,1)] (.agg #[.int .i64 0,.int .i64 0,.int .i64 0,.slice none 0 0]):=Ja A8 aFW A8
def aCM :Fe Tryz.prog 344 347 4 48:=KW A8
def Ur :Tryz.prog.underlying 344=some (.slice 347):=A8
def YT :Dc Tryz.prog 347 true 4:=El A8
def ao4 :DF Tryz.prog 347 3 3:=DK A8
def ahZ :DF Tryz.prog 347 0 0:=DK A8
def ag5 :DF Tryz.prog 347 1 1:=DK A8
def ajm :DF Tryz.prog 347 2 2:=DK A8
def afs :DV Tryz.prog 416=true:=A8
def aoA :DV Tryz.prog 413=true:=A8
def anF :qP Tryz.prog 194 "fedchat/resolve.sort" 413=true:=A8
def aiH :DF Tryz.prog 147 1 1:=DK A8
def aIc :(Tryz.prog.info? 197).bind (·.zero)=some (.agg #[.slice none 0 0]):=A8
def aiA :I7 Tryz.prog 197 [(0,1)] (.agg #[.slice none 0 0]):=Ja A8 aIc A8
def ao5 :(match Tryz.prog.underlying 197 with |some (.interface _)=>false|some _=>true|none=>false)=true:=A8
def asr :DF Tryz.prog 197 0 0:=DK A8
def aEV :(Tryz.prog.info? 351).bind (·.zero)=some (.agg #[.int .i64 0,.int .i64 0,.int .i64 0]):=A8
def ajM :I7 Tryz.prog 351 [(0,1),(1,1),(2,1)] (.agg #[.int .i64 0,.int .i64 0,.int .i64 0]):=Ja A8 aEV A8
def aef :Fe Tryz.prog 349 351 3 24:=KW A8
def fE :Tryz.prog.underlying 349=some (.slice 351):=A8
def Zm :Dc Tryz.prog 351 true 3:=El A8
def iE (x y:LH):Bool:=(x.lu==y.lu&&(x.wY==y.wY&&(x.yX==y.yX&&true)))
def akK (x y:LH):dG Tryz.prog 2 351 [.int .i64 x.lu,.int .i64 x.wY,.int .i64 x.yX] [.int .i64 y.lu,.int .i64 y.wY,.int .i64 y.yX] (iE x y):=⟨fun d w=>xI A8 A8 A8 (l:=[(3,0),(3,1),(3,2)]) A8 (VQ (L8 D5 A8 w) (L8 D5 A8 w) (Yo w _ _ .i64 _ _ _ Wi)<|VQ (L8 D5 A8 w) (L8 D5 A8 w) (Yo w _ _ .i64 _ _ _ Wi)<|VQ (L8 D5 A8 w) (L8 D5 A8 w) (Yo w _ _ .i64 _ _ _ Wi)<|zk _ _ _ _)⟩
def ajz :Program.eqGuardType Tryz.prog (Program.depth Tryz.prog) 351=false:=A8
def aic :DF Tryz.prog 351 0 0:=DK A8
def afj :DV Tryz.prog 418=true:=A8
def aij :qP Tryz.prog 197 "fedchat/resolve.sort" 418=true:=A8
def apW :DF Tryz.prog 147 0 0:=DK A8
def akR :DF Tryz.prog 147 2 2:=DK A8
def abK :Dc Tryz.prog 147 true 3:=El A8
def ain :fG Tryz.prog 147 0 0 false 1=true:=A8
def zero22 :(Tryz.prog.info? 22).bind (·.zero)=some (.slice none 0 0):=A8
def aew :DF Tryz.prog 115 2 2:=DK A8
def aoy :Dc Tryz.prog 113 false 1:=El A8
def fM :Tryz.prog.underlying 113=some (.map 3 68):=A8
def Yx :(Tryz.prog.info? 68).bind (·.zero)=some (.int .i64 0):=A8
def aso :DF Tryz.prog 115 1 1:=DK A8
def ahq :Dc Tryz.prog 112 false 1:=El A8
def YG :Tryz.prog.underlying 112=some (.map 3 26):=A8
def xO :Fe Tryz.prog 119 26 1 24:=KW A8
def afq :DF Tryz.prog 115 0 0:=DK A8
def ady :(Tryz.prog.info? 115).bind (·.zero)=some (.agg #[.map none,.map none,.map none]):=A8
def aLz :I7 Tryz.prog 115 [(0,1),(1,1),(2,1)] (.agg #[.map none,.map none,.map none]):=Ja A8 ady A8
def apa :Dc Tryz.prog 109 false 1:=El A8
def apd :DV Tryz.prog 74=true:=A8
def aL6 :Fe Tryz.prog 77 58 1 8:=KW A8
def aa2 :(Tryz.prog.info? 58).bind (·.zero)=some (.int .i64 0):=A8
def aoG :Tryz.prog.underlying 77=some (.slice 58):=A8
def XR :DV Tryz.prog 327=true:=A8
def aDZ :DV Tryz.prog 328=true:=A8
def agf :DV Tryz.prog 329=true:=A8
def adh :DV Tryz.prog 380=true:=A8
def aby :(Tryz.prog.info? 70).bind (·.zero)=some (.agg #[.int .i64 0,.slice none 0 0,.slice none 0 0,.int .i64 0]):=A8
def agw :Dc Tryz.prog 70 true 4:=El A8
def apn :DF Tryz.prog 70 0 0:=DK A8
def aqg :I7 Tryz.prog 70 [(0,1),(1,1),(2,1),(3,1)] (.agg #[.int .i64 0,.slice none 0 0,.slice none 0 0,.int .i64 0]):=Ja A8 aby A8
def aoc :(Tryz.prog.info? 179).bind (·.zero)=some (.agg #[.slice none 0 0,.slice none 0 0,.slice none 0 0,.slice none 0 0,.slice none 0 0]):=A8
def ajF :DF Tryz.prog 179 0 0:=DK A8
def arn :DF Tryz.prog 179 1 1:=DK A8
def ah7 :DF Tryz.prog 179 2 2:=DK A8
def anC :DF Tryz.prog 179 3 3:=DK A8
def ane :DF Tryz.prog 179 4 4:=DK A8
def ah5 :Dc Tryz.prog 179 true 5:=El A8
def agK :fG Tryz.prog 179 4 4 false 1=true:=A8
def aoD :DF Tryz.prog 70 3 3:=DK A8
def ais :Dc Tryz.prog 68 false 1:=El A8
def ahz :DF Tryz.prog 70 2 2:=DK A8
def ahV :DF Tryz.prog 70 1 1:=DK A8
def anm :DV Tryz.prog 49=true:=A8
def akO :Dc Tryz.prog 58 false 1:=El A8
def aes :DF Tryz.prog 30 1 1:=DK A8
def ahA :DF Tryz.prog 30 3 3:=DK A8
def apj :DF Tryz.prog 30 2 2:=DK A8
def alJ :Dc Tryz.prog 23 false 1:=El A8
def agn :DF Tryz.prog 30 4 4:=DK A8
def anx :DF Tryz.prog 30 5 5:=DK A8
def amC :DF Tryz.prog 30 7 7:=DK A8
def ak9 :Dc Tryz.prog 27 false 1:=El A8
def alj :DF Tryz.prog 30 8 8:=DK A8
def ali :Dc Tryz.prog 28 false 1:=El A8
def amv :DF Tryz.prog 30 0 0:=DK A8
def apQ :Dc Tryz.prog 94 true 4:=El A8
def aqd :DF Tryz.prog 94 0 0:=DK A8
def apb :Dc Tryz.prog 96 true 2:=El A8
def ahm :DF Tryz.prog 96 0 0:=DK A8
def zero30 :(Tryz.prog.info? 30).bind (·.zero)=some (.agg #[.string BZ,.slice none 0 0,.slice none 0 0,.slice none 0 0,.slice none 0 0,.slice none 0 0,.int .i64 0,.slice none 0 0,.slice none 0 0]):=A8
def apX :Dc Tryz.prog 60 true 4:=El A8
def aom :DF Tryz.prog 60 1 1:=DK A8
def apx :DF Tryz.prog 60 3 3:=DK A8
def asa :Dc Tryz.prog 30 true 9:=El A8
def aJd :(Tryz.prog.info? 60).bind (·.zero)=some (.agg #[.int .i64 0,.int .i64 0,.int .i64 0,.bool false]):=A8
def amA :I7 Tryz.prog 60 [(0,1),(1,1),(2,1),(3,1)] (.agg #[.int .i64 0,.int .i64 0,.int .i64 0,.bool false]):=Ja A8 aJd A8
def apv :I7 Tryz.prog 30 [(0,1),(1,1),(2,1),(3,1),(4,1),(5,1),(6,1),(7,1),(8,1)] (.agg #[.string BZ,.slice none 0 0,.slice none 0 0,.slice none 0 0,.slice none 0 0,.slice none 0 0,.int .i64 0,.slice none 0 0,.slice none 0 0]):=Ja A8 zero30 A8
def apU :DF Tryz.prog 30 6 6:=DK A8
def amF :Tryz.prog.underlying 58=some (.int .i64):=A8
instance asz :Kn Tryz.prog where
 und:=[(3,.int .i64),(228,.int .u64),(5,.int .u8),(9,.string),(4,.bool),(44,.int .i64),(89,.int .u64),(58,.int .i64)]
 aeM:=⟨Wi,apB,rY,FI,akq,aaG,aoX,amF,trivial⟩
 ty:=[(9,false,1),(3,false,1),(4,false,1),(45,false,1),(49,true,9),(46,false,1),(173,true,2),(47,false,1),(208,true,2),(44,false,1),(5,false,1),(51,true,16),(55,true,29),(216,false,1),(24,false,1),(53,true,2),(314,true,2),(244,false,1),(144,false,1),(187,true,2),(92,true,3),(26,false,1),(119,false,1),(22,false,1),(200,true,5),(211,true,7),(284,true,2),(347,true,4),(351,true,3),(147,true,3),(113,false,1),(112,false,1),(109,false,1),(70,true,4),(179,true,5),(68,false,1),(58,false,1),(23,false,1),(27,false,1),(28,false,1),(94,true,4),(96,true,2),(60,true,4),(30,true,9)]
 hty:=⟨JV,D5,aay,aiZ,mF,ach,Ji,aKi,Jo,aBr,aDQ,Ro,DY,ah0,aMk,ahd,aMF,akf,akT,RS,IW,kL,arO,amG,apD,adK,jc,YT,Zm,abK,aoy,ahq,apa,agw,ah5,ais,akO,alJ,ak9,ali,apQ,apb,apX,asa,trivial⟩
 fld:=[((51,0),0),((51,1),1),((51,2),2),((51,3),3),((51,4),4),((51,5),5),((51,6),6),((51,7),7),((49,0),0),((173,0),0),((173,1),1),((49,1),1),((208,0),0),((208,1),1),((49,2),2),((49,3),3),((49,4),4),((49,5),5),((49,6),6),((49,7),7),((49,8),8),((55,10),10),((55,3),3),((55,0),0),((262,0),0),((55,1),1),((55,2),2),((55,4),4),((55,5),5),((55,6),6),((55,7),7),((55,8),8),((55,9),9),((55,11),26),((55,12),27),((53,0),0),((53,1),1),((314,0),0),((314,1),1),((187,0),0),((187,1),1),((92,0),0),((92,1),1),((92,2),2),((284,0),0),((284,1),1),((347,3),3),((347,0),0),((347,1),1),((347,2),2),((147,1),1),((197,0),0),((351,0),0),((147,0),0),((147,2),2),((115,2),2),((115,1),1),((115,0),0),((70,0),0),((179,0),0),((179,1),1),((179,2),2),((179,3),3),((179,4),4),((70,3),3),((70,2),2),((70,1),1),((30,1),1),((30,3),3),((30,2),2),((30,4),4),((30,5),5),((30,7),7),((30,8),8),((30,0),0),((94,0),0),((96,0),0),((60,1),1),((60,3),3),((30,6),6)]
 hfld:=⟨ahR,agE,apI,aoP,amB,al9,agi,ag7,af0,anP,ap9,ao7,ahx,aki,akg,ahw,ahp,ajl,ahS,aqT,afv,ajL,agB,agx,arR,an3,ar4,aoa,alT,ahb,aiI,aiB,aq1,afw,aow,anA,aiT,aog,asP,asQ,aku,alL,aqz,agv,aoW,aoT,ao4,ahZ,ag5,ajm,aiH,asr,aic,apW,akR,aew,aso,afq,apn,ajF,arn,ah7,anC,ane,aoD,ahz,ahV,aes,ahA,apj,agn,anx,amC,alj,amv,aqd,ahm,aom,apx,apU,trivial⟩
 part:=[((147,0),0,false,1),((179,4),4,false,1)]
 hpart:=⟨ain,agK,trivial⟩
 zero:=[(5,.int .u8 0),(49,.agg #[.slice none 0 0,.slice none 0 0,.int .i64 0,.int .i64 0,.int .i64 0,.int .i64 0,.int .i64 0,.int .i64 0,.int .i64 0]),(173,.agg #[.string BZ,.int .i64 0]),(208,.agg #[.int .i64 0,.int .i64 0]),(211,.agg #[.int .i64 0,.int .i64 0,.int .i64 0,.int .i64 0,.int .i64 0,.int .i64 0,.int .i64 0]),(51,.agg #[.string BZ,.int .i64 0,.int .i64 0,.bool false,.string BZ,.slice none 0 0,.slice none 0 0,.slice none 0 0,.slice none 0 0,.int .i64 0,.int .i64 0,.int .i64 0,.int .i64 0,.int .i64 0,.int .i64 0,.int .i64 0]),(55,.agg #[.int .i64 0,.string BZ,.string BZ,.int .i64 0,.bool false,.string BZ,.int .i64 0,.int .i64 0,.slice none 0 0,.slice none 0 0,.string BZ,.int .i64 0,.int .i64 0,.bool false,.string BZ,.slice none 0 0,.slice none 0 0,.slice none 0 0,.slice none 0 0,.int .i64 0,.int .i64 0,.int .i64 0,.int .i64 0,.int .i64 0,.int .i64 0,.int .i64 0,.int .i64 0,.string BZ,.int .i64 0]),(262,.agg #[.slice none 0 0]),(3,.int .i64 0),(9,.string BZ),(4,.bool false),(24,.slice none 0 0),(53,.agg #[.string BZ,.int .i64 0]),(314,.agg #[.int .i64 0,.nilFunc]),(144,.map none),(187,.agg #[.int .i64 0,.int .i64 0]),(92,.agg #[.int .i64 0,.string BZ,.int .i64 0]),(26,.slice none 0 0),(150,.agg #[.int .i64 0]),(200,.agg #[.int .i64 0,.int .i64 0,.int .i64 0,.int .i64 0,.int .i64 0]),(213,.agg #[.slice none 0 0,.slice none 0 0]),(214,.agg #[.slice none 0 0,.slice none 0 0]),(317,.agg #[]),(147,.agg #[.slice none 0 0,.slice none 0 0,.slice none 0 0]),(194,.agg #[]),(284,.agg #[.int .i64 0,.string BZ]),(347,.agg #[.int .i64 0,.int .i64 0,.int .i64 0,.slice none 0 0]),(197,.agg #[.slice none 0 0]),(351,.agg #[.int .i64 0,.int .i64 0,.int .i64 0]),(22,.slice none 0 0),(68,.int .i64 0),(115,.agg #[.map none,.map none,.map none]),(58,.int .i64 0),(70,.agg #[.int .i64 0,.slice none 0 0,.slice none 0 0,.int .i64 0]),(179,.agg #[.slice none 0 0,.slice none 0 0,.slice none 0 0,.slice none 0 0,.slice none 0 0]),(30,.agg #[.string BZ,.slice none 0 0,.slice none 0 0,.slice none 0 0,.slice none 0 0,.slice none 0 0,.int .i64 0,.slice none 0 0,.slice none 0 0]),(60,.agg #[.int .i64 0,.int .i64 0,.int .i64 0,.bool false])]
 hzero:=⟨⟨OV,A8⟩,⟨aIx,A8⟩,⟨rF,A8⟩,⟨ae7,A8⟩,⟨aKa,A8⟩,⟨aa4,A8⟩,⟨QT,A8⟩,⟨aaY,A8⟩,⟨zero3,A8⟩,⟨zero9,A8⟩,⟨oI,A8⟩,⟨zero24,A8⟩,⟨aeg,A8⟩,⟨aI2,A8⟩,⟨apH,A8⟩,⟨SPr,A8⟩,⟨Zo,A8⟩,⟨zero26,A8⟩,⟨aIw,A8⟩,⟨aeH,A8⟩,⟨aId,A8⟩,⟨adH,A8⟩,⟨ad9,A8⟩,⟨anl,A8⟩,⟨aLN,A8⟩,⟨aI7,A8⟩,⟨aFW,A8⟩,⟨aIc,A8⟩,⟨aEV,A8⟩,⟨zero22,A8⟩,⟨Yx,A8⟩,⟨ady,A8⟩,⟨aa2,A8⟩,⟨aby,A8⟩,⟨aoc,A8⟩,⟨zero30,A8⟩,⟨aJd,A8⟩,trivial⟩
 st:=[(262,[(0,1)],.agg #[.slice none 0 0]),(53,[(0,1),(1,1)],.agg #[.string BZ,.int .i64 0]),(55,[(0,1),(1,1),(2,1),(3,1),(4,1),(5,1),(6,1),(7,1),(8,1),(9,1),(10,16),(26,1),(27,2)],.agg #[.int .i64 0,.string BZ,.string BZ,.int .i64 0,.bool false,.string BZ,.int .i64 0,.int .i64 0,.slice none 0 0,.slice none 0 0,.string BZ,.int .i64 0,.int .i64 0,.bool false,.string BZ,.slice none 0 0,.slice none 0 0,.slice none 0 0,.slice none 0 0,.int .i64 0,.int .i64 0,.int .i64 0,.int .i64 0,.int .i64 0,.int .i64 0,.int .i64 0,.int .i64 0,.string BZ,.int .i64 0]),(51,[(0,1),(1,1),(2,1),(3,1),(4,1),(5,1),(6,1),(7,9)],.agg #[.string BZ,.int .i64 0,.int .i64 0,.bool false,.string BZ,.slice none 0 0,.slice none 0 0,.slice none 0 0,.slice none 0 0,.int .i64 0,.int .i64 0,.int .i64 0,.int .i64 0,.int .i64 0,.int .i64 0,.int .i64 0]),(314,[(0,1),(1,1)],.agg #[.int .i64 0,.nilFunc]),(187,[(0,1),(1,1)],.agg #[.int .i64 0,.int .i64 0]),(92,[(0,1),(1,1),(2,1)],.agg #[.int .i64 0,.string BZ,.int .i64 0]),(150,[(0,1)],.agg #[.int .i64 0]),(49,[(0,1),(1,1),(2,1),(3,1),(4,1),(5,1),(6,1),(7,1),(8,1)],.agg #[.slice none 0 0,.slice none 0 0,.int .i64 0,.int .i64 0,.int .i64 0,.int .i64 0,.int .i64 0,.int .i64 0,.int .i64 0]),(173,[(0,1),(1,1)],.agg #[.string BZ,.int .i64 0]),(317,[],.agg #[]),(194,[],.agg #[]),(284,[(0,1),(1,1)],.agg #[.int .i64 0,.string BZ]),(347,[(0,1),(1,1),(2,1),(3,1)],.agg #[.int .i64 0,.int .i64 0,.int .i64 0,.slice none 0 0]),(197,[(0,1)],.agg #[.slice none 0 0]),(351,[(0,1),(1,1),(2,1)],.agg #[.int .i64 0,.int .i64 0,.int .i64 0]),(115,[(0,1),(1,1),(2,1)],.agg #[.map none,.map none,.map none]),(70,[(0,1),(1,1),(2,1),(3,1)],.agg #[.int .i64 0,.slice none 0 0,.slice none 0 0,.int .i64 0]),(60,[(0,1),(1,1),(2,1),(3,1)],.agg #[.int .i64 0,.int .i64 0,.int .i64 0,.bool false]),(30,[(0,1),(1,1),(2,1),(3,1),(4,1),(5,1),(6,1),(7,1),(8,1)],.agg #[.string BZ,.slice none 0 0,.slice none 0 0,.slice none 0 0,.slice none 0 0,.slice none 0 0,.int .i64 0,.slice none 0 0,.slice none 0 0])]
 hst:=⟨anR,apk,aqf,aiM,agb,afp,ah2,amW,ar2,apE,ahD,ags,aiW,aiO,aiA,ajM,aLz,aqg,amA,apv,trivial⟩
 arr:=[(211,1,.agg #[.int .i64 0,.int .i64 0,.int .i64 0,.int .i64 0,.int .i64 0,.int .i64 0,.int .i64 0]),(200,1,.agg #[.int .i64 0,.int .i64 0,.int .i64 0,.int .i64 0,.int .i64 0]),(213,1,.agg #[.slice none 0 0,.slice none 0 0]),(214,1,.agg #[.slice none 0 0,.slice none 0 0])]
 harr:=⟨asI,amo,afH,ape,trivial⟩
abbrev BL :=fun x=>BI.arr 3 1 (List.map AV x)
abbrev Zx :=fun x=>BI.arr 284 2 (List.map JL x)
abbrev DX :=fun x=>BI.arr 55 29 (List.map Am x)
abbrev Xy :=fun x=>BI.arr 347 4 (List.map KD x)
abbrev Nz :=fun x=>BI.arr 351 3 (List.map Lc x)
abbrev Dh :=fun x=>BI.arr 92 3 (List.map BD x)
abbrev Yj :=fun x=>BI.arr 26 1 (List.map (Ai BD) x)
abbrev Sj :=fun x=>BI.arr 58 1 (List.map AV x)
abbrev Ig :=fun x=>BI.arr 9 1 (List.map CO x)
abbrev BX :=fun x=>BI.arr 5 1 (List.map CV x)
abbrev Uh :=fun x=>BI.arr 173 2 (List.map ES x)
abbrev VP :=fun x=>BI.arr 208 2 (List.map EY x)
abbrev NR :=fun x=>BI.arr 187 2 (List.map Gv x)
abbrev Bz :=fun x=>Ac.d ((Ai AV) x)
abbrev AQ :=fun x=>Ac.d (AV x)
abbrev Ah :=fun x=>Ac.d (Cm x)
abbrev Dj :=fun x=>Ac.d (Am x)
abbrev Dl :=fun x=>Ac.d ((Ai BD) x)
abbrev BR :=fun x=>Ac.d ((Ai Am) x)
abbrev Sz :=fun x=>Ac.d ((Ai KD) x)
abbrev MG :=fun x=>Ac.d ((Ai (Ai BD)) x)
abbrev Cx :=fun x=>Ac.d (CO x)
abbrev X7 :=fun x=>Ac.d (BD x)
abbrev GV :=fun x=>Ac.d ((Ai CO) x)
abbrev Jf :=fun x=>Ac.d (Ea x)
abbrev GK :=fun x=>Ac.d ((Ai CV) x)
abbrev G7 :=fun x=>Ac.d (EK x)
abbrev ND :=fun x=>Ac.d ((Ai ES) x)
abbrev Me :=fun x=>Ac.d ((Ai EY) x)
end Go.Proofs.YtolgdkhlelfpoaaGreat
end
section
namespace Go.Proofs.YtolgdkhlelfpoaaGreat
open Go.RowKit
set_option maxRecDepth 20000
set_option maxHeartbeats 4000000
abbrev Aq:=List AP
def aII (f:Aq):Option Bool:=some (decide ((f.length:Int)≤14))
def anN (aB r) (h:aII aB=some r):BF 32 [BR aB] [] (Ah r) []:=Ak.aG Tryz.func32 rfl<|AU<|AL<|.a 1<|.p (BQ Am aB Ci rfl)<|.aW<|CS
def Vd (f:AZ) (j:Int):Option AZ:=(Ia 1 0 (f.length:Int) (BJ ((f.length:Int)+j))).bind fun m=>some (gCopy m f)
def pI (fJ anT r) (h:Vd fJ anT=some r):BF 334 [GK fJ,AQ anT] [] (.aS 0) [(BX r)]:=Ak.aG Tryz.func334 rfl<|AL<|.e [(BX [])] (Cc 5 1 rfl)<|.aY<|AO h fun f j h=>AL<|.a 1<|.p (BQ CV fJ UK rfl)<|.a 1<|.p (BQ CV fJ UK rfl)<|.a 2<|.e [(BX []),(BX f)] (Z5 CV 0 j I8 OV A8 A8 A8 BU rfl)<|.aW<|AL<|.a 2<|.e [(BX []),(BX (gCopy f fJ))] (amR (k:=1) CV f fJ I8 A8 (fun _=>rfl) rfl)<|.aY<|AU<|QH
def V7  (m:(AZ→Int→Option AZ)):AZ→Int→Option AZ:=fun j f=>(bif decide (f≥128)then(DN 1 j [Du .or .u8 (IntKind.u8.wrap f) 128]).bind fun q=>(Kv .shr .u64 f 7).bind fun s=>m q s else(DN 1 j [IntKind.u8.wrap f]).bind fun u=>some u)
def aIy  :AZ→Int→Option AZ:=aX (V7) BA
def aBd (f:AZ) (j:Int):Option AZ:=aIy f j
def Vf (f:AZ) (j:Int):Option AZ:=(Kv .shl .u64 (IntKind.u64.wrap j) 1).bind fun m=>(bif decide (j<0)then aBd f (Y8 .u64 m)else aBd f m)
def kV (fJ qw r) (h:Vf fJ qw=some r):BF 335 [.aS 0,AQ qw] [(BX fJ)] (.aS 1) [.dead,(BX r)]:=Ak.aG Tryz.func335 rfl<|AL<|.e [(BX fJ),(BX [])] (Cc 5 1 rfl)<|.aY<|AO h fun m q h=>AL<|.a 2<|.p (zS (k:=.u64) (k':=.u64) q rfl)<|.aW<|DJ (fun s=>∃(z:Int),CG s ⟨BN 28 [(0,.aS 1),(5,.d ((Qo .u64) z))],[.dead,(BX fJ)],1⟩∧aBd fJ z=some r) (by rintro s ⟨z,U,h⟩;exact Ce U<|Aa<|AB.block<|Dt (fun O f=>⟨BN 28 [(0,.aS 1),(5,.d ((Qo .u64) f))],[.dead,(BX O)],1⟩) _ _ _ _ (Ad 28 33 [(0,false),(1,true)]) h<|fun Y k5 I O f h=>Aa<|AU<|Ae h (fun h=>AB.skip<|AB.block<|AO h fun Z J h=>AL<|.a 3<|.p (Ux (k:=.u8) (u:=(IntKind.u8.wrap f)) (v:=128) rfl)<|.p (EG I8 OV [CV (Du .or .u8 (IntKind.u8.wrap f) 128)] rfl)<|.e [.dead,.dead,(BX Z)] (E8 (k:=1) CV J I8 A8 (fun _=>rfl) BU rfl)<|.aW<|AO h fun x8 L h=>BH<|.a 1<|.p (aDc (k:=.u64) (k':=.u64) L rfl)<|.a 1<|.nil<|I _ _ _ (Ad 28 33 [(0,false),(2,true)]) h) fun h=>AB.exit<|AO h fun x9 M h=>AL<|.a 3<|.p (EG I8 OV [CV (IntKind.u8.wrap f)] rfl)<|.e [.dead,.dead,(BX x9)] (E8 (k:=1) CV M I8 A8 (fun _=>rfl) BU rfl)<|.aW<|by cases h;exact .ret (EO [(0,false),(2,true)]))<|fun j=>AU<|Ae h (fun h=>BH<|.a 1<|.p (ads (k:=.u64) (u:=m) rfl)<|.a 1<|.nil<|j _ ⟨(Y8 .u64 m),Ad 28 33 [(0,false),(0,true)],h⟩) fun h=>AB.skip<|j _ ⟨m,Ad 28 33 [(0,false),(0,true)],h⟩
def qm (j:AZ) (f:ByteArray):Option AZ:=(Vf j (f.size:Int)).bind fun m=>(DN 1 m (Bg f)).bind fun q=>some q
def aL5 (fJ iO r) (h:qm fJ iO=some r):BF 333 [.aS 0,Cx iO] [(BX fJ)] (.aS 1) [.dead,(BX r)]:=Ak.aG Tryz.func333 rfl<|AL<|.e [(BX fJ),(BX [])] (Cc 5 1 rfl)<|.aY<|CB h fun m f q j h=>AL<|.a 3<|.e (x:=.aS 2) [.dead,(BX []),(BX m)] (Di [.ent 0] [.aS 0,AQ (iO.size:Int)] (kV fJ (iO.size:Int) m f) rfl)<|.a 1<|.e [.dead,(BX []),.dead,(BX q)] (alb (k:=2) j I8 OV FI A8 rfl)<|.aW<|by cases h;exact .ret (EO [(0,false),(3,true)])
def PY (j:AZ) (f:ByteArray):Option AZ:=(Vd j (BJ ((f.size:Int)+10))).bind fun m=>(qm m f).bind fun q=>some q
def aA3 (fJ iO r) (h:PY fJ iO=some r):BF 251 [GK fJ,Cx iO] [] (.aS 0) [(BX r)]:=Ak.aG Tryz.func251 rfl<|AL<|.e [(BX [])] (Cc 5 1 rfl)<|.aY<|CB h fun f j q m h=>AL<|.a 4<|.e (x:=.aS 1) [(BX []),(BX f)] (Nl [GK fJ,AQ (BJ ((iO.size:Int)+10))] (pI fJ (BJ ((iO.size:Int)+10)) f j) rfl)<|.a 1<|.e (x:=.aS 2) [(BX []),.dead,(BX q)] (Di [.ent 1] [.aS 1,Cx iO] (aL5 f iO q m) rfl)<|.aW<|Ky
def Lm (f:AZ) (j:Int):Option AZ:=(Vd f 10).bind fun m=>(Vf m j).bind fun q=>some q
def UH (fJ qw r) (h:Lm fJ qw=some r):BF 252 [GK fJ,AQ qw] [] (.aS 0) [(BX r)]:=Ak.aG Tryz.func252 rfl<|AL<|.e [(BX [])] (Cc 5 1 rfl)<|.aY<|CB h fun f j q m h=>AL<|.a 1<|.e (x:=.aS 1) [(BX []),(BX f)] (Nl [GK fJ,AQ 10] (pI fJ 10 f j) rfl)<|.a 1<|.e (x:=.aS 2) [(BX []),.dead,(BX q)] (Di [.ent 1] [.aS 1,AQ qw] (kV f qw q m) rfl)<|.aW<|Ky
def XG (j:AZ) (f:Bool):Option AZ:=(Vd j 1).bind fun m=>(bif f then(DN 1 m [1]).bind fun q=>some q else(DN 1 m [0]).bind fun s=>some s)
def aLI (fJ JU r) (h:XG fJ JU=some r):BF 253 [GK fJ,Ah JU] [] (.aS 0) [(BX r)]:=Ak.aG Tryz.func253 rfl<|AL<|.e [(BX [])] (Cc 5 1 rfl)<|.aY<|AO h fun q f h=>AL<|.a 1<|.e (x:=.aS 1) [(BX []),(BX q)] (Nl [GK fJ,AQ 1] (pI fJ 1 q f) rfl)<|.aW<|Aa<|AU<|Ae h (fun h=>AO h fun s j h=>AL<|.a 1<|.p (EG I8 OV [CV 1] rfl)<|.e [(BX []),.dead,(BX s)] (E8 (k:=1) CV j I8 A8 (fun _=>rfl) BU rfl)<|.aW<|Ky) fun h=>AB.skip<|AO h fun u m h=>AL<|.a 1<|.p (EG I8 OV [CV 0] rfl)<|.e [(BX []),.dead,(BX u)] (E8 (k:=1) CV m I8 A8 (fun _=>rfl) BU rfl)<|.aW<|Ky
abbrev FH:=List ByteArray
def aI8 (f:FH) (q:(AZ→Int→Option AZ)):AZ→Int→Option AZ:=fun m j=>(bif decide (j<(f.length:Int))then(BK f j).bind fun s=>(qm m s).bind fun u=>q u (BJ (j+1))else some m)
def aIu (f:FH):AZ→Int→Option AZ:=aX (aI8 f) BA
def aAr (j:AZ) (f:FH):Option AZ:=(Vf j (f.length:Int)).bind fun m=>aIu f m 0
def aqV (fJ dh r) (h:aAr fJ dh=some r):BF 336 [.aS 0,GV dh,.d (.fn (.func 333) [] [])] [(BX fJ)] (.aS 1) [.dead,(BX r)]:=Ak.aG Tryz.func336 rfl<|AL<|.e [(BX fJ),(BX [])] (Cc 5 1 rfl)<|.aY<|AO h fun u f h=>AL<|.a 2<|.p (BQ CO dh F7 rfl)<|.e (x:=.aS 2) [.dead,(BX []),(BX u)] (Di [.ent 0] [.aS 0,AQ (dh.length:Int)] (kV fJ (dh.length:Int) u f) rfl)<|.aW<|Aa<|AL<|.a 1<|.p (BQ CO dh F7 rfl)<|.aW<|AB.block<|Dt (fun j z=>⟨BN 25 [(0,.aS 1),(2,.d (.fn (.func 333) [] [])),(13,GV dh),(14,AQ (dh.length:Int)),(15,AQ z)],[.dead,(BX j)],1⟩) _ _ _ _ (Ad 25 57349 [(0,false),(2,true)]) h<|fun L M m j z h=>AU<|Aa<|Ae h (fun h=>AB.skip<|Aa<|AB.block<|AO h fun I q h=>AL<|.p (BP CO q F7 JV rfl)<|.aW<|AO h fun J s h=>BH<|.a 3<|.e (x:=.aS 2) [.dead,.dead,(BX J)] (aa7 [.ent 1] [] [] [.aS 1,Cx I] (aL5 j I J s) rfl)<|.a 1<|.nil<|BH<|.a 2<|.nil<|m _ _ _ (Ad 25 57349 [(0,false),(2,true)]) h) fun h=>AB.exit<|AU<|vM
def eK (j:AZ) (f:FH):Option AZ:=(Vd j (BJ ((BJ (8*(f.length:Int)))+10))).bind fun m=>(aAr m f).bind fun q=>some q
def aJ4 (fJ dh r) (h:eK fJ dh=some r):BF 254 [GK fJ,GV dh] [] (.aS 0) [(BX r)]:=Ak.aG Tryz.func254 rfl<|AL<|.e [(BX [])] (Cc 5 1 rfl)<|.aY<|CB h fun f j q m h=>AL<|.a 2<|.p (BQ CO dh F7 rfl)<|.a 2<|.e (x:=.aS 1) [(BX []),(BX f)] (Nl [GK fJ,AQ (BJ ((BJ (8*(dh.length:Int)))+10))] (pI fJ (BJ ((BJ (8*(dh.length:Int)))+10)) f j) rfl)<|.a 1<|.e (x:=.aS 2) [(BX []),.dead,(BX q)] (Di [.ent 1] [.aS 1,GV dh,.d (.fn (.func 333) [] [])] (aqV f dh q m) rfl)<|.aW<|Ky
def aGJ (f:Bo) (q:(AZ→Int→Option AZ)):AZ→Int→Option AZ:=fun m j=>(bif decide (j<7)then(BK ([f.Levels.User,f.Levels.Message,f.Levels.State,f.Levels.gB,f.Levels.jT,f.Levels.nX,f.Levels.gY]:AZ) j).bind fun s=>(Lm m s).bind fun u=>q u (BJ (j+1))else some m)
def aDu (f:Bo):AZ→Int→Option AZ:=aX (aGJ f) BA
def aA7 (f:Bo) (s:(AZ→Int→Option AZ)):AZ→Int→Option AZ:=fun m j=>(bif decide (j<(f.Levels.Kinds.length:Int))then(BK f.Levels.Kinds j).bind fun q=>(Lm m q.Kind).bind fun u=>(Lm u q.N).bind fun z=>s z (BJ (j+1))else aDu f m 0)
def aGY (f:Bo):AZ→Int→Option AZ:=aX (aA7 f) BA
def uP (f:Bo) (q:(AZ→Int→Option AZ)):AZ→Int→Option AZ:=fun I j=>(bif decide (j<(f.Levels.Users.length:Int))then(BK f.Levels.Users j).bind fun m=>(PY I m.User).bind fun s=>(Lm s m.N).bind fun u=>q u (BJ (j+1))else(Lm I (f.Levels.Kinds.length:Int)).bind fun z=>aGY f z 0)
def aek (f:Bo):AZ→Int→Option AZ:=aX (uP f) BA
def mW (f:Bo):Option AZ:=(PY [] f.Text).bind fun j=>(Lm j f.N).bind fun m=>(Lm m f.Target).bind fun q=>(XG q f.Thread).bind fun s=>(PY s f.Via).bind fun u=>(eK u f.Allow).bind fun z=>(eK z f.gu).bind fun I=>(Lm I (f.Levels.Users.length:Int)).bind fun J=>aek f J 0
def aau (dH r) (h:mW dH=some r):BF 192 [G7 dH] [] (GK r) []:=Ak.aG Tryz.func192 rfl<|AU<|AO h fun x1 hx1 h=>AL<|.a 2<|.p (x:=(GK x1)) (adZ [.d (.lit (.slice none 0 0)),Cx dH.Text] (aA3 [] dH.Text x1 hx1).view rfl)<|.aW<|AO h fun x2 hx2 h=>AL<|.a 3<|.ca (UH x1 dH.N x2 hx2).view<|.aW<|AO h fun x3 hx3 h=>AL<|.a 3<|.ca (UH x2 dH.Target x3 hx3).view<|.aW<|AO h fun x4 hx4 h=>AL<|.a 3<|.ca (aLI x3 dH.Thread x4 hx4).view<|.aW<|AO h fun x5 hx5 h=>AL<|.a 3<|.ca (aA3 x4 dH.Via x5 hx5).view<|.aW<|AO h fun x6 hx6 h=>AL<|.a 3<|.ca (aJ4 x5 dH.Allow x6 hx6).view<|.aW<|AO h fun x7 hx7 h=>AL<|.a 3<|.ca (aJ4 x6 dH.gu x7 hx7).view<|.aW<|AU<|AO h fun x8 zn h=>AL<|.a 3<|.p (BQ ES dH.Levels.Users FU rfl)<|.ca (UH x7 (dH.Levels.Users.length:Int) x8 zn).view<|.aW<|Aa<|AL<|.a 2<|.p (BQ ES dH.Levels.Users FU rfl)<|.aW<|AB.block<|Dt (fun v9 m=>⟨BN 103 [(3,GK v9),(4,.ptr 0 0),(46,ND dH.Levels.Users),(47,AQ (dH.Levels.Users.length:Int)),(48,AQ m)],[.box (Ag (Ea dH.Levels))],0⟩) _ _ _ _ (Ad 103 492581209243672 [(1,true)]) h<|fun J32 k11 q v9 m h=>AU<|Aa<|Ae h (fun h=>AB.skip<|Aa<|AB.block<|AO h fun s u h=>AL<|.p (BP ES u FU Ji rfl)<|.aW<|CB h fun z I x15 J h=>AB.draw A8 A8 A8 (.a 3<|.ca (aA3 v9 s.User z I).view<|.a 2<|.ca (UH z s.N x15 J).view<|.a 1<|.nil _)<|BH<|.a 2<|.nil<|q _ _ _ (Ad 103 492581209243672 [(0,true)]) h) fun h=>AB.exit<|AO h fun x16 L h=>AL<|.a 3<|.p (BQ EY dH.Levels.Kinds FX rfl)<|.ca (UH v9 (dH.Levels.Kinds.length:Int) x16 L).view<|.aW<|Aa<|AL<|.a 2<|.p (BQ EY dH.Levels.Kinds FX rfl)<|.aW<|AB.block<|Dt (fun f M=>⟨BN 103 [(3,GK f),(4,.ptr 0 0),(66,Me dH.Levels.Kinds),(67,AQ (dH.Levels.Kinds.length:Int)),(68,AQ M)],[.box (Ag (Ea dH.Levels))],0⟩) _ _ _ _ (Ad 103 516508834063867445272 [(0,true)]) h<|fun J31 k19 O f M h=>AU<|Aa<|Ae h (fun h=>AB.skip<|Aa<|AB.block<|AO h fun U Y h=>AL<|.p (BP EY Y FX Jo rfl)<|.aW<|CB h fun Z aeU x23 aeV h=>AB.draw A8 A8 A8 (.a 3<|.ca (UH f U.Kind Z aeU).view<|.a 2<|.ca (UH Z U.N x23 aeV).view<|.a 1<|.nil _)<|BH<|.a 2<|.nil<|O _ _ _ (Ad 103 516508834063867445272 [(0,true)]) h) fun h=>AB.exit<|Aa<|AU<|AB.block<|Dt (fun j v25=>⟨BN 103 [(3,GK j),(94,.d ((Ko AV) ([dH.Levels.User,dH.Levels.Message,dH.Levels.State,dH.Levels.gB,dH.Levels.jT,dH.Levels.nX,dH.Levels.gY]:(List Int)))),(95,AQ v25)],[],0⟩) _ _ _ _ (Ad 103 59421121885698253195157962760 []) h<|fun J30 k26 asA j v25 h=>AU<|Aa<|Ae h (fun h=>AB.skip<|Aa<|AB.block<|AO h fun x28 hx28 h=>AL<|.p (aBX (k:=.i64) AV hx28 aBS D5 A8 rfl)<|.aW<|AO h fun x29 hx29 h=>BH<|.a 2<|.ca (UH j x28 x29 hx29).view<|.a 1<|.nil<|BH<|.a 2<|.nil<|asA _ _ _ (Ad 103 59421121885698253195157962760 []) h) fun h=>Eu
def aHh  :Option Int:=some 860922984064492325
def aqo  (r:Int) (h:aHh=some r):BF 250 [] [] (AQ r) []:=Ak.aG Tryz.func250 rfl<|Z9
def aCi (f:AZ) (q:(Int→Int→Option Int)):Int→Int→Option Int:=fun m j=>(bif decide (j<(f.length:Int))then(BK f j).bind fun s=>q (Du .and .u64 (IntKind.u64.wrap ((Du .xor .u64 m (IntKind.u64.wrap s))*1099511628211)) 4611686018427387903) (BJ (j+1))else some (BJ m))
def aaJ (f:AZ):Int→Int→Option Int:=aX (aCi f) BA
def aHB (f:Int) (j:AZ):Option Int:=aaJ j (Du .and .u64 (IntKind.u64.wrap f) 4611686018427387903) 0
def afb (ahy gV r) (h:aHB ahy gV=some r):BF 249 [AQ ahy,GK gV] [] (AQ r) []:=Ak.aG Tryz.func249 rfl<|AU<|AL<|.a 2<|.p (O5 (k:=.u64) (u:=(IntKind.u64.wrap ahy)) (v:=4611686018427387903) rfl)<|.aW<|Aa<|AL<|.a 1<|.p (BQ CV gV UK rfl)<|.aW<|AB.block<|Dt (fun f q=>⟨BN 26 [(5,.d ((Qo .u64) f)),(11,GK gV),(12,AQ (gV.length:Int)),(13,AQ q)],[],0⟩) _ _ _ _ (Ad 26 14368 []) h<|fun z I j f q h=>AU<|Aa<|Ae h (fun h=>AB.skip<|Aa<|AB.block<|AO h fun s m h=>AL<|.p (BP CV m UK aDQ rfl)<|.aW<|BH<|.a 3<|.p (aIr (k:=.u64) (u:=f) (v:=(IntKind.u64.wrap s)) rfl)<|.a 1<|.p (O5 (k:=.u64) (u:=(IntKind.u64.wrap ((Du .xor .u64 f (IntKind.u64.wrap s))*1099511628211))) (v:=4611686018427387903) rfl)<|.a 1<|.nil<|BH<|.a 2<|.nil<|j _ _ _ (Ad 26 14368 []) h) fun h=>Eu
def nN (f:AZ):Option Int:=(aHh).bind fun j=>(aHB j f).bind fun m=>some m
def abn (fJ r) (h:nN fJ=some r):BF 191 [GK fJ] [] (AQ r) []:=Ak.aG Tryz.func191 rfl<|AU<|CB h fun m f q j h=>AL<|.ca (aqo  m f)<|.a 1<|.ca (afb m fJ q j)<|.aW<|CS
def iT (f:AP):Option Int:=(mW f.Content).bind fun j=>(nN j).bind fun m=>some m
def aJw (aO r) (h:iT aO=some r):BF 138 [Dj aO] [] (AQ r) []:=Ak.aG Tryz.func138 rfl<|AU<|CB h fun m f q j h=>AL<|.a 2<|.ca (aau aO.Content m f)<|.ca (abn m q j)<|.aW<|CS
def Pe (f:FH):Option FH:=(DN 16 [] f).bind fun j=>some j
def aA4 (aB r) (h:Pe aB=some r):BF 141 [GV aB] [] (.aS 0) [(Ig r)]:=Ak.aG Tryz.func141 rfl<|AL<|.e [(Ig [])] (Cc 9 1 rfl)<|.aY<|AO h fun j f h=>AL<|.a 1<|.e [(Ig []),.dead,(Ig j)] (uY 9 1 (E8 (k:=_) CO f Md A8 (fun _=>rfl) BU rfl))<|.aW<|Ky
def XU (f:D9):Option D9:=(DN 24 [] f.Users).bind fun j=>(DN 16 [] (({ f with Users:=j }).Kinds)).bind fun m=>some ({ { f with Users:=j }with Kinds:=m })
def aaO (aB r) (h:XU aB=some r):BF 142 [Jf aB] [] (Jf r) []:=Ak.aG Tryz.func142 rfl<|AU<|AO h fun f m h=>AL<|.a 2<|.e [.box (Ag (Ea aB)),.box (Ag (Ea KY)),.dead,(Uh f)] (uY 173 2 (E8 (k:=_) ES m yc A8 (fun _=>rfl) BU rfl))<|.conv _ (MC (e:=173) (s:=2) 3 (xs:=List.map ES f) A8)<|.aW<|AO h fun j q h=>AL<|.a 2<|.e [.box (Ag (Ea ({ aB with Users:=f }))),.box (Ag (Ea KY)),.dead,.dead,.dead,(VP j)] (uY 208 2 (E8 (k:=_) EY q aGk A8 (fun _=>rfl) BU rfl))<|.conv _ (MC (e:=208) (s:=2) 5 (xs:=List.map EY j) A8)<|.aW<|AU<|AB.ret<|by rw[←CU h];exact⟨[Jf ({ { aB with Users:=f }with Kinds:=j })],[],⟨⟨1,Ag (Ea ({ { aB with Users:=f }with Kinds:=j })),true,9,A8,A8,A8,mF,Eb A8,aFM,A8⟩,trivial⟩,A8,A8,A8⟩
def jR (f:Bool):Option Int:=(bif f then some 5 else some 0)
def jZ (f:Int) (j:Bool):Option Int:=(bif j then some 2 else(bif (f==6)then some 96 else(bif (f==7)then some 1 else(bif (f==9)then some 3 else(bif (f==11)then some 13 else(bif (f==12)then jR (f==12)else(bif (f==13)then jR (f==13)else jR (f==14))))))))
def fB (f:Int):Option Int:=(bif (f==2)then some 19 else(bif (f==3)then some 128 else(bif (f==4)then some 34 else(bif (f==5)then jZ f (f==5)else(bif (f==8)then jZ f (f==8)else jZ f (f==10))))))
def aKj (dF r) (h:fB dF=some r):BF 194 [AQ dF] [] (AQ r) []:=Ak.aG Tryz.func194 rfl<|AU<|Aa<|AU<|AB.block<|AU<|Ae h Bf fun h=>AU<|Ae h Bf fun h=>AU<|Ae h Bf fun h=>DJ (fun s=>∃(q:Bool),CG s ⟨BN 26 [(3,AQ dF),(10,Ah q)],[],0⟩∧jZ dF q=some r) (by rintro s ⟨q,u,h⟩;exact Ce u<|Ae h Bf fun h=>AU<|Ae h Bf fun h=>AU<|Ae h Bf fun h=>AU<|Ae h Bf fun h=>AU<|Ae h Bf fun h=>DJ (fun s=>∃(f:Bool),CG s ⟨BN 26 [(22,Ah f)],[],0⟩∧jR f=some r) (by rintro s ⟨f,u,h⟩;exact Ce u<|Ae h Bf fun h=>NY)<|fun j=>AU<|Ae h (fun h=>AB.skip<|j _ ⟨(dF==12),Ad 26 4194304 [],h⟩) fun h=>AU<|Ae h (fun h=>AB.skip<|j _ ⟨(dF==13),Ad 26 4194304 [],h⟩) fun h=>BH<|.a 2<|.nil<|j _ ⟨(dF==14),Ad 26 4194304 [],h⟩)<|fun m=>AU<|Ae h (fun h=>AB.skip<|m _ ⟨(dF==5),Ad 26 1032 [],h⟩) fun h=>AU<|Ae h (fun h=>AB.skip<|m _ ⟨(dF==8),Ad 26 1032 [],h⟩) fun h=>BH<|.a 2<|.nil<|m _ ⟨(dF==10),Ad 26 1032 [],h⟩
def Zg (f:Int) (j:Bool):Option Int:=(bif j then(fB f).bind fun m=>some m else(bif (f==14)then some 4 else some 0))
def Zj (f:Int):Option Int:=(bif (f==2)then some 18 else(bif (f==3)then Zg f (f==3)else(bif (f==4)then Zg f (f==4)else(bif (f==5)then Zg f (f==5)else Zg f (f==6)))))
def aa5 (dF r) (h:Zj dF=some r):BF 143 [AQ dF] [] (AQ r) []:=Ak.aG Tryz.func143 rfl<|AU<|Aa<|AU<|AB.block<|AU<|Ae h Bf fun h=>DJ (fun s=>∃(f:Bool),CG s ⟨BN 15 [(0,AQ dF),(3,AQ dF),(6,Ah f)],[],0⟩∧Zg dF f=some r) (by rintro s ⟨f,m,h⟩;exact Ce m<|Ae h (fun h=>AO h fun q j h=>AL<|.a 1<|.ca (aKj dF q j)<|.aW<|CS) fun h=>sW)<|fun K6=>AU<|Ae h (fun h=>AB.skip<|K6 _ ⟨(dF==3),Ad 15 73 [],h⟩) fun h=>AU<|Ae h (fun h=>AB.skip<|K6 _ ⟨(dF==4),Ad 15 73 [],h⟩) fun h=>AU<|Ae h (fun h=>AB.skip<|K6 _ ⟨(dF==5),Ad 15 73 [],h⟩) fun h=>BH<|.a 2<|.nil<|K6 _ ⟨(dF==6),Ad 15 73 [],h⟩
def aH7 (f:Bo):Option Bo:=some f
def aEX (q:Int) (f:Bo) (j:Bo):Option Bo:=(bif ((Du .and .i64 q 128) != 0)then(XU f.Levels).bind fun m=>aH7 ({ j with Levels:=m })else aH7 j)
def aCO (j:Int) (f:Bo) (q:Bo):Option Bo:=(bif ((Du .and .i64 j 64) != 0)then(Pe f.gu).bind fun m=>aEX j f ({ q with gu:=m })else aEX j f q)
def aEG (j:Int) (f:Bo) (q:Bo):Option Bo:=(bif ((Du .and .i64 j 32) != 0)then(Pe f.Allow).bind fun m=>aCO j f ({ q with Allow:=m })else aCO j f q)
def aHw (j:Int) (f:Bo) (m:Bo):Option Bo:=(bif ((Du .and .i64 j 16) != 0)then aEG j f ({ m with Via:=f.Via })else aEG j f m)
def aE3 (j:Int) (f:Bo) (m:Bo):Option Bo:=(bif ((Du .and .i64 j 4) != 0)then aHw j f ({ m with Target:=f.Target })else aHw j f m)
def ng (j:Int) (f:Bo):Option Bo:=(bif (j==1)then(Pe f.Allow).bind fun q=>(Pe f.gu).bind fun s=>(XU f.Levels).bind fun u=>some ({ { { f with Allow:=q }with gu:=s }with Levels:=u })else(Zj j).bind fun m=>(bif ((Du .and .i64 m 2) != 0)then aE3 m f ({ DW with N:=f.N })else aE3 m f DW))
def abY (dF dR r) (h:ng dF dR=some r):BF 99 [AQ dF,G7 dR] [] (G7 r) []:=Ak.aG Tryz.func99 rfl<|AU<|Aa<|AU<|Ae h (fun h=>Pn h fun x2 hx2 x3 hx3 x4 hx4 h=>GX A8 A8 A8 (.a 2<|.ca (aA4 dR.Allow x2 hx2).view<|.a 2<|.ca (aA4 dR.gu x3 hx3).view<|.a 2<|.ca (aaO dR.Levels x4 hx4)<|.a 6<|.nil _)<|AU<|AB.ret<|by rw[←CU h];exact⟨[G7 ({ { { dR with Allow:=x2 }with gu:=x3 }with Levels:=x4 })],[],⟨⟨1,Ag (EK ({ { { dR with Allow:=x2 }with gu:=x3 }with Levels:=x4 })),true,16,A8,A8,A8,Ro,Eb A8,RI,A8⟩,trivial⟩,A8,A8,A8⟩) fun h=>AB.skip<|AU<|AO h fun f hx5 h=>AL<|.a 1<|.ca (aa5 dF f hx5)<|.aW<|DJ (fun s=>∃(z:Bo),CG s ⟨BN 64 [(3,.ptr 0 0),(4,.ptr 1 0),(5,.ptr 2 0),(6,AQ f)],[.box (Ag (EK dR)),.box (Ag (EK DW)),.box (Ag (EK z))],0⟩∧aE3 f dR z=some r) (by rintro s ⟨z,j,h⟩;exact Ce j<|DJ (fun s=>∃(I:Bo),CG s ⟨BN 64 [(3,.ptr 0 0),(4,.ptr 1 0),(5,.ptr 2 0),(6,AQ f)],[.box (Ag (EK dR)),.box (Ag (EK DW)),.box (Ag (EK I))],0⟩∧aHw f dR I=some r) (by rintro s ⟨I,j,h⟩;exact Ce j<|DJ (fun s=>∃(J:Bo),CG s ⟨BN 64 [(3,.ptr 0 0),(4,.ptr 1 0),(5,.ptr 2 0),(6,AQ f)],[.box (Ag (EK dR)),.box (Ag (EK DW)),.box (Ag (EK J))],0⟩∧aEG f dR J=some r) (by rintro s ⟨J,j,h⟩;exact Ce j<|DJ (fun s=>∃(L:Bo),CG s ⟨BN 64 [(3,.ptr 0 0),(4,.ptr 1 0),(5,.ptr 2 0),(6,AQ f)],[.box (Ag (EK dR)),.box (Ag (EK DW)),.box (Ag (EK L))],0⟩∧aCO f dR L=some r) (by rintro s ⟨L,j,h⟩;exact Ce j<|DJ (fun s=>∃(m:Bo),CG s ⟨BN 64 [(3,.ptr 0 0),(4,.ptr 1 0),(5,.ptr 2 0),(6,AQ f)],[.box (Ag (EK dR)),.box (Ag (EK DW)),.box (Ag (EK m))],0⟩∧aEX f dR m=some r) (by rintro s ⟨m,j,h⟩;exact Ce j<|DJ (fun s=>∃(q:Bo),CG s ⟨BN 64 [(4,.ptr 0 0),(5,.ptr 1 0)],[.box (Ag (EK DW)),.box (Ag (EK q))],0⟩∧aH7 q=some r) (by rintro s ⟨q,j,h⟩;exact Ce j<|AU<|AB.ret<|by rw[←CU h];exact⟨[G7 q],[],⟨⟨0,Ag (EK q),true,16,A8,A8,A8,Ro,Eb A8,RI,A8⟩,trivial⟩,A8,A8,A8⟩)<|fun M=>AL<|.a 1<|.p (O5 (k:=.i64) (u:=f) (v:=128) rfl)<|.aW<|Ae h (fun h=>AO h fun O U h=>BH<|.a 2<|.ca (aaO dR.Levels O U)<|.a 2<|.nil<|M _ ⟨({ m with Levels:=O }),Ad 64 48 [(1,true),(2,true)],h⟩) fun h=>AB.skip<|M _ ⟨m,Ad 64 48 [(1,true),(2,true)],h⟩)<|fun Y=>AL<|.a 1<|.p (O5 (k:=.i64) (u:=f) (v:=64) rfl)<|.aW<|Ae h (fun h=>AO h fun Z akU h=>BH<|.a 2<|.ca (aA4 dR.gu Z akU).view<|.a 2<|.nil<|Y _ ⟨({ L with gu:=Z }),Ad 64 120 [(0,true),(1,true),(2,true)],h⟩) fun h=>AB.skip<|Y _ ⟨L,Ad 64 120 [(0,true),(1,true),(2,true)],h⟩)<|fun K18=>AL<|.a 1<|.p (O5 (k:=.i64) (u:=f) (v:=32) rfl)<|.aW<|Ae h (fun h=>AO h fun MI aah h=>BH<|.a 2<|.ca (aA4 dR.Allow MI aah).view<|.a 2<|.nil<|K18 _ ⟨({ J with Allow:=MI }),Ad 64 120 [(0,true),(1,true),(2,true)],h⟩) fun h=>AB.skip<|K18 _ ⟨J,Ad 64 120 [(0,true),(1,true),(2,true)],h⟩)<|fun K21=>AL<|.a 1<|.p (O5 (k:=.i64) (u:=f) (v:=16) rfl)<|.aW<|Ae h (fun h=>BH<|.a 4<|.nil<|K21 _ ⟨({ I with Via:=dR.Via }),Ad 64 120 [(0,true),(1,true),(2,true)],h⟩) fun h=>AB.skip<|K21 _ ⟨I,Ad 64 120 [(0,true),(1,true),(2,true)],h⟩)<|fun K23=>AL<|.a 1<|.p (O5 (k:=.i64) (u:=f) (v:=4) rfl)<|.aW<|Ae h (fun h=>BH<|.a 4<|.nil<|K23 _ ⟨({ z with Target:=dR.Target }),Ad 64 120 [(0,true),(1,true),(2,true)],h⟩) fun h=>AB.skip<|K23 _ ⟨z,Ad 64 120 [(0,true),(1,true),(2,true)],h⟩)<|fun K25=>AL<|.a 1<|.p (O5 (k:=.i64) (u:=f) (v:=2) rfl)<|.aW<|Ae h (fun h=>BH<|.a 4<|.nil<|K25 _ ⟨({ DW with N:=dR.N }),Ad 64 120 [(0,true),(1,true),(2,true)],h⟩) fun h=>AB.skip<|K25 _ ⟨DW,Ad 64 120 [(0,true),(1,true),(2,true)],h⟩
def iR (f:AP):Option AP:=(ng f.Kind f.Content).bind fun j=>some ({ f with Content:=j })
def aLG (aO r) (h:iR aO=some r):BF 53 [Dj aO] [] (Dj r) []:=Ak.aG Tryz.func53 rfl<|AU<|AO h fun f j h=>AL<|.a 4<|.ca (abY aO.Kind aO.Content f j)<|acK
def Zq (f:Ee) (j:Int):Option Ee:=(Lm f.b_ j).bind fun m=>some ({ f with b_:=m })
def apV (KG qw r) (h:Zq KG qw=some r):BF 263 [.ptr 0 0,AQ qw] [.box (Ag (Fz KG))] (.eH []) [.box (Ag (Fz r))]:=Ak.aG Tryz.func263 rfl<|AO h fun j f h=>BH<|.a 6<|.ca (UH KG.b_ qw j f).view<|.a 3<|.nil<|Wx
def aFw (f:AZ) (q:(Int→Ee→Option Ee)):Int→Ee→Option Ee:=fun j m=>(bif decide (j<(f.length:Int))then(BK f j).bind fun s=>(Zq m s).bind fun u=>q (BJ (j+1)) u else some m)
def abj (f:AZ):Int→Ee→Option Ee:=aX (aFw f) BA
def Rn (f:Ee) (j:AZ):Option Ee:=abj j 0 f
def nU (qR dh r) (h:Rn qR dh=some r):BF 262 [.fn (.func 263) [.ptr 0 0] [],Bz dh] [.box (Ag (Fz qR))] (.eH []) [.box (Ag (Fz r))]:=Ak.aG Tryz.func262 rfl<|AL<|.a 1<|.p (BQ AV dh Bv rfl)<|.aW<|AB.block<|Dt (fun s f=>⟨BN 16 [(0,.fn (.func 263) [.ptr 0 0] []),(6,Bz dh),(7,AQ (dh.length:Int)),(8,AQ s)],[.box (Ag (Fz f))],1⟩) _ _ _ _ (Ad 16 449 [(0,true)]) h<|fun I J j s f h=>AU<|Aa<|Ae h (fun h=>AB.skip<|Aa<|AB.block<|AO h fun u m h=>AL<|.p (BP AV m Bv D5 rfl)<|.aW<|AO h fun z q h=>BH<|.a 2<|.e (x:=.eH []) [.box (Ag (Fz z))] (Xr [.ent 0] [.ptr 0 0] [] [AQ u] (apV f u z q) rfl)<|.nil<|BH<|.a 2<|rH) fun h=>AB.exit<|Wx
def aK (f:Ee) (j:ByteArray):Option Ee:=(PY f.b_ j).bind fun m=>some ({ f with b_:=m })
def aiE (KG iO r) (h:aK KG iO=some r):BF 265 [.ptr 0 0,Cx iO] [.box (Ag (Fz KG))] (.eH []) [.box (Ag (Fz r))]:=Ak.aG Tryz.func265 rfl<|AO h fun j f h=>BH<|.a 6<|.ca (aA3 KG.b_ iO j f).view<|.a 3<|.nil<|Wx
def aF4 (f:FH) (q:(Int→Ee→Option Ee)):Int→Ee→Option Ee:=fun j m=>(bif decide (j<(f.length:Int))then(BK f j).bind fun s=>(aK m s).bind fun u=>q (BJ (j+1)) u else some m)
def acQ (f:FH):Int→Ee→Option Ee:=aX (aF4 f) BA
def Ue (f:Ee) (j:FH):Option Ee:=acQ j 0 f
def rP (qR dh r) (h:Ue qR dh=some r):BF 264 [.fn (.func 265) [.ptr 0 0] [],GV dh] [.box (Ag (Fz qR))] (.eH []) [.box (Ag (Fz r))]:=Ak.aG Tryz.func264 rfl<|AL<|.a 1<|.p (BQ CO dh F7 rfl)<|.aW<|AB.block<|Dt (fun s f=>⟨BN 16 [(0,.fn (.func 265) [.ptr 0 0] []),(6,GV dh),(7,AQ (dh.length:Int)),(8,AQ s)],[.box (Ag (Fz f))],1⟩) _ _ _ _ (Ad 16 449 [(0,true)]) h<|fun I J j s f h=>AU<|Aa<|Ae h (fun h=>AB.skip<|Aa<|AB.block<|AO h fun u m h=>AL<|.p (BP CO m F7 JV rfl)<|.aW<|AO h fun z q h=>BH<|.a 2<|.e (x:=.eH []) [.box (Ag (Fz z))] (Xr [.ent 0] [.ptr 0 0] [] [Cx u] (aiE f u z q) rfl)<|.nil<|BH<|.a 2<|rH) fun h=>AB.exit<|Wx
def oN (f:Ee) (j:Bool):Option Ee:=(XG f.b_ j).bind fun m=>some ({ f with b_:=m })
def afg (KG JU r) (h:oN KG JU=some r):BF 267 [.ptr 0 0,Ah JU] [.box (Ag (Fz KG))] (.eH []) [.box (Ag (Fz r))]:=Ak.aG Tryz.func267 rfl<|AO h fun j f h=>BH<|.a 6<|.ca (aLI KG.b_ JU j f).view<|.a 3<|.nil<|Wx
def aF9 (f:(List Bool)) (q:(Int→Ee→Option Ee)):Int→Ee→Option Ee:=fun j m=>(bif decide (j<(f.length:Int))then(BK f j).bind fun s=>(oN m s).bind fun u=>q (BJ (j+1)) u else some m)
def aLu (f:(List Bool)):Int→Ee→Option Ee:=aX (aF9 f) BA
def pU (f:Ee) (j:(List Bool)):Option Ee:=aLu j 0 f
def amO (qR dh r) (h:pU qR dh=some r):BF 266 [.fn (.func 267) [.ptr 0 0] [],.d ((Ai Cm) dh)] [.box (Ag (Fz qR))] (.eH []) [.box (Ag (Fz r))]:=Ak.aG Tryz.func266 rfl<|AL<|.a 1<|.p (BQ Cm dh adz rfl)<|.aW<|AB.block<|Dt (fun s f=>⟨BN 16 [(0,.fn (.func 267) [.ptr 0 0] []),(6,.d ((Ai Cm) dh)),(7,AQ (dh.length:Int)),(8,AQ s)],[.box (Ag (Fz f))],1⟩) _ _ _ _ (Ad 16 449 [(0,true)]) h<|fun I J j s f h=>AU<|Aa<|Ae h (fun h=>AB.skip<|Aa<|AB.block<|AO h fun u m h=>AL<|.p (BP Cm m adz aay rfl)<|.aW<|AO h fun z q h=>BH<|.a 2<|.e (x:=.eH []) [.box (Ag (Fz z))] (Xr [.ent 0] [.ptr 0 0] [] [Ah u] (afg f u z q) rfl)<|.nil<|BH<|.a 2<|rH) fun h=>AB.exit<|Wx
def aGS (f:AZ) (q:(AZ→Int→Option AZ)):AZ→Int→Option AZ:=fun m j=>(bif decide (j<(f.length:Int))then(BK f j).bind fun s=>(Vf m s).bind fun u=>q u (BJ (j+1))else some m)
def aeI (f:AZ):AZ→Int→Option AZ:=aX (aGS f) BA
def sF (j:AZ) (f:AZ):Option AZ:=(Vf j (f.length:Int)).bind fun m=>aeI f m 0
def amI (fJ dh r) (h:sF fJ dh=some r):BF 384 [.aS 0,Bz dh,.d (.fn (.func 335) [] [])] [(BX fJ)] (.aS 1) [.dead,(BX r)]:=Ak.aG Tryz.func384 rfl<|AL<|.e [(BX fJ),(BX [])] (Cc 5 1 rfl)<|.aY<|AO h fun u f h=>AL<|.a 2<|.p (BQ AV dh Bv rfl)<|.e (x:=.aS 2) [.dead,(BX []),(BX u)] (Di [.ent 0] [.aS 0,AQ (dh.length:Int)] (kV fJ (dh.length:Int) u f) rfl)<|.aW<|Aa<|AL<|.a 1<|.p (BQ AV dh Bv rfl)<|.aW<|AB.block<|Dt (fun j z=>⟨BN 25 [(0,.aS 1),(2,.d (.fn (.func 335) [] [])),(13,Bz dh),(14,AQ (dh.length:Int)),(15,AQ z)],[.dead,(BX j)],1⟩) _ _ _ _ (Ad 25 57349 [(0,false),(2,true)]) h<|fun L M m j z h=>AU<|Aa<|Ae h (fun h=>AB.skip<|Aa<|AB.block<|AO h fun I q h=>AL<|.p (BP AV q Bv D5 rfl)<|.aW<|AO h fun J s h=>BH<|.a 3<|.e (x:=.aS 2) [.dead,.dead,(BX J)] (aa7 [.ent 1] [] [] [.aS 1,AQ I] (kV j I J s) rfl)<|.a 1<|.nil<|BH<|.a 2<|.nil<|m _ _ _ (Ad 25 57349 [(0,false),(2,true)]) h) fun h=>AB.exit<|AU<|vM
def Va (j:AZ) (f:AZ):Option AZ:=(Vd j (BJ ((BJ (2*(f.length:Int)))+10))).bind fun m=>(sF m f).bind fun q=>some q
def ar1 (fJ dh r) (h:Va fJ dh=some r):BF 338 [GK fJ,Bz dh] [] (.aS 0) [(BX r)]:=Ak.aG Tryz.func338 rfl<|AL<|.e [(BX [])] (Cc 5 1 rfl)<|.aY<|CB h fun f j q m h=>AL<|.a 2<|.p (BQ AV dh Bv rfl)<|.a 2<|.e (x:=.aS 1) [(BX []),(BX f)] (Nl [GK fJ,AQ (BJ ((BJ (2*(dh.length:Int)))+10))] (pI fJ (BJ ((BJ (2*(dh.length:Int)))+10)) f j) rfl)<|.a 1<|.e (x:=.aS 2) [(BX []),.dead,(BX q)] (Di [.ent 1] [.aS 1,Bz dh,.d (.fn (.func 335) [] [])] (amI f dh q m) rfl)<|.aW<|Ky
def dn (f:Ee) (j:AZ):Option Ee:=(Va f.b_ j).bind fun m=>some ({ f with b_:=m })
def ajI (KG dh r) (h:dn KG dh=some r):BF 269 [.ptr 0 0,Bz dh] [.box (Ag (Fz KG))] (.eH []) [.box (Ag (Fz r))]:=Ak.aG Tryz.func269 rfl<|AO h fun j f h=>BH<|.a 6<|.ca (ar1 KG.b_ dh j f).view<|.a 3<|.nil<|Wx
abbrev aFs:=List (List Int)
def aIE (f:aFs) (q:(Int→Ee→Option Ee)):Int→Ee→Option Ee:=fun j m=>(bif decide (j<(f.length:Int))then(BK f j).bind fun s=>(dn m s).bind fun u=>q (BJ (j+1)) u else some m)
def ael (f:aFs):Int→Ee→Option Ee:=aX (aIE f) BA
def qJ (f:Ee) (j:aFs):Option Ee:=ael j 0 f
def aqZ (qR dh r) (h:qJ qR dh=some r):BF 268 [.fn (.func 269) [.ptr 0 0] [],.d ((Ai (Ai AV)) dh)] [.box (Ag (Fz qR))] (.eH []) [.box (Ag (Fz r))]:=Ak.aG Tryz.func268 rfl<|AL<|.a 1<|.p (BQ (Ai AV) dh acZ rfl)<|.aW<|AB.block<|Dt (fun s f=>⟨BN 16 [(0,.fn (.func 269) [.ptr 0 0] []),(6,.d ((Ai (Ai AV)) dh)),(7,AQ (dh.length:Int)),(8,AQ s)],[.box (Ag (Fz f))],1⟩) _ _ _ _ (Ad 16 449 [(0,true)]) h<|fun I J j s f h=>AU<|Aa<|Ae h (fun h=>AB.skip<|Aa<|AB.block<|AO h fun u m h=>AL<|.p (BP (Ai AV) m acZ aMk rfl)<|.aW<|AO h fun z q h=>BH<|.a 2<|.e (x:=.eH []) [.box (Ag (Fz z))] (Xr [.ent 0] [.ptr 0 0] [] [Bz u] (ajI f u z q) rfl)<|.nil<|BH<|.a 2<|rH) fun h=>AB.exit<|Wx
def jw (f:AP):Option AZ:=(Rn wo [f.Id]).bind fun s=>(Ue s [f.Room,f.bF]).bind fun u=>(Rn u [f.Kind]).bind fun z=>(pU z [f.State]).bind fun I=>(Ue I [f.Key]).bind fun J=>(Rn J [f.Time,f.Depth]).bind fun L=>(qJ L [f.bD,f.bM]).bind fun M=>(mW f.Content).bind fun O=>(Ue M [Nr O]).bind fun U=>(Rn U [f.Hash]).bind fun j=>(Ue j [f.pR.Server]).bind fun m=>(Rn m [f.pR.Sum]).bind fun q=>some q.b_
def anY (aO r) (h:jw aO=some r):BF 206 [Dj aO] [] (GK r) []:=Ak.aG Tryz.func206 rfl<|AU<|AU<|AO h fun I J h=>AL<|.a 1<|.p (x:=.fn (.func 263) [.ptr 1 0] []) (O7 (fi:=[.ptr 1 0]) (ca:=[]) rfl rfl rfl)<|.a 2<|.p (EG ET zero3 [AV aO.Id] rfl)<|.e (x:=.eH []) [.box (Ag (Am aO)),.box (Ag (Fz I))] (Di [.ent 1] [.fn (.func 263) [.ptr 1 0] [],Bz [aO.Id]] (nU wo [aO.Id] I J) rfl (ha:=⟨⟨_,_,rfl,⟨⟨0,rfl,rfl⟩,trivial⟩,trivial⟩,.inl rfl,trivial⟩))<|.aY<|AO h fun L M h=>AL<|.a 1<|.p (x:=.fn (.func 265) [.ptr 1 0] []) (O7 (fi:=[.ptr 1 0]) (ca:=[]) rfl rfl rfl)<|.a 4<|.p (EG Md zero9 [CO aO.Room,CO aO.bF] rfl)<|.e (x:=.eH []) [.box (Ag (Am aO)),.box (Ag (Fz L))] (Di [.ent 1] [.fn (.func 265) [.ptr 1 0] [],GV [aO.Room,aO.bF]] (rP I [aO.Room,aO.bF] L M) rfl (ha:=⟨⟨_,_,rfl,⟨⟨0,rfl,rfl⟩,trivial⟩,trivial⟩,.inl rfl,trivial⟩))<|.aY<|AO h fun O U h=>AL<|.a 1<|.p (x:=.fn (.func 263) [.ptr 1 0] []) (O7 (fi:=[.ptr 1 0]) (ca:=[]) rfl rfl rfl)<|.a 2<|.p (EG ET zero3 [AV aO.Kind] rfl)<|.e (x:=.eH []) [.box (Ag (Am aO)),.box (Ag (Fz O))] (Di [.ent 1] [.fn (.func 263) [.ptr 1 0] [],Bz [aO.Kind]] (nU L [aO.Kind] O U) rfl (ha:=⟨⟨_,_,rfl,⟨⟨0,rfl,rfl⟩,trivial⟩,trivial⟩,.inl rfl,trivial⟩))<|.aY<|AO h fun Y Z h=>AL<|.a 1<|.p (x:=.fn (.func 267) [.ptr 1 0] []) (O7 (fi:=[.ptr 1 0]) (ca:=[]) rfl rfl rfl)<|.a 2<|.p (EG arJ oI [Cm aO.State] rfl)<|.e (x:=.eH []) [.box (Ag (Am aO)),.box (Ag (Fz Y))] (Di [.ent 1] [.fn (.func 267) [.ptr 1 0] [],.d ((Ai Cm) [aO.State])] (amO O [aO.State] Y Z) rfl (ha:=⟨⟨_,_,rfl,⟨⟨0,rfl,rfl⟩,trivial⟩,trivial⟩,.inl rfl,trivial⟩))<|.aY<|AO h fun x5 hx5 h=>AL<|.a 1<|.p (x:=.fn (.func 265) [.ptr 1 0] []) (O7 (fi:=[.ptr 1 0]) (ca:=[]) rfl rfl rfl)<|.a 2<|.p (EG Md zero9 [CO aO.Key] rfl)<|.e (x:=.eH []) [.box (Ag (Am aO)),.box (Ag (Fz x5))] (Di [.ent 1] [.fn (.func 265) [.ptr 1 0] [],GV [aO.Key]] (rP Y [aO.Key] x5 hx5) rfl (ha:=⟨⟨_,_,rfl,⟨⟨0,rfl,rfl⟩,trivial⟩,trivial⟩,.inl rfl,trivial⟩))<|.aY<|AO h fun x6 hx6 h=>AL<|.a 1<|.p (x:=.fn (.func 263) [.ptr 1 0] []) (O7 (fi:=[.ptr 1 0]) (ca:=[]) rfl rfl rfl)<|.a 4<|.p (EG ET zero3 [AV aO.Time,AV aO.Depth] rfl)<|.e (x:=.eH []) [.box (Ag (Am aO)),.box (Ag (Fz x6))] (Di [.ent 1] [.fn (.func 263) [.ptr 1 0] [],Bz [aO.Time,aO.Depth]] (nU x5 [aO.Time,aO.Depth] x6 hx6) rfl (ha:=⟨⟨_,_,rfl,⟨⟨0,rfl,rfl⟩,trivial⟩,trivial⟩,.inl rfl,trivial⟩))<|.aY<|AO h fun x7 hx7 h=>AL<|.a 1<|.p (x:=.fn (.func 269) [.ptr 1 0] []) (O7 (fi:=[.ptr 1 0]) (ca:=[]) rfl rfl rfl)<|.a 4<|.p (EG asZ zero24 [(Ai AV) aO.bD,(Ai AV) aO.bM] rfl)<|.e (x:=.eH []) [.box (Ag (Am aO)),.box (Ag (Fz x7))] (Di [.ent 1] [.fn (.func 269) [.ptr 1 0] [],.d ((Ai (Ai AV)) [aO.bD,aO.bM])] (aqZ x6 [aO.bD,aO.bM] x7 hx7) rfl (ha:=⟨⟨_,_,rfl,⟨⟨0,rfl,rfl⟩,trivial⟩,trivial⟩,.inl rfl,trivial⟩))<|.aY<|CB h fun m zn x9 Fp h=>AL<|.a 1<|.p (x:=.fn (.func 265) [.ptr 1 0] []) (O7 (fi:=[.ptr 1 0]) (ca:=[]) rfl rfl rfl)<|.a 2<|.ca (aau aO.Content m zn)<|.p (acr (l:=m) UK rY FI rfl)<|.p (EG Md zero9 [CO (Nr m)] rfl)<|.e (x:=.eH []) [.box (Ag (Am aO)),.box (Ag (Fz x9))] (Di [.ent 1] [.fn (.func 265) [.ptr 1 0] [],GV [Nr m]] (rP x7 [Nr m] x9 Fp) rfl (ha:=⟨⟨_,_,rfl,⟨⟨0,rfl,rfl⟩,trivial⟩,trivial⟩,.inl rfl,trivial⟩))<|.aY<|AO h fun f q h=>AL<|.a 1<|.p (x:=.fn (.func 263) [.ptr 1 0] []) (O7 (fi:=[.ptr 1 0]) (ca:=[]) rfl rfl rfl)<|.a 2<|.p (EG ET zero3 [AV aO.Hash] rfl)<|.e (x:=.eH []) [.box (Ag (Am aO)),.box (Ag (Fz f))] (Di [.ent 1] [.fn (.func 263) [.ptr 1 0] [],Bz [aO.Hash]] (nU x9 [aO.Hash] f q) rfl (ha:=⟨⟨_,_,rfl,⟨⟨0,rfl,rfl⟩,trivial⟩,trivial⟩,.inl rfl,trivial⟩))<|.aY<|AO h fun j s h=>AL<|.a 1<|.p (x:=.fn (.func 265) [.ptr 1 0] []) (O7 (fi:=[.ptr 1 0]) (ca:=[]) rfl rfl rfl)<|.a 3<|.p (EG Md zero9 [CO aO.pR.Server] rfl)<|.e (x:=.eH []) [.box (Ag (Am aO)),.box (Ag (Fz j))] (Di [.ent 1] [.fn (.func 265) [.ptr 1 0] [],GV [aO.pR.Server]] (rP f [aO.pR.Server] j s) rfl (ha:=⟨⟨_,_,rfl,⟨⟨0,rfl,rfl⟩,trivial⟩,trivial⟩,.inl rfl,trivial⟩))<|.aY<|AO h fun u z h=>AL<|.a 1<|.p (x:=.fn (.func 263) [.ptr 1 0] []) (O7 (fi:=[.ptr 1 0]) (ca:=[]) rfl rfl rfl)<|.a 3<|.p (EG ET zero3 [AV aO.pR.Sum] rfl)<|.e (x:=.eH []) [.box (Ag (Am aO)),.box (Ag (Fz u))] (Di [.ent 1] [.fn (.func 263) [.ptr 1 0] [],Bz [aO.pR.Sum]] (nU j [aO.pR.Sum] u z) rfl (ha:=⟨⟨_,_,rfl,⟨⟨0,rfl,rfl⟩,trivial⟩,trivial⟩,.inl rfl,trivial⟩))<|.aY<|AU<|CS
def og (f:AP):Option Int:=(iR f).bind fun j=>(jw ({ { j with Id:=0 }with pR:=WX })).bind fun m=>(nN m).bind fun q=>some q
def adP (aO r) (h:og aO=some r):BF 150 [Dj aO] [] (AQ r) []:=Ak.aG Tryz.func150 rfl<|AU<|AO h fun s f h=>AL<|.a 1<|.ca (aLG aO s f)<|.aW<|AU<|CB h fun q j u m h=>AL<|.a 1<|.ca (anY _ q j)<|.ca (abn q u m)<|.aW<|CS
def tH (j:AP) (f:ByteArray):Option AP:=(iT j).bind fun m=>(og ({ j with Hash:=m })).bind fun q=>some ({ { { j with Hash:=m }with Id:=q }with pR:=(⟨f,({ { j with Hash:=m }with Id:=q }).Id⟩:Na) })
def aDm (aO WW r) (h:tH aO WW=some r):BF 105 [Dj aO,Cx WW] [] (Dj r) []:=Ak.aG Tryz.func105 rfl<|AU<|AO h fun f m h=>AL<|.a 1<|.ca (aJw aO f m)<|.aW<|AO h fun j q h=>AL<|.a 1<|.ca (adP _ j q)<|.aW<|AU<|AU<|AB.ret<|by rw[←CU h];exact⟨[Dj ({ { { aO with Hash:=f }with Id:=j }with pR:=(⟨WW,({ { aO with Hash:=f }with Id:=j }).Id⟩:Na) })],[],⟨⟨1,Ag (Am ({ { { aO with Hash:=f }with Id:=j }with pR:=(⟨WW,({ { aO with Hash:=f }with Id:=j }).Id⟩:Na) })),true,29,A8,A8,A8,DY,Eb A8,(by intro s;cases s),A8⟩,trivial⟩,A8,A8,A8⟩
def aFc (f:Aq) (j:(AP→Option Bool)) (k2:(Int→Option Int)):Int→Option Int:=fun m=>(bif decide (m<(f.length:Int))then(BK f m).bind fun q=>(j q).bind fun s=>(bif s then some m else k2 (BJ (m+1)))else some (-1))
def ac3 (f:Aq) (j:(AP→Option Bool)):Int→Option Int:=bn (aFc f j) BA
def aC (f:Aq) (j:(AP→Option Bool)):Option Int:=ac3 f j 0
def aCF (j:(List AP)) (m:(AP→Option Bool)) (f:D) (q:Qp Tryz.prog Am Cm f m) (r:Int) (h:aC j m=some r):BF 136 [BR j,.d f] [] (AQ r) []:=Ak.aG Tryz.func136 rfl<|AU<|Aa<|AL<|.a 1<|.p (BQ Am j Ci rfl)<|.aW<|AB.block<|Dx (fun I=>⟨BN 19 [(0,BR j),(1,.d f),(7,AQ (j.length:Int)),(8,AQ I)],[],0⟩) _ _ _ (Ad 19 387 []) h<|fun J k2 s I h=>AU<|Aa<|Ae h (fun h=>AB.skip<|Aa<|AB.block<|AU<|CB h fun L u M z h=>AL<|.a 3<|.p (BP Am u Ci DY rfl)<|.a 1<|.p (ny (d:=f) (q:Qp Tryz.prog Am Cm f m) z rfl)<|.aY<|Ae h Bf fun h=>AB.skip<|BH<|.a 2<|.nil<|s _ _ (Ad 19 387 []) h) fun h=>Eu
def aAm (f:AP) (j:Int):Option Bool:=some (f.Id==j)
def ars (aO c0 r) (h:aAm aO c0=some r):BF 137 [Dj aO,.d (.ref (AV c0).cells 0)] [] (Ah r) []:=Ak.aG Tryz.func137 rfl<|Z9
def aAu (j:Aq) (f:Int):Option Int:=(aC j (fun a0=>aAm a0 f)).bind fun m=>some m
def aLU (aB eY r) (h:aAu aB eY=some r):BF 95 [BR aB,AQ eY] [] (AQ r) []:=Ak.aG Tryz.func95 rfl<|AU<|AO h fun j f h=>AL<|.a 1<|.conv _ (TM (cs:=Ag (AV eY)) 0 A8 A8)<|.p (x:=.d (.fn (.func 137) [] [(.ref (AV eY).cells 0)])) (VE [(.ref (AV eY).cells 0)] rfl rfl)<|.ca (aCF aB (fun a0=>aAm a0 eY) (.fn (.func 137) [] [(.ref (AV eY).cells 0)]) ⟨137,[(.ref (AV eY).cells 0)],rfl,ajf,fun a0 b m=>ars a0 eY b m⟩ j f)<|.aW<|CS
def aE4 (f:Aq):Option Aq:=(DN 376 [] f).bind fun j=>some j
def arT (dS r) (h:aE4 dS=some r):BF 96 [BR dS] [] (.aS 0) [(DX r)]:=by
 refine Ak.aG Tryz.func96 rfl ?_;unfold aE4 at h;refine AL<|.e [(DX [])] (Cc 55 29 rfl)<|.aY<|Aa<|je (x:=.tmp 3) (t':=22) (d:=4) (es:=List.map Am dS) 1 rfl (.a 1<|.nil _) A8 A8 A8 Ci A8 ?_;intro b f;cases b
 ·clear f;refine MJ A8<|AB.skip ?_;obtain⟨m,j,h⟩:=CY h;refine AL<|.e [(DX []),(DX [])] (Jc LM QT [] rfl)<|.a 1<|.e [(DX []),.dead,(DX m)] (E8 (k:=1) Am j LM A8 (fun _=>rfl) BU rfl)<|.aM 1 ?_;rw[←CU h];exact .ret (EO [(2,true)])
 replace f:=pF f;replace h:some []=some r:=gQ
 refine Pq A8<|AL<|.e [(DX []),(DX [])] (Cc 55 29 rfl)<|.aY ?_;rw[←CU h];exact .ret (EO [(1,true)])
def Zf (f:AP):Option Bool:=(iT f).bind fun j=>some (j==f.Hash)
def uZ (aO r) (h:Zf aO=some r):BF 97 [Dj aO] [] (Ah r) []:=Ak.aG Tryz.func97 rfl<|AU<|AO h fun j f h=>GX A8 A8 A8 (.a 1<|.ca (aJw aO j f)<|.a 4<|.nil _)<|CS
def aJ5 (f:List AP) (j:Int) (m:List AP):Option Aq:=aGq f j m
def akD (f:List AP) (j:Int) (m r:List AP) (h:aJ5 f j m=some r):BF 98 [.aS 0,AQ j,.aS 1] [(DX f),(DX m)] (.aS 2) [.dead,.dead,(DX r)]:=
 ams (fun _=>rfl) f j m r h
def aFq (f:Aq):Option (Aq×Int):=some (f,0)
def aFB (m:(Int→Option (Aq×Int))) (f:Int) (q:Aq) (j:AP) (s:Bool):Option (Aq×Int):=(bif s then m (BJ (f+1))else(aJ5 q f [j]).bind fun u=>some (u,0))
def arw (m:Aq) (q:Aq) (f:AP) (s:(Int→Option (Aq×Int))):Int→Option (Aq×Int):=fun j=>(bif decide (j<(m.length:Int))then(BK m j).bind fun u=>aFB s j q f (decide (u.Id<f.Id))else aFB s j q f false)
def alh (f:Aq) (m:Aq) (j:AP):Int→Option (Aq×Int):=bn (arw f m j) BA
def apT (f:Aq) (j:AP) (k2:(Int→Option (Aq×Int))):Int→Option (Aq×Int):=fun s=>(bif decide (s<(f.length:Int))then(BK f s).bind fun L=>(bif (!(L.Room.toList==j.Room.toList))then some ([],13)else k2 (BJ (s+1)))else(aAu f j.Id).bind fun q=>(bif decide (q<0)then some (decide ((f.length:Int)≥2000))else some false).bind fun M=>(bif M then some ([],29)else(aE4 f).bind fun m=>(bif decide (q≥0)then(Zf j).bind fun u=>(bif u then(BK f q).bind fun z=>(Zf z).bind fun I=>some (!I)else some false).bind fun J=>(bif J then(BK m q).bind fun O=>aFq (m.set (q).toNat j)else aFq m)else alh f m j 0)))
def aqD (f:Aq) (j:AP):Int→Option (Aq×Int):=bn (apT f j) BA
def aBk (f:Aq) (j:AP):Option (Aq×Int):=aqD f j 0
def aCq (aB fO r) (h:aBk aB fO=some r):BF 52 [BR aB,Dj fO] [] (.eH [.aS 0,AQ r.2]) [(DX r.1)]:=Ak.aG Tryz.func52 rfl<|AL<|.a 1<|.e [.box (Ag (Am fO)),(DX [])] (Cc 55 29 rfl)<|.aW<|Aa<|AL<|.a 1<|.p (BQ Am aB Ci rfl)<|.aW<|AB.block<|Dx (fun v1=>⟨BN 73 [(0,BR aB),(3,.ptr 0 0),(10,BR aB),(11,AQ (aB.length:Int)),(12,AQ v1)],[.box (Ag (Am fO))],0⟩) _ _ _ (Ad 73 7177 [(0,true)]) h<|fun J30 k2 hk2 v1 h=>AU<|Aa<|Ae h (fun h=>AB.skip<|Aa<|AB.block<|AO h fun x4 hx4 h=>AL<|.p (BP Am hx4 Ci DY rfl)<|.aW<|AU<|Ae h (fun h=>AL<|.e [.box (Ag (Am fO)),.box (Ag (Am x4)),(DX [])] (Cc 55 29 rfl)<|.aW<|Ky) fun h=>AB.skip<|BH<|.a 2<|.nil<|hk2 _ _ (Ad 73 7177 [(0,true)]) h) fun h=>AB.exit<|AO h fun x6 hx6 h=>AL<|.a 3<|.ca (aLU aB fO.Id x6 hx6)<|.aW<|Aa<|AL<|.a 2<|AO h fun x7 hx7 h=>.mg 28 4 (Ah x7) (.bi hx7 (fun h=>.a 1<|.p (BQ Am aB Ci rfl)<|.aW<|CM))<|.aY<|Ae h (fun h=>AL<|.e [.box (Ag (Am fO)),(DX [])] (Cc 55 29 rfl)<|.aW<|QH) fun h=>AB.skip<|AO h fun f I h=>AL<|.a 1<|.e (x:=.aS 1) [.box (Ag (Am fO)),(DX f)] (Nl [BR aB] (arT aB f I) rfl)<|.aW<|Aa<|AU<|Ae h (fun h=>DJ (fun s=>∃(u:(List AP)),CG s ⟨BN 73 [(9,.aS 0)],[(DX u)],0⟩∧aFq u=some r) (by rintro s ⟨u,hs,h⟩;exact Ce hs<|AU<|OE)<|fun J=>AO h fun x14 L h=>AL<|.a 1<|.ca (uZ fO x14 L)<|.a 1<|AO h fun x15 M h=>.mg 40 6 (Ah x15) (D7 M (fun e i=>by subst e;have h:=i;exact CB h fun x17 O x18 U h=>.a 2<|.p (BP Am O Ci DY rfl)<|.a 1<|.ca (uZ x17 x18 U)<|.aW<|CM))<|.aY<|Ae h (fun h=>AO h fun MI q h=>BH<|.a 3<|.p (KL (e':=55) (kd:=.i64) Am q (k:=1) A8 Ci DY rfl)<|.e [.box (Ag (Am fO)),(DX (f.set (x6).toNat fO))] (Xf (e:=55) (size:=29) (v:=(Dj fO)) (k:=1) (i:=(x6).toNat) (off:=0) (a':=fO) Am A8 (Hz q).2 A8 (DY).size A8 (Eb A8) A8 (fun _=>rfl) rfl)<|.nil<|J _ ⟨(f.set (x6).toNat fO),Ad 73 512 [(1,true)],h⟩) fun h=>AB.skip<|J _ ⟨f,Ad 73 512 [(1,true)],h⟩) fun h=>AB.skip<|AU<|Aa<|AB.block<|Dx (fun j=>⟨BN 73 [(0,BR aB),(3,.ptr 0 0),(8,AQ j),(9,.aS 1)],[.box (Ag (Am fO)),(DX f)],0⟩) _ _ _ (Ad 73 777 [(0,true),(1,true)]) h<|fun J29 k22 Y j h=>Aa<|DJ (fun s=>∃(z:Bool),CG s ⟨BN 73 [(0,BR aB),(3,.ptr 0 0),(8,AQ j),(9,.aS 1),(65,Ah z)],[.box (Ag (Am fO)),(DX f)],0⟩∧aFB k22 j f fO z=some r) (by rintro s ⟨z,hs,h⟩;exact Ce hs<|Ae h (fun h=>AB.skip<|AB.block<|BH<|.a 3<|.nil<|Y _ _ (Ad 73 777 [(0,true),(1,true)]) h) fun h=>AB.exit<|AO h fun Z hx25 h=>AL<|.a 3<|.e [.box (Ag (Am fO)),(DX f),(DX [fO])] (Jc LM QT [Am fO] rfl)<|.e (x:=.aS 3) [.box (Ag (Am fO)),.dead,.dead,(DX Z)] (Di [.ent 1,.ent 2] [.aS 1,AQ j,.aS 2] (akD f j [fO] Z hx25) rfl (hE:=(KF A8<|KF A8<|trivial)))<|.aW<|aBq)<|fun K26=>FW h (fun m h=>AO h fun x28 hx28 h=>AB.draw A8 A8 A8 (.a 2<|.p (BQ Am aB Ci rfl)<|.a 1<|.c (Ba some m)<|.a 2<|.p (BP Am hx28 Ci DY rfl)<|.a 6<|.nil _)<|K26 _ ⟨(decide (x28.Id<fO.Id)),Ad 73 36893488147419104009 [(0,true),(1,true)],h⟩) fun m h=>AB.draw A8 A8 A8 (.a 2<|.p (BQ Am aB Ci rfl)<|.a 1<|.c (Ba some m)<|.a 9<|.nil _)<|K26 _ ⟨false,Ad 73 36893488147419104009 [(0,true),(1,true)],h⟩
def aJz :AP:={ G5 with Room:=aID,bF:=iD,Kind:=1,State:=true,Time:=1,Depth:=1 }
def aLM  :Option Aq:=(tH aJz xK).bind fun f=>(tH ({ G5 with Room:=aID,bF:=iD,Kind:=2,State:=true,Key:=iD,Time:=2,Depth:=2,bD:=[f.Id],bM:=[f.Id],Content:={ DW with N:=3 } }) xK).bind fun j=>(tH ({ G5 with Room:=aID,bF:=arI,Kind:=11,Time:=3,Depth:=3,bD:=[j.Id],bM:=[f.Id],Content:={ DW with Text:=asw } }) abO).bind fun m=>(aBk [] f).bind fun q=>(aBk q.1 j).bind fun s=>(aBk s.1 m).bind fun u=>some u.1
def ajR  (r:(List AP)) (h:aLM=some r):BF 70 [] [] (BR r) []:=Ak.aG Tryz.func70 rfl<|AU<|AO h fun f I h=>AL<|.a 1<|.ca (aDm aJz xK f I)<|.aW<|AO h fun j J h=>AL<|.a 2<|.p (EG ET zero3 [AV f.Id] rfl)<|.a 2<|.p (EG ET zero3 [AV f.Id] rfl)<|.a 2<|.ca (aDm _ xK j J)<|.aW<|AO h fun m L h=>AL<|.a 2<|.p (EG ET zero3 [AV j.Id] rfl)<|.a 2<|.p (EG ET zero3 [AV f.Id] rfl)<|.a 2<|.ca (aDm _ abO m L)<|.aW<|AO h fun q M h=>AL<|.a 1<|.e (x:=.eH [.aS 3,AQ q.2]) [.box (Ag (Am f)),.box (Ag (Am j)),.box (Ag (Am m)),(DX q.1)] (Di [] [.d (.lit (.slice none 0 0)),Dj f] (aCq [] f q M) rfl)<|.a 2<|.conv _ (MC (e:=55) (s:=29) 3 (xs:=List.map Am q.1) A8)<|.aW<|AO h fun u O h=>AL<|.a 2<|.e (x:=.eH [.aS 4,AQ u.2]) [.box (Ag (Am f)),.box (Ag (Am j)),.box (Ag (Am m)),.dead,(DX u.1)] (Di [] [BR q.1,Dj j] (aCq q.1 j u O) rfl)<|.a 2<|.conv _ (MC (e:=55) (s:=29) 4 (xs:=List.map Am u.1) A8)<|.aW<|AO h fun z U h=>AL<|.a 2<|.e (x:=.eH [.aS 5,AQ z.2]) [.box (Ag (Am f)),.box (Ag (Am j)),.box (Ag (Am m)),.dead,.dead,(DX z.1)] (Di [] [BR u.1,Dj m] (aCq u.1 m z U) rfl)<|.a 2<|.conv _ (MC (e:=55) (s:=29) 5 (xs:=List.map Am z.1) A8)<|.aW<|AU<|CS
def Yi (f:Int):Option Bool:=(bif decide (f≥1)then some (decide (f≤10))else some false).bind fun j=>some j
def dA (dF r) (h:Yi dF=some r):BF 182 [AQ dF] [] (Ah r) []:=Ak.aG Tryz.func182 rfl<|AU<|AL<|.a 2<|AO h fun j f h=>.mg 5 3 (Ah j) (.bi f)<|.aW<|CS
def aEk (f:ByteArray) (j:ByteArray):Option (ByteArray×ByteArray×Bool):=(aBO f j).bind fun m=>(bif decide (m≥0)then(Lp f 0 m).bind fun q=>(Lp f (BJ (m+(j.size:Int))) ((f).size)).bind fun s=>some (q,s,true)else some (f,BZ,false))
def apy (dS U4 r) (h:aEk dS U4=some r):BF 235 [Cx dS,Cx U4] [] (.eH [Cx r.1,Cx r.2.1,Ah r.2.2]) []:=Ak.aG Tryz.func235 rfl<|AU<|Aa<|AO h fun s f h=>AL<|.a 2<|.ca (aqs dS U4 s f)<|.aW<|AU<|Ae h (fun h=>CB h fun u j z m h=>GX A8 A8 A8 (.a 2<|.p (bH j (fun _=>rfl) (by intro q;cases q) FI rfl)<|.a 5<|.p (bH m (by intro q;cases q) (fun _=>rfl) FI rfl)<|.a 3<|.nil _)<|CS) fun h=>NY
def strings_Cut (j:ByteArray) (f:ByteArray):Option (ByteArray×ByteArray×Bool):=(aEk j f).bind fun m=>some (m.1,m.2.1,m.2.2)
def aq0 (dS U4 r) (h:strings_Cut dS U4=some r):BF 172 [Cx dS,Cx U4] [] (.eH [Cx r.1,Cx r.2.1,Ah r.2.2]) []:=Ak.aG Tryz.func172 rfl<|AU<|AO h fun j f h=>AL<|.a 2<|.ca (apy dS U4 j f)<|.aW<|CS
def qh (f:Int):Option Bool:=(bif (f==95)then some true else some (f==46)).bind fun j=>(bif j then some true else some (f==45)).bind fun m=>(bif m then some true else some (f==61)).bind fun q=>some q
def ahF (dH r) (h:qh dH=some r):BF 237 [.d (CV dH)] [] (Ah r) []:=Ak.aG Tryz.func237 rfl<|AU<|AL<|.a 2<|AO h fun q f h=>.mg 5 3 (Ah q) (.bi f)<|.a 1<|AO h fun s j h=>.mg 10 2 (Ah s) (D7 j)<|.a 1<|AO h fun u m h=>.mg 14 2 (Ah u) (D7 m)<|.aW<|CS
def eP (f:Int):Option Bool:=(bif decide (f≥97)then some (decide (f≤122))else some false).bind fun j=>(bif j then some true else(bif decide (f≥48)then some (decide (f≤57))else some false).bind fun m=>some m).bind fun q=>some q
def aDO (dH r) (h:eP dH=some r):BF 239 [.d (CV dH)] [] (Ah r) []:=Ak.aG Tryz.func239 rfl<|AU<|AL<|.a 2<|AO h fun q f h=>.mg 5 3 (Ah q) (.bi f)<|.a 1<|AO h fun s j h=>.mg 10 6 (Ah s) (D7 j (k2:=fun e i=>aMH))<|.aW<|CS
def aIP (j:ByteArray) (f:(Int→Option Bool)) (u:(Int→Option Bool)):Int→Option Bool:=fun m=>(bif decide (m<(j.size:Int))then(GH j m).bind fun z=>(eP z).bind fun I=>(bif (!I)then(GH j m).bind fun q=>(f q).bind fun s=>some (!s)else some false).bind fun J=>(bif J then some false else u (BJ (m+1)))else some true)
def aGl (j:ByteArray) (f:(Int→Option Bool)):Int→Option Bool:=bn (aIP j f) BA
def Xm (j:ByteArray) (f:(Int→Option Bool)):Option Bool:=(bif decide ((j.size:Int)<1)then some true else some (decide ((j.size:Int)>32))).bind fun m=>(bif m then some false else aGl j f 0)
def aKG (q:ByteArray) (j:(Int→Option Bool)) (f:D) (m:Qp Tryz.prog CV Cm f j) (r:Bool) (h:Xm q j=some r):BF 236 [Cx q,.d f] [] (Ah r) []:=Ak.aG Tryz.func236 rfl<|AU<|Aa<|AL<|.a 3<|AO h fun U z h=>.mg 9 4 (Ah U) (.bi z)<|.aY<|Ae h Bf fun h=>AB.skip<|Aa<|AU<|AB.block<|Dx (fun O=>⟨BN 33 [(0,Cx q),(1,.d f),(15,AQ (q.size:Int)),(16,AQ O)],[],0⟩) _ _ _ (Ad 33 98307 []) h<|fun Y k5 I O h=>AU<|Aa<|Ae h (fun h=>AB.skip<|Aa<|AB.block<|AU<|CB h fun Z J x8 L h=>AL<|.a 2<|.p (IC (k:=.i64) J FI rfl)<|.ca (aDO Z x8 L)<|.a 1<|AO h fun x9 M h=>.mg 24 7 (Ah x9) (.bi M (fun h=>CB h fun x11 s x12 u h=>.a 3<|.p (IC (k:=.i64) s FI rfl)<|.p (ny (d:=f) (m:Qp Tryz.prog CV Cm f j) u rfl)<|.aW<|CM))<|.aY<|Ae h Bf fun h=>AB.skip<|BH<|.a 2<|.nil<|I _ _ (Ad 33 98307 []) h) fun h=>Eu
def sU (f:ByteArray):Option Bool:=(Xm f (fun a0=>qh a0)).bind fun j=>some j
def arK (dS r) (h:sU dS=some r):BF 173 [Cx dS] [] (Ah r) []:=Ak.aG Tryz.func173 rfl<|AU<|AO h fun j f h=>AL<|.a 1<|.ca (aKG dS (fun a0=>qh a0) (.fn (.func 237) [] []) ⟨237,[],rfl,as6,fun a0 b m=>ahF a0 b m⟩ j f)<|.aW<|CS
def lM (f:Int):Option Bool:=(bif (f==46)then some true else some (f==45)).bind fun j=>some j
def apA (dH r) (h:lM dH=some r):BF 238 [.d (CV dH)] [] (Ah r) []:=Ak.aG Tryz.func238 rfl<|AU<|AL<|.a 2<|AO h fun j f h=>.mg 5 3 (Ah j) (.bi f)<|.aW<|CS
def zh (f:ByteArray):Option Bool:=(Xm f (fun a0=>lM a0)).bind fun j=>(bif j then(GH f 0).bind fun m=>(eP m).bind fun q=>some q else some false).bind fun s=>(bif s then(GH f (BJ ((f.size:Int)-1))).bind fun u=>(eP u).bind fun z=>some z else some false).bind fun I=>some I
def afS (dS r) (h:zh dS=some r):BF 174 [Cx dS] [] (Ah r) []:=Ak.aG Tryz.func174 rfl<|AU<|AO h fun I f h=>AL<|.a 1<|.ca (aKG dS (fun a0=>lM a0) (.fn (.func 238) [] []) ⟨238,[],rfl,amZ,fun a0 b J=>apA a0 b J⟩ I f)<|.a 1<|AO h fun L j h=>.mg 6 3 (Ah L) (D7 j (fun e i=>by subst e;have h:=i;exact CB h fun M m O q h=>.a 1<|.p (IC (k:=.i64) m FI rfl)<|.ca (aDO M O q)<|.aW<|CM))<|.a 1<|AO h fun U s h=>.mg 11 6 (Ah U) (D7 s (fun e i=>by subst e;have h:=i;exact CB h fun Y u Z z h=>.a 4<|.p (IC (k:=.i64) u FI rfl)<|.ca (aDO Y Z z)<|.aW<|CM))<|.aW<|CS
def eG (f:ByteArray) (j:ByteArray):Option (ByteArray×ByteArray×Bool):=(bif (f.toList==BZ.toList)then some true else(GH f 0).bind fun z=>(strings_IndexByte j z).bind fun I=>some (decide (I<0))).bind fun J=>(bif J then some (BZ,BZ,false)else(Lp f 1 ((f).size)).bind fun L=>(strings_Cut L bW).bind fun m=>(bif (!m.2.2)then some true else(sU m.1).bind fun q=>some (!q)).bind fun M=>(bif M then some true else(zh m.2.1).bind fun s=>some (!s)).bind fun u=>(bif u then some (BZ,BZ,false)else some (m.1,m.2.1,true)))
def abx (zT aeY r) (h:eG zT aeY=some r):BF 121 [Cx zT,Cx aeY] [] (.eH [Cx r.1,Cx r.2.1,Ah r.2.2]) []:=Ak.aG Tryz.func121 rfl<|AU<|Aa<|AL<|.a 2<|AO h fun Y q h=>.mg 12 6 (Ah Y) (.bi q (k2:=fun h=>CB h fun Z s x4 u h=>.a 2<|.p (IC (k:=.i64) s FI rfl)<|.ca (aoB aeY Z x4 u)<|.aW<|CM))<|.aY<|Ae h Bf fun h=>AB.skip<|CB h fun x6 z I J h=>AL<|.a 1<|.p (bH z RI (fun _=>rfl) FI rfl)<|.ca (aq0 x6 bW I J)<|.aW<|Aa<|AL<|.a 2<|AO h fun x8 L h=>.mg 28 4 (Ah x8) (.bi L (k2:=fun h=>AO h fun M f h=>.a 1<|.ca (arK I.1 M f)<|.aW<|CM))<|.a 1<|AO h fun O j h=>.mg 34 3 (Ah O) (D7 j (k2:=fun e i=>by subst e;have h:=i;exact AO h fun U m h=>.a 1<|.ca (afS I.2.1 U m)<|.aW<|CM))<|TN
def lF (j:ByteArray) (f:ByteArray):Option Int:=(eG j f).bind fun m=>(bif (!m.2.2)then some 3 else some 0)
def aLB (dS Un r) (h:lF dS Un=some r):BF 386 [Cx dS,Cx Un] [] (AQ r) []:=Ak.aG Tryz.func386 rfl<|AU<|Aa<|AO h fun j f h=>AL<|.a 2<|.ca (abx dS Un j f)<|.aW<|sW
def jg (f:ByteArray):Option Int:=(lF f lV).bind fun j=>some j
def aaw (dS r) (h:jg dS=some r):BF 354 [Cx dS] [] (AQ r) []:=Ak.aG Tryz.func354 rfl<|AU<|AO h fun j f h=>AL<|.a 1<|.ca (aLB dS lV j f)<|.aW<|CS
def Y3 (f:ByteArray):Option Int:=(lF f lU).bind fun j=>some j
def aBm (dS r) (h:Y3 dS=some r):BF 355 [Cx dS] [] (AQ r) []:=Ak.aG Tryz.func355 rfl<|AU<|AO h fun j f h=>AL<|.a 1<|.ca (aLB dS lU j f)<|.aW<|CS
def aFY (f:ByteArray) (k2:(Int→Option Bool)):Int→Option Bool:=fun j=>(bif decide (j<(f.size:Int))then(GH f j).bind fun m=>(bif decide (m<33)then some true else(GH f j).bind fun q=>some (decide (q>126))).bind fun s=>(bif s then some false else k2 (BJ (j+1)))else(bif decide ((f.size:Int)≥1)then some (decide ((f.size:Int)≤32))else some false).bind fun u=>some u)
def aIv (f:ByteArray):Int→Option Bool:=bn (aFY f) BA
def yA (f:ByteArray):Option Bool:=aIv f 0
def akz (agj r) (h:yA agj=some r):BF 356 [Cx agj] [] (Ah r) []:=Ak.aG Tryz.func356 rfl<|AU<|Aa<|AU<|AB.block<|Dx (fun u=>⟨BN 28 [(0,Cx agj),(5,AQ (agj.size:Int)),(6,AQ u)],[],0⟩) _ _ _ (Ad 28 97 []) h<|fun z k2 f u h=>AU<|Aa<|Ae h (fun h=>AB.skip<|Aa<|AB.block<|AU<|AO h fun L j h=>AL<|.a 2<|.p (IC (k:=.i64) j FI rfl)<|.a 1<|AO h fun I m h=>.mg 13 5 (Ah I) (.bi m (k2:=fun h=>AO h fun M q h=>.a 2<|.p (IC (k:=.i64) q FI rfl)<|.aW<|CM))<|.aY<|Ae h Bf fun h=>AB.skip<|BH<|.a 2<|.nil<|f _ _ (Ad 28 97 []) h) fun h=>AB.exit<|AL<|.a 3<|AO h fun J s h=>.mg 23 4 (Ah J) (.bi s)<|.aW<|CS
def yP (f:AP):Option Bool:=(jg f.Room).bind fun j=>(bif (j != 0)then some true else(Y3 f.bF).bind fun m=>some (m != 0)).bind fun q=>(bif q then some false else(bif (f.Kind==2)then(Y3 f.Key).bind fun s=>some (s==0)else(bif (f.Kind==9)then(yA f.Key).bind fun u=>some u else some true)))
def an6 (aO r) (h:yP aO=some r):BF 290 [Dj aO] [] (Ah r) []:=Ak.aG Tryz.func290 rfl<|AU<|Aa<|AO h fun u f h=>AL<|.a 2<|.ca (aaw aO.Room u f)<|.a 1<|AO h fun z j h=>.mg 7 5 (Ah z) (.bi j (k2:=fun h=>AO h fun I m h=>.a 2<|.ca (aBm aO.bF I m)<|.aW<|CM))<|.aY<|Ae h Bf fun h=>AB.skip<|Aa<|AU<|AB.block<|AU<|Ae h (fun h=>AO h fun J q h=>AL<|.a 2<|.ca (aBm aO.Key J q)<|.aW<|CS) fun h=>AU<|Ae h (fun h=>AO h fun L s h=>AL<|.a 2<|.ca (akz aO.Key L s)<|.aW<|CS) fun h=>NY
def aFt (f:AZ) (k2:(Int→Option Bool)):Int→Option Bool:=fun j=>(bif decide (j<(f.length:Int))then(BK f j).bind fun m=>(bif decide (m<0)then some true else(bif decide (j>0)then(BK f (BJ (j-1))).bind fun q=>some (decide (q≥m))else some false).bind fun s=>some s).bind fun u=>(bif u then some false else k2 (BJ (j+1)))else some true)
def aax (f:AZ):Int→Option Bool:=bn (aFt f) BA
def qY (f:AZ):Option Bool:=aax f 0
def aJD (aB r) (h:qY aB=some r):BF 291 [Bz aB] [] (Ah r) []:=Ak.aG Tryz.func291 rfl<|AU<|Aa<|AL<|.a 1<|.p (BQ AV aB Bv rfl)<|.aW<|AB.block<|Dx (fun u=>⟨BN 28 [(0,Bz aB),(5,Bz aB),(6,AQ (aB.length:Int)),(7,AQ u)],[],0⟩) _ _ _ (Ad 28 225 []) h<|fun z k2 f u h=>AU<|Aa<|Ae h (fun h=>AB.skip<|Aa<|AB.block<|AO h fun L j h=>AL<|.a 1<|.p (BP AV j Bv D5 rfl)<|.aW<|AL<|.a 2<|AO h fun I m h=>.mg 14 12 (Ah I) (.bi m (k2:=fun h=>.a 2<|AO h fun J q h=>.mg 17 8 (Ah J) (.bi q (fun h=>AO h fun M s h=>.a 3<|.p (BP AV s Bv D5 rfl)<|.aW<|CM))<|.aW<|CM))<|.aY<|Ae h Bf fun h=>AB.skip<|BH<|.a 2<|.nil<|f _ _ (Ad 28 225 []) h) fun h=>Eu
def qO (f:Int):Option Bool:=(bif decide (f≥1)then some (decide (f≤14))else some false).bind fun j=>some j
def ae1 (dF r) (h:qO dF=some r):BF 357 [AQ dF] [] (Ah r) []:=Ak.aG Tryz.func357 rfl<|AU<|AL<|.a 2<|AO h fun j f h=>.mg 5 3 (Ah j) (.bi f)<|.aW<|CS
def zF (f:D9):Option Bool:=(bif ((f.Users.length:Int)==0)then some ((f.Kinds.length:Int)==0)else some false).bind fun s=>(bif s then some (f.User==0)else some false).bind fun u=>(bif u then some (f.Message==0)else some false).bind fun z=>(bif z then some (f.State==0)else some false).bind fun I=>(bif I then some (f.gB==0)else some false).bind fun J=>(bif J then some (f.jT==0)else some false).bind fun j=>(bif j then some (f.nX==0)else some false).bind fun m=>(bif m then some (f.gY==0)else some false).bind fun q=>some q
def aoh (aB r) (h:zF aB=some r):BF 387 [Jf aB] [] (Ah r) []:=Ak.aG Tryz.func387 rfl<|AU<|AL<|.a 2<|.p (BQ ES aB.Users FU rfl)<|.a 1<|AO h fun O q h=>.mg 7 5 (Ah O) (.bi q (fun h=>.a 2<|.p (BQ EY aB.Kinds FX rfl)<|.aW<|CM))<|.a 1<|AO h fun U s h=>.mg 14 3 (Ah U) (D7 s)<|.a 1<|AO h fun Y u h=>.mg 19 3 (Ah Y) (D7 u)<|.a 1<|AO h fun Z z h=>.mg 24 3 (Ah Z) (D7 z)<|.a 1<|AO h fun x9 I h=>.mg 29 3 (Ah x9) (D7 I)<|.a 1<|AO h fun J f h=>.mg 34 3 (Ah J) (D7 f)<|.a 1<|AO h fun L j h=>.mg 39 3 (Ah L) (D7 j)<|.a 1<|AO h fun M m h=>.mg 44 3 (Ah M) (D7 m)<|.aW<|CS
def aBT (f:Int):Option Int:=some f
def vk (f:Bo) (m:Int):Option Int:=(zF f.Levels).bind fun j=>(bif (!j)then aBT (Du .or .i64 m 128)else aBT m)
def tV (f:Bo) (j:Int):Option Int:=(bif decide ((f.gu.length:Int)>0)then vk f (Du .or .i64 j 64)else vk f j)
def uz (f:Bo) (j:Int):Option Int:=(bif decide ((f.Allow.length:Int)>0)then tV f (Du .or .i64 j 32)else tV f j)
def uF (f:Bo) (j:Int):Option Int:=(bif (!(f.Via.toList==BZ.toList))then uz f (Du .or .i64 j 16)else uz f j)
def aA1 (f:Bo) (j:Int):Option Int:=(bif f.Thread then uF f (Du .or .i64 j 8)else uF f j)
def wH (f:Bo) (j:Int):Option Int:=(bif (f.Target != 0)then aA1 f (Du .or .i64 j 4)else aA1 f j)
def tN (f:Bo) (j:Int):Option Int:=(bif (f.N != 0)then wH f (Du .or .i64 j 2)else wH f j)
def jf (f:Bo):Option Int:=(bif (!(f.Text.toList==BZ.toList))then tN f (Du .or .i64 0 1)else tN f 0)
def adl (dH r) (h:jf dH=some r):BF 358 [G7 dH] [] (AQ r) []:=Ak.aG Tryz.func358 rfl<|AU<|AU<|DJ (fun s=>∃(j:Int),CG s ⟨BN 47 [(1,.ptr 0 0),(3,AQ j)],[.box (Ag (EK dH))],0⟩∧tN dH j=some r) (by rintro s ⟨j,f,h⟩;exact Ce f<|DJ (fun s=>∃(m:Int),CG s ⟨BN 47 [(1,.ptr 0 0),(3,AQ m)],[.box (Ag (EK dH))],0⟩∧wH dH m=some r) (by rintro s ⟨m,f,h⟩;exact Ce f<|DJ (fun s=>∃(q:Int),CG s ⟨BN 47 [(1,.ptr 0 0),(3,AQ q)],[.box (Ag (EK dH))],0⟩∧aA1 dH q=some r) (by rintro s ⟨q,f,h⟩;exact Ce f<|DJ (fun s=>∃(z:Int),CG s ⟨BN 47 [(1,.ptr 0 0),(3,AQ z)],[.box (Ag (EK dH))],0⟩∧uF dH z=some r) (by rintro s ⟨z,f,h⟩;exact Ce f<|DJ (fun s=>∃(I:Int),CG s ⟨BN 47 [(1,.ptr 0 0),(3,AQ I)],[.box (Ag (EK dH))],0⟩∧uz dH I=some r) (by rintro s ⟨I,f,h⟩;exact Ce f<|DJ (fun s=>∃(J:Int),CG s ⟨BN 47 [(1,.ptr 0 0),(3,AQ J)],[.box (Ag (EK dH))],0⟩∧tV dH J=some r) (by rintro s ⟨J,f,h⟩;exact Ce f<|DJ (fun s=>∃(L:Int),CG s ⟨BN 47 [(1,.ptr 0 0),(3,AQ L)],[.box (Ag (EK dH))],0⟩∧vk dH L=some r) (by rintro s ⟨L,f,h⟩;exact Ce f<|DJ (fun s=>∃(v8:Int),CG s ⟨BN 47 [(3,AQ v8)],[],0⟩∧aBT v8=some r) (by rintro s ⟨v8,f,h⟩;exact Ce f<|AU<|CS)<|fun K9=>AO h fun x10 M h=>AL<|.a 2<|.ca (aoh dH.Levels x10 M)<|.aW<|Ae h (fun h=>BH<|.a 1<|.p (Ux (k:=.i64) (u:=L) (v:=128) rfl)<|.a 1<|.nil<|K9 _ ⟨(Du .or .i64 L 128),Ad 47 8 [],h⟩) fun h=>AB.skip<|K9 _ ⟨L,Ad 47 8 [],h⟩)<|fun O=>AL<|.a 2<|.p (BQ CO dH.gu F7 rfl)<|.aW<|Ae h (fun h=>BH<|.a 1<|.p (Ux (k:=.i64) (u:=J) (v:=64) rfl)<|.a 1<|.nil<|O _ ⟨(Du .or .i64 J 64),Ad 47 10 [(0,true)],h⟩) fun h=>AB.skip<|O _ ⟨J,Ad 47 10 [(0,true)],h⟩)<|fun U=>AL<|.a 2<|.p (BQ CO dH.Allow F7 rfl)<|.aW<|Ae h (fun h=>BH<|.a 1<|.p (Ux (k:=.i64) (u:=I) (v:=32) rfl)<|.a 1<|.nil<|U _ ⟨(Du .or .i64 I 32),Ad 47 10 [(0,true)],h⟩) fun h=>AB.skip<|U _ ⟨I,Ad 47 10 [(0,true)],h⟩)<|fun Y=>AU<|Ae h (fun h=>BH<|.a 1<|.p (Ux (k:=.i64) (u:=z) (v:=16) rfl)<|.a 1<|.nil<|Y _ ⟨(Du .or .i64 z 16),Ad 47 10 [(0,true)],h⟩) fun h=>AB.skip<|Y _ ⟨z,Ad 47 10 [(0,true)],h⟩)<|fun Z=>AU<|Ae h (fun h=>BH<|.a 1<|.p (Ux (k:=.i64) (u:=q) (v:=8) rfl)<|.a 1<|.nil<|Z _ ⟨(Du .or .i64 q 8),Ad 47 10 [(0,true)],h⟩) fun h=>AB.skip<|Z _ ⟨q,Ad 47 10 [(0,true)],h⟩)<|fun K20=>AU<|Ae h (fun h=>BH<|.a 1<|.p (Ux (k:=.i64) (u:=m) (v:=4) rfl)<|.a 1<|.nil<|K20 _ ⟨(Du .or .i64 m 4),Ad 47 10 [(0,true)],h⟩) fun h=>AB.skip<|K20 _ ⟨m,Ad 47 10 [(0,true)],h⟩)<|fun K22=>AU<|Ae h (fun h=>BH<|.a 1<|.p (Ux (k:=.i64) (u:=j) (v:=2) rfl)<|.a 1<|.nil<|K22 _ ⟨(Du .or .i64 j 2),Ad 47 10 [(0,true)],h⟩) fun h=>AB.skip<|K22 _ ⟨j,Ad 47 10 [(0,true)],h⟩)<|fun K24=>AU<|Ae h (fun h=>BH<|.a 1<|.p (Ux (k:=.i64) (u:=0) (v:=1) rfl)<|.a 1<|.nil<|K24 _ ⟨(Du .or .i64 0 1),Ad 47 10 [(0,true)],h⟩) fun h=>AB.skip<|K24 _ ⟨0,Ad 47 10 [(0,true)],h⟩
def aEs (f:ByteArray) (m:(Int→Option Int)):Int→Option Int:=fun j=>(bif decide (j<(f.size:Int))then(GH f j).bind fun q=>(bif decide (q<33)then some true else(GH f j).bind fun s=>some (decide (s>126))).bind fun u=>(bif u then some 3 else m (BJ (j+1)))else some 0)
def aEn (f:ByteArray):Int→Option Int:=bn (aEs f) BA
def iq (f:ByteArray):Option Int:=(bif (f.toList==BZ.toList)then some 9 else(bif decide ((f.size:Int)>64)then some 7 else aEn f 0))
def aIf (OT r) (h:iq OT=some r):BF 388 [Cx OT] [] (AQ r) []:=Ak.aG Tryz.func388 rfl<|AU<|Aa<|AB.block<|AU<|Ae h Bf fun h=>AU<|Ae h Bf fun h=>AB.skip<|Aa<|AU<|AB.block<|Dx (fun s=>⟨BN 27 [(0,Cx OT),(12,AQ (OT.size:Int)),(13,AQ s)],[],0⟩) _ _ _ (Ad 27 12289 []) h<|fun u I f s h=>AU<|Aa<|Ae h (fun h=>AB.skip<|Aa<|AB.block<|AU<|AO h fun J j h=>AL<|.a 2<|.p (IC (k:=.i64) j FI rfl)<|.a 1<|AO h fun z m h=>.mg 20 5 (Ah z) (.bi m (k2:=fun h=>AO h fun L q h=>.a 2<|.p (IC (k:=.i64) q FI rfl)<|.aW<|CM))<|.aY<|Ae h Bf fun h=>AB.skip<|BH<|.a 2<|.nil<|f _ _ (Ad 27 12289 []) h) fun h=>Eu
def aDS (f:FH) (q:(Int→Option Int)):Int→Option Int:=fun j=>(bif decide (j<(f.length:Int))then(BK f j).bind fun s=>(iq s).bind fun m=>(bif (m != 0)then some m else q (BJ (j+1)))else some 0)
def aaQ (f:FH):Int→Option Int:=bn (aDS f) BA
def UY (f:FH):Option Int:=(bif decide ((f.length:Int)>100)then some 7 else aaQ f 0)
def aKZ (aB r) (h:UY aB=some r):BF 365 [GV aB] [] (AQ r) []:=Ak.aG Tryz.func365 rfl<|AU<|Aa<|AL<|.a 1<|.p (BQ CO aB F7 rfl)<|.aW<|Ae h Bf fun h=>AB.skip<|Aa<|AL<|.a 1<|.p (BQ CO aB F7 rfl)<|.aW<|AB.block<|Dx (fun q=>⟨BN 21 [(9,GV aB),(10,AQ (aB.length:Int)),(11,AQ q)],[],0⟩) _ _ _ (Ad 21 3584 []) h<|fun z I f q h=>AU<|Aa<|Ae h (fun h=>AB.skip<|Aa<|AB.block<|AO h fun s j h=>AL<|.p (BP CO j F7 JV rfl)<|.aW<|AO h fun u m h=>AL<|.a 1<|.ca (aIf s u m)<|.aW<|AU<|Ae h Bf fun h=>AB.skip<|BH<|.a 2<|.nil<|f _ _ (Ad 21 3584 []) h) fun h=>Eu
def ah (f:Int):Option Bool:=(bif decide (f<(-1000))then some true else some (decide (f>1000))).bind fun j=>some j
def aHD (ab4 r) (h:ah ab4=some r):BF 391 [AQ ab4] [] (Ah r) []:=Ak.aG Tryz.func391 rfl<|AU<|AL<|.a 2<|AO h fun j f h=>.mg 5 3 (Ah j) (.bi f)<|.aW<|CS
def wQ (j:He) (m:(Int→Option Int)) (q:Int) (s:Bool):Option Int:=(bif s then some 8 else(ah j.N).bind fun f=>(bif f then some 2 else m (BJ (q+1))))
abbrev L9:=List He
def aFP (f:L9) (s:(Int→Option Int)):Int→Option Int:=fun j=>(bif decide (j<(f.length:Int))then(BK f j).bind fun m=>(Y3 m.User).bind fun u=>(bif (u != 0)then some 3 else(bif decide (j>0)then(BK f (BJ (j-1))).bind fun q=>wQ m s j (Op.bytesLess (m.User.toList) (q.User.toList)||m.User.toList==q.User.toList)else wQ m s j false))else some 0)
def aLO (f:L9):Int→Option Int:=bn (aFP f) BA
def xZ (f:L9):Option Int:=(bif decide ((f.length:Int)>100)then some 7 else aLO f 0)
def akp (aB r) (h:xZ aB=some r):BF 389 [ND aB] [] (AQ r) []:=Ak.aG Tryz.func389 rfl<|AU<|Aa<|AL<|.a 1<|.p (BQ ES aB FU rfl)<|.aW<|Ae h Bf fun h=>AB.skip<|Aa<|AL<|.a 1<|.p (BQ ES aB FU rfl)<|.aW<|AB.block<|Dx (fun I=>⟨BN 39 [(0,ND aB),(8,ND aB),(9,AQ (aB.length:Int)),(10,AQ I)],[],0⟩) _ _ _ (Ad 39 1793 []) h<|fun Y Z J I h=>AU<|Aa<|Ae h (fun h=>AB.skip<|Aa<|AB.block<|AO h fun j L h=>AL<|.a 1<|.p (BP ES L FU Ji rfl)<|.aW<|AB.block<|AO h fun x6 M h=>AL<|.a 2<|.ca (aBm j.User x6 M)<|.aW<|Ae h Bf fun h=>DJ (fun s=>∃(O:Bool),CG s ⟨BN 39 [(0,ND aB),(4,.ptr 0 0),(8,ND aB),(9,AQ (aB.length:Int)),(10,AQ I),(20,Ah O)],[.box (Ag (ES j))],0⟩∧wQ j Z I O=some r) (by rintro s ⟨O,hs,h⟩;exact Ce hs<|Ae h Bf fun h=>AO h fun U m h=>AL<|.a 2<|.ca (aHD j.N U m)<|.aW<|Ae h Bf fun h=>AB.skip<|BH<|.a 2<|.nil<|J _ _ (Ad 39 1793 []) h)<|fun q=>FW h (fun f h=>AO h fun u z h=>AB.draw A8 A8 A8 (.a 2<|.c (Ba some f)<|.a 5<|.p (BP ES z FU Ji rfl)<|.a 5<|.nil _)<|q _ ⟨(Op.bytesLess (j.User.toList) (u.User.toList)||j.User.toList==u.User.toList),Ad 39 1050385 [(0,true)],h⟩) fun f h=>AB.draw A8 A8 A8 (.a 2<|.c (Ba some f)<|.a 11<|.nil _)<|q _ ⟨false,Ad 39 1050385 [(0,true)],h⟩) fun h=>Eu
def wS (j:IL) (m:(Int→Option Int)) (q:Int) (s:Bool):Option Int:=(bif s then some 8 else(ah j.N).bind fun f=>(bif f then some 2 else m (BJ (q+1))))
abbrev KQ:=List IL
def aCS (f:KQ) (s:(Int→Option Int)):Int→Option Int:=fun j=>(bif decide (j<(f.length:Int))then(BK f j).bind fun m=>(qO m.Kind).bind fun u=>(bif (!u)then some 1 else(bif decide (j>0)then(BK f (BJ (j-1))).bind fun q=>wS m s j (decide (m.Kind≤q.Kind))else wS m s j false))else some 0)
def aaT (f:KQ):Int→Option Int:=bn (aCS f) BA
def aC4 (f:KQ):Option Int:=(bif decide ((f.length:Int)>100)then some 7 else aaT f 0)
def asg (aB r) (h:aC4 aB=some r):BF 390 [Me aB] [] (AQ r) []:=Ak.aG Tryz.func390 rfl<|AU<|Aa<|AL<|.a 1<|.p (BQ EY aB FX rfl)<|.aW<|Ae h Bf fun h=>AB.skip<|Aa<|AL<|.a 1<|.p (BQ EY aB FX rfl)<|.aW<|AB.block<|Dx (fun z=>⟨BN 39 [(0,Me aB),(8,Me aB),(9,AQ (aB.length:Int)),(10,AQ z)],[],0⟩) _ _ _ (Ad 39 1793 []) h<|fun Y Z I z h=>AU<|Aa<|Ae h (fun h=>AB.skip<|Aa<|AB.block<|AO h fun j J h=>AL<|.a 1<|.p (BP EY J FX Jo rfl)<|.aW<|AB.block<|AO h fun x6 L h=>AL<|.a 2<|.ca (ae1 j.Kind x6 L)<|.aW<|Ae h Bf fun h=>DJ (fun s=>∃(M:Bool),CG s ⟨BN 39 [(0,Me aB),(4,.ptr 0 0),(8,Me aB),(9,AQ (aB.length:Int)),(10,AQ z),(20,Ah M)],[.box (Ag (EY j))],0⟩∧wS j Z z M=some r) (by rintro s ⟨M,hs,h⟩;exact Ce hs<|Ae h Bf fun h=>AO h fun O m h=>AL<|.a 2<|.ca (aHD j.N O m)<|.aW<|Ae h Bf fun h=>AB.skip<|BH<|.a 2<|.nil<|I _ _ (Ad 39 1793 []) h)<|fun q=>FW h (fun f h=>AO h fun U u h=>AB.draw A8 A8 A8 (.a 2<|.c (Ba some f)<|.a 5<|.p (BP EY u FX Jo rfl)<|.a 5<|.nil _)<|q _ ⟨(decide (j.Kind≤U.Kind)),Ad 39 1050385 [(0,true)],h⟩) fun f h=>AB.draw A8 A8 A8 (.a 2<|.c (Ba some f)<|.a 11<|.nil _)<|q _ ⟨false,Ad 39 1050385 [(0,true)],h⟩) fun h=>Eu
def aJx (f:D9) (m:(Int→Option Int)):Int→Option Int:=fun j=>(bif decide (j<7)then(BK ([f.User,f.Message,f.State,f.gB,f.jT,f.nX,f.gY]:AZ) j).bind fun q=>(ah q).bind fun s=>(bif s then some 2 else m (BJ (j+1)))else some 0)
def aFo (f:D9):Int→Option Int:=bn (aJx f) BA
def YD (f:D9):Option Int:=(xZ f.Users).bind fun j=>(bif (j != 0)then some j else(aC4 f.Kinds).bind fun m=>(bif (m != 0)then some m else aFo f 0))
def aj6 (aB r) (h:YD aB=some r):BF 366 [Jf aB] [] (AQ r) []:=Ak.aG Tryz.func366 rfl<|AU<|Aa<|AO h fun z f h=>AL<|.a 2<|.ca (akp aB.Users z f)<|.aW<|AU<|Ae h Bf fun h=>AB.skip<|Aa<|AO h fun I j h=>AL<|.a 2<|.ca (asg aB.Kinds I j)<|.aW<|AU<|Ae h Bf fun h=>AB.skip<|Aa<|AU<|AB.block<|Dx (fun u=>⟨BN 40 [(33,.d ((Ko AV) ([aB.User,aB.Message,aB.State,aB.gB,aB.jT,aB.nX,aB.gY]:(List Int)))),(34,AQ u)],[],0⟩) _ _ _ (Ad 40 25769803776 []) h<|fun J O m u h=>AU<|Aa<|Ae h (fun h=>AB.skip<|Aa<|AB.block<|AO h fun L q h=>AL<|.p (aBX (k:=.i64) AV q aBS D5 A8 rfl)<|.aW<|AO h fun M s h=>AL<|.a 1<|.ca (aHD L M s)<|.aY<|Ae h Bf fun h=>AB.skip<|BH<|.a 2<|.nil<|m _ _ (Ad 40 25769803776 []) h) fun h=>Eu
def zZ (f:Bool):Option Int:=(bif f then some 7 else some 0)
def Oz (j:Int) (f:Bo):Option Int:=(bif (j==9)then some (!(f.Text.toList==BZ.toList))else some false).bind fun q=>(bif q then(iq f.Text).bind fun s=>some s else(bif (j==12)then some (f.Text.toList==BZ.toList)else some false).bind fun u=>(bif u then some 9 else(bif (j==12)then some (decide ((f.Text.size:Int)>32))else some false).bind fun m=>(bif m then zZ m else zZ (decide ((f.Text.size:Int)>400)))))
def anb (dF dR r) (h:Oz dF dR=some r):BF 359 [AQ dF,G7 dR] [] (AQ r) []:=Ak.aG Tryz.func359 rfl<|AU<|Aa<|AB.block<|AL<|.a 2<|AO h fun I m h=>.mg 8 4 (Ah I) (.bi m)<|.aW<|Ae h (fun h=>AO h fun J q h=>AL<|.a 2<|.ca (aIf dR.Text J q)<|.aW<|CS) fun h=>AL<|.a 2<|AO h fun L u h=>.mg 19 4 (Ah L) (.bi u)<|.aW<|Ae h Bf fun h=>DJ (fun s=>∃(z:Bool),CG s ⟨BN 37 [(24,Ah z)],[],0⟩∧zZ z=some r) (by rintro s ⟨z,M,h⟩;exact Ce M<|Ae h Bf fun h=>NY)<|fun K10=>AL<|.a 2<|AO h fun f j h=>.mg 27 5 (Ah f) (.bi j)<|.aW<|Ae h (fun h=>AB.skip<|K10 _ ⟨f,Ad 37 16777216 [],h⟩) fun h=>BH<|.a 5<|.nil<|K10 _ ⟨(decide ((dR.Text.size:Int)>400)),Ad 37 16777216 [],h⟩
def qp (f:Bo) (j:Int) (m:Int):Option Int:=(bif decide (f.N<j)then some true else some (decide (f.N>m))).bind fun q=>(bif q then some 2 else some 0)
def MW (j:Int) (f:Bo):Option Int:=(bif (j==2)then qp f 0 4 else(bif (j==8)then qp f 0 1000000000 else(bif (j==10)then qp f 1 10000 else(bif (j==9)then(bif (f.N==1)then some true else some (f.N==2)).bind fun m=>(bif m then some true else some (f.N==6)).bind fun q=>(bif q then some 0 else some 2)else qp f 0 3))))
def alp (dF dR r) (h:MW dF dR=some r):BF 360 [AQ dF,G7 dR] [] (AQ r) []:=Ak.aG Tryz.func360 rfl<|AU<|AU<|DJ (fun s=>∃(m:Int) (q:Int),CG s ⟨BN 39 [(3,.ptr 0 0),(5,AQ m),(6,AQ q)],[.box (Ag (EK dR))],0⟩∧qp dR m q=some r) (by rintro s ⟨m,q,J,h⟩;exact Ce J<|Aa<|AL<|.a 4<|AO h fun L u h=>.mg 33 5 (Ah L) (.bi u)<|TN)<|fun K6=>AU<|AB.block<|AU<|Ae h (fun h=>BH<|.a 1<|.nil<|K6 _ ⟨0,4,Ad 39 104 [(0,true)],h⟩) fun h=>AU<|Ae h (fun h=>BH<|.a 1<|.nil<|K6 _ ⟨0,1000000000,Ad 39 104 [(0,true)],h⟩) fun h=>AU<|Ae h (fun h=>BH<|.a 2<|.nil<|K6 _ ⟨1,10000,Ad 39 104 [(0,true)],h⟩) fun h=>AU<|Ae h (fun h=>Aa<|AU<|AL<|.a 2<|AO h fun z f h=>.mg 21 3 (Ah z) (.bi f)<|.a 1<|AO h fun I j h=>.mg 26 2 (Ah I) (D7 j)<|TN) fun h=>AB.skip<|K6 _ ⟨0,3,Ad 39 104 [(0,true)],h⟩
def QG (j:Int) (f:Bo):Option Int:=(bif decide (f.Target<0)then some true else(bif (f.Target==0)then some (j != 11)else some false).bind fun m=>some m).bind fun q=>(bif q then some 2 else some 0)
def ajE (dF dR r) (h:QG dF dR=some r):BF 361 [AQ dF,G7 dR] [] (AQ r) []:=Ak.aG Tryz.func361 rfl<|AU<|Aa<|AL<|.a 3<|AO h fun m f h=>.mg 8 8 (Ah m) (.bi f (k2:=fun h=>.a 3<|AO h fun q j h=>.mg 12 3 (Ah q) (.bi j)<|.aW<|CM))<|TN
def Yq (j:Int) (f:Bo):Option Int:=(bif f.Thread then some (f.Target==0)else some false).bind fun m=>(bif m then some 1 else some 0)
def alq (dF dR r) (h:Yq dF dR=some r):BF 362 [AQ dF,G7 dR] [] (AQ r) []:=Ak.aG Tryz.func362 rfl<|AU<|Aa<|AL<|.a 2<|AO h fun j f h=>.mg 7 4 (Ah j) (.bi f)<|TN
def Yu (j:Int) (f:Bo):Option Int:=(bif (f.Via.toList==BZ.toList)then some 0 else(bif (f.N != 3)then some 1 else(Y3 f.Via).bind fun m=>some m))
def ah3 (dF dR r) (h:Yu dF dR=some r):BF 363 [AQ dF,G7 dR] [] (AQ r) []:=Ak.aG Tryz.func363 rfl<|AU<|Aa<|AB.block<|AU<|Ae h Bf fun h=>AU<|Ae h Bf fun h=>AB.skip<|AO h fun j f h=>AL<|.a 2<|.ca (aBm dR.Via j f)<|.aW<|CS
def aHl (f:Bo) (z:(Int→Option Int)):Int→Option Int:=fun m=>(bif decide (m<(f.Allow.length:Int))then(BK f.Allow m).bind fun j=>(jg j).bind fun s=>(bif (s != 0)then some 3 else(bif decide (m>0)then(BK f.Allow (BJ (m-1))).bind fun q=>some (Op.bytesLess (j.toList) (q.toList)||j.toList==q.toList)else some false).bind fun u=>(bif u then some 8 else z (BJ (m+1))))else some 0)
def acs (f:Bo):Int→Option Int:=bn (aHl f) BA
def V8 (j:Int) (f:Bo):Option Int:=(bif (j==6)then(UY f.Allow).bind fun m=>some m else(bif decide ((f.Allow.length:Int)>0)then some (f.N != 3)else some false).bind fun q=>(bif q then some 1 else(bif decide ((f.Allow.length:Int)>100)then some 7 else acs f 0)))
def asU (dF dR r) (h:V8 dF dR=some r):BF 364 [AQ dF,G7 dR] [] (AQ r) []:=Ak.aG Tryz.func364 rfl<|AU<|Aa<|AB.block<|AU<|Ae h (fun h=>AO h fun O s h=>AL<|.a 2<|.ca (aKZ dR.Allow O s)<|.aW<|CS) fun h=>AL<|.a 2<|.p (BQ CO dR.Allow F7 rfl)<|.a 1<|AO h fun U u h=>.mg 18 4 (Ah U) (.bi u)<|.aW<|Ae h Bf fun h=>AL<|.a 2<|.p (BQ CO dR.Allow F7 rfl)<|.aW<|Ae h Bf fun h=>AB.skip<|Aa<|AL<|.a 2<|.p (BQ CO dR.Allow F7 rfl)<|.aW<|AB.block<|Dx (fun M=>⟨BN 52 [(3,.ptr 0 0),(29,GV dR.Allow),(30,AQ (dR.Allow.length:Int)),(31,AQ M)],[.box (Ag (EK dR))],0⟩) _ _ _ (Ad 52 3758096392 [(0,true)]) h<|fun Y k8 z M h=>AU<|Aa<|Ae h (fun h=>AB.skip<|Aa<|AB.block<|AO h fun I f h=>AL<|.a 1<|.p (BP CO f F7 JV rfl)<|.aW<|Aa<|AO h fun J j h=>AL<|.a 1<|.ca (aaw I J j)<|.aW<|Ae h Bf fun h=>AB.skip<|AL<|.a 2<|AO h fun L m h=>.mg 41 9 (Ah L) (.bi m (fun h=>AO h fun Z q h=>.a 5<|.p (BP CO q F7 JV rfl)<|.aW<|CM))<|.aY<|Ae h Bf fun h=>AB.skip<|BH<|.a 2<|.nil<|z _ _ (Ad 52 3758096392 [(0,true)]) h) fun h=>Eu
def tX (n:Nat) (a0:Int) (f:Bo):Option Int:=bif n==359 then Oz a0 f else bif n==360 then MW a0 f else bif n==361 then QG a0 f else bif n==362 then Yq a0 f else bif n==363 then Yu a0 f else bif n==364 then V8 a0 f else none
def aiX (n a0 f r) (h:tX n a0 f=some r):XH Tryz.prog AV EK AV (aJm n) (tX n):=by
 by_cases m:n=359
 ·subst m;exact⟨359,[],rfl,ai5,fun a0 f c j=>anb a0 f c j⟩
 by_cases q:n=360
 ·subst q;exact⟨360,[],rfl,ahl,fun a0 f c j=>alp a0 f c j⟩
 by_cases s:n=361
 ·subst s;exact⟨361,[],rfl,ale,fun a0 f c j=>ajE a0 f c j⟩
 by_cases u:n=362
 ·subst u;exact⟨362,[],rfl,arU,fun a0 f c j=>alq a0 f c j⟩
 by_cases z:n=363
 ·subst z;exact⟨363,[],rfl,aiR,fun a0 f c j=>ah3 a0 f c j⟩
 by_cases I:n=364
 ·subst I;exact⟨364,[],rfl,akH,fun a0 f c j=>asU a0 f c j⟩
 rw[tX,Zy m,Zy q,Zy s,Zy u,Zy z,Zy I]at h;have h:(none:Option Int)=some r:=h;cases h
def Xu :(List N8):=[(⟨1,359⟩:N8),(⟨2,360⟩:N8),(⟨4,361⟩:N8),(⟨8,362⟩:N8),(⟨16,363⟩:N8),(⟨32,364⟩:N8)]
def aFm (f:(Int→Bo→Option Int)) (j:Int) (m:Bo):Option Int:=f (BJ (j+1)) m
def WT (z:Int) (m:Int) (q:(Int→Bo→Option Int)):Int→Bo→Option Int:=fun j f=>(bif decide (j<(Xu.length:Int))then(BK Xu j).bind fun s=>(bif ((Du .and .i64 z s.arV)==0)then aFm q j f else(tX s.akJ m f).bind fun u=>(bif (u != 0)then some u else aFm q j f))else(bif ((Du .and .i64 z 64) != 0)then(UY f.gu).bind fun I=>some I else(bif ((Du .and .i64 z 128) != 0)then(YD f.Levels).bind fun J=>some J else some 0)))
def KC (j:Int) (f:Int):Int→Bo→Option Int:=aX (WT j f) BA
def Jb (f:Int) (j:Bo):Option Int:=(fB f).bind fun q=>(qO f).bind fun s=>(bif (!s)then some true else(jf j).bind fun u=>some ((Du .andNot .i64 u q) != 0)).bind fun z=>(bif z then some 1 else(jf j).bind fun I=>(bif (I==0)then(Zj f).bind fun m=>some (m==0)else some false).bind fun J=>(bif J then some 0 else KC q f 0 j))
def alg (dF dR r) (h:Jb dF dR=some r):BF 292 [AQ dF,G7 dR] [] (AQ r) []:=Ak.aG Tryz.func292 rfl<|AU<|AO h fun q Y h=>AL<|.a 1<|.ca (aKj dF q Y)<|.aW<|Aa<|AO h fun x2 Z h=>AL<|.a 1<|.ca (ae1 dF x2 Z)<|.a 1<|AO h fun x3 hx3 h=>.mg 15 6 (Ah x3) (.bi hx3 (k2:=fun h=>AO h fun x5 hx5 h=>.a 1<|.ca (adl dR x5 hx5)<|.a 1<|.p (aer (k:=.i64) (u:=x5) (v:=q) rfl)<|.aW<|CM))<|.aY<|Ae h Bf fun h=>AB.skip<|Aa<|AO h fun x7 hx7 h=>AL<|.a 1<|.ca (adl dR x7 hx7)<|.a 1<|AO h fun x8 zn h=>.mg 25 4 (Ah x8) (.bi zn (fun h=>AO h fun x10 z h=>.a 1<|.ca (aa5 dF x10 z)<|.aW<|CM))<|.aY<|Ae h Bf fun h=>AB.skip<|AL<|.a 6<|.p (EG akZ aI2 [Sr (⟨1,359⟩:N8),Sr (⟨2,360⟩:N8),Sr (⟨4,361⟩:N8),Sr (⟨8,362⟩:N8),Sr (⟨16,363⟩:N8),Sr (⟨32,364⟩:N8)] rfl)<|.aW<|Aa<|AL<|.a 1<|.p (BQ Sr Xu aL1 rfl)<|.aW<|AB.block<|Dt (fun j f=>⟨BN 69 [(0,AQ dF),(3,.ptr 0 0),(5,AQ q),(37,.d ((Ai Sr) Xu)),(38,AQ (Xu.length:Int)),(39,AQ j)],[.box (Ag (EK f))],0⟩) _ _ _ _ (Ad 69 962072674345 [(0,true)]) h<|fun J25 k14 I j f h=>AU<|Aa<|Ae h (fun h=>AB.skip<|DJ (fun s=>CG s ⟨BN 69 [(0,AQ dF),(3,.ptr 0 0),(5,AQ q),(37,.d ((Ai Sr) Xu)),(38,AQ (Xu.length:Int)),(39,AQ j)],[.box (Ag (EK f))],0⟩∧aFm k14 j f=some r) (by rintro s ⟨hs,h⟩;exact Ce hs<|BH<|.a 2<|.nil<|I _ _ _ (Ad 69 962072674345 [(0,true)]) h)<|fun J=>AB.block<|AO h fun L M h=>AL<|.p (BP Sr M aL1 aMF rfl)<|.aW<|Aa<|AL<|.a 3<|.p (O5 (k:=.i64) (u:=q) (v:=L.arV) rfl)<|.aW<|Ae h (fun h=>AB.exit<|J _ ⟨Ad 69 962072674345 [(0,true)],h⟩) fun h=>AB.skip<|AO h fun x19 m h=>AL<|.a 4<|.p (Yp (aiX L.akJ dF f x19 m) m rfl)<|.aW<|AU<|Ae h Bf fun h=>AB.skip<|J _ ⟨Ad 69 962072674345 [(0,true)],h⟩) fun h=>AB.exit<|Aa<|AL<|.a 1<|.p (O5 (k:=.i64) (u:=q) (v:=64) rfl)<|.aW<|Ae h (fun h=>AO h fun SH O h=>AL<|.a 2<|.ca (aKZ f.gu SH O)<|.aW<|CS) fun h=>AB.skip<|Aa<|AL<|.a 1<|.p (O5 (k:=.i64) (u:=q) (v:=128) rfl)<|.aW<|Ae h (fun h=>AO h fun x24 U h=>AL<|.a 2<|.ca (aj6 f.Levels x24 U)<|.aW<|CS) fun h=>NY
def XL (f:AP) (L:Bool):Option Int:=(bif L then some 1 else(yP f).bind fun M=>(bif (!M)then some 3 else(bif decide (f.Time<0)then some true else some (decide (f.Time>1000000000))).bind fun O=>(bif O then some true else some (decide (f.Depth<1))).bind fun U=>(bif U then some true else some (decide (f.Depth>100000))).bind fun j=>(bif j then some 2 else(bif decide ((f.bD.length:Int)>10)then some true else some (decide ((f.bM.length:Int)>8))).bind fun m=>(bif m then some 7 else(qY f.bD).bind fun q=>(bif (!q)then some true else(qY f.bM).bind fun s=>some (!s)).bind fun u=>(bif u then some 8 else(bif ((f.bD.length:Int)==0)then some (f.Kind != 1)else some false).bind fun z=>(bif z then some 9 else(bif (f.Kind==1)then some (decide ((BJ ((f.bD.length:Int)+(f.bM.length:Int)))>0))else some false).bind fun I=>(bif I then some 6 else(Jb f.Kind f.Content).bind fun J=>some J)))))))
def tY (f:AP):Option Int:=(bif (f.Kind==2)then some true else some (f.Kind==9)).bind fun m=>(bif decide (f.Kind<1)then XL f true else(bif decide (f.Kind>14)then XL f true else(Yi f.Kind).bind fun j=>(bif (!(f.State==j))then XL f true else(bif (!(f.Key.toList==BZ.toList))then XL f (!m)else XL f false))))
def an1 (aO r) (h:tY aO=some r):BF 221 [Dj aO] [] (AQ r) []:=Ak.aG Tryz.func221 rfl<|AU<|AL<|.a 3<|AO h fun x1 hx1 h=>.mg 7 4 (Ah x1) (.bi hx1)<|.aW<|Aa<|AB.block<|DJ (fun s=>∃(v3:Bool),CG s ⟨BN 112 [(1,.ptr 0 0),(12,Ah v3)],[.box (Ag (Am aO))],0⟩∧XL aO v3=some r) (by rintro s ⟨v3,hs,h⟩;exact Ce hs<|Ae h Bf fun h=>AO h fun x5 hx5 h=>AL<|.a 1<|.ca (an6 aO x5 hx5)<|.aW<|Ae h Bf fun h=>AL<|.a 3<|AO h fun x7 hx7 h=>.mg 46 4 (Ah x7) (.bi hx7)<|.a 1<|AO h fun x9 Fp h=>.mg 52 3 (Ah x9) (D7 Fp)<|.a 1<|AO h fun x11 J h=>.mg 57 3 (Ah x11) (D7 J)<|.aW<|Ae h Bf fun h=>AL<|.a 2<|.p (BQ AV aO.bD Bv rfl)<|.a 1<|AO h fun x14 L h=>.mg 66 5 (Ah x14) (.bi L (k2:=fun h=>.a 2<|.p (BQ AV aO.bM Bv rfl)<|.aW<|CM))<|.aW<|Ae h Bf fun h=>AO h fun x17 M h=>AL<|.a 2<|.ca (aJD aO.bD x17 M)<|.a 1<|AO h fun x18 O h=>.mg 77 5 (Ah x18) (.bi O (k2:=fun h=>AO h fun MI U h=>.a 2<|.ca (aJD aO.bM MI U)<|.aW<|CM))<|.aW<|Ae h Bf fun h=>AL<|.a 2<|.p (BQ AV aO.bD Bv rfl)<|.a 1<|AO h fun SH Y h=>.mg 88 4 (Ah SH) (.bi Y)<|.aW<|Ae h Bf fun h=>AL<|.a 3<|AO h fun x25 Z h=>.mg 97 9 (Ah x25) (.bi Z (fun h=>.a 2<|.p (BQ AV aO.bD Bv rfl)<|.a 2<|.p (BQ AV aO.bM Bv rfl)<|.aW<|CM))<|.aW<|Ae h Bf fun h=>AB.skip<|AO h fun x28 hx28 h=>AL<|.a 4<|.ca (alg aO.Kind aO.Content x28 hx28)<|.aW<|CS)<|fun q=>FW h (fun f h=>AB.draw A8 A8 A8 (.a 3<|.c (Ba some f)<|.a 22<|.nil _)<|q _ ⟨true,Ad 112 4098 [(0,true)],h⟩) fun f h=>FW h (fun j h=>AB.draw A8 A8 A8 (.a 3<|.c (Ba some f)<|.a 4<|.c (Ba some j)<|.a 17<|.nil _)<|q _ ⟨true,Ad 112 4098 [(0,true)],h⟩) fun j h=>AO h fun I u h=>FW h (fun m h=>AB.draw A8 A8 A8 (.a 3<|.c (Ba some f)<|.a 4<|.c (Ba some j)<|.a 4<|.ca (dA aO.Kind I u)<|.a 2<|.c (Ba some m)<|.a 9<|.nil _)<|q _ ⟨true,Ad 112 4098 [(0,true)],h⟩) fun m h=>FW h (fun z h=>AB.draw A8 A8 A8 (.a 3<|.c (Ba some f)<|.a 4<|.c (Ba some j)<|.a 4<|.ca (dA aO.Kind I u)<|.a 2<|.c (Ba some m)<|.a 3<|.c (Ba some z)<|.a 5<|.nil _)<|q _ ⟨(!x1),Ad 112 4098 [(0,true)],h⟩) fun z h=>AB.draw A8 A8 A8 (.a 3<|.c (Ba some f)<|.a 4<|.c (Ba some j)<|.a 4<|.ca (dA aO.Kind I u)<|.a 2<|.c (Ba some m)<|.a 3<|.c (Ba some z)<|.a 5<|.nil _)<|q _ ⟨false,Ad 112 4098 [(0,true)],h⟩
def aH4 (f:FH) (j:FH) (q:(Int→Option Bool)):Int→Option Bool:=fun m=>(bif decide (m<(f.length:Int))then(BK f m).bind fun s=>(BK j m).bind fun u=>(bif (!(s.toList==u.toList))then some false else q (BJ (m+1)))else some true)
def aIU (f:FH) (j:FH):Int→Option Bool:=bn (aH4 f j) BA
def qx (f:FH) (j:FH):Option Bool:=(bif ((f.length:Int) != (j.length:Int))then some false else aIU f j 0)
def acu (gW gV r) (h:qx gW gV=some r):BF 293 [GV gW,GV gV] [] (Ah r) []:=Ak.aG Tryz.func293 rfl<|AU<|Aa<|AL<|.a 1<|.p (BQ CO gW F7 rfl)<|.a 1<|.p (BQ CO gV F7 rfl)<|.aW<|Ae h Bf fun h=>AB.skip<|Aa<|AL<|.a 1<|.p (BQ CO gW F7 rfl)<|.aW<|AB.block<|Dx (fun q=>⟨BN 26 [(0,GV gW),(1,GV gV),(12,AQ (gW.length:Int)),(13,AQ q)],[],0⟩) _ _ _ (Ad 26 12291 []) h<|fun s u f q h=>AU<|Aa<|Ae h (fun h=>AB.skip<|Aa<|AB.block<|AU<|CB h fun z j I m h=>GX A8 A8 A8 (.a 2<|.p (BP CO j F7 JV rfl)<|.a 3<|.p (BP CO m F7 JV rfl)<|.a 2<|.nil _)<|Ae h Bf fun h=>AB.skip<|BH<|.a 2<|.nil<|f _ _ (Ad 26 12291 []) h) fun h=>Eu
def aHp (f:L9) (j:L9) (q:(Int→Option Bool)):Int→Option Bool:=fun m=>(bif decide (m<(f.length:Int))then(BK f m).bind fun s=>(BK j m).bind fun u=>(bif (!uN s u)then some false else q (BJ (m+1)))else some true)
def aLp (f:L9) (j:L9):Int→Option Bool:=bn (aHp f j) BA
def xH (f:L9) (j:L9):Option Bool:=(bif ((f.length:Int) != (j.length:Int))then some false else aLp f j 0)
def ao0 (gW gV r) (h:xH gW gV=some r):BF 294 [ND gW,ND gV] [] (Ah r) []:=Ak.aG Tryz.func294 rfl<|AU<|Aa<|AL<|.a 1<|.p (BQ ES gW FU rfl)<|.a 1<|.p (BQ ES gV FU rfl)<|.aW<|Ae h Bf fun h=>AB.skip<|Aa<|AL<|.a 1<|.p (BQ ES gW FU rfl)<|.aW<|AB.block<|Dx (fun u=>⟨BN 26 [(0,ND gW),(1,ND gV),(12,AQ (gW.length:Int)),(13,AQ u)],[],0⟩) _ _ _ (Ad 26 12291 []) h<|fun z I m u h=>AU<|Aa<|Ae h (fun h=>AB.skip<|Aa<|AB.block<|AU<|CB h fun f q j s h=>GX A8 A8 A8 (.a 2<|.p (BP ES q FU Ji rfl)<|.a 3<|.p (BP ES s FU Ji rfl)<|.a 1<|.p (x:=(Ah (!uN f j))) (aHo [.string f.User,.int .i64 f.N] [.string j.User,.int .i64 j.N] (alO f j) BU ari rfl)<|.nil _)<|Ae h Bf fun h=>AB.skip<|BH<|.a 2<|.nil<|m _ _ (Ad 26 12291 []) h) fun h=>Eu
def aGK (f:KQ) (j:KQ) (q:(Int→Option Bool)):Int→Option Bool:=fun m=>(bif decide (m<(f.length:Int))then(BK f m).bind fun s=>(BK j m).bind fun u=>(bif (!uh s u)then some false else q (BJ (m+1)))else some true)
def ab3 (f:KQ) (j:KQ):Int→Option Bool:=bn (aGK f j) BA
def zH (f:KQ) (j:KQ):Option Bool:=(bif ((f.length:Int) != (j.length:Int))then some false else ab3 f j 0)
def apF (gW gV r) (h:zH gW gV=some r):BF 295 [Me gW,Me gV] [] (Ah r) []:=Ak.aG Tryz.func295 rfl<|AU<|Aa<|AL<|.a 1<|.p (BQ EY gW FX rfl)<|.a 1<|.p (BQ EY gV FX rfl)<|.aW<|Ae h Bf fun h=>AB.skip<|Aa<|AL<|.a 1<|.p (BQ EY gW FX rfl)<|.aW<|AB.block<|Dx (fun u=>⟨BN 26 [(0,Me gW),(1,Me gV),(12,AQ (gW.length:Int)),(13,AQ u)],[],0⟩) _ _ _ (Ad 26 12291 []) h<|fun z I m u h=>AU<|Aa<|Ae h (fun h=>AB.skip<|Aa<|AB.block<|AU<|CB h fun f q j s h=>GX A8 A8 A8 (.a 2<|.p (BP EY q FX Jo rfl)<|.a 3<|.p (BP EY s FX Jo rfl)<|.a 1<|.p (x:=(Ah (!uh f j))) (aHo [.int .i64 f.Kind,.int .i64 f.N] [.int .i64 j.Kind,.int .i64 j.N] (asv f j) BU aq7 rfl)<|.nil _)<|Ae h Bf fun h=>AB.skip<|BH<|.a 2<|.nil<|m _ _ (Ad 26 12291 []) h) fun h=>Eu
def aAj (f:Bo) (j:Bo):Option Bool:=(bif (!(f.Text.toList==j.Text.toList))then some true else some (f.N != j.N)).bind fun x1=>(bif x1 then some true else some (f.Target != j.Target)).bind fun x3=>(bif x3 then some true else some (!(f.Thread==j.Thread))).bind fun x5=>(bif x5 then some true else some (!(f.Via.toList==j.Via.toList))).bind fun x7=>(bif x7 then some true else(qx f.Allow j.Allow).bind fun m=>some (!m)).bind fun x9=>(bif x9 then some true else(qx f.gu j.gu).bind fun q=>some (!q)).bind fun s=>(bif s then some false else(xH f.Levels.Users j.Levels.Users).bind fun u=>(bif u then(zH f.Levels.Kinds j.Levels.Kinds).bind fun z=>some z else some false).bind fun I=>(bif I then some (f.Levels.User==j.Levels.User)else some false).bind fun J=>(bif J then some (f.Levels.Message==j.Levels.Message)else some false).bind fun L=>(bif L then some (f.Levels.State==j.Levels.State)else some false).bind fun M=>(bif M then some (f.Levels.gB==j.Levels.gB)else some false).bind fun O=>(bif O then some (f.Levels.jT==j.Levels.jT)else some false).bind fun U=>(bif U then some (f.Levels.nX==j.Levels.nX)else some false).bind fun Y=>(bif Y then some (f.Levels.gY==j.Levels.gY)else some false).bind fun Z=>some Z)
def agX (gW gV r) (h:aAj gW gV=some r):BF 222 [G7 gW,G7 gV] [] (Ah r) []:=Ak.aG Tryz.func222 rfl<|AU<|AB.akI [] 108 0x68383206638310641830062182f064302e062302d05c082c05a082b060102a05e1029060302805c182805e302705a182705c202605a28250580024056002305818220500822056182104e0821058202004c0820056281f04a081f054301e050101e052301d04e101d050201c04c181c04e281b04a181b04c281a04a201a048181904400190461818042001804820170400017046281603e0016044101503c0815042101403a0814044201304018130380813042281203e18120360812040281103e2011034081103c2010038101003a280f036100f038280e036200e034180e032100d02a000d030100c028000c032200b02e180b026000b030280a02c180a024000a02e280902c2009022000902a2008026100802008080282807024100701e080702628060242006022180601c0806020280501e200501c100501a2004016100401000040182803014100300e000301628020142002012180200c0002010280100e200100c100100a08010082800006200000410000020000 [51,52] ⟨BN 121 [(2,.ptr 0 0),(3,.ptr 1 0),(5,.ptr 2 0),(6,.ptr 3 0)],[.box (Ag (EK gW)),.box (Ag (EK gV)),.box (Ag (Ea gW.Levels)),.box (Ag (Ea gV.Levels))],0⟩ ⟨Zi (Ad 121 108 [(0,true),(1,true),(2,true),(3,true)]),Zi (Ad 121 108 [(0,true),(1,true),(3,true),(2,true)]),trivial⟩<|Aa<|AL<|.a 5<|AO h fun x1 Y h=>.mg 16 6 (Ah x1) (.bi Y)<|.a 1<|AO h fun x3 Z h=>.mg 24 5 (Ah x3) (D7 Z)<|.a 1<|AO h fun x5 hx5 h=>.mg 31 5 (Ah x5) (D7 hx5)<|.a 1<|AO h fun x7 hx7 h=>.mg 38 5 (Ah x7) (D7 hx7)<|.a 1<|AO h fun x9 Fp h=>.mg 45 6 (Ah x9) (D7 Fp (k2:=fun e i=>by subst e;have h:=i;exact AO h fun x11 f h=>.a 4<|.ca (acu gW.Allow gV.Allow x11 f)<|.aW<|CM))<|.a 1<|AO h fun x12 j h=>.mg 53 6 (Ah x12) (D7 j (k2:=fun e i=>by subst e;have h:=i;exact AO h fun x14 m h=>.a 4<|.ca (acu gW.gu gV.gu x14 m)<|.aW<|CM))<|.aY<|Ae h Bf fun h=>AB.skip<|AO h fun x16 q h=>AL<|.a 4<|.ca (ao0 gW.Levels.Users gV.Levels.Users x16 q)<|.a 1<|AO h fun x17 s h=>.mg 66 5 (Ah x17) (D7 s (fun e i=>by subst e;have h:=i;exact AO h fun x19 u h=>.a 4<|.ca (apF gW.Levels.Kinds gV.Levels.Kinds x19 u)<|.aW<|CM))<|.a 1<|AO h fun MI z h=>.mg 73 5 (Ah MI) (D7 z)<|.a 1<|AO h fun SH I h=>.mg 80 5 (Ah SH) (D7 I)<|.a 1<|AO h fun x24 J h=>.mg 87 5 (Ah x24) (D7 J)<|.a 1<|AO h fun Gl L h=>.mg 94 5 (Ah Gl) (D7 L)<|.a 1<|AO h fun x28 M h=>.mg 101 5 (Ah x28) (D7 M)<|.a 1<|AO h fun WZ O h=>.mg 108 5 (Ah WZ) (D7 O)<|.a 1<|AO h fun x32 U h=>.mg 115 5 (Ah x32) (D7 U)<|.aW<|CS
def dV (f:ByteArray):Option ByteArray:=(eG f oU).bind fun j=>some j.2.1
def aCZ (zT r) (h:dV zT=some r):BF 85 [Cx zT] [] (Cx r) []:=Ak.aG Tryz.func85 rfl<|AU<|AO h fun j f h=>AL<|.a 1<|.ca (abx zT oU j f)<|.aW<|AU<|CS
def Ya (f:AP) (j:Bool):Option Int:=(bif j then some 6 else(og f).bind fun m=>(bif (m != f.Id)then some 11 else(dV f.bF).bind fun q=>(bif (!tu f.pR (⟨q,f.Id⟩:Na))then some 12 else some 0)))
def uO (f:AP):Option Int:=(tY f).bind fun s=>(bif (s != 0)then some s else(Zf f).bind fun j=>(bif (!j)then(ng f.Kind f.Content).bind fun m=>(aAj f.Content m).bind fun q=>Ya f (!q)else Ya f false))
def alZ (aO r) (h:uO aO=some r):BF 159 [Dj aO] [] (AQ r) []:=Ak.aG Tryz.func159 rfl<|AU<|Aa<|AO h fun Y L h=>AL<|.a 1<|.ca (an1 aO Y L)<|.aW<|AU<|Ae h Bf fun h=>AB.skip<|Aa<|AB.block<|DJ (fun s=>∃(M:Bool),CG s ⟨BN 40 [(1,.ptr 0 0),(9,Ah M)],[.box (Ag (Am aO))],0⟩∧Ya aO M=some r) (by rintro s ⟨M,Z,h⟩;exact Ce Z<|Ae h Bf fun h=>AO h fun x5 O h=>GX A8 A8 A8 (.a 1<|.ca (adP aO x5 O)<|.a 4<|.nil _)<|Ae h Bf fun h=>AO h fun m U h=>GX A8 A8 A8 (.a 4<|.ca (aCZ aO.bF m U)<|.a 3<|.p (x:=(Ah (!tu aO.pR (⟨m,aO.Id⟩:Na)))) (aHo [.string aO.pR.Server,.int .i64 aO.pR.Sum] [.string ((⟨m,aO.Id⟩:Na).Server),.int .i64 ((⟨m,aO.Id⟩:Na).Sum)] (alI aO.pR (⟨m,aO.Id⟩:Na)) BU aoz rfl)<|.a 1<|.nil _)<|Ae h Bf fun h=>NY)<|fun K9=>AO h fun q j h=>FW h (fun f h=>CB h fun u z I J h=>AB.draw A8 A8 A8 (.a 1<|.ca (uZ aO q j)<|.a 1<|.c (Ba some f)<|.a 6<|.ca (abY aO.Kind aO.Content u z)<|.ca (agX aO.Content u I J)<|.a 3<|.nil _)<|K9 _ ⟨(!I),Ad 40 514 [(0,true)],h⟩) fun f h=>AB.draw A8 A8 A8 (.a 1<|.ca (uZ aO q j)<|.a 1<|.c (Ba some f)<|.a 11<|.nil _)<|K9 _ ⟨false,Ad 40 514 [(0,true)],h⟩
def Fin (f:Aq) (m:(Int→Option Int)):Int→Option Int:=fun j=>(bif decide (j<(f.length:Int))then(BK f j).bind fun q=>(BK f (BJ (j-1))).bind fun s=>(bif decide (q.Id≤s.Id)then some 8 else m (BJ (j+1)))else some 0)
def yY (f:Aq):Int→Option Int:=bn (Fin f) BA
def XI (f:Aq) (s:(Int→Option Int)):Int→Option Int:=fun j=>(bif decide (j<(f.length:Int))then(BK f j).bind fun m=>(BK f 0).bind fun q=>(bif (!(m.Room.toList==q.Room.toList))then some 13 else s (BJ (j+1)))else yY f 1)
def jU (f:Aq):Int→Option Int:=bn (XI f) BA
def oP (f:Aq) (q:(Int→Option Int)):Int→Option Int:=fun j=>(bif decide (j<(f.length:Int))then(BK f j).bind fun s=>(uO s).bind fun m=>(bif (m != 0)then some m else q (BJ (j+1)))else jU f 0)
def aHj (f:Aq):Int→Option Int:=bn (oP f) BA
def Ph (f:Aq):Option Int:=(bif decide ((f.length:Int)>2000)then some 7 else aHj f 0)
def afu (aB r) (h:Ph aB=some r):BF 111 [BR aB] [] (AQ r) []:=Ak.aG Tryz.func111 rfl<|AU<|Aa<|AL<|.a 1<|.p (BQ Am aB Ci rfl)<|.aW<|Ae h Bf fun h=>AB.skip<|Aa<|AL<|.a 1<|.p (BQ Am aB Ci rfl)<|.aW<|AB.block<|Dx (fun M=>⟨BN 56 [(0,BR aB),(12,BR aB),(13,AQ (aB.length:Int)),(14,AQ M)],[],0⟩) _ _ _ (Ad 56 28673 []) h<|fun U k3 z M h=>AU<|Aa<|Ae h (fun h=>AB.skip<|Aa<|AB.block<|AO h fun Y I h=>AL<|.p (BP Am I Ci DY rfl)<|.aW<|AO h fun Z J h=>AL<|.a 1<|.ca (alZ Y Z J)<|.aW<|AU<|Ae h Bf fun h=>AB.skip<|BH<|.a 2<|.nil<|z _ _ (Ad 56 28673 []) h) fun h=>AB.exit<|Aa<|AL<|.a 1<|.p (BQ Am aB Ci rfl)<|.aW<|AB.block<|Dx (fun O=>⟨BN 56 [(0,BR aB),(24,BR aB),(25,AQ (aB.length:Int)),(26,AQ O)],[],0⟩) _ _ _ (Ad 56 117440513 []) h<|fun J21 k9 L O h=>AU<|Aa<|Ae h (fun h=>AB.skip<|Aa<|AB.block<|AO h fun x11 f h=>AL<|.p (BP Am f Ci DY rfl)<|.aW<|AO h fun x12 j h=>GX A8 A8 A8 (.a 3<|.p (BP Am j Ci DY rfl)<|.a 3<|.nil _)<|Ae h Bf fun h=>AB.skip<|BH<|.a 2<|.nil<|L _ _ (Ad 56 117440513 []) h) fun h=>AB.exit<|Aa<|AU<|AB.block<|Dx (fun m=>⟨BN 56 [(0,BR aB),(8,AQ m)],[],0⟩) _ _ _ (Ad 56 257 []) h<|fun J20 k15 q m h=>Aa<|AL<|.a 2<|.p (BQ Am aB Ci rfl)<|.aW<|Ae h (fun h=>AB.skip<|Aa<|AB.block<|CB h fun x17 s x18 u h=>GX A8 A8 A8 (.a 2<|.p (BP Am s Ci DY rfl)<|.a 5<|.p (BP Am u Ci DY rfl)<|.a 3<|.nil _)<|Ae h Bf fun h=>AB.skip<|BH<|.a 3<|.nil<|q _ _ (Ad 56 257 []) h) fun h=>Eu
def aLh (f:Aq) (q:(Int→(List (Int×Int))→Option (List (Int×Int)))):Int→(List (Int×Int))→Option (List (Int×Int)):=fun j m=>(bif decide (j≥0)then(BK f j).bind fun s=>q (BJ (j-1)) (DI m s.Id j)else some m)
def adD (f:Aq):Int→(List (Int×Int))→Option (List (Int×Int)):=aX (aLh f) BA
def X0 (f:Aq):Option (List (Int×Int)):=adD f (BJ ((f.length:Int)-1)) []
def oW (aB r) (h:X0 aB=some r):BF 117 [BR aB] [] (.mp 0) [.map (List.map (Aj Au AV) r)]:=Ak.aG Tryz.func117 rfl<|AU<|AL<|.a 1<|.p (BQ Am aB Ci rfl)<|.e (x:=.mp 0) [.map (List.map (Aj Au AV) [])] (al8 (kd:=.i64) (n:=(aB.length:Int)) P8 rfl)<|.aW<|Aa<|AL<|.a 1<|.p (BQ Am aB Ci rfl)<|.aW<|AB.block<|Dt (fun f j=>⟨BN 23 [(0,BR aB),(3,.mp 0),(4,AQ f)],[.map (List.map (Aj Au AV) j)],0⟩) _ _ _ _ (Ad 23 25 [(0,true)]) h<|fun z I q f j h=>Aa<|AU<|Ae h (fun h=>AB.skip<|Aa<|AB.block<|AO h fun u s h=>BH<|.a 3<|.p (BP Am s Ci DY rfl)<|.a 3<|.e [.map (List.map (Aj Au AV) (DI j u.Id f))] (jS (k:=0) (key:=u.Id) (val:=f) (m:=j) AV P8 GU A8 rfl)<|.nil<|BH<|.a 3<|.nil<|q _ _ _ (Ad 23 25 [(0,true)]) h) fun h=>Ny
def aCD (f:AZ) (j:(List (Int×Int))) (k2:(Int→Option Bool)):Int→Option Bool:=fun m=>(bif decide (m<(f.length:Int))then(BK f m).bind fun q=>(bif (!((Bq j q).isSome))then some false else k2 (BJ (m+1)))else some true)
def aMG (f:AZ) (j:(List (Int×Int))):Int→Option Bool:=bn (aCD f j) BA
def jE (f:AZ) (j:(List (Int×Int))):Option Bool:=aMG f j 0
def abP (YZ aal r) (h:jE YZ aal=some r):BF 223 [Bz YZ,.ptr 0 0] [.box [.mp 1],.map (List.map (Aj Au AV) aal)] (Ah r) [.box [.mp 1],.map (List.map (Aj Au AV) aal)]:=Ak.aG Tryz.func223 rfl<|AU<|Aa<|AL<|.a 1<|.p (BQ AV YZ Bv rfl)<|.aW<|AB.block<|Dx (fun s=>⟨BN 23 [(1,.ptr 0 0),(8,Bz YZ),(9,AQ (YZ.length:Int)),(10,AQ s)],[.box [.mp 1],.map (List.map (Aj Au AV) aal)],2⟩) _ _ _ (Ad 23 1794 [(0,true),(1,true)]) h<|fun u k2 f s h=>AU<|Aa<|Ae h (fun h=>AB.skip<|Aa<|AB.block<|AO h fun j q h=>AL<|.p (BP AV q Bv D5 rfl)<|.aW<|AL<|.a 2<|.p (x:=.eH [AQ ((Bq aal j).getD 0),Ah ((Bq aal j).isSome)]) (aAd (k:=1) (key:=j) (m:=aal) AV 0 P8 GU zero3 A8 A8 A8 rfl)<|.aW<|AU<|Ae h (fun h=>AU<|ae6) fun h=>AB.skip<|BH<|.a 2<|.nil<|f _ _ (Ad 23 1794 [(0,true),(1,true)]) h) fun h=>AB.exit<|AU<|ae6
def aHz (f:Aq) (u:(Int→(List (Int×Int))→Option Bool)):Int→(List (Int×Int))→Option Bool:=fun j m=>(bif decide (j<(f.length:Int))then(BK f j).bind fun z=>(jE z.bD m).bind fun I=>(bif (!I)then some true else(BK f j).bind fun q=>(jE q.bM m).bind fun s=>some (!s)).bind fun J=>(bif J then some false else u (BJ (j+1)) m)else some true)
def aLo (f:Aq):Int→(List (Int×Int))→Option Bool:=aX (aHz f) BA
def vg (f:Aq):Option Bool:=(X0 f).bind fun j=>aLo f 0 j
def anJ (aB r) (h:vg aB=some r):BF 160 [BR aB] [] (Ah r) []:=Ak.aG Tryz.func160 rfl<|AU<|AO h fun M u h=>AL<|.a 1<|.e (x:=.mp 0) [.map (List.map (Aj Au AV) M)] (Di [] [BR aB] (oW aB M u) rfl)<|.aW<|AL<|.p (x:=.fn (.func 223) [] [.ptr 1 0]) (O7 (fi:=[]) (ca:=[.ptr 1 0]) rfl rfl rfl)<|.aW<|Aa<|AL<|.a 1<|.p (BQ Am aB Ci rfl)<|.aW<|AB.block<|Dt (fun O f=>⟨BN 33 [(0,BR aB),(4,.fn (.func 223) [] [.ptr 0 0]),(10,AQ (aB.length:Int)),(11,AQ O)],[.box [.mp 1],.map (List.map (Aj Au AV) f)],0⟩) _ _ _ _ (Ad 33 3089 [(1,true),(0,true)]) h<|fun Z k4 z O f h=>AU<|Aa<|Ae h (fun h=>AB.skip<|Aa<|AB.block<|AU<|CB h fun U I Y J h=>AL<|.a 3<|.p (BP Am I Ci DY rfl)<|.a 2<|.e (x:=(Ah Y)) [.box [.mp 1],.map (List.map (Aj Au AV) f)] (Xr [.ent 0,.ent 1] [] [.ptr 0 0] [Bz U.bD] (abP U.bD f Y J) rfl (hE:=(KF A8<|KF A8<|trivial)))<|.a 1<|AO h fun x8 L h=>.mg 22 9 (Ah x8) (.bi L (k2:=fun h=>CB h fun j m q s h=>.a 3<|.p (BP Am m Ci DY rfl)<|.a 2<|.e (x:=(Ah q)) [.box [.mp 1],.map (List.map (Aj Au AV) f)] (Xr [.ent 0,.ent 1] [] [.ptr 0 0] [Bz j.bM] (abP j.bM f q s) rfl (hE:=(KF A8<|KF A8<|trivial)))<|.aW<|CM))<|.aY<|Ae h Bf fun h=>AB.skip<|BH<|.a 2<|.nil<|z _ _ _ (Ad 33 3089 [(0,true),(1,true)]) h) fun h=>Eu
def aGC (f:AP) (s:Aq) (j:(List (Int×Int))) (u:(Int→Int→Option (Bool×(List (Int×Int))))):Int→Int→Option (Bool×(List (Int×Int))):=fun m q=>(bif decide (q<(f.bD.length:Int))then(BK f.bD q).bind fun z=>(BK s ((Bq j z).getD 0)).bind fun I=>u (Ui m I.Depth) (BJ (q+1))else(bif decide (f.Depth>m)then some ((BJ (f.Depth-m))==1)else some false).bind fun J=>some (J,j))
def aJ8 (j:AP) (m:Aq) (f:(List (Int×Int))):Int→Int→Option (Bool×(List (Int×Int))):=aX (aGC j m f) BA
def aI1 (f:AP) (m:Aq) (j:(List (Int×Int))) (k2:(Int→Option (Bool×(List (Int×Int))))):Int→Option (Bool×(List (Int×Int))):=fun q=>(bif decide (q<(f.bM.length:Int))then(BK f.bM q).bind fun s=>(BK m ((Bq j s).getD 0)).bind fun u=>(bif decide (u.Depth≥f.Depth)then some (false,j)else k2 (BJ (q+1)))else(bif ((f.bD.length:Int)==0)then some ((f.Depth==1),j)else(BK f.bD 0).bind fun z=>(BK m ((Bq j z).getD 0)).bind fun I=>aJ8 f m j I.Depth 0))
def aKg (j:AP) (m:Aq) (f:(List (Int×Int))):Int→Option (Bool×(List (Int×Int))):=bn (aI1 j m f) BA
def vV (j:Aq) (f:(List (Int×Int))) (m:AP):Option (Bool×(List (Int×Int))):=aKg m j f 0
def ag4 (aB PZ eX r) (h:vV aB PZ eX=some r):BF 161 [BR aB,.mp 0,Dj eX] [.map (List.map (Aj Au AV) PZ)] (Ah r.1) [.map (List.map (Aj Au AV) r.2)]:=Ak.aG Tryz.func161 rfl<|AU<|Aa<|AL<|.a 2<|.p (BQ AV eX.bM Bv rfl)<|.aW<|AB.block<|Dx (fun v1=>⟨BN 75 [(0,BR aB),(1,.mp 0),(5,.ptr 1 0),(13,Bz eX.bM),(14,AQ (eX.bM.length:Int)),(15,AQ v1)],[.map (List.map (Aj Au AV) PZ),.box (Ag (Am eX))],1⟩) _ _ _ (Ad 75 57379 [(0,true),(1,true)]) h<|fun J19 k2 J v1 h=>AU<|Aa<|Ae h (fun h=>AB.skip<|Aa<|AB.block<|AO h fun x4 L h=>AL<|.p (BP AV L Bv D5 rfl)<|.aW<|AO h fun x5 M h=>GX A8 A8 A8 (.a 3<|.p (x:=(AQ ((Bq PZ x4).getD 0))) (XT (k:=0) (key:=x4) (m:=PZ) AV 0 P8 GU zero3 A8 A8 A8 rfl)<|.p (BP Am M Ci DY rfl)<|.a 5<|.nil _)<|Ae h (fun h=>AU<|OE) fun h=>AB.skip<|BH<|.a 2<|.nil<|J _ _ (Ad 75 57379 [(0,true),(1,true)]) h) fun h=>AB.exit<|Aa<|AL<|.a 2<|.p (BQ AV eX.bD Bv rfl)<|.aW<|Ae h (fun h=>AU<|OE) fun h=>AB.skip<|CB h fun x8 O x9 U h=>AL<|.a 4<|.p (BP AV O Bv D5 rfl)<|.a 1<|.p (x:=(AQ ((Bq PZ x8).getD 0))) (XT (k:=0) (key:=x8) (m:=PZ) AV 0 P8 GU zero3 A8 A8 A8 rfl)<|.p (BP Am U Ci DY rfl)<|.aW<|Aa<|AL<|.a 2<|.p (BQ AV eX.bD Bv rfl)<|.aW<|AB.block<|Dt (fun f j=>⟨BN 75 [(0,BR aB),(1,.mp 0),(5,.ptr 1 0),(9,AQ f),(48,Bz eX.bD),(49,AQ (eX.bD.length:Int)),(50,AQ j)],[.map (List.map (Aj Au AV) PZ),.box (Ag (Am eX))],1⟩) _ _ _ _ (Ad 75 1970324836975139 [(0,true),(1,true)]) h<|fun J18 k12 q f j h=>AU<|Aa<|Ae h (fun h=>AB.skip<|Aa<|AB.block<|AO h fun s u h=>AL<|.p (BP AV u Bv D5 rfl)<|.aW<|AO h fun Y z h=>BH<|.a 4<|.p (x:=(AQ ((Bq PZ s).getD 0))) (XT (k:=0) (key:=s) (m:=PZ) AV 0 P8 GU zero3 A8 A8 A8 rfl)<|.p (BP Am z Ci DY rfl)<|.a 2<|.p (x:=(AQ (Ui f Y.Depth))) (anQ rfl)<|.a 1<|.nil<|BH<|.a 2<|.nil<|q _ _ _ (Ad 75 1970324836975139 [(0,true),(1,true)]) h) fun h=>AB.exit<|AL<|.a 4<|AO h fun Z I h=>.mg 68 6 (Ah Z) (.bi I)<|.aW<|OE
def aEL (f:Aq) (q:(Int→(List (Int×Int))→Option Int)):Int→(List (Int×Int))→Option Int:=fun j s=>(bif decide (j<(f.length:Int))then(BK f j).bind fun u=>(vV f s u).bind fun m=>(bif (!m.1)then some 15 else q (BJ (j+1)) m.2)else some 0)
def aaH (f:Aq):Int→(List (Int×Int))→Option Int:=aX (aEL f) BA
def vG (f:Aq):Option Int:=(vg f).bind fun j=>(bif (!j)then some 14 else(X0 f).bind fun m=>aaH f 0 m)
def ag8 (aB r) (h:vG aB=some r):BF 112 [BR aB] [] (AQ r) []:=Ak.aG Tryz.func112 rfl<|AU<|Aa<|AO h fun M f h=>AL<|.a 1<|.ca (anJ aB M f)<|.aW<|Ae h Bf fun h=>AB.skip<|AO h fun I j h=>AL<|.a 1<|.e (x:=.mp 0) [.map (List.map (Aj Au AV) I)] (Di [] [BR aB] (oW aB I j) rfl)<|.aW<|Aa<|AL<|.a 1<|.p (BQ Am aB Ci rfl)<|.aW<|AB.block<|Dt (fun J m=>⟨BN 24 [(0,BR aB),(3,.mp 0),(11,AQ (aB.length:Int)),(12,AQ J)],[.map (List.map (Aj Au AV) m)],0⟩) _ _ _ _ (Ad 24 6153 [(0,true)]) h<|fun O U q J m h=>AU<|Aa<|Ae h (fun h=>AB.skip<|Aa<|AB.block<|AU<|CB h fun L s u z h=>AL<|.a 4<|.p (BP Am s Ci DY rfl)<|.a 1<|.e (x:=(Ah u.1)) [.map (List.map (Aj Au AV) u.2)] (Di [.ent 0] [BR aB,.mp 0,Dj L] (ag4 aB m L u z) rfl)<|.aW<|Ae h Bf fun h=>AB.skip<|BH<|.a 2<|.nil<|q _ _ _ (Ad 24 6153 [(0,true)]) h) fun h=>Eu
end Go.Proofs.YtolgdkhlelfpoaaGreat
end
