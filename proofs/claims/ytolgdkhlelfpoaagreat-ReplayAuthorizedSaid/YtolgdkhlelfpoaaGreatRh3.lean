/- Part 3 of what the laws' proofs lean on: states of the walk, typed functions of the program and their laws (short forms written by wip/shrink.py; no condition). -/
import Derived.Test.YtolgdkhlelfpoaaGreatRh2
set_option linter.defProp false
set_option linter.unnecessarySimpa false
set_option linter.unusedVariables false
set_option linter.unusedSimpArgs false
section
namespace Go.Proofs.YtolgdkhlelfpoaaGreat
open Go.RowKit Go.Sort
section
variable {α : Type}
def Xz (le:α→α→Bool) (x:α):List α→List α
 | []=>[x]
 |y::l=>bif le x y then x::y::l else y::Xz le x l
def OY (le:α→α→Bool) (l:List α):List α:=l.foldr (Xz le) []
def aG1 (le:α→α→Bool) (x:α):∀l,(Xz le x l).Perm (x::l)
 | []=>.refl _
 |y::l=>by
  unfold Xz;cases h:le x y with
  |true=>exact .refl _
  |false=>exact((aG1 le x l).cons y).trans (.swap x y l)
def Z7 (le:α→α→Bool):∀l,(OY le l).Perm l
 | []=>.refl _
 |x::l=>(aG1 le x (OY le l)).trans ((Z7 le l).cons x)
def aHq {le:α→α→Bool} (m:∀x y z,le x y=true→le y z=true→le x z=true) (n:∀x y,le x y=false→le y x=true) (x:α):∀l,l.Pairwise (fun a b=>le a b=true)→(Xz le x l).Pairwise (fun a b=>le a b=true)
 | [],_=>by simp[Xz]
 |y::l,h=>by
  have h':=Ns.1 h;unfold Xz;cases j:le x y with
  |true=>
   refine Ns.2 ⟨fun z f=>?_,h⟩;rcases Em.1 f with rfl|f
   ·exact j
   exact m x y z j (h'.1 z f)
  |false=>
   refine Ns.2 ⟨fun z f=>?_,aHq m n x l h'.2⟩;rcases Em.1 ((aG1 le x l).mem_iff.1 f)with rfl|f
   ·exact n _ _ j
   exact h'.1 z f
def aIA {le:α→α→Bool} (f:∀x y z,le x y=true→le y z=true→le x z=true) (h:∀x y,le x y=false→le y x=true):∀l:List α,(OY le l).Pairwise (fun a b=>le a b=true)
 | []=>.nil
 |x::l=>aHq f h x _ (aIA f h l)
def ap7 {le:α→α→Bool} (f:∀x y z,le x y=true→le y z=true→le x z=true) (h:∀x y,le x y=false→le y x=true) (ha:∀x y,le x y=true→le y x=true→x=y) {l m:List α} (j:m.Perm l) (n:m.Pairwise (fun a b=>le a b=true)):m=OY le l:=
 (j.trans (Z7 le l).symm).eq_of_pairwise (fun a b _ _ q s=>ha a b q s) n (aIA f h l)
def aG4 {e:α→D} {enc:α→List Value} (f:∀x,(e x).cells=(enc x).map .lit):∀l:List α,flat (l.map e)=(l.flatMap enc).map fun v=>.d (.lit v)
 | []=>rfl
 |x::l=>by rw[J5,SL,aG4 f l,f,LV,JW,lu];rfl
def qG {enc:α→List Value} {k:Nat} (f:∀x,(enc x).length=k):∀l:List α,(l.flatMap enc).length=l.length*k
 | []=>BG
 |x::l=>by rw[LV,Dk,f,qG f l,FQ,VH,vS,Nh]
def aH0 {e:α→D} {enc:α→List Value} {k:Nat} (m:∀x,(e x).cells=(enc x).map .lit) (z:∀x,(enc x).length=k) (M:∀x,∀v∈enc x,v.oneCell'=true) {ok:Nat→Prop} {w:World} {H:List BN} {h:BN} {T:TypeId} {l:List α}:
 Dy ok w H h (.arr T k (l.map e))↔h.size=k∧kG w T k h.v l.length (l.flatMap enc):=by
 have O:=qG z l;constructor
 ·rintro⟨q,_,xs,j,s,I⟩;refine⟨q,?_⟩;rw[CB]at j
  have :xs=l.flatMap enc:=by
   rw[aG4 m]at s I;rw[CB]at s;refine jd s fun i hi J=>?_;have L:=(I i (by simpa using J)).2;simp only[List.getD,Gt,DX J,GN,KF,DX hi]at L;cases L with |d _ _ h=>rw[Cm.ZQ h]
  rw[←this];exact j
 rintro⟨q,j⟩;refine⟨q,fun x u=>?_,l.flatMap enc,by rw[CB];exact j,?_⟩
 ·obtain⟨n,_,rfl⟩:=FM.1 u;rw[m,CB,z]
 rw[aG4 m];refine⟨BG,fun i hi=>?_⟩;have f:i<(l.flatMap enc).length:=Ey
 simp only[List.getD,Gt,DX f,GN,KF];refine⟨?_,.d _ _ (.lit _)⟩;obtain⟨x,_,u⟩:=Qn.1 (EU f);exact M x _ u
def asq {f:Array Value} (h:f.size=2):f= #[f.getD 0 undef,f.getD 1 undef]:=by
 refine XE Ye fun i m j=>?_;simp at j;have :i=0∨i=1:=AA
 rcases this with rfl|rfl<;>simp[Array.getD,h]
def Aw.aoE {P:Program} {f g:FuncId} {T:TypeId} {k:Nat} {e:α→D} {enc:α→List Value} (I:∀x,(e x).cells=(enc x).map .lit) (hk:∀x,(enc x).length=k) (h1:∀x,∀v∈enc x,v.oneCell'=true) {l r:List α}
 (h:∀(v:Value) (w:World),kG w T k v l.length (l.flatMap enc)→Calls P f #[v,.func (.func g) #[] #[]] w fun x w'=>x=.returned (.tuple #[])∧kG w' T k v r.length (r.flatMap enc)∧Turns v w w'):
 Aw P f [.aP 0,.d (.fn (.func g) [] [])] [.arr T k (l.map e)] (.dO []) [.arr T k (r.map e)]:=by
 intro ok X H w q J hs ha;have h0:=ha 0 BG;have L:=ha 1 BG;rw[asq hs];obtain⟨hd,U,Y⟩:=Et J.ent J.hlen (k:=0) rfl;obtain hv:=Me h0 U
 have hf:q.getD 1 undef=.func (.func g) #[] #[]:=by
  simp only[List.getD,uP,aC4,KF]at L;generalize q.getD 1 undef=u at L;cases L with
  |d _ _ L=>
   cases L with
   |fn _ _ _ vs us hl Z=>
    have e1:vs= #[]:=XO (by simpa using hl);have e2:us= #[]:=XO Yi;rw[e1,e2]
 rw[hv,hf];obtain⟨hz,how⟩:=(aH0 I hk h1).1 Y;refine(h hd.v w how).mono ?_;rintro x w' ⟨rfl,M,z⟩;have n:=fun b O=>J.blk 0 _ hd b rfl rfl U O
 have hg:=J.change (ok':=ok) (H':=H) (w':=w') (es':=[.arr T k (r.map e)]) (fun c=>CQ hd.v=some c) z.os z.tape z.output z.size z.block (fun c I _=>⟨(n c I).1,(n c I).2.2⟩) (fun _ h=>h) (fun _ h=>.inl h) (.refl _) J.hlen (by
  intro j e' h' m S
  match j,m with
  |0,m=>
   simp at m;subst m;rw[U]at S;obtain rfl:=Bl S;refine .inr ⟨(aH0 I hk h1).2 ⟨hz,M⟩,fun _ b O=>⟨(n b O).1,U7 (n b O).2.1 z.size,(n b O).2.2,fun k' e'' h'' hne s=>?_⟩⟩
   match k',s with
   |0,_=>exact absurd rfl hne
   |k'+1,s=>simp at s
  |k+1,m=>simp at m)
 exact⟨_,ok,H,rfl,hg.1,.dO [] #[] rfl (fun i hi=>KP)⟩
end
section
variable {α : Type} [Inhabited α]
def ab2 {enc:α→List Value} {k:Nat} (j:∀x,(enc x).length=k) (l:List α):(flatK enc k l.toArray).toList=l.flatMap enc:=by
 have key:∀(l:List α) (t:Nat),t<l.length*k→(enc (l[t/k]?.getD default))[t % k]? =(l.flatMap enc)[t]? :=by
  intro l
  induction l with
  |nil=>intro t f;simp at f
  |cons x l q=>
   intro t f;rw[FQ,VH,vS]at f;rw[LV];by_cases h:t<k
   ·rw[Nat.div_eq_of_lt h,Nat.mod_eq_of_lt h,FD (by rw[j];exact h)];rfl
   have h':k≤t:=RZ h;rcases Xr k with m|m
   ·subst m;simp at f
   have s:t/k=(t-k)/k+1:=Nat.div_eq_sub_div m h';rw[s,Nat.mod_eq_sub_mod h',Ho (by rw[j];exact h'),j,←q (t-k) AA,uP]
 refine jd (by simp[qG j]) fun t u z=>?_;have f:t<l.length*k:=Oe
 have :=key l t f;rw[DX z]at this;have n:=get_flatK enc k l.toArray t L9;rw[jZ _ _ L9]at n;rw[Array.getElem_toList,n];have I:(l.toArray)[t/k]! =l[t/k]?.getD default:=BG
 rw[I];simp[List.getElem!_eq_getElem?_getD,this]
end
def QB (a b:Int):Int:=if a<b then -1 else if a>b then 1 else 0
def Uh (p q:Int×Int×Int):Int:=if p.2.1=q.2.1 then(if p.2.2=q.2.2 then QB p.1 q.1 else QB p.2.2 q.2.2)else QB q.2.1 p.2.1
def aGK (a b:Int):QB a b<0↔a<b:=by
 unfold QB;split
 ·omega
 split<;>omega
def akH (p q:Int×Int×Int):Uh p q<0↔q.2.1<p.2.1∨p.2.1=q.2.1∧(p.2.2<q.2.2∨p.2.2=q.2.2∧p.1<q.1):=by
 unfold Uh;split
 ·split
  ·rw[aGK];omega
  rw[aGK];omega
 rw[aGK];omega
def anh (a b:Int) (W:World):Calls Tryz.prog 423 #[.int .i64 a,.int .i64 b] W fun e w'=>e=.returned (.int .i64 (QB a b))∧w'=W:=by
 unfold QB
 go_enter Tryz.func423,Tryz.ntmps423
 go_wp2
 all_goals (go_ret;exact⟨rfl,rfl⟩)
set_option maxHeartbeats 1000000 in
def akj (r p1 p2 p3 q1 q2 q3:Int) (hr:r=if p2=q2 then(if p3=q3 then QB p1 q1 else QB p3 q3)else QB q2 p2) (W:World):Calls Tryz.prog 422 #[.agg #[.int .i64 p1,.int .i64 p2,.int .i64 p3],.agg #[.int .i64 q1,.int .i64 q2,.int .i64 q3]] W fun e w'=>e=.returned (.int .i64 r)∧∃q j,w'=grow (W.drewN q) j:=by
 have f:=anh;generalize QB=c at f hr;have m:p2≠q2→c q2 p2=r:=fun h=>by rw[hr,CV h]
 have n:p2=q2→p3≠q3→c p3 q3=r:=fun h k=>by rw[hr,CG h,CV k]
 have s:p2=q2→p3=q3→c p1 q1=r:=fun h k=>by rw[hr,CG h,CG k]
 clear hr
 go_enter Tryz.func422,Tryz.ntmps422
 go_wp2_with (go_at_call 423;refine(f _ _ _).mono ?_;rintro e w' ⟨rfl,rfl⟩)
 all_goals go_ret
 ·rename_i h;rw[m Hf];exact⟨rfl,0,_,aGf⟩
 ·rename_i h k;rw[n Hf (by simpa using k)];exact⟨rfl,0,_,aGf⟩
 rename_i h k;rw[s Hf (by simpa using k)];exact⟨rfl,0,_,aGf⟩
def IQ (p q:Int×Int×Int):Bool:= !decide (Uh q p<0)
def jc (p q:Int×Int×Int):IQ p q=true↔¬(p.2.1<q.2.1∨q.2.1=p.2.1∧(q.2.2<p.2.2∨q.2.2=p.2.2∧q.1<p.1)):=by
 unfold IQ;rw[QD,VG,akH]
def adn (x y z:Int×Int×Int) (h:IQ x y=true) (k:IQ y z=true):IQ x z=true:=by
 rw[jc]at *;omega
def as1 (x y:Int×Int×Int) (h:IQ x y=false):IQ y x=true:=by
 have h:¬IQ x y=true:=by rw[h];decide
 rw[jc]at *;omega
def asB (x y:Int×Int×Int) (h:IQ x y=true) (k:IQ y x=true):x=y:=by
 rw[jc]at *;obtain⟨f,j,m⟩:=x;obtain⟨n,q,s⟩:=y;simp only[Q5]at *;omega
def anI (p q:Int×Int×Int):IQ p q=false↔(p.2.1<q.2.1∨q.2.1=p.2.1∧(q.2.2<p.2.2∨q.2.2=p.2.2∧q.1<p.1)):=by
 rw[←IX,jc,Decidable.not_not]
def aqK (x y z:Int×Int×Int) (h:IQ y x=false) (k:IQ z y=false):IQ z x=false:=by
 rw[anI]at *;omega
section
variable {α : Type}
def zI (f:α→Int×Int×Int) (l:List α):Option (List α):=if l.length≤1099511627776 then some (OY (fun x y=>IQ (f x) (f y)) l)else none
def Lr (f:α→Int×Int×Int) (x:α):List Value:=[.int .i64 (f x).1,.int .i64 (f x).2.1,.int .i64 (f x).2.2]
def ahT (f:α→Int×Int×Int) (x:α):(Lr f x).length=3:=rfl
def aIU (f:α→Int×Int×Int) (x:α):∀v∈Lr f x,v.oneCell'=true:=fun v h=>by
 simp[Lr]at h;rcases h with rfl|rfl|rfl<;>rfl
def pI (f:α→Int×Int×Int) (x y:α):ltOf (fun x y=>Uh (f x) (f y)) x y= !IQ (f y) (f x):=by simp[ltOf,IQ]
def apr (f:α→Int×Int×Int):SWO (ltOf fun x y:α=>Uh (f x) (f y)):=by
 refine⟨fun x=>?_,fun x y z h k=>?_,fun x y z h k=>?_⟩
 ·rw[pI,(jc (f x) (f x)).2 AA];rfl
 ·rw[pI,QD]at *;exact aqK _ _ _ h k
 rw[pI,Bool.not_eq_false']at *;exact adn _ _ _ k h
variable [Inhabited α]
def alE (f:α→Int×Int×Int) (blk off size:Nat) (w:World):CmpLays Tryz.prog 422 #[] (Lr f) 3 (fun x y=>Uh (f x) (f y)) blk off size w:=
 fun m os h _ x y=>akj (Uh (f x) (f y)) (f x).1 (f x).2.1 (f x).2.2 (f y).1 (f y).2.1 (f y).2.2 rfl (sortWorldK (Lr f) 3 w blk off m h os)
set_option maxHeartbeats 2000000 in
def ah9 (f:α→Int×Int×Int) (hf:∀x y,f x=f y→x=y) (e:α→D) (he:∀x,e x=.agg [AP (f x).1,AP (f x).2.1,AP (f x).2.2]) (l r:List α) (h:zI f l=some r):
 BI 421 [.aP 0,.d (.fn (.func 422) [] [])] [.arr 351 3 (l.map e)] (.dO []) [.arr 351 3 (r.map e)]:=by
 unfold zI at h;split at h
 ·rename_i hn;obtain rfl:=Bl h;have O:=ahT f;refine Aw.aoE (enc:=Lr f) (fun x=>by rw[he];rfl) O (aIU f) fun v w how=>?_;generalize hr:OY (fun x y=>IQ (f x) (f y)) l=r;have s:r.length=l.length:=by rw[←hr];exact(Z7 _ l).length_eq
  rcases how.2 with⟨rfl,h0⟩|⟨g,cap,u,rfl,hbase,Z,hnc,hcm,hcs,I⟩
  ·have hl:l=[]:=Fj h0;have hl':r=[]:=Fj (by rw[s,h0]);subst hl;subst hl';refine(AnyF.slices_SortFunc_none (P:=Tryz.prog) (ρ:=Tryz.RS) { Tryz.ah5 with } none 0 _ w).mono ?_;rintro e w' ⟨rfl,h⟩;subst h;exact⟨rfl,kG.nil _ _ _,Turns.refl _ _⟩
  have S:g<w.heap.size:=(Ei.1 Z).1;have m:=ab2 (enc:=Lr f) O l
  have hH:HoldsK (Lr f) 3 w g 0 l.toArray:=by
   unfold HoldsK;have J:(flatK (Lr f) 3 l.toArray).size=l.length*3:=BG
   generalize flatK (Lr f) 3 l.toArray=F at m J;intro j L;refine⟨?_,by simp[World.frozen?,Z]⟩;have e0:(u.toList.take (l.length*3))[j]? =(l.flatMap (Lr f))[j]? :=by rw[I]
   rw[Jo AA,←m]at e0;simp only[World.cell?,Z,Hz];simp only[Option.isSome_none,Qu,Ic];rw[←mZ,e0,mZ,jZ F j L,zG L];rfl
  have eg:∀args w,(callFunc 422 args).run Tryz.prog w=.ok (.enter 422 args) w:=enters_of Tryz.func422 A8 rfl;have :=AnyQ.slices_SortFunc (P:=Tryz.prog) (ρ:=Tryz.RS) Tryz.ah5 3 Tryz.isAgg351 Tryz.sizeOf351 (Lr f) O (aIU f) (fun x y=>Uh (f x) (f y)) (apr f) 422 #[] g 0 cap l.toArray w eg (alE f _ _ _ _) hH S Dp;refine this.mono ?_;rintro e' w' ⟨rfl,M,n,os,hp,hs,rfl⟩;obtain⟨U,_,q⟩:=hp;have Y:M.size=l.length:=dF
  have e1:M.extract 0 l.toArray.size=M:=by rw[←U];exact Array.extract_size
  rw[e1,Array.extract_size]at q
  have hm:M.toList=r:=by
   rw[←hr];refine ap7 (le:=fun x y=>IQ (f x) (f y)) (fun x y z=>adn (f x) (f y) (f z)) (fun x y=>as1 (f x) (f y)) (fun x y h k=>hf _ _ (asB (f x) (f y) h k)) q ?_;refine Jt.2 fun i j hi L hij=>?_;have :=hs i j (Dx _) hij (by simpa[Y]using L);rw[pI,jZ M i Ey,jZ M j pU]at this;simpa using this
  obtain rfl:M=r.toArray:=by rw[←hm]
  have hF:=ab2 (enc:=Lr f) O r;have J:(flatK (Lr f) 3 r.toArray).size=l.length*3:=by simp[s]
  generalize hFF:flatK (Lr f) 3 r.toArray=F at hF J;refine⟨rfl,⟨by rw[qG O],.inr ⟨g,cap,putCells id 0 F u,by rw[s],Dx _,?_,AA,hcm,by simpa[putCells]using hcs,?_⟩⟩,⟨rfl,rfl,rfl,by simp[sortWorldK,putRowK],fun c hc hne=>?_⟩⟩
  ·unfold sortWorldK putRowK;rw[hFF,heap_grow_old _ _ kY];simp[putRow,mapBlock,Sort.ahead,Lm,Z,onCells]
  ·rw[←hF,s];apply Zq;intro j;by_cases L:j<l.length*3
   ·have hjc:j<u.size:=by have :=Hg 3 hnc;omega
    rw[Jo L,mZ,mZ];have hjF:j<F.size:=AA
    simp[putCells,hjF,hjc]
   rw[List.getElem?_take_eq_none AA,Jm Dp]
  unfold sortWorldK putRowK;rw[heap_grow_old _ _ (by simpa using hc)];have :g≠c:=fun e=>hne mO;simp[putRow,mapBlock,Sort.ahead,Lm,this]
 cases h
end
end Go.Proofs.YtolgdkhlelfpoaaGreat
end
section
namespace Go.Proofs.YtolgdkhlelfpoaaGreat
open Go.RowKit
def Bo.freeze {C:DZ} {ok:Nat→Prop} {H:List BN} {es:List Au} {w:World} (h:Bo C ok H es w) {k:Nat} {e:Au} {hd:BN} (S:es[k]? =some e) (hl:e.live=true) (I:H[k]? =some hd):Bo C (fun b=>ok b∨CQ hd.v=some b) H (es.set k .dead) w:=by
 have n:k<es.length:=(Eb.1 S).1;have u:=fun b f=>h.blk k _ hd b S hl I f;have hg:Df ok w (fun b=>ok b∨CQ hd.v=some b) w:=fun b f=>⟨.inl f,rfl⟩
 refine⟨h.fr,fun b f=>.inl (h.uD b f),?_,?_,h.names,by simp[h.hlen],?_,?_,?_⟩
 ·rintro b (f|f)
  ·exact h.uF b f
  exact .inr (u b f).2.2
 ·rintro b (f|f)
  ·exact h.jl b f
  exact(u b f).2.1
 ·intro j e' h' U q;rcases JY n U with⟨rfl,rfl⟩|⟨_,s⟩
  ·trivial
  exact(h.ent j e' h' s q).mono hg (.refl _) (fun _ _ _=>rfl)
 ·intro j e' h' b U z q f;rcases JY n U with⟨rfl,rfl⟩|⟨Y,s⟩
  ·cases z
  have h3:=h.blk j e' h' b s z q f;refine⟨fun m=>?_,h3.2⟩;rcases m with m|m
  ·exact h3.1 m
  exact Y (h.Az j k e' _ h' hd b s S z hl q I f m)
 intro i j e1 e2 h1 h2 b Z he2 J L hh1 hh2 hb1 hb2;rcases JY n Z with⟨rfl,rfl⟩|⟨_,M⟩
 ·cases J
 rcases JY n he2 with⟨rfl,rfl⟩|⟨_,O⟩
 ·cases L
 exact h.Az i j e1 e2 h1 h2 b M O J L hh1 hh2 hb1 hb2
section
variable {P : Program} {o : Oper} {es : List Au}
def alX {t z I:TypeId} {x:Operand} {k:Nat} {m:List (Value×D)} (Y:P.underlying t=some (.map z I)) (J:es[k]? =some (.map m)) (Z:o.op=.range t x):BQ P o [(x,.mp k)] es (.ptr es.length 0) (es.set k .dead++[.iter m []]):=
 .eff fun C ok H a w f hn=>by
  obtain⟨hd,L,n⟩:=Et f.ent f.hlen J;obtain⟨b,ms,clock,M,q,h3⟩:=n;have O:=QJ (hn (x,.mp k) BG) L;simp only at O;have hb:b<w.heap.size:=(Ei.1 q).1;have S:=f.freeze J rfl L;have U:Df ok w (fun c=>ok c∨CQ hd.v=some c) w:=fun c h=>⟨.inl h,rfl⟩
  have s:CQ hd.v=some b:=by rw[M];rfl
  have g1:Df (fun c=>ok c∨CQ hd.v=some c) w (fun c=>ok c∨CQ hd.v=some c) (w.alloc (.mapIter (some b) clock #[] clock)):=fun c h=>⟨h,Hl _ _ _ (S.jl c h)⟩
  have u:Dy (fun c=>ok c∨CQ hd.v=some c) (w.alloc (.mapIter (some b) clock #[] clock)) (H++[⟨.pointer (some ⟨w.heap.size,0,none⟩),0⟩]) ⟨.pointer (some ⟨w.heap.size,0,none⟩),0⟩ (.iter m []):=
   ⟨w.heap.size,b,ms,clock, #[],rfl,ZB _ _,.inr s,(Hl _ _ _ hb).trans q,(h3.mono U).mono g1,rfl,fun j i hj=>by simp at hj⟩
  obtain⟨m1,g2⟩:=S.push (.mapIter (some b) clock #[] clock) ⟨.pointer (some ⟨w.heap.size,0,none⟩),0⟩ _ (yL w) u;refine⟨.pointer (some ⟨w.heap.size,0,none⟩),_,_,_,.inl ?_,U.trans g2,Names.push _ _,m1,.ptr _ _ w.heap.size 0 tq⟩;have hr:=run_range_map (P:=P) w t z I b ms clock Y q;simp[execOp,Z,O,M,hr]
def born_inj {ok:Nat→Prop} {w:World} {es:List (Value×D)} {ms:Array MapEntry} {clock:Nat} (h:I9 ok w es ms clock) {i j:Nat} {m n:MapEntry} (hi:ms[i]? =some m) (q:ms[j]? =some n) (s:m.born=n.born):i=j:=by
 rcases jR i j with f|f|f
 ·have :=h.inc i j m n f hi q;omega
 ·exact f
 have :=h.inc j i n m f q hi;omega
def aor {ok:Nat→Prop} {w:World} {es:List (Value×D)} {ms:Array MapEntry} {clock:Nat} (h:I9 ok w es ms clock):(ms.toList.map (·.born)).Nodup:=by
 unfold List.Nodup;rw[Jt];intro i j hi f m;simp only[CB,PX]at hi f;have n:ms[i]? =some ms[i]:=Nz
 have q:ms[j]? =some ms[j]:=U0
 simp only[S9,Array.getElem_toList];intro e;have :=born_inj h n q e;omega
def akb {K V:Type} {x:Operand} {n i:Nat} {ek:K→Value} {ev:V→D} {m:List (K×V)} {vis:List Nat} {p:K×V} (U:m[i]? =some p) (Y:es[n]? =some (.iter (m.map (Ah ek ev)) (vis++[i]))) (Z:o.op=.entry x):
 BQ P o [(x,.ptr n 0)] es (.dO [.d (.lit (ek p.1)),.d (ev p.2)]) es:=
 .pure fun ok H a w h hl hn=>by
  obtain⟨hd,hh,u⟩:=Et h hl Y;obtain⟨bi,J,ms,clock,seen,L,h2,h3,h4,M,h6,h7⟩:=u;have z:=hn (x,.ptr n 0) BG;simp only at z;generalize hv:a.eval x=v at z;cases z with
  |ptr _ _ b' s O=>
   rw[hh]at O;obtain rfl:=Bl O;simp only[Value.pointer.injEq,Io,Addr.mk.injEq]at L;obtain⟨rfl,_⟩:=L;obtain⟨e,S,q2⟩:=h7 vis.length i BG;have I:(m.map (Ah ek ev))[i]? =some (Ah ek ev p):=by rw[Gt,U];rfl
   obtain⟨r1,r2,_⟩:=M.ent i _ e I S;refine⟨.tuple #[e.key,e.val],?_,.dO _ _ rfl fun j hj=>?_⟩
   ·have f:seen.back?=some e.born:=by
     rw[Array.back?_eq_getElem?,h6];simpa using q2
    have q:e∈ms.toList:=by
     rw[Array.mem_toList_iff];exact Array.mem_of_getElem? S
    have hf:ms.find? (·.born==e.born)=some e:=by rw[←Array.find?_toList];exact find_born e ms.toList (aor M) q
    have g1:(getObj b').run P w=.ok (.mapIter (some J) clock seen clock) w:=by simp[getObj,Sem.run,h2]
    have g2:(getObj J).run P w=.ok (.map ms clock) w:=Og h4;simp[execOp,Z,hv,Instr.entry,g1,g2,f,hf]
   match j,hj with
   |0,_=>rw[show([AV.d (.lit (ek p.1)),.d (ev p.2)]:List AV).getD 0 .junk=.d (.lit (ek p.1))from rfl,show(#[e.key,e.val]:Array Value).getD 0 undef=e.key from rfl,r1];exact .d _ _ (.lit _)
   |1,_=>exact .d _ _ r2
end
def aio {P:Program} {w:World} {ok:Nat→Prop} {ty:TypeId} {bi I clock:Nat} {seen:Array Nat} {ms:Array MapEntry} {es:List (Value×D)} (hi:w.heap[bi]? =some (.mapIter (some I) clock seen clock)) (hb:w.heap[I]? =some (.map ms clock)) (Y:I9 ok w es ms clock):
 ((leftOf ms seen).size=0∧(Instr.next (.pointer (some ⟨bi,0,none⟩)) false ty).run P w=.ok (.tuple #[.bool false]) w)∨
 ∃e∈(leftOf ms seen).toList,∃f:World,(f=w∨f=w.drew)∧(Instr.next (.pointer (some ⟨bi,0,none⟩)) false ty).run P w=.ok (.tuple #[.bool true,e.key,e.val]) (f.putObj bi (.mapIter (some I) clock (seen.push e.born) clock)):=by
 have m:∀x∈ms.toList,x.born<clock:=fun x n=>by
  obtain⟨i,hi,rfl⟩:=Gv n;have q:i<ms.size:=Ey
  have J:i<es.length:=by rw[←Y.len];exact q
  have :=(Y.ent i es[i] ms[i] (by simp[J]) (by simp[q])).2.2;simpa using this
 simp only[Instr.next,getObj,ER,Sem.run,hi,hb,Result.andThen,next_test_false seen ms clock clock m (Dn _),Qu,Ic];unfold leftOf;have h:∀x∈(Array.filter (fun e=> !seen.contains e.born) ms).toList,x.born<clock:=fun x n=>m x (by simp at n ⊢;exact n.1);generalize Array.filter (fun e=> !seen.contains e.born) ms=L at h ⊢;have e1:L.filter (fun x=>decide (x.born<clock))=L:=Array.filter_eq_self.2 (fun x n=>by simpa using h x NQ)
 have e2:L.filter (fun x=>decide (x.born≥clock))= #[]:=by
  rw[Array.filter_eq_empty_iff];intro x n;have :=h x NQ;simp;omega
 simp only[e1,e2,Array.append_empty];by_cases Z:L.size=0
 ·left;have :L= #[]:=XO Z;subst this;refine⟨rfl,?_⟩;simp[choose,Sem.run,Question.forced]
 right;have M:L.isEmpty=false:=by simp[Array.isEmpty,Z]
 simp only[M,Qu,Ic,Array.empty_append,Array.size_map]
 have O:∃(j:Nat) (f:World),j<L.size∧(f=w∨f=w.drew)∧(choose (Question.mapNext L.size)).run P w=.ok j f:=by
  by_cases hf:L.size≤1
  ·exact⟨0,w,AA,.inl rfl,by simp[choose,Sem.run,Question.forced,hf]⟩
  exact⟨_,w.drew,YI _ AA,.inr rfl,by
   simp only[choose,Sem.run,Question.forced,FI,hf,Ic,Question.cut]
   rfl⟩
 obtain⟨j,f,hj,s,u⟩:=O;refine⟨L[j],BG,f,s,?_⟩;have S:f.heap[bi]? =some (.mapIter (some I) clock seen clock):=by rcases s with rfl|rfl<;>exact hi
 have z:∀(U:Obj),(setObj bi U).run P f=.ok () (f.putObj bi U):=fun U=>by simp[setObj,Sem.run,S,World.putObj]
 simp only[u,Array.getElem?_map,zG hj,GN,ER,z,Result.andThen];rfl
section
variable {P : Program} {ops : Array Oper} {o : Oper} {rest l : List Oper} {σ : Ai} {Q : Exit → Ai → Prop} {K V : Type}
def akD {ms:Array MapEntry} {seen:Array Nat} {e:MapEntry} (h:e∈(leftOf ms seen).toList):e∈ms.toList∧e.born∉seen:=by
 unfold leftOf at h;simp at h;exact⟨by simpa using h.1,h.2⟩
def CJ.next {ek:K→Value} {ev:V→D} {x:Operand} {ty:Bool} (n:Nat) (m:List (K×V)) (vis:List Nat) (hn:σ.ents[n]? =some (.iter (m.map (Ah ek ev)) vis)) (ho:o.op=.next x false) (hx:σ.get x=.ptr n 0) (hg:IE ops σ o.guard=some true)
 (h0:(∀i,i<m.length→i∈vis)→CJ P ops rest (σ.oG o.dst (.dO [.d (CM false)])) Q)
 (h1:∀i p,m[i]? =some p→i∉vis→CJ P ops rest (σ.put o.dst (.dO [.d (CM true),.d (.lit (ek p.1)),.d (ev p.2)]) (σ.ents.set n (.iter (m.map (Ah ek ev)) (vis++[i])))) Q):CJ P ops (o::rest) σ Q:=by
 refine⟨fun ro l2 Q' C ok H a w u hk=>?_⟩;show wpListIn (Gg ro) 0 P ops Q' (o::(rest++l2)) a w;unfold wpListIn;rw[CG (NS u (Jb hg))];have hv:=hx▸u.get x;obtain⟨hd,U,Y⟩:=Et u.mem.ent u.mem.hlen hn;obtain⟨bi,J,ms,clock,seen,q1,q2,q3,q4,Z,q6,q7⟩:=Y
 have I:a.eval x=.pointer (some ⟨bi,0,none⟩):=by
  generalize a.eval x=v at hv;cases hv with
  |ptr _ _ b' s hH=>
   rw[U]at hH;obtain rfl:=Bl hH;simp only[Value.pointer.injEq,Io,Addr.mk.injEq]at q1;obtain⟨rfl,_⟩:=q1;rfl
 have hlen:ms.size=m.length:=by rw[Z.len,CB]
 unfold Oper.wpIn;rw[Zr _ _ _ (by rw[ho];intro c h;cases h)];rcases aio (P:=P) (ty:=o.type) q2 q4 Z with⟨hs,hr⟩|⟨e,L,w1,hw1,hr⟩
 ·have he:(execOp a.eval o).run P w=.ok (.value (.tuple #[.bool false])) w:=by simp[execOp,ho,I,hr]
  rw[he];refine⟨fun _ _=>trivial,?_⟩
  refine(h0 fun i hi=>?_).run ro l2 Q' C ok H _ w (u.put o.dst (.refl _ _) (.refl _) u.mem (.dO _ _ rfl fun j f=>by
   match j,f with
   |0,_=>exact .d _ _ (.lit _))) hk
  have M:i<ms.size:=AA
  have hnot:ms[i]∉(leftOf ms seen).toList:=by
   have :leftOf ms seen= #[]:=XO hs;rw[this];simp
  have hin:ms[i].born∈seen:=by
   apply UQ;intro hc;refine hnot ?_;unfold leftOf;simp[hc]
  obtain⟨j,f,O⟩:=Array.getElem_of_mem hin;have hjv:j<vis.length:=AA
  obtain⟨e,r1,r2⟩:=q7 j vis[j] (by simp[hjv])
  have hb:e.born=ms[i].born:=by
   have e3:seen[j]? =some seen[j]:=U0
   rw[e3,O]at r2;exact(Bl r2).symm
  have :=born_inj Z r1 (show ms[i]? =some ms[i] by simp[M]) hb;rw[←this];simp
 have he:(execOp a.eval o).run P w=.ok (.value (.tuple #[.bool true,e.key,e.val])) (w1.putObj bi (.mapIter (some J) clock (seen.push e.born) clock)):=by simp[execOp,ho,I,hr]
 rw[he];refine⟨fun _ _=>trivial,?_⟩;obtain⟨auE,hes⟩:=akD L;obtain⟨i,hi,hie⟩:=Gv auE;have M:i<ms.size:=Ey
 have S:ms[i]? =some e:=by rw[←hie];simp[M]
 have him:i<m.length:=AA
 have hpe:(m.map (Ah ek ev))[i]? =some (Ah ek ev m[i]):=by simp[him]
 obtain⟨r1,r2,_⟩:=Z.ent i _ e hpe S
 have auF:i∉vis:=fun hc=>by
  obtain⟨j,f,O⟩:=Gv hc;obtain⟨e2,s1,s2⟩:=q7 j i (by simp[←O,f]);rw[S]at s1;obtain rfl:=Bl s1;exact hes (Array.mem_of_getElem? s2)
 have z:Bo C ok H σ.ents w1∧Df ok w ok w1:=by
  rcases hw1 with rfl|rfl
  ·exact⟨u.mem,.refl _ _⟩
  exact u.mem.drew
 have hi1:w1.heap[bi]? =some (.mapIter (some J) clock seen clock):=by rcases hw1 with rfl|rfl<;>exact q2
 have q:w1.heap[J]? =some (.map ms clock):=(z.2 J q3).2.trans q4;have hne:J≠bi:=fun e=>by rw[e,hi1]at q;cases q
 obtain⟨m2,g2⟩:=z.1.abo (o:=.mapIter (some J) clock (seen.push e.born) clock) (e':=.iter (m.map (Ah ek ev)) (vis++[i])) hn rfl U (by rw[q1];rfl)
  (fun g=>⟨bi,J,ms,clock,seen.push e.born,q1,TL (Ei.1 hi1).1,q3,(VL hne).trans q,(Z.mono z.2).mono g,by simp[q6],fun j i' f=>by
   by_cases hjl:j<vis.length
   ·rw[FD hjl]at f;obtain⟨e2,s1,s2⟩:=q7 j i' f;exact⟨e2,s1,by rw[Array.getElem?_push_lt AA];simpa[zG (show j<seen.size by omega)]using s2⟩
   have hj2:j=vis.length:=by
    have :=(Eb.1 f).1;simp at this;omega
   subst hj2;simp at f;subst f
   exact⟨e,S,by rw[←q6];simp⟩⟩)
 have g3:=z.2.trans g2
 have hp:=(h1 i m[i] (by simp[him]) auF).run ro l2 Q' C ok H (a.put o.dst (.tuple #[.bool true,e.key,e.val])) _ (u.put o.dst (x:=.dO [.d (CM true),.d (.lit (ek m[i].1)),.d (ev m[i].2)]) g3 (.refl _) m2 (.dO _ _ rfl fun j f=>by
  match j,f with
  |0,_=>exact .d _ _ (.lit _)
  |1,_=>
   show R ok _ H (.d (.lit (ek m[i].1))) e.key;rw[r1];exact .d _ _ (.lit _)
  |2,_=>exact .d _ _ (r2.mono g3))) hk
 exact hp
def AB.aqP {A Rr:Type} {cd:Code} (S:List Nat→A→Ai) (m:List (K×V)) (step:A→K×V→Option A) (Kf:A→Option Rr) (r:Rr) (a0:A) (hs:Bq σ (S [] a0))
 (I:∀vis:List Nat,vis.Nodup→(∀i,i∈vis↔i<m.length)→((vis.filterMap fun(i:Nat)=>m[i]?).foldlM step a0).bind Kf=some r)
 (round:∀(J:Ai→Prop) (vis:List Nat) (a:A),((∀i,i<m.length→i∈vis)→Kf a=some r)→(∀i p,m[i]? =some p→i∉vis→∃a',step a p=some a'∧∀s,Bq s (S (vis++[i]) a')→J s)→AB P cd (S vis a) (Ik J Q)):AB P (.loop cd) σ Q:=by
 have O:∀vis:List Nat,vis.Nodup→(∀i∈vis,i<m.length)→∃rest,(vis++rest).Nodup∧(∀i,i∈vis++rest↔i<m.length):=fun vis f q=>by
  refine⟨(List.range m.length).filter fun i=> !vis.contains i,?_,fun i=>?_⟩
  ·refine zX.2 ⟨f,List.Pairwise.filter _ List.nodup_range,fun a ha b U e=>?_⟩;subst e;rw[Fl]at U;simp[ha]at U
  rw[Fe,Fl];constructor
  ·rintro(h|h)
   ·exact q i h
   simpa using h.1
  intro h;by_cases Z:i∈vis
  ·exact .inl Z
  exact .inr ⟨Hf,by simp[Z]⟩
 refine AB.loop (fun n s=>∃vis a,n=m.length-vis.length∧vis.Nodup∧(∀i∈vis,i<m.length)∧(vis.filterMap fun(i:Nat)=>m[i]?).foldlM step a0=some a∧Bq s (S vis a)) (m.length) ⟨[],a0,BG,Wh,fun i h=>Fq,rfl,hs⟩ ?_;rintro n s ⟨vis,a,rfl,f,q,hf,L⟩;refine Cc L (round _ vis a (fun Z=>?_) (fun i p hp hi=>?_))
 ·have :=I vis f (fun i=>⟨q i,Z i⟩);rw[hf]at this;exact this
 have him:i<m.length:=(Eb.1 hp).1;have u:(vis++[i]).Nodup:=zX.2 ⟨f,BG,fun a ha b U e=>by simp at U;subst U;subst e;exact hi ha⟩
 have z:∀j∈vis++[i],j<m.length:=fun j Y=>by
  rcases Fe.1 Y with h|h
  ·exact q j h
  simp at h;subst h;exact him
 obtain⟨rest,h1,h2⟩:=O (vis++[i]) u z;have h3:=I _ h1 h2;rw[YR,YR]at h3;simp only[P5,List.filterMap_nil,hp,List.foldlM_append,RU,List.foldlM_nil,hf,bind,pure,Aa]at h3;cases hst:step a p with
 |none=>rw[hst]at h3;simp at h3
 |some a'=>
  refine⟨a',rfl,fun s hs=>⟨m.length-(vis++[i]).length,?_,vis++[i],a',rfl,u,z,?_,hs⟩⟩
  ·have :vis.length<m.length:=by
    have L:vis.length≤(List.range m.length).length:=by
     refine abw f ?_;intro j Y;simpa using q j Y
    have M:(vis++[i]).length≤(List.range m.length).length:=by
     refine abw u ?_;intro j Y;simpa using z j Y
    simp at M;omega
   simp;omega
  rw[YR,List.foldlM_append,hf];simp[hp,hst]
end
def aqD {α:Type}:∀(m:List α) (vis:List Nat),vis.Nodup→(∀i,i∈vis↔i<m.length)→(vis.filterMap fun(i:Nat)=>m[i]?).Perm m:=fun m vis f h=>by
 have j:vis.Perm (List.range m.length):=by
  rw[List.perm_iff_count];intro a;rw[f.count,List.nodup_range.count];simp[h a]
 have q:((List.range m.length).filterMap fun(i:Nat)=>m[i]?)=m:=by
  apply Zq;intro i
  have :∀(n:Nat),n≤m.length→((List.range n).filterMap fun(i:Nat)=>m[i]?)=m.take n:=by
   intro n
   induction n with
   |zero=>intro _;simp
   |succ n s=>
    intro I;rw[List.range_succ,YR,s AA];have u:n<m.length:=AA
    simp[u]
  rw[this m.length (Dn _),Hy]
 have z:=j.filterMap (fun(i:Nat)=>m[i]?)
 rwa [q]at z
def aFD {α β:Type} {c:α→Bool} {f:α→β} {b:Nat}:∀(l:List α) (v:List β),
 l.foldlM (fun v p=>bif c p then(Ci b v [f p]).bind fun x=>some x else some v) v=if(v.length+(l.filter c).length)*b≤140737488355328∨l.filter c=[]then some (v++(l.filter c).map f)else none
 | [],v=>BG
 |p::l,v=>by
  rw[RU];cases n:c p with
  |false=>
   have m:=aFD (c:=c) (f:=f) (b:=b) l v;simp only[BK,bind,Aa,m,VU,n,Qu,Ic]
  |true=>
   simp only[Ba,VU,n,Iu];have u:Ci b v [f p]=if(v.length+[f p].length)*b≤140737488355328 then some (v++[f p])else none:=rfl
   rw[u];by_cases j:(v.length+[f p].length)*b≤140737488355328
   ·rw[CG j];have m:=aFD (c:=c) (f:=f) (b:=b) l (v++[f p]);simp only[Aa,bind,m];have q:(v++[f p]).length+(l.filter c).length=v.length+(p::l.filter c).length:=Dp
    rw[q];by_cases s:l.filter c=[]
    ·rw[s]at q ⊢;simp only[FQ,Nu]at j ⊢;simp[j]
    simp[s]
   rw[CV j];simp only[Option.bind_none,bind];rw[CV];rintro(h|h)
   ·refine j (E5 (Hg _ ?_) h);simp
   cases h
def anE {α β Rr:Type} {c:α→Bool} {f:α→β} {b:Nat} {n m:List α} {v:List β} {Kf:List β→Option Rr} {r:Rr} (s:n.Perm m) (u:∀x y,x.Perm y→Kf x=Kf y)
 (h:(m.foldlM (fun v p=>bif c p then(Ci b v [f p]).bind fun x=>some x else some v) v).bind Kf=some r):
 (n.foldlM (fun v p=>bif c p then(Ci b v [f p]).bind fun x=>some x else some v) v).bind Kf=some r:=by
 rw[aFD]at h ⊢;have j:=s.filter c
 have e:((v.length+(n.filter c).length)*b≤140737488355328∨n.filter c=[])↔((v.length+(m.filter c).length)*b≤140737488355328∨m.filter c=[]):=by
  rw[j.length_eq];constructor
  ·rintro(h|h)
   ·exact .inl h
   exact .inr (by rw[h]at j;exact j.symm.eq_nil)
  rintro(h|h)
  ·exact .inl h
  exact .inr (by rw[h]at j;exact j.eq_nil)
 by_cases q:((v.length+(m.filter c).length)*b≤140737488355328∨m.filter c=[])
 ·rw[CG q]at h;rw[CG (e.2 q)];simp only[Aa]at h ⊢;rw[←h];exact u _ _ ((j.map f).append_left v)
 rw[CV q]at h;cases h
section
variable {K V : Type} [BEq K]
def EZ :List (K×V)→K→Nat
 | [],_=>0
 |p::m,k=>bif k==p.1 then 0 else EZ m k+1
def acF {ek:K→Value} {kd:TypeDesc} (j:∀a b,Instr.sameNow kd (ek a) (ek b)=some (a==b)) (k:K) (v:V):∀(m:List (K×V)) (l:List MapEntry) (i:Nat),l.map (·.key)=m.map (fun p=>ek p.1)→
 (Instr.findNow kd (ek k) l i=some none∧Bg m k=none∧CW m k v=m++[(k,v)]∧EZ m k=m.length)∨
 ∃e p,Instr.findNow kd (ek k) l i=some (some (i+EZ m k,e.val))∧l[EZ m k]? =some e∧m[EZ m k]? =some p∧Bg m k=some p.2∧(k==p.1)=true∧CW m k v=m.set (EZ m k) (k,v)
 | [],[],_,_=>.inl ⟨rfl,rfl,rfl,rfl⟩
 | [],_::_,_,h=>Fq
 |_::_,[],_,h=>Fq
 |p::m,e::l,i,h=>by
  simp only[J5,aGW]at h;cases f:(k==p.1)with
  |true=>
   refine .inr ⟨e,p,?_,?_,?_,?_,f,?_⟩
   ·simp[Instr.findNow,h.1,j,f,EZ]
   ·simp[EZ,f]
   ·simp[EZ,f]
   ·simp[Bg,f]
   simp[CW,EZ,f]
  |false=>
   rcases acF j k v m l (i+1) h.2 with⟨n,q,s,u⟩|⟨e',z,n,q,s,u,I,J⟩
   ·refine .inl ⟨?_,?_,?_,?_⟩
    ·simp[Instr.findNow,h.1,j,f,n]
    ·simp[Bg,f,q]
    ·simp[CW,f,s]
    simp[EZ,f,u]
   refine .inr ⟨e',z,?_,by simpa[EZ,f]using q,by simpa[EZ,f]using s,?_,I,?_⟩
   ·simp[Instr.findNow,h.1,j,f,n,EZ];omega
   ·simp[Bg,f,u]
   simp[CW,f,J,EZ]
def adW (k:K) (v:V):∀m:List (K×V),(CW m k v)[EZ m k]? =some (k,v)
 | []=>rfl
 |p::m=>by
  cases f:(k==p.1)with
  |true=>simp[CW,EZ,f]
  |false=>simp[CW,EZ,f,adW k v m]
def aJm (k:K) (v u:V):∀m:List (K×V),(CW m k v).set (EZ m k) (k,u)=CW m k u
 | []=>rfl
 |p::m=>by
  cases f:(k==p.1)with
  |true=>simp[CW,EZ,f]
  |false=>simp[CW,EZ,f,aJm k v u m]
end
section
variable {ok : Nat → Prop} {w : World} {es : List (Value × D)} {ms : Array MapEntry} {clock : Nat}
def Oh.nil:Oh #[] 0:=⟨rfl,fun i e h=>Fq⟩
def Oh.push (h:Oh ms clock) {k v:Value}:Oh (ms.push { key:=k,val:=v,born:=clock }) (clock+1):=by
 refine⟨by simp[h.1],fun i e f=>?_⟩;rw[aCr]at f;split at f
 ·rename_i j;obtain rfl:=Bl f;rw[j];exact h.1
 exact h.2 i e f
def Oh.modify (h:Oh ms clock) (j:Nat) (f:MapEntry→MapEntry) (n:∀e,(f e).born=e.born):Oh (ms.modify j f) clock:=by
 refine⟨by simp[h.1],fun i e m=>?_⟩;rw[Lm]at m;split at m
 ·rw[Qq]at m;obtain⟨q,s,rfl⟩:=m;rw[n];exact h.2 i q s
 exact h.2 i e m
def Oh.find (h:Oh ms clock) {n:Nat} (f:n<ms.size):ms.findIdx? (fun e=>(e.born:Int)==(n:Int))=some n:=by
 rw[Array.findIdx?_eq_some_iff_getElem];refine⟨f,?_,fun j m=>?_⟩
 ·have :=h.2 n ms[n] U0;simp[this]
 have :=h.2 j ms[j] (by simp[Nat.lt_trans m f]);simp[this];omega
def ajV (ms:Array MapEntry) (j:Nat) (k v:Value) (f:∀e,ms[j]? =some e→e.key=k):(ms.modify j fun e=>{ e with val:=v })=ms.modify j fun e=>{ e with key:=k,val:=v }:=by
 apply eU;intro i;rw[Lm,Lm];split
 ·rename_i e;subst e;cases h:ms[j]? with
  |none=>rfl
  |some e=>simp[f e h]
 rfl
def anj (ms:Array MapEntry) (j:Nat) (k v:Value) (f:∀e,ms[j]? =some e→e.val=v):(ms.modify j fun e=>{ e with key:=k })=ms.modify j fun e=>{ e with key:=k,val:=v }:=by
 apply eU;intro i;rw[Lm,Lm];split
 ·rename_i e;subst e;cases h:ms[j]? with
  |none=>rfl
  |some e=>simp[f e h]
 rfl
end
section
variable {P : Program} {o : Oper} {es : List Au} {K V : Type} [BEq K]
def asg {t:TypeId} {f:Array (Nat×Operand)} {h:List (Nat×Nat)} {z:Value} {cs:List AV} (j:GZ P t h z) (vs:List AV) (m:Hq (fun(i:Nat)=>h[i]?) (EW z) f.toList vs=cs) (n:Ju (fun(i:Nat)=>h[i]?) (EW z).length f.toList vs=true) (q:o.op=.build t f):
 BQ P o (Jp f.toList vs) es (.ag cs) es:=m▸al2 j vs n q
def TM (x y:Int):Int:=bif decide (y>x)then y else x
def ar4 {x y:Operand} {ats:Array TypeId} {kd:IntKind} {a b:Int} (n:o.op=.call { callee:=.builtin .max,args:= #[x,y],argTypes:=ats }):
 BQ P o [(x,.d (.lit (.int kd a))),(y,.d (.lit (.int kd b)))] es (.d (.lit (.int kd (TM a b)))) es:=
 .pure fun ok H c w _ _ f=>by
  have j:=(Dt f).1.lit;have m:=(Dt f).2.lit;simp only at j m;have e:TM a b=if b>a then b else a:=by unfold TM;by_cases h:b>a<;>simp[h]
  refine⟨.int kd (TM a b),?_,.d _ _ (.lit _)⟩;rw[e];simp[execOp,n,resolve,invoke,builtin,j,m,Go.run_max_int2]
def aF6 {t:TypeId} (q:o.op=.makeMap t none):BQ P o [] es (.mp es.length) (es++[.aU []]):=
 .eff fun C ok H a w f J=>by
  have h:Dy ok (w.alloc (.map #[] 0)) (H++[⟨.map (some w.heap.size),0⟩]) ⟨.map (some w.heap.size),0⟩ (.aU []):=
   ⟨w.heap.size, #[],0,rfl,(aBS w _).1,⟨rfl,fun i e m s=>fC,fun i j m n _ f=>Qk⟩,.nil⟩
  obtain⟨u,z⟩:=f.push (.map #[] 0) ⟨.map (some w.heap.size),0⟩ _ (fun b h=>aCO) h;refine⟨.map (some w.heap.size),_,ok,_,.inl ?_,z,Names.push _ _,u,.mp _ _ 0 rfl tq⟩;have I:(newObj (.map #[] 0)).run P w=.ok w.heap.size (w.alloc (.map #[] 0)):=rfl;simp[execOp,q,Instr.makeMap,I]
def Uy {t q s:TypeId} {x y:Operand} {k:Nat} {ek:K→Value} (ev:V→D) (u:V) {z:Value} {m:List (K×V)} {key:K} (M:P.underlying t=some (.map q s)) (O:KeyTy P q ek) (S:(P.info? s).bind (·.zero)=some z) (h:VE z=ev u) (j:z.cells.all (·.oneCell')=true)
 (U:es[k]? =some (.aU (m.map (Ah ek ev)))) (Y:o.op=.lookup t x y false):BQ P o [(x,.mp k),(y,.d (.lit (ek key)))] es (.d (ev ((Bg m key).getD u))) es:=
 .pure fun ok H a w f Z I=>by
  obtain⟨hd,hh,n⟩:=Et f Z U;obtain⟨b,ms,clock,h1,h2,h3,_⟩:=n;have J:=QJ (Dt I).1 hh;have L:=(Dt I).2.lit;simp only at J L;obtain⟨v,hr,hv⟩:=Fn1 (key:=key) ev M O S h j h2 h3 false;refine⟨v,?_,.d _ _ hv⟩;simp[execOp,Y,J,L,h1,hr]
def aqk {t q s:TypeId} {x y:Operand} {k:Nat} {ek:K→Value} (ev:V→D) (u:V) {z:Value} {m:List (K×V)} {key:K} (M:P.underlying t=some (.map q s)) (O:KeyTy P q ek) (S:(P.info? s).bind (·.zero)=some z) (h:VE z=ev u) (j:z.cells.all (·.oneCell')=true)
 (U:es[k]? =some (.aU (m.map (Ah ek ev)))) (Y:o.op=.lookup t x y true):BQ P o [(x,.mp k),(y,.d (.lit (ek key)))] es (.dO [.d (ev ((Bg m key).getD u)),.d (CM (Bg m key).isSome)]) es:=
 .pure fun ok H a w f Z I=>by
  obtain⟨hd,hh,n⟩:=Et f Z U;obtain⟨b,ms,clock,h1,h2,h3,_⟩:=n;have J:=QJ (Dt I).1 hh;have L:=(Dt I).2.lit;simp only at J L;obtain⟨v,hr,hv⟩:=Fn1 (key:=key) ev M O S h j h2 h3 true;refine⟨.tuple #[v,.bool (Bg m key).isSome],?_,.dO _ _ rfl fun i hi=>?_⟩
  ·simp[execOp,Y,J,L,h1,hr]
  match i,hi with
  |0,_=>exact .d _ _ hv
  |1,_=>exact .d _ _ (.lit _)
def nU {C:DZ} {ok:Nat→Prop} {H:List BN} {w:World} (q:Bo C ok H es w) {k:Nat} {es0 j:List (Value×D)} {b clock f:Nat} {ms h:Array MapEntry} {hd:BN} (s:es[k]? =some (.aU es0)) (u:H[k]? =some hd) (m:hd.v=.map (some b)) (n:w.heap[b]? =some (.map ms clock))
 (z:I9 ok w j h f) (I:Oh h f):(setObj b (.map h f)).run P w=.ok () (w.putObj b (.map h f))∧Bo C ok H (es.set k (.aU j)) (w.putObj b (.map h f))∧Df ok w ok (w.putObj b (.map h f)):=by
 refine⟨by simp[setObj,Sem.run,n,World.putObj],q.abo s rfl u (by rw[m];rfl) fun J=>⟨b,h,f,m,TL (Ei.1 n).1,z.mono J,I⟩⟩
def aoc {t kt vt:TypeId} {x y u:Operand} {k:Nat} {ek:K→Value} (ev:V→D) {m:List (K×V)} {key:K} {val:V} (ht:P.underlying t=some (.map kt vt)) (s:KeyTy P kt ek) (M:es[k]? =some (.aU (m.map (Ah ek ev)))) (ho:o.op=.mapUpdate t x y u):
 BQ P o [(x,.mp k),(y,.d (.lit (ek key))),(u,.d (ev val))] es .junk (es.set k (.aU ((CW m key val).map (Ah ek ev)))):=
 .eff fun C ok H a w z O=>by
  obtain⟨hd,S,U⟩:=Et z.ent z.hlen M;obtain⟨b,ms,clock,I,J,L,h4⟩:=U;have Y:=QJ (O (x,.mp k) BG) S;have Z:=(O (y,.d (.lit (ek key))) BG).lit;have hu:Cm ok w (ev val) (a.eval u):=by have :=O (u,.d (ev val)) BG;cases this with |d _ _ h=>exact h
  simp only at Y Z;obtain⟨kd,f,hs⟩:=s.same;have hks:ms.toList.map (·.key)=m.map (fun p=>ek p.1):=by rw[L.keys];simp[Ah,iG]
  have n:=s.check;rcases qy (i:=0) hs key val m ms.toList hks with⟨q1,_,q3⟩|⟨j,e,p,q1,q2,q3,_,q5,q6⟩
  ·have hM:=L.push (k:=ek key) hu;obtain⟨r1,r2,r3⟩:=nU (P:=P) z M S I J hM h4.push;refine⟨undef,_,ok,H,.inr ⟨rfl,?_⟩,r3,.refl _,?_,.junk _⟩
   ·simp[execOp,ho,Y,Z,I,Instr.mapUpdate,underlying,ht,Og J,n,Instr.findKey,f,q1,r1]
   rw[q3,JW];exact r2
  have hM:=L.modify (k:=ek key) hu j;obtain⟨r1,r2,r3⟩:=nU (P:=P) z M S I J hM (h4.modify j _ fun _=>rfl)
  have q:e.key=ek key:=by
   have h5:(m.map (Ah ek ev))[j]? =some (Ah ek ev p):=by rw[Gt,q3];rfl
   rw[(L.ent j _ e h5 eK).1,s.eq _ _ q5];rfl
  have hst:∀w,(Instr.keyThatStays (ek key) (ek key)).run P w=.ok (ek key) w:=fun w=>by simp[Instr.keyThatStays,s.bits]
  have hms:ms[j]? =some e:=eK
  refine⟨undef,_,ok,H,.inr ⟨rfl,?_⟩,r3,.refl _,?_,.junk _⟩
  ·simp[execOp,ho,Y,Z,I,Instr.mapUpdate,underlying,ht,Og J,n,Instr.findKey,f,q1,hms,q,hst,r1]
  rw[q6,vg];exact r2
def aCK {t kt vt:TypeId} {x y:Operand} {k:Nat} {ek:K→Value} (ev:V→D) (q:V) {z:Value} {m:List (K×V)} {key:K} (ht:P.underlying t=some (.map kt vt)) (S:KeyTy P kt ek) (hz:(P.info? vt).bind (·.zero)=some z) (hzv:VE z=ev q) (hzl:z.cells.all (·.oneCell')=true)
 (he:es[k]? =some (.aU (m.map (Ah ek ev)))) (ho:o.op=.mapEntry t x y):
 BQ P o [(x,.mp k),(y,.d (.lit (ek key)))] es (.dO [.d (ev ((Bg m key).getD q)),.d (AP (EZ m key:Nat))]) (es.set k (.aU ((CW m key ((Bg m key).getD q)).map (Ah ek ev)))):=
 .eff fun C ok H a w U hn=>by
  obtain⟨hd,hh,hok⟩:=Et U.ent U.hlen he;obtain⟨b,ms,clock,Y,Z,s,h4⟩:=hok;have hx:=QJ (Dt hn).1 hh;have hy:=(Dt hn).2.lit;simp only at hx hy;obtain⟨kd,u,hs⟩:=S.same;have hks:ms.toList.map (·.key)=m.map (fun p=>ek p.1):=by rw[s.keys];simp[Ah,iG]
  have I:=S.check;have hml:ms.size=m.length:=by have :=s.len;simpa using this
  obtain⟨i0,hi0,hz'⟩:=YK.1 hz;rcases acF (i:=0) hs key ((Bg m key).getD q) m ms.toList hks with⟨q1,q2,q3,q4⟩|⟨e,p,q1,q2,q3,q4,q5,q6⟩
  ·have J:Cm ok w (ev ((Bg m key).getD q)) z:=by
    rw[q2];have :=aak (ok:=ok) (w:=w) hzl;rw[hzv]at this;exact this
   have hM:=s.push (k:=ek key) J;obtain⟨r1,r2,L⟩:=nU (P:=P) U he hh Y Z hM h4.push;refine⟨.tuple #[z,goInt clock],_,ok,H,.inl ?_,L,.refl _,?_,.dO _ _ rfl fun i hi=>?_⟩
   ·simp[execOp,ho,hx,hy,Y,Instr.mapEntry,underlying,ht,Og Z,I,Instr.findKey,u,q1,r1,zeroValue,typeInfo,hi0,hz']
   ·rw[q3,JW];exact r2
   match i,hi with
   |0,_=>
    have j:=J.mono L;exact .d _ _ j
   |1,_=>
    have :goInt (clock:Nat)=.int .i64 (EZ m key:Nat):=by rw[q4,←hml,←h4.1];rfl
    show R ok _ H (.d (AP (EZ m key:Nat))) (goInt clock);rw[this];exact .d _ _ (.lit _)
  have h5:(m.map (Ah ek ev))[EZ m key]? =some (Ah ek ev p):=by rw[Gt,q3];rfl
  have f:ms[EZ m key]? =some e:=eK
  have h:=s.ent _ _ e h5 f;have J:Cm ok w (ev ((Bg m key).getD q)) e.val:=by rw[q4];exact h.2.1
  have hM:=s.modify (k:=ek key) J (EZ m key);have hmk:=anj ms (EZ m key) (ek key) e.val (fun e' M=>by rw[f]at M;rw[←Bl M]);rw[←hmk]at hM;have O:e.key=ek key:=by rw[h.1,S.eq _ _ q5];rfl
  obtain⟨r1,r2,L⟩:=nU (P:=P) U he hh Y Z hM (h4.modify _ _ fun _=>rfl);have hst:∀w,(Instr.keyThatStays (ek key) (ek key)).run P w=.ok (ek key) w:=fun w=>by simp[Instr.keyThatStays,S.bits]
  have n:e.born=EZ m key:=h4.2 _ e f;refine⟨.tuple #[e.val,goInt (EZ m key:Nat)],_,ok,H,.inl ?_,L,.refl _,?_,.dO _ _ rfl fun i hi=>?_⟩
  ·simp[execOp,ho,hx,hy,Y,Instr.mapEntry,underlying,ht,Og Z,I,Instr.findKey,u,q1,f,O,hst,r1,n]
  ·rw[q6,vg];exact r2
  match i,hi with
  |0,_=>
   have j:=J.mono L;exact .d _ _ j
  |1,_=>exact .d _ _ (.lit _)
def aER {t kt:TypeId} {x s u:Operand} {k:Nat} {ek:K→Value} (ev:V→D) {m:List (K×V)} {key:K} {z0 val:V} (hk:KeyTy P kt ek) (S:es[k]? =some (.aU ((CW m key z0).map (Ah ek ev)))) (ho:o.op=.entryStore t x s u):
 BQ P o [(x,.mp k),(s,.d (AP (EZ m key:Nat))),(u,.d (ev val))] es .junk (es.set k (.aU ((CW m key val).map (Ah ek ev)))):=
 .eff fun C ok H a w I J=>by
  obtain⟨hd,U,L⟩:=Et I.ent I.hlen S;obtain⟨b,ms,clock,Y,Z,M,h4⟩:=L;have hx:=QJ (J (x,.mp k) BG) U;have hy:a.eval s=.int .i64 (EZ m key:Nat):=(J (s,.d (AP (EZ m key:Nat))) BG).lit;have hu:Cm ok w (ev val) (a.eval u):=by have :=J (u,.d (ev val)) BG;cases this with |d _ _ h=>exact h
  simp only at hx;have f:=adW key z0 m;have h5:((CW m key z0).map (Ah ek ev))[EZ m key]? =some (Ah ek ev (key,z0)):=by rw[Gt,f];rfl
  have j:EZ m key<ms.size:=by
   have h6:=(Eb.1 f).1;have :=M.len;rw[CB]at this;omega
  have n:ms[EZ m key]? =some ms[EZ m key]:=by simp[j]
  have q:=M.ent _ _ _ h5 n;have hM:=M.modify (k:=ek key) hu (EZ m key);have O:=ajV ms (EZ m key) (ek key) (a.eval u) (fun e' z=>by rw[n]at z;rw[←Bl z];exact q.1);rw[←O]at hM;obtain⟨r1,r2,r3⟩:=nU (P:=P) I S U Y Z hM (h4.modify _ _ fun _=>rfl);refine⟨undef,_,ok,H,.inr ⟨rfl,?_⟩,r3,.refl _,?_,.junk _⟩
  ·simp[execOp,ho,hx,hy,Y,Instr.entryStore,Og Z,asInt,asIntOf,h4.find j,r1]
  have e1:((CW m key z0).map (Ah ek ev)).set (EZ m key) (ek key,ev val)=(CW m key val).map (Ah ek ev):=by
   rw[←aJm key z0 val m,vg];rfl
  rw[←e1];exact r2
end
section
variable {P : Program} {σ : Ai} {Q : Exit → Ai → Prop} {c : Operand} {x y : Code}
def Ag {A:Type} {b:Bool} {u v z:A} (h:(bif b then u else v)=z) (f:u=z→AB P x σ Q) (j:v=z→AB P y σ Q) (m:σ.get c=.d (.lit (.bool b)):=by kernel_rfl):AB P (.cond c x y) σ Q:=
 AB.cond b m (fun e=>f (vN e h)) (fun e=>j (oZ e h))
end
def aag {A:Type} {b:Bool} {u v z:A} (h:(bif b then u else v)=z):(b=true∧u=z)∨(b=false∧v=z):=by
 cases b with
 |true=>exact .inl ⟨rfl,h⟩
 |false=>exact .inr ⟨rfl,h⟩
def CS {A:Type} {a b:A} (h:some a=some b):a=b:=Bl h
def jY {α β γ:Type} {x:Option α} {y:α→Option β} {f:α→β→Option γ} {z:γ} (h:(x.bind fun a=>(y a).bind (f a))=some z):∃a,x=some a∧∃b,y a=some b∧f a b=some z:=by
 obtain⟨a,j,h⟩:=CZ h;obtain⟨b,m,h⟩:=CZ h;exact⟨a,j,b,m,h⟩
def yG {α β γ δ:Type} {x:Option α} {y:α→Option β} {w:α→β→Option δ} {f:α→β→δ→Option γ} {z:γ} (h:(x.bind fun a=>(y a).bind fun b=>(w a b).bind (f a b))=some z):∃a,x=some a∧∃b,y a=some b∧∃d,w a b=some d∧f a b d=some z:=by
 obtain⟨a,j,b,m,h⟩:=jY h;obtain⟨d,n,h⟩:=CZ h;exact⟨a,j,b,m,d,n,h⟩
def AQ {α β:Type} {x:Option α} {f:α→Option β} {z:β} {G:Prop} (h:x.bind f=some z) (k:∀a,x=some a→f a=some z→G):G:=by
 obtain⟨a,j,h⟩:=CZ h;exact k a j h
def D6 {α β γ:Type} {x:Option α} {y:α→Option β} {f:α→β→Option γ} {z:γ} {G:Prop} (h:(x.bind fun a=>(y a).bind (f a))=some z) (k:∀a,x=some a→∀b,y a=some b→f a b=some z→G):G:=by
 obtain⟨a,j,b,m,h⟩:=jY h;exact k a j b m h
def V8 {α β γ δ:Type} {x:Option α} {y:α→Option β} {w:α→β→Option δ} {f:α→β→δ→Option γ} {z:γ} {G:Prop} (h:(x.bind fun a=>(y a).bind fun b=>(w a b).bind (f a b))=some z) (k:∀a,x=some a→∀b,y a=some b→∀d,w a b=some d→f a b d=some z→G):G:=by
 obtain⟨a,j,b,m,d,n,h⟩:=yG h;exact k a j b m d n h
section
variable {P : Program} {o : Oper} {es : List Au} {α : Type}
def Bd {x y:Operand} {t e:TypeId} {i:Int} {agg:Bool} {size:Nat} (enc:α→D) {l:List α} {a:α} (h:BF l i=some a) (f:P.underlying t=some (.slice e)) (j:DI P e agg size) (m:o.op=.indexAddr t x y) (n:(enc a).cells.length=size:=by kernel_rfl):
 BQ P o [(x,.d (Af enc l)),(y,.d (.lit (.int .i64 i)))] es (.d (.ref (enc a).cells 0)) es:=amj enc h f j n m
def Dz {t e:TypeId} {size h len:Nat} {z:Value} (hE:Ez P t e size h) (n:(P.info? e).bind (·.zero)=some z) (ys:List D) {f:Array (Nat×Operand)} (q:o.op=.buildSlice t len f) (s:z.cells.all (·.oneCell')=true:=by kernel_rfl) (j:z.cells.size=size:=by kernel_rfl) (hlen:Nat.ble (len*size) 16777216=true:=by kernel_rfl)
 (u:Ju (fun i=>some (i*size,size)) (len*size) f.toList (ys.map .d)=true:=by kernel_rfl) (I:Hq (fun i=>some (i*size,size)) (O6 z (len*size)) f.toList (ys.map .d)=flat ys:=by kernel_rfl) (J:ys.length=len:=by kernel_rfl) (m:ys.all (fun y=>decide (y.cells.length=size))=true:=by kernel_rfl):
 BQ P o (Jp f.toList (ys.map .d)) es (.d (.sl ys)) es:=apm hE n s j (FN hlen) (ys.map .d) ys u I J m q
def WL {t e:TypeId} {size h len:Nat} {z:Value} (hE:Ez P t e size h) (n:(P.info? e).bind (·.zero)=some z) (ys:List D) {f:Array (Nat×Operand)} (q:o.op=.buildSlice t len f) (s:z.cells.all (·.oneCell')=true:=by kernel_rfl) (j:z.cells.size=size:=by kernel_rfl) (hlen:Nat.ble (len*size) 16777216=true:=by kernel_rfl)
 (u:Ju (fun i=>some (i*size,size)) (len*size) f.toList (ys.map .d)=true:=by kernel_rfl) (I:Hq (fun i=>some (i*size,size)) (O6 z (len*size)) f.toList (ys.map .d)=flat ys:=by kernel_rfl) (J:ys.length=len:=by kernel_rfl) (m:ys.all (fun y=>decide (y.cells.length=size))=true:=by kernel_rfl):
 BQ P o (Jp f.toList (ys.map .d)) es (.aP es.length) (es++[.arr e size ys]):=ace hE n s j (FN hlen) (ys.map .d) ys u I J m q
def CJ.aM {ops:Array Oper} {l:List Oper} {σ:Ai} {K:Exit→Ai→Prop} [T:Kn P] {M:Ai→Prop} (n:Nat) (k:M (OE (Fb T ops n l σ))) (f:l.length=n:=by kernel_rfl) (h:(Fb T ops n l σ).isSome=true:=by kernel_rfl):CJ P ops l σ (Ik M K):=
 .a n (by rw[aAG (Zd f)];exact .bD k) h
end
def Gf {A:Type} {b:Bool} {u v z:A} {G:Prop} (h:(bif b then u else v)=z) (f:b=true→u=z→G) (k2:b=false→v=z→G):G:=by
 rcases aag h with⟨e,h⟩|⟨e,h⟩
 ·exact f e h
 exact k2 e h
def alz {A:Type} (o:Option A) (f:A→AV):AV:=match o with
 |none=>.d (.lit (.pointer none))
 |some a=>f a
def atD {A:Type} (o:Option A) (f:A→List Au):List Au:=match o with
 |none=>[]
 |some a=>f a
def Pn {A B:Type} (o:Option A) (x:Option B) (f:A→Option B):Option B:=match o with
 |none=>x
 |some a=>f a
def ZX {A B:Type} {x z:Option B} {f:A→Option B} (h:Pn none x f=z):x=z:=h
def Zf {A B:Type} {x z:Option B} {a:A} {f:A→Option B} (h:Pn (some a) x f=z):f a=z:=h
section
variable {P : Program} {o : Oper} {es : List Au}
def xg {t t':TypeId} {x y:Operand} {k off:Nat} (m:P.underlying t=some (.pointer (P.pointee t))) (n:o.op=.binOp .eql t x y t'):BQ P o [(x,.ptr k off),(y,.d (.lit (.pointer none)))] es (.d (CM false)) es:=
 .pure fun _ _ a w _ _ h=>⟨.bool false,by
  have f:=(Dt h).1;have j:=(Dt h).2.lit;simp only at f j;generalize q:a.eval x=u at f;cases f with
  |ptr _ _ b s I=>
   have z:(eqGuard .eql t x y (Value.pointer (some ⟨b,off,none⟩)) (.pointer none)).run P w=.ok () w:=by
    unfold eqGuard;simp[pure,Sem.run_pure']
   simp only[execOp,n,q,j,ER,z,EX,run_eql_pointer_nil w t _ m,Ep]
   rfl,.d _ _ (.lit _)⟩
def yg {t t':TypeId} {x y:Operand} (m:P.underlying t=some (.pointer (P.pointee t))) (n:o.op=.binOp .eql t x y t'):BQ P o [(x,.d (.lit (.pointer none))),(y,.d (.lit (.pointer none)))] es (.d (CM true)) es:=
 .pure fun _ _ a w _ _ f=>⟨.bool true,by
  have h:=(Dt f).1.lit;have j:=(Dt f).2.lit;simp only at h j
  have q:(eqGuard .eql t x y (Value.pointer none) (.pointer none)).run P w=.ok () w:=by
   unfold eqGuard;simp[pure,Sem.run_pure']
  simp only[execOp,n,h,j,ER,q,EX,run_eql_pointer_nil w t _ m,Ep]
  rfl,.d _ _ (.lit _)⟩
end
def aBL :List ResultVar→Bool
 | []=>true
 | .tmp _::rs=>aBL rs
 |_::_=>false
def aAf (σ:Ai):List ResultVar→List AV
 | []=>[]
 | .tmp t::rs=>σ.slots.getD t .junk::aAf σ rs
 |_::rs=>.junk::aAf σ rs
def ac2 {P:Program} {σ:Ai}:∀{rs:List ResultVar},aBL rs=true→Vp P σ rs (aAf σ rs)
 | [],_=>trivial
 | .tmp _::_,h=>⟨rfl,ac2 h⟩
def EC {P:Program} {σ:Ai} {rs:List ResultVar} {f:AV} {E':List Au} (π:List (Nat×Bool)) (ha:aBL rs=true:=by kernel_rfl) (h:Qx σ.base σ.ents π=true:=by kernel_rfl) (j:f=(Zo (aAf σ rs)).back π:=by kernel_rfl) (m:E'=OJ σ.ents π:=by kernel_rfl):
 ∃xs π,Vp P σ rs xs∧Qx σ.base σ.ents π=true∧f=(Zo xs).back π∧E'=OJ σ.ents π:=⟨_,π,ac2 ha,h,j,m⟩
def V5 :Nat→Nat→List (Nat×Nat×Nat)
 |0,_=>[]
 |n+1,x=>(x % 2048,x/2048 % 64,x/131072 % 2048)::V5 n (x/268435456)
def aEo :List (Nat×Nat×Nat)→List (List Nat)→Nat→List (List Nat)
 | [],N,_=>N
 |t::Tr,N,n=>bif Nat.beq t.2.2 n then aEo Tr (N++[t.2.1::N.getD t.1 []]) (n+1)else aEo Tr N n
def RX (n x:Nat):List (List Nat):=aEo (V5 n x) [[]] 1
section
variable {P : Program} [T : Kn P] {id : Nat} {ops : Array Oper} {σ : Ai} {Q : Exit → Ai → Prop} {y : Code}
def AB.anr (L:List (Jd P)) (n x f:Nat) (h:AB P y (JQ T L ops σ ((RX n x).getD f [])) Q) (j:P.follows .mixedOrders=true:=by kernel_rfl) (m:iO ops (RX n x) (V5 n x) [f]=true:=by kernel_rfl)
 (q:((V5 n x).map fun t=>U1 T L ops (JQ T L ops σ ((RX n x).getD t.1 [])) t.2.1)=(V5 n x).map fun t=>some (JQ T L ops σ ((RX n x).getD t.2.2 []),Us L t.2.1):=by kernel_rfl) (s:(RX n x).getD 0 [0]=[]:=by kernel_rfl):AB P (.seq (.region id ops true) y) σ Q:=
 AB.atv L _ _ f h j m s q
def AB.aii (L:List (Jd P)) (n x:Nat) (F:List Nat) (f:Ai) (h:Nj (fun k=>mJ (JQ T L ops σ ((RX n x).getD k [])) f) F) (j:AB P y f Q) (m:P.follows .mixedOrders=true:=by kernel_rfl) (q:iO ops (RX n x) (V5 n x) F=true:=by kernel_rfl)
 (s:((V5 n x).map fun t=>U1 T L ops (JQ T L ops σ ((RX n x).getD t.1 [])) t.2.1)=(V5 n x).map fun t=>some (JQ T L ops σ ((RX n x).getD t.2.2 []),Us L t.2.1):=by kernel_rfl) (u:(RX n x).getD 0 [0]=[]:=by kernel_rfl):AB P (.seq (.region id ops true) y) σ Q:=
 AB.atw L _ _ F f h j m q u s
end
end Go.Proofs.YtolgdkhlelfpoaaGreat
end
section
namespace Go
open Go.Proofs.YtolgdkhlelfpoaaGreat
variable {P : Program}
def qj (w:World) (J M ty f:TypeId) (b o h q:Nat) (a:Addr) (m s k n:Nat) (cs:List Value)
 (O:P.underlying J=some (.slice f)) (L:(P.info? f).map (·.size)=some k) (S:n=Nat.min m h) (U:cs.length=n*k)
 (u:∀j v,cs[j]? =some v→w.cell? (a.add j)=some v) (Y:∀j,j<cs.length→(w.cell? ⟨b,o+j,none⟩).isSome=true) (Z:∀j,j<cs.length→w.frozen? ⟨b,o+j,none⟩=false) (h1:∀v∈cs,v.oneCell'=true):
 (Builtin.copy_ #[J,M] ty #[.slice (some ⟨b,o,none⟩) h q,.slice (some a) m s]).run P w=.ok (goInt n) (w.setCells b o cs):=by
 have z:=azK (P:=P) w a cs u;have hst:=run_storeCells_cells (P:=P) b o cs 0 w (by simpa using Y) Yi h1;rw[U]at z;cases I:P.info? f with
 |none=>simp[I]at L
 |some i=>
  have hi:i.size=k:=by simpa[I]using L
  simp[Builtin.copy_,aAO O,Builtin.lenOf,Builtin.firstCells,sizeOf,typeInfo,I,hi,←S,z,hst]
end Go
namespace Go.Proofs.YtolgdkhlelfpoaaGreat
open Go.Shelf Go.RowKit Go.Lib
set_option linter.unusedVariables false
set_option linter.unusedSimpArgs false
set_option maxHeartbeats 4000000 in
set_option maxRecDepth 100000 in
def arC (b n c i vb vc:Nat) (cs vs:List Value) (w:World) (hi:i<n) (hroom:n+1≤c) (hc63:c≤9223372036854775807) (hvb:vb≠b)
 (hcl:cs.length=n*29) (hvl:vs.length=29)
 (hcs:∀j v,cs[j]? =some v→w.cell? ⟨b,j,none⟩=some v) (hsp:∀j,j<(n+1)*29→(w.cell? ⟨b,j,none⟩).isSome=true) (hfz:∀j,j<(n+1)*29→w.frozen? ⟨b,j,none⟩=false)
 (hvs:∀j v,vs[j]? =some v→w.cell? ⟨vb,j,none⟩=some v) (h1c:∀v∈cs,v.oneCell'=true) (h1v:∀v∈vs,v.oneCell'=true)
 (tA tB:TypeId) (kA kB:Nat) (hsa:w.shape? vb=some (tA,kA)) (hsb:w.shape? b=some (tB,kB)) (hkB:kB≠0) (hfa:w.frozen? ⟨vb,0,none⟩=false) (hfe:w.frozen? ⟨vb,kA,none⟩=false):
 Calls Tryz.prog 98 #[.slice (some ⟨b,0,none⟩) n c,.int .i64 i,.slice (some ⟨vb,0,none⟩) 1 vc] w fun e w'=>
  e=.returned (.slice (some ⟨b,0,none⟩) (n+1) c)∧w'=(w.drew.setCells b ((i+1)*29) (cs.drop (i*29))).setCells b (i*29) vs:=by
 have hz2:¬((i:Int)=(n:Int)):=AA
 have hw1:BD ((i:Int)+1)=(i:Int)+1:=PN
 have hw2:BD ((n:Int)+1)=(n:Int)+1:=PN
 have hb1:(0:Int)≤(i:Int)+1:=AA
 have hin:i≤n:=AA
 have htn:((i:Int)+1).toNat=i+1:=AA
 have avu:((n:Int)+1).toNat=n+1:=AA
 have hb2:¬(c=i+1):=AA
 have hb3:(i:Int)≤(n:Int)+1:=AA
 have hb4:¬(c=i):=AA
 have hb5:¬((c:Int)<(n:Int)+1):=AA
 have q:(Tryz.prog.info? 55).map (·.size)=some 29:=A8
 have L:∀w,(Go.sizeOf 55).run Tryz.prog w=.ok 29 w:=fun w=>by
  cases M:Tryz.prog.info? 55 with
  |none=>simp[M]at q
  |some i=>
   have h0:i.size=29:=by simpa[M]using q
   simp[sizeOf,typeInfo,M,h0]
 have O:∀S U,(callFunc 139 #[.slice (some ⟨vb,0,none⟩) 1 vc,.slice (some ⟨b,(i+1)*29,none⟩) S U]).run Tryz.prog w=.ok (.value (.bool false)) w:=fun S U=>by
  rw[run_callFunc_extern Tryz.func139 A8 A8 A8 (e:=Extern.SlicesOverlaps.overlaps #[22,22] #[4]) A8,
   Lib.run_overlaps_apart w 22 4 55 mG 29 L ⟨vb,0,none⟩ ⟨b,(i+1)*29,none⟩ 1 vc S U hvb tA tB kA kB hsa hsb hkB hfa hfe]
  rfl
 have s:(cs.drop (i*29)).length=(n-i)*29:=by rw[J3,hcl,Nat.sub_mul]
 have u:∀ty Ae Y,(Builtin.copy_ #[22,22] ty #[.slice (some ⟨b,(i+1)*29,none⟩) (n-i) Ae,.slice (some ⟨b,i*29,none⟩) (n+1-i) Y]).run Tryz.prog w.drew=.ok (goInt (n-i:Nat)) (w.drew.setCells b ((i+1)*29) (cs.drop (i*29))):=fun ty Ae Y=>
  qj w.drew _ _ ty 55 b ((i+1)*29) (n-i) Ae ⟨b,i*29,none⟩ (n+1-i) Y 29 (n-i) (cs.drop (i*29)) mG q zi s
   (fun j v f=>by rw[aS];exact hcs (i*29+j) v (by rwa [ND]at f))
   (fun j f=>hsp _ aCW) (fun j f=>hfz _ aCW) (fun v hv=>h1c v (aEP hv))
 obtain⟨W1,m⟩:∃W1,W1=w.drew.setCells b ((i+1)*29) (cs.drop (i*29)):=⟨_,rfl⟩
 have z:∀k,k<(n+1)*29→(W1.cell? ⟨b,k,none⟩).isSome=true:=fun k hk=>by
  rw[m];exact isSome_setCells b (cs.drop (i*29)) ((i+1)*29) w.drew (fun j f=>hsp _ aCW) _ (hsp k hk)
 have I:∀(W:World),(∀x,W.cell? x=W1.cell? x)→(∀x,W.frozen? x=W1.frozen? x)→∀ty Ae,(Builtin.copy_ #[22,22] ty #[.slice (some ⟨b,i*29,none⟩) (n+1-i) Ae,.slice (some ⟨vb,0,none⟩) 1 vc]).run Tryz.prog W=.ok (goInt (1:Nat)) (W.setCells b (i*29) vs):=fun W J Z ty Ae=>
  qj W _ _ ty 55 b (i*29) (n+1-i) Ae ⟨vb,0,none⟩ 1 vc 29 1 vs mG q zi (by rw[hvl])
   (fun j v f=>by
    rw[aS,J,m,World.cell?_setCells_out b _ _ _ _ (fun h _=>absurd h hvb),Hz]
    exact hvs j v f)
   (fun j f=>by rw[J];exact z _ AA) (fun j f=>by rw[Z,m,World.frozen?_setCells];exact hfz _ AA) h1v
 rw[←m]at u;have mixed:Tryz.prog.follows .mixedOrders=true:=A8
 go_enter Tryz.func98,Tryz.ntmps98
 go_wp2_with (simp only[O])
 go_region_law_o (refine step_copy_runI rfl _ _ 22 22 rfl _ _ wK wK (u _ _ _) ?_)
 go_wp2_with (at_builtin;refine wpList_copy_runI _ rfl _ _ 22 22 rfl _ _ rfl rfl (I _ (fun _=>rfl) (fun _=>rfl) _ _) ?_)
 go_ret
 first|exact⟨rfl,rfl⟩|exact⟨rfl,by rw[m]⟩
set_option maxHeartbeats 4000000 in
set_option maxRecDepth 100000 in
def ak2 (b n c i vb vc:Nat) (cs vs:List Value) (w:World) (hi:i<n) (hnc:n≤c) (hroom:c<n+1) (hbig:(n+1)*376≤140737488355328)
 (hcl:cs.length=n*29) (hvl:vs.length=29)
 (hcs:∀j v,cs[j]? =some v→w.cell? ⟨b,j,none⟩=some v) (hvs:∀j v,vs[j]? =some v→w.cell? ⟨vb,j,none⟩=some v) (h1c:∀v∈cs,v.oneCell'=true) (h1v:∀v∈vs,v.oneCell'=true):
 Calls Tryz.prog 98 #[.slice (some ⟨b,0,none⟩) n c,.int .i64 i,.slice (some ⟨vb,0,none⟩) 1 vc] w fun e w'=>∃G ROW,e=.returned (.slice (some ⟨w.heap.size,0,none⟩) (n+1) G)∧n+1≤G∧G≤maxLen∧G*29≤ROW.size∧ROW.toList.take (i*29)=cs.take (i*29)∧
  w'=(((w.alloc (.cells ROW 55)).drew.setCells w.heap.size (i*29) vs).drew).setCells w.heap.size ((i+1)*29) (cs.drop (i*29)):=by
 have hE:Ez Tryz.prog 22 55 29 376:=JD A8;obtain⟨i0,z0,S,hz0,U,Y,hzc⟩:=hE.info;have Z:(Tryz.prog.info? 55).map (·.size)=some 29:=by rw[S];simp[U]
 have mixed:Tryz.prog.follows .mixedOrders=true:=A8
 have hz2:¬((i:Int)=(n:Int)):=AA
 have hz3:(c:Int)<(n:Int)+1:=AA
 have hil:i*29<cs.length:=AA
 have hbw:b<w.heap.size:=block_lt_of_cell (hcs 0 _ (DX AA));have hvw:vb<w.heap.size:=block_lt_of_cell (hvs 0 _ (DX AA));have hkk:(n:Int)+1-(i:Int)=((n+1-i:Nat):Int):=AA
 have J:i+(n+1-i)=n+1:=AA
 have L:(cs.take (i*29)).length=i*29:=afO
 have z:(Builtin.firstCells i0.size i (.slice (some ⟨b,0,none⟩) i c)).run Tryz.prog w.drew=.ok (cs.take (i*29)).toArray w.drew:=by
  rw[U]
  exact run_firstCells_some w.drew 29 i ⟨b,0,none⟩ i c (cs.take (i*29)) (by rw[L]) (fun j v f=>by
   rw[aS,Hz];rw[dD]at f;split at f
   ·exact hcs j v f
   cases f)
 have u:∀ty,(Builtin.append_ #[22,3] ty #[.slice (some ⟨b,0,none⟩) i c,.int .i64 ((n:Int)+1-(i:Int))]).run Tryz.prog w=
  .ok (.slice (some ⟨w.heap.size,0,none⟩) (n+1) (grownCap w (n+1) c 55)) (w.drew.alloc (.cells ((cs.take (i*29)).toArray++Builtin.zeroCells z0.cells (n+1-i)++Builtin.zeroCells z0.cells (grownCap w (n+1) c 55-(n+1))) 55)):=fun ty=>by
  have h:=Lib.run_append_grow_zeros w 22 3 ty 55 i0 z0 .i64 .i64 hE.und A8 S hz0 (some ⟨b,0,none⟩) i c (cs.take (i*29)) z (n+1-i) AA AA AA AA (by rw[Y];omega) (by rw[Y,J];exact growslice_fits AA AA);rw[J]at h;rw[hkk];exact h
 have hGn:n+1≤grownCap w (n+1) c 55:=grownCap_ge w _ _ _;have M:=grownCap_le_maxLen w (n+1) c 55 wF;obtain⟨G,hG⟩:∃G,G=grownCap w (n+1) c 55:=⟨_,rfl⟩
 obtain⟨ROW,m⟩:∃ROW:Array Value,ROW=(cs.take (i*29)).toArray++Builtin.zeroCells z0.cells (n+1-i)++Builtin.zeroCells z0.cells (G-(n+1)):=⟨_,rfl⟩
 rw[←hG]at u hGn M;rw[←m]at u
 have hRl:ROW.size=G*29:=by
  rw[m];simp[Builtin.zeroCells,hzc];omega
 have hRt:ROW.toList.take (i*29)=cs.take (i*29):=by
  rw[m];simp[G6];rw[fD L]
 obtain⟨W1,q⟩:∃W1,W1=w.drew.alloc (.cells ROW 55):=⟨_,rfl⟩
 rw[←q]at u
 have hN:∀j,j<(n+1)*29→(W1.cell? ⟨w.heap.size,j,none⟩).isSome=true:=fun j f=>by
  rw[q,World.cell?_alloc_at (w:=w.drew) ROW _ w.heap.size j rfl,zG AA];rfl
 have hNf:∀j,W1.frozen? ⟨w.heap.size,j,none⟩=false:=fun j=>by rw[q];exact World.frozen?_alloc_at (w:=w.drew) ROW _ w.heap.size j rfl
 have hOb:∀j v,w.cell? ⟨b,j,none⟩=some v→W1.cell? ⟨b,j,none⟩=some v:=fun j v h=>by rw[q,World.cell?_alloc_past (w:=w.drew) _ b j hbw];exact h
 have hOv:∀j v,w.cell? ⟨vb,j,none⟩=some v→W1.cell? ⟨vb,j,none⟩=some v:=fun j v h=>by rw[q,World.cell?_alloc_past (w:=w.drew) _ vb j hvw];exact h
 have hcpA:∀(W:World),(∀x,W.cell? x=W1.cell? x)→(∀x,W.frozen? x=W1.frozen? x)→∀ty Ae,(Builtin.copy_ #[22,22] ty #[.slice (some ⟨w.heap.size,i*29,none⟩) (n+1-i) Ae,.slice (some ⟨vb,0,none⟩) 1 vc]).run Tryz.prog W=.ok (goInt (1:Nat)) (W.setCells w.heap.size (i*29) vs):=fun W s O ty Ae=>
  qj W _ _ ty 55 w.heap.size (i*29) (n+1-i) Ae ⟨vb,0,none⟩ 1 vc 29 1 vs hE.und Z zi (by rw[hvl])
   (fun j v f=>by rw[aS,s,Hz];exact hOv _ v (hvs j v f))
   (fun j f=>by rw[s];exact hN _ AA) (fun j f=>by rw[O];exact hNf _) h1v
 have hG63:G≤9223372036854775807:=by unfold maxLen at M;omega
 have hGi:¬(G=i):=AA
 have hGim:¬(G=i+1):=AA
 have hci:¬(c=i):=AA
 have hbN:b≠w.heap.size:=AA
 have hdl:(cs.drop (i*29)).length=(n-i)*29:=by rw[J3,hcl,Nat.sub_mul]
 have I:∀(W:World),(∀x,W.cell? x=(W1.setCells w.heap.size (i*29) vs).cell? x)→(∀x,W.frozen? x=(W1.setCells w.heap.size (i*29) vs).frozen? x)→∀ty Ae sc,(Builtin.copy_ #[22,22] ty #[.slice (some ⟨w.heap.size,(i+1)*29,none⟩) (n-i) Ae,.slice (some ⟨b,i*29,none⟩) (n-i) sc]).run Tryz.prog W=.ok (goInt (n-i:Nat)) (W.setCells w.heap.size ((i+1)*29) (cs.drop (i*29))):=fun W s O ty Ae sc=>
  qj W _ _ ty 55 w.heap.size ((i+1)*29) (n-i) Ae ⟨b,i*29,none⟩ (n-i) sc 29 (n-i) (cs.drop (i*29)) hE.und Z zi hdl
   (fun j v f=>by
    rw[aS,s,World.cell?_setCells_out _ _ _ _ _ (fun h _=>absurd h hbN)]
    exact hOb _ v (hcs (i*29+j) v (by rwa [ND]at f)))
   (fun j f=>by rw[s];exact isSome_setCells _ vs (i*29) W1 (fun t ht=>hN _ AA) _ (hN _ (by rw[hdl]at f;omega)))
   (fun j f=>by rw[O,World.frozen?_setCells];exact hNf _) (fun v hv=>h1c v (aEP hv))
 subst q;have hE1:∀x,((w.alloc (.cells ROW 55)).drew).cell? x=(w.drew.alloc (.cells ROW 55)).cell? x:=fun x=>rfl;have hE2:∀x,((w.alloc (.cells ROW 55)).drew).frozen? x=(w.drew.alloc (.cells ROW 55)).frozen? x:=fun x=>rfl;have hF1:∀x,(((w.alloc (.cells ROW 55)).drew.setCells w.heap.size (i*29) vs).drew).cell? x=((w.drew.alloc (.cells ROW 55)).setCells w.heap.size (i*29) vs).cell? x:=fun x=>rfl;have hF2:∀x,(((w.alloc (.cells ROW 55)).drew.setCells w.heap.size (i*29) vs).drew).frozen? x=((w.drew.alloc (.cells ROW 55)).setCells w.heap.size (i*29) vs).frozen? x:=fun x=>rfl;have hw1:BD ((i:Int)+1)=(i:Int)+1:=PN
 have hw2:BD ((n:Int)+1)=(n:Int)+1:=PN
 have hw3:BD ((n:Int)+1-(i:Int))=(n:Int)+1-(i:Int):=PN
 have hb1:(0:Int)≤(i:Int)+1:=AA
 have hin:i≤n:=AA
 have htn:((i:Int)+1).toNat=i+1:=AA
 have hb3:(i:Int)≤(n:Int):=AA
 clear hkk J z m hG hil L
 go_enter Tryz.func98,Tryz.ntmps98
 go_wp2_with (first
  |(at_builtin;refine aC2 _ rfl _ _ _ _ rfl _ _ rfl rfl _ _ (u _) ?_)
  |(at_builtin;refine wpList_copy_runI _ rfl _ _ 22 22 rfl _ _ rfl rfl (hcpA _ hE1 hE2 _ _) ?_)
  |(at_builtin;refine wpList_copy_runI _ rfl _ _ 22 22 rfl _ _ rfl rfl (I _ (fun _=>rfl) (fun _=>rfl) _ _ _) ?_))
 go_region_law_o (refine step_copy_runI rfl _ _ 22 22 rfl (.slice (some ⟨w.heap.size,(i+1)*29,none⟩) (n-i) (G-(i+1))) (.slice (some ⟨b,i*29,none⟩) (n-i) (c-i)) wK wK (I _ hF1 hF2 3 (G-(i+1)) (c-i)) ?_)
 go_wp2
 go_ret
 exact⟨G,ROW,rfl,hGn,M,Zd hRl.symm,hRt,rfl⟩
def putAt (f:Array Value):Nat→List Value→Array Value
 |_,[]=>f
 |o,v::r=>putAt (f.setIfInBounds o v) (o+1) r
def Xe :∀(vs:List Value) (o:Nat) (f:Array Value),(putAt f o vs).size=f.size
 | [],_,_=>rfl
 |v::r,o,f=>by rw[putAt,Xe r];simp
def dJ :∀(vs:List Value) (o:Nat) (f:Array Value),o+vs.length≤f.size→(putAt f o vs).toList=f.toList.take o++vs++f.toList.drop (o+vs.length)
 | [],o,f,_=>by simp[putAt]
 |v::r,o,f,h=>by
  simp only[FQ]at h;rw[putAt,dJ r (o+1) _ Dp,aDO];refine Zq fun j=>?_;simp only[G6,List.getElem?_append,G5,Zy,PX,dD,List.getElem?_set,ND,FQ,WZ,aIq]
  grind
def iY (b:Nat):∀(vs:List Value) (o:Nat) (w:World) (f:Array Value) (e:TypeId) (fr:Nat×Nat),w.heap[b]? =some (.cells f e fr)→(w.setCells b o vs).heap[b]? =some (.cells (putAt f o vs) e fr)
 | [],_,_,_,_,_,h=>h
 |v::r,o,w,f,e,fr,h=>by
  rw[World.setCells,putAt];refine iY b r (o+1) _ _ e fr ?_;simp[World.setCell,Lm,h]
set_option maxHeartbeats 4000000 in
set_option maxRecDepth 100000 in
def asF {v:Value} {n vb vc:Nat} {xs news:List Value} {w:World} (hown:kG w 55 29 v n xs) (hsrc:SQ w (.slice (some ⟨vb,0,none⟩) 1 vc) 1 29 news) (hb:(n+1)*376≤140737488355328):
 Calls Tryz.prog 98 #[v,.int .i64 n,.slice (some ⟨vb,0,none⟩) 1 vc] w fun e w'=>∃v',e=.returned v'∧kG w' 55 29 v' (n+1) (xs++news)∧w.grownBy w' v.ownBlock∧∀g,CQ v'=some g→CQ v=some g∨w.heap.size≤g:=by
 have hE:Ez Tryz.prog 22 55 29 376:=JD A8;obtain⟨v',w',j,m,q,s⟩:=aBz (ty:=22) hE hown hsrc hb wF;have mixed:Tryz.prog.follows .mixedOrders=true:=A8
 rcases hown.2 with⟨rfl,z⟩|⟨g,cap,I,rfl,_,M,J,f,L,h⟩
 ·subst z
  go_enter Tryz.func98,Tryz.ntmps98
  go_wp2_with (at_builtin;refine aC2 _ rfl _ _ _ _ rfl _ _ rfl rfl _ _ j ?_)
  go_ret
  exact⟨v',rfl,m,q,s⟩
 have u:cap≤9223372036854775807:=by unfold maxLen at f;omega
 go_enter Tryz.func98,Tryz.ntmps98
 go_wp2_with (at_builtin;refine aC2 _ rfl _ _ _ _ rfl _ _ rfl rfl _ _ j ?_)
 all_goals (go_ret;exact⟨v',rfl,m,q,s⟩)
def nC (b:Nat):∀(vs:List Value) (o:Nat) (w:World),(w.setCells b o vs).os=w.os∧(w.setCells b o vs).tape=w.tape∧(w.setCells b o vs).output=w.output∧(w.setCells b o vs).heap.size=w.heap.size∧∀i,i≠b→(w.setCells b o vs).heap[i]? =w.heap[i]?
 | [],_,_=>⟨rfl,rfl,rfl,rfl,fun _ _=>rfl⟩
 |v::r,o,w=>by
  obtain⟨f,h,j,m,n⟩:=nC b r (o+1) (w.setCell ⟨b,o,none⟩ v);rw[World.setCells];refine⟨f,h,j,by rw[m];simp[World.setCell],fun i hi=>?_⟩;rw[n i hi];simp[World.setCell,Lm,Ne.symm hi]
def aqG {f:Array Value} {xs vs:List Value} {a N k:Nat} (m:f.toList.take N=xs) (h:xs.length=N) (j:vs.length=k) (ha:a≤N) (s:N+k≤f.size):
 (putAt (putAt f (a+k) (xs.drop a)) a vs).toList.take (N+k)=xs.take a++vs++xs.drop a:=by
 have hd:(xs.drop a).length=N-a:=by rw[J3,h]
 rw[dJ vs a _ (by rw[Xe];omega),dJ (xs.drop a) (a+k) f AA,j,hd]
 have n:(f.toList.take (a+k)++xs.drop a++f.toList.drop (a+k+(N-a))).take a=xs.take a:=by
  rw[G6,List.take_append_of_le_length Dp,aBY,←m,aBY,tH AA,tH ha]
 have q:(f.toList.take (a+k)++xs.drop a++f.toList.drop (a+k+(N-a))).drop (a+k)=xs.drop a++f.toList.drop (a+k+(N-a)):=by
  rw[G6,List.drop_left' Dp]
 rw[n,q,←G6,fD (by simp[hd,j,h];omega)]
def amf {f:Array Value} {xs vs:List Value} {a N k:Nat} (m:f.toList.take a=xs.take a) (h:xs.length=N) (j:vs.length=k) (ha:a≤N) (q:N+k≤f.size):
 (putAt (putAt f a vs) (a+k) (xs.drop a)).toList.take (N+k)=xs.take a++vs++xs.drop a:=by
 have hd:(xs.drop a).length=N-a:=by rw[J3,h]
 rw[dJ (xs.drop a) (a+k) _ (by rw[Xe];omega),dJ vs a f AA,j,hd,m];have n:(xs.take a++vs++f.toList.drop (a+k)).take (a+k)=xs.take a++vs:=fD (by simp[j,h];omega);rw[n,fD (by simp[hd,j,h];omega)]
def nP {w:World} {g n:Nat} {f:Array Value} {xs:List Value} {T:TypeId} {fr:Nat×Nat} (m:w.heap[g]? =some (.cells f T fr)) (q:f.toList.take n=xs) (j:Nat) (v:Value) (h:xs[j]? =some v):w.cell? ⟨g,j,none⟩=some v:=by
 unfold World.cell?;simp only[m];rw[←q,dD]at h;split at h
 ·simpa using h
 cases h
def ahR {w:World} {g:Nat} {f:Array Value} {T:TypeId} {fr:Nat×Nat} (m:w.heap[g]? =some (.cells f T fr)) (j:Nat) (h:j<f.size):(w.cell? ⟨g,j,none⟩).isSome=true:=by
 unfold World.cell?;simp[m,h]
def aFb {w:World} {g:Nat} {f:Array Value} {T:TypeId} (h:w.heap[g]? =some (.cells f T (0,0))) (j:Nat):w.frozen? ⟨g,j,none⟩=false:=by
 unfold World.frozen?;simp[h]
def alP {v:Value} {n Y vc i:Nat} {xs f:List Value} {w:World} (hi:i≤n) (q:kG w 55 29 v n xs) (h1:∀u∈xs,u.oneCell'=true) (hx:kG w 55 29 (.slice (some ⟨Y,0,none⟩) 1 vc) 1 f) (M:∀u∈f,u.oneCell'=true) (hne:CQ v≠some Y) (hb:(n+1)*376≤140737488355328):
 Calls Tryz.prog 98 #[v,.int .i64 i,.slice (some ⟨Y,0,none⟩) 1 vc] w fun e w'=>∃v',e=.returned v'∧kG w' 55 29 v' (n+1) (xs.take (i*29)++f++xs.drop (i*29))∧Turns v w w'∧∀g,CQ v'=some g→CQ v=some g∨w.heap.size≤g:=by
 have s:=q.1;have z:f.length=29:=by have :=hx.1;omega
 rcases hx.2 with⟨e0,_⟩|⟨vb',avv,auG,e0,_,I,hvn,_,hvs,O⟩
 ·cases e0
 injection e0 with e1 _ e3
 injection e1 with e1
 injection e1 with e1
 subst e1 e3;rcases mX i n with S|S
 ·rcases q.2 with⟨_,h0⟩|⟨g,cap,L,rfl,_,Z,hnc,hcm,hcs,m⟩
  ·omega
  have hgv:Y≠g:=fun e=>hne mO;have hil:i*29≤n*29:=Hg _ hi;rcases mX n cap with h|h
  ·have hfit:(n+1)*29≤L.size:=E5 (Hg _ h) hcs;refine(arC g n cap i Y vc xs f w S h (by unfold maxLen at hcm;omega) hgv s z (nP Z m) (fun j hj=>ahR Z j AA) (fun j _=>aFb Z j) (nP I O) h1 M 55 55 auG.size L.size (by simp[World.shape?,I]) (by simp[World.shape?,Z]) AA (aFb I 0) (aFb I _)).mono ?_;rintro e w' ⟨rfl,rfl⟩;have hh:=iY g f (i*29) _ _ _ _ (iY g (xs.drop (i*29)) ((i+1)*29) w.drew L 55 (0,0) Z);obtain⟨a1,a2,a3,a4,a5⟩:=nC g (xs.drop (i*29)) ((i+1)*29) w.drew;obtain⟨b1,b2,b3,b4,b5⟩:=nC g f (i*29) (w.drew.setCells g ((i+1)*29) (xs.drop (i*29)));refine⟨_,rfl,⟨?_,.inr ⟨g,cap,_,rfl,Dx _,hh,h,hcm,by rw[Xe,Xe];exact hcs,?_⟩⟩,⟨b1.trans a1,b2.trans a2,b3.trans a3,by rw[b4,a4];exact Dn _,fun c hc hcb=>?_⟩,fun g' U=>.inl U⟩
   ·simp[z,s];omega
   ·have :=aqG (a:=i*29) (k:=29) m s z hil AA;rw[show(i+1)*29=i*29+29 by omega,show(n+1)*29=n*29+29 by omega];exact this
   have J:c≠g:=fun e=>hcb mO;rw[b5 c J,a5 c J];rfl
  refine(ak2 g n cap i Y vc xs f w S hnc AA hb s z (nP Z m) (nP I O) h1 M).mono ?_;rintro e w' ⟨G,ROW,rfl,hGn,hGm,hGs,hRt,rfl⟩
  have hal:((w.alloc (.cells ROW 55)).drew).heap[w.heap.size]? =some (.cells ROW 55 (0,0)):=by
   show(w.heap.push (.cells ROW 55 (0,0)))[w.heap.size]? =_;simp
  have hh:=iY w.heap.size (xs.drop (i*29)) ((i+1)*29) _ _ _ _ (show(((w.alloc (.cells ROW 55)).drew.setCells w.heap.size (i*29) f).drew).heap[w.heap.size]? =_ from iY w.heap.size f (i*29) _ ROW 55 (0,0) hal);obtain⟨a1,a2,a3,a4,a5⟩:=nC w.heap.size f (i*29) (w.alloc (.cells ROW 55)).drew;obtain⟨b1,b2,b3,b4,b5⟩:=nC w.heap.size (xs.drop (i*29)) ((i+1)*29) ((w.alloc (.cells ROW 55)).drew.setCells w.heap.size (i*29) f).drew;refine⟨_,rfl,⟨?_,.inr ⟨w.heap.size,G,_,rfl,Dx _,hh,hGn,hGm,by rw[Xe,Xe];exact hGs,?_⟩⟩,⟨b1.trans a1,b2.trans a2,b3.trans a3,?_,fun c hc hcb=>?_⟩,fun g' U=>.inr (by simp[CQ]at U;omega)⟩
  ·simp[z,s];omega
  ·have :=amf (a:=i*29) (k:=29) hRt s z hil (by have :=Hg 29 hGn;omega);rw[show(i+1)*29=i*29+29 by omega,show(n+1)*29=n*29+29 by omega];exact this
  ·rw[b4];show w.heap.size≤((w.alloc (.cells ROW 55)).drew.setCells w.heap.size (i*29) f).heap.size;rw[a4];show w.heap.size≤(w.heap.push (.cells ROW 55 (0,0))).size;simp
  have J:c≠w.heap.size:=AA
  rw[b5 c J];show((w.alloc (.cells ROW 55)).drew.setCells w.heap.size (i*29) f).heap[c]? =_;rw[a5 c J];show(w.heap.push (.cells ROW 55 (0,0)))[c]? =_;simp[aCr,J]
 have hni:i=n:=AA
 subst hni;refine(asF q ⟨AA,M,.inl ⟨_,_,rfl,fun j u hj=>by rw[aS,Hz];exact nP I O j u hj⟩⟩ hb).mono ?_;rintro e w' ⟨v',rfl,h2,h3,h4⟩;refine⟨v',rfl,?_,⟨h3.os,h3.tape,h3.output,h3.size,fun k hk hne'=>h3.block k hk ?_⟩,h4⟩
 ·rw[P6 AA,aAG AA,QW];exact h2
 rcases q.2 with⟨rfl,_⟩|⟨g,cap,L,rfl,_⟩
 ·simp[Value.ownBlock]
 intro e;exact hne' e.symm
def aj3 {f:Array Value} (h:f.size=3):f= #[f.getD 0 undef,f.getD 1 undef,f.getD 2 undef]:=by
 refine XE Ye fun i m j=>?_;simp at j;have :i=0∨i=1∨i=2:=AA
 rcases this with rfl|rfl|rfl<;>simp[Array.getD,h]
def ajh {ok:Nat→Prop} {w:World} {H:List BN} {xs:List AV} {vs:List Value} (h:Ed ok w H xs vs) (n:Nat):Ed ok w H (xs.take n) (vs.take n):=by
 refine⟨by rw[G5,G5,h.1],fun i hi=>?_⟩;rw[G5]at hi;have :=h.2 i AA;rw[iE,iE]at this ⊢;rw[Jo AA,Jo AA];exact this
def aq6 {ok:Nat→Prop} {w:World} {H:List BN} {xs:List AV} {vs:List Value} (h:Ed ok w H xs vs) (n:Nat):Ed ok w H (xs.drop n) (vs.drop n):=by
 refine⟨by rw[J3,J3,h.1],fun i hi=>?_⟩;rw[J3]at hi;have :=h.2 (n+i) AA;rw[iE,iE]at this ⊢;rw[ND,ND];exact this
def aac {ok:Nat→Prop} {w:World} {H:List BN} {xs:List AV} {vs:List Value} (h:Ed ok w H xs vs):∀u∈vs,u.oneCell'=true:=fun u j=>by
 obtain⟨i,hi,rfl⟩:=Gv j;have f:=h.2 i (by rw[←h.1];exact hi);have :=f.2.leaf f.1
 rwa [iE,DX hi]at this
def aeh {size:Nat}:∀{es:List D} (i:Nat),(∀x∈es,x.cells.length=size)→flat (es.take i)=(flat es).take (i*size)
 | [],i,_=>Pg
 |x::l,0,_=>Pg
 |x::l,i+1,h=>by
  have f:(x.cells.map AV.d).length=size:=by rw[CB];exact h x (Fa ..)
  rw[List.take_succ_cons,SL,SL,aeh i fun y j=>h y (Gq _ j),VH,vS,Nh,←f,List.take_length_add_append]
def aJG {size:Nat}:∀{es:List D} (i:Nat),(∀x∈es,x.cells.length=size)→flat (es.drop i)=(flat es).drop (i*size)
 | [],i,_=>Pg
 |x::l,0,_=>Pg
 |x::l,i+1,h=>by
  have f:(x.cells.map AV.d).length=size:=by rw[CB];exact h x (Fa ..)
  rw[List.drop_succ_cons,SL,aJG i fun y j=>h y (Gq _ j),VH,vS,Nh,←f,List.drop_length_add_append]
def Bo.kill {C:DZ} {ok:Nat→Prop} {H:List BN} {es:List Au} {w:World} (n:Bo C ok H es w) (k:Nat):Bo C ok H (es.set k .dead) w:=
 (n.change (ok':=ok) (H':=H) (w':=w) (es':=es.set k .dead) (fun _=>False) rfl rfl rfl (Dn _) (fun _ _ _=>rfl) (fun _ h=>h.elim) (fun _ h=>h) (fun _ h=>.inl h) (.refl _) (by simpa using n.hlen) (by
  intro j e' h' f m;by_cases q:k=j
  ·subst q;rw[List.getElem?_set]at f;simp only[Iu]at f;split at f
   ·cases f;exact .inr ⟨trivial,fun h=>GX⟩
   cases f
  rw[Vq q]at f
  exact .inl ⟨f,m,fun _ _ _ h=>h⟩)).1
def aGR {α:Type} (l:List α) (i:Int) (m:List α):Option (List α):=match m with
 | [x]=>if(0≤i∧i≤(l.length:Int))∧l.length≤34359738368 then some (l.take i.toNat++x::l.drop i.toNat)else none
 |_=>none
def ajL {α:Type} {e:α→D} (hk:∀x,(e x).cells.length=29) (l:List α) (q:Int) (m r:List α) (h:aGR l q m=some r):
 BI 98 [.aP 0,.d (AP q),.aP 1] [.arr 55 29 (l.map e),.arr 55 29 (m.map e)] (.aP 2) [.dead,.dead,.arr 55 29 (r.map e)]:=by
 unfold aGR at h;split at h
 case h_2=>cases h
 rename_i x;split at h
 case isFalse=>cases h
 rename_i hc;obtain⟨⟨hq0,hql⟩,hb⟩:=hc;obtain rfl:=Bl h;obtain⟨i,rfl⟩:∃i:Nat,q=i:=⟨q.toNat,AA⟩
 have hi:i≤l.length:=AA
 rw[ug];intro ok X H w I s hs ha;have h0:=ha 0 BG;have hq:=ha 1 BG;have h2:=ha 2 BG;rw[aj3 hs];obtain⟨hd,hh,hok⟩:=Et s.ent s.hlen (k:=0) rfl;obtain⟨J,L,M⟩:=Et s.ent s.hlen (k:=1) rfl;obtain hv:=Me h0 hh;obtain hv1:=Me h2 L
 have hq':I.getD 1 undef=.int .i64 i:=by
  simp only[List.getD,uP,aC4,KF]at hq;cases hq with |d _ _ hq=>exact Cm.ZQ hq
 rw[hv,hv1,hq'];obtain⟨hz,O,xs,S,u⟩:=hok;obtain⟨hz1,avw,news,j,n⟩:=M;rw[CB]at S
 obtain⟨g1,c1,U⟩:∃g1 c1,J.v=.slice (some ⟨g1,0,none⟩) 1 c1:=by
  rcases j.2 with⟨_,h⟩|⟨g,cap,cur,h,_⟩
  ·cases h
  exact⟨g,cap,h⟩
 have hne:CQ hd.v≠some g1:=fun hb=>by
  have :=s.Az 0 1 _ _ hd J g1 rfl rfl rfl rfl hh L hb (by rw[U];rfl);cases this
 rw[U]at j ⊢;refine(alP hi S (aac u) j (aac n) hne AA).mono ?_;rintro y w' ⟨v',rfl,f,Y,Z⟩;have hlen:l.length+1=((l.take i++x::l.drop i).map e).length:=Dp
 rw[hlen]at f
 have hfl:flat ((l.take i++x::l.drop i).map e)=(flat (l.map e)).take (i*29)++flat ([x].map e)++(flat (l.map e)).drop (i*29):=by
  rw[←aeh i O,←aJG i O,←Yg,←Yg,JW,J5,V3,WJ,G6];rfl
 have hg:=s.turn (e:=.arr 55 29 ((l.take i++x::l.drop i).map e)) (h':=⟨v',29⟩) (w':=w') (k:=0) rfl rfl hh Y.os Y.tape Y.output Y.size Y.block (fun g hg=>⟨ku f hg,Z g hg⟩) (fun hgr=>⟨rfl,fun y hy=>by
  obtain⟨z,_,rfl⟩:=FM.1 hy
  exact hk z,_,f,by rw[hfl];exact(qQ (qQ (ajh u _) n) (aq6 u _)).mono hgr (.push _ _)⟩)
 refine⟨v',ok,H++[⟨v',29⟩],rfl,hg.1.kill 1,?_⟩;have hl:H.length=2:=s.hlen;have hr:(H++[(⟨v',29⟩:BN)])[2]? =some ⟨v',29⟩:=by rw[←hl];simp
 rcases f.2 with⟨rfl,_⟩|⟨g,cap,cur,rfl,_⟩
 ·exact .aP 2 _ _ _ 29 hr
 exact .aP 2 _ _ _ 29 hr
end Go.Proofs.YtolgdkhlelfpoaaGreat
end
section
namespace Go.Proofs.YtolgdkhlelfpoaaGreat
open Go.RowKit
section
variable {P : Program} {o : Oper} {es : List Au}
def St {f:FuncId} {ops:Array Operand} {ats:Array TypeId} (dH:List AV) {fG:List AV} {h res':AV} {E':List Au} (j:Aw P f fG [] h E') (m:o.op=.call { callee:=.value (.func f),args:=ops,argTypes:=ats }) (n:DC P f=true:=by kernel_rfl) (q:E'.all Au.closed=true:=by kernel_rfl)
 (ha:Jh [] dH fG:=by repeat (first|exact trivial|refine⟨.inl rfl,?_⟩|refine⟨.inr (.inr ⟨rfl,rfl⟩),?_⟩)) (s:ops.toList.length=dH.length:=by kernel_rfl) (u:h.up [] es.length=res':=by kernel_rfl):BQ P o (EM ops.toList dH) es res' (es++E'):=aeO j n q ha s u m
def apa {f:FuncId} {ops:Array Operand} {ats:Array TypeId} (dH:List AV) {fG:List AV} {h res':AV} (j:Aw P f fG [] h []) (m:o.op=.call { callee:=.value (.func f),args:=ops,argTypes:=ats }) (n:DC P f=true:=by kernel_rfl)
 (ha:Jh [] dH fG:=by repeat (first|exact trivial|refine⟨.inl rfl,?_⟩|refine⟨.inr (.inr ⟨rfl,rfl⟩),?_⟩)) (q:ops.toList.length=dH.length:=by kernel_rfl) (s:h.up [] es.length=res':=by kernel_rfl):BQ P o (EM ops.toList dH) es res' es:=acV j n ha q s m
def DU {f:FuncId} {ops:Array Operand} {ats:Array TypeId} (srcs:List Cj) (dH:List AV) {fG:List AV} {E E':List Au} {h res':AV} (j:Aw P f fG E h E') (m:o.op=.call { callee:=.value (.func f),args:=ops,argTypes:=ats }) (n:DC P f=true:=by kernel_rfl) (q:Oj srcs es E E'=true:=by kernel_rfl)
 (hE:PI srcs es srcs E:=by first|exact trivial|exact JA A8 trivial) (ha:Jh srcs dH fG:=by repeat (first|exact trivial|refine⟨.inl rfl,?_⟩|refine⟨⟨0,rfl,rfl⟩,?_⟩|refine⟨⟨1,rfl,rfl⟩,?_⟩|refine⟨⟨2,rfl,rfl⟩,?_⟩|refine⟨.inr (.inr ⟨rfl,rfl⟩),?_⟩)) (s:ops.toList.length=dH.length:=by kernel_rfl)
 (u:res'=h.up srcs es.length:=by kernel_rfl):BQ P o (EM ops.toList dH) es res' (Iq srcs es E'):=aJJ srcs j n q hE ha s u m
def WS {f:FuncId} {x:Operand} {ops:Array Operand} {ats:Array TypeId} (srcs:List Cj) (fi ca dH:List AV) {fG:List AV} {E E':List Au} {h res':AV} (j:Aw P f fG E h E') (m:o.op=.call { callee:=.value x,args:=ops,argTypes:=ats }) (n:DC P f=true:=by kernel_rfl) (q:Oj srcs es E E'=true:=by kernel_rfl)
 (hE:PI srcs es srcs E:=by first|exact trivial|exact JA A8 trivial) (ha:Jh srcs (fi++dH++ca) fG:=by repeat (first|exact trivial|refine⟨.inl rfl,?_⟩|refine⟨⟨0,rfl,rfl⟩,?_⟩|refine⟨⟨1,rfl,rfl⟩,?_⟩|refine⟨⟨2,rfl,rfl⟩,?_⟩|refine⟨.inr (.inr ⟨rfl,rfl⟩),?_⟩)) (s:ops.toList.length=dH.length:=by kernel_rfl)
 (u:res'=h.up srcs es.length:=by kernel_rfl):BQ P o ((x,.fn (.func f) fi ca)::EM ops.toList dH) es res' (Iq srcs es E'):=ags srcs fi ca j n q hE ha s u m
def aIV {f:FuncId} {x:Operand} {ops:Array Operand} {ats:Array TypeId} (srcs:List Cj) (fi ca:List D) (dH:List AV) {fG:List AV} {E E':List Au} {h res':AV} (j:Aw P f fG E h E') (m:o.op=.call { callee:=.value x,args:=ops,argTypes:=ats }) (n:DC P f=true:=by kernel_rfl) (q:Oj srcs es E E'=true:=by kernel_rfl)
 (hE:PI srcs es srcs E:=by first|exact trivial|exact JA A8 trivial) (ha:Jh srcs (fi.map .d++dH++ca.map .d) fG:=by repeat (first|exact trivial|refine⟨.inl rfl,?_⟩|refine⟨⟨0,rfl,rfl⟩,?_⟩|refine⟨⟨1,rfl,rfl⟩,?_⟩|refine⟨⟨2,rfl,rfl⟩,?_⟩|refine⟨.inr (.inr ⟨rfl,rfl⟩),?_⟩)) (s:ops.toList.length=dH.length:=by kernel_rfl)
 (u:res'=h.up srcs es.length:=by kernel_rfl):BQ P o ((x,.d (.fn (.func f) fi ca))::EM ops.toList dH) es res' (Iq srcs es E'):=aoK srcs fi ca j n q hE ha s u m
end
section
variable {P : Program} {ops : Array Oper} {o : Oper} {rest l : List Oper} {σ : Ai} {K : Exit → Ai → Prop}
def CJ.ca {f:FuncId} {dH:List AV} {h:AV} (j:Aw P f dH [] h []) (k:CJ P ops rest (σ.oG o.dst (h.up [] σ.ents.length)) K) (m:DC P f=true:=by kernel_rfl) (n:Rf σ o=some (f,dH):=by kernel_rfl)
 (hd:dH.all AV.wX=true:=by kernel_rfl) (q:IE ops σ o.guard=some true:=by kernel_rfl):CJ P ops (o::rest) σ K:=.call j m k n hd q
def EP.ca {σ':Ai} {f:FuncId} {dH:List AV} {h:AV} {rs:List AV} {ess:List (List Au)} {bs:List Bool} (j:Aw P f dH [] h []) (k:EP P ops rest (σ.oG o.dst (h.up [] σ.ents.length)) rs ess bs σ') (m:DC P f=true:=by kernel_rfl) (n:Rf σ o=some (f,dH):=by kernel_rfl)
 (hd:dH.all AV.wX=true:=by kernel_rfl) (q:IE ops σ o.guard=some true:=by kernel_rfl):EP P ops (o::rest) σ (h.up [] σ.ents.length::rs) (σ.ents::ess) (false::bs) σ':=.call j m k n hd q
end
section
variable {P : Program} {ops : Array Oper} {o : Oper} {rest l : List Oper} {σ : Ai} {K : Exit → Ai → Prop}
def CJ.aW [T:Kn P] {M:Ai→Prop} (k:M (OE (Fb T ops l.length l σ))) (h:(Fb T ops l.length l σ).isSome=true:=by kernel_rfl):CJ P ops l σ (Ik M K):=.aM l.length k rfl h
def CJ.bi [T:Kn P] {A:Type} {b:Bool} {u v z:A} (h:(bif b then u else v)=z) (j:u=z→CJ P ops rest (σ.oG o.dst (.d (.lit (.bool true)))) K:=by exact fun h=>.aW<|Du) (k2:v=z→CJ P ops rest (σ.oG o.dst (.d (.lit (.bool false)))) K:=by exact fun h=>.aW<|Du)
 (f:(Td T ops σ o).map (fun r=>(r.x,r.E,r.bar))=some (.d (.lit (.bool b)),σ.ents,false):=by kernel_rfl):CJ P ops (o::rest) σ K:=Gf h (fun e h=>.c (BX some e) (j h) f) fun e h=>.c (BX some e) (k2 h) f
def Ea {A:Type} {b:Bool} {u v z:A} {G:Prop} (h:(bif b then u else v)=z) (f:b=true→u=z→G:=by exact fun e i=>aa4) (k2:b=false→v=z→G:=by exact fun e i=>aa4):G:=Gf h f k2
def AZ [T:Kn P] {id:Nat} {y:Code} {Q:Exit→Ai→Prop} (k:AB P y (OE (Fb T ops ops.toList.length ops.toList σ)) Q) (h:(Fb T ops ops.toList.length ops.toList σ).isSome=true:=by kernel_rfl):AB P (.seq (.region id ops false) y) σ Q:=AL (.aW k h)
end
section
variable {P : Program} {ops : Array Oper} {l : List Oper} {σ : Ai} {K : Exit → Ai → Prop}
def CJ.mg (a c:Nat) (x:AV) (f:CJ P ops (l.take (c+1)) σ (Ik (fun s=>s.wipe (List.range' a c)=(σ.wipe (List.range' a c)).oG (some (a+c)) x) K)) (h:CJ P ops (l.drop (c+1)) ((σ.wipe (List.range' a c)).oG (some (a+c)) x) K):CJ P ops l σ K:=.merge (c+1) (List.range' a c) (a+c) x f h
end
def Ad {σ S:Ai} (n w:Nat) (π:List (Nat×Bool)) (f:Qx σ.base σ.ents π=true:=by kernel_rfl) (h:S=⟨IV π (mk n w) σ.slots,OJ σ.ents π,σ.base⟩:=by kernel_rfl):Bq σ S:=alJ (mk n w) π f h
def LJ {α β:Type} {y:α} {g:α→Option (Except Value β)} {r:Except Value β} (h:Ia (.ok y) g=some r):g y=some r:=h
def LD {α β:Type} {u:Value} {g:α→Option (Except Value β)} {r:Except Value β} (h:Ia (.error u) g=some r):some (.error u)=some r:=h
def BL :ByteArray:=⟨#[]⟩
def aBg (k:IntKind) (n:Int):D:=.lit (.int k n)
def aBQ :ByteArray:=⟨#[33,114,58,97]⟩
def iC :ByteArray:=⟨#[64,117,58,97]⟩
def tZ :ByteArray:=⟨#[97]⟩
def amE :ByteArray:=⟨#[104,105]⟩
def an9 :ByteArray:=⟨#[64,119,58,98]⟩
def aao :ByteArray:=⟨#[98]⟩
def Z8 :ByteArray:=⟨#[58]⟩
def kQ :ByteArray:=⟨#[33]⟩
def gu :ByteArray:=⟨#[64]⟩
def jB :ByteArray:=⟨#[64,33]⟩
def Ht :ByteArray:=⟨#[84,101,120,116]⟩
def II :ByteArray:=⟨#[78]⟩
def Jf :ByteArray:=⟨#[86,105,97]⟩
def JG :ByteArray:=⟨#[76,101,118,101,108,115]⟩
def Iy :ByteArray:=⟨#[65,108,108,111,119]⟩
def JZ :ByteArray:=⟨#[68,101,110,121]⟩
def He :ByteArray:=⟨#[84,97,114,103,101,116]⟩
def JK :ByteArray:=⟨#[84,104,114,101,97,100]⟩
structure G7 where
 User:ByteArray
 N:Int
def FW (x:G7):D:=.agg [DT x.User,AP x.N]
def ahc :G7:=⟨BL,0⟩
instance : Inhabited G7:=⟨ahc⟩
structure Gm where
 Kind:Int
 N:Int
def Fg (x:Gm):D:=.agg [AP x.Kind,AP x.N]
def aqS :Gm:=⟨0,0⟩
instance : Inhabited Gm:=⟨aqS⟩
structure CP where
 Users:(List G7)
 Kinds:(List Gm)
 User:Int
 Message:Int
 State:Int
 fP:Int
 jU:Int
 nH:Int
 gZ:Int
def FX (x:CP):D:=.agg [(Af FW) x.Users,(Af Fg) x.Kinds,AP x.User,AP x.Message,AP x.State,AP x.fP,AP x.jU,AP x.nH,AP x.gZ]
def Jv :CP:=⟨[],[],0,0,0,0,0,0,0⟩
instance : Inhabited CP:=⟨Jv⟩
structure Bf where
 Text:ByteArray
 N:Int
 Target:Int
 Thread:Bool
 Via:ByteArray
 Allow:(List ByteArray)
 iq:(List ByteArray)
 Levels:CP
def F8 (x:Bf):D:=.agg [DT x.Text,AP x.N,AP x.Target,CM x.Thread,DT x.Via,(Af DT) x.Allow,(Af DT) x.iq,(Af FW) x.Levels.Users,(Af Fg) x.Levels.Kinds,AP x.Levels.User,AP x.Levels.Message,AP x.Levels.State,AP x.Levels.fP,AP x.Levels.jU,AP x.Levels.nH,AP x.Levels.gZ]
def EH :Bf:=⟨BL,0,0,false,BL,[],[],Jv⟩
instance : Inhabited Bf:=⟨EH⟩
structure Lh where
 Server:ByteArray
 Sum:Int
def anC (x:Lh):D:=.agg [DT x.Server,AP x.Sum]
def Wp :Lh:=⟨BL,0⟩
instance : Inhabited Lh:=⟨Wp⟩
structure AO where
 Id:Int
 Room:ByteArray
 bg:ByteArray
 Kind:Int
 State:Bool
 Key:ByteArray
 Time:Int
 Depth:Int
 bY:(List Int)
 dh:(List Int)
 Content:Bf
 Hash:Int
 pX:Lh
def Ap (x:AO):D:=.agg [AP x.Id,DT x.Room,DT x.bg,AP x.Kind,CM x.State,DT x.Key,AP x.Time,AP x.Depth,(Af AP) x.bY,(Af AP) x.dh,DT x.Content.Text,AP x.Content.N,AP x.Content.Target,CM x.Content.Thread,DT x.Content.Via,(Af DT) x.Content.Allow,(Af DT) x.Content.iq,(Af FW) x.Content.Levels.Users,(Af Fg) x.Content.Levels.Kinds,AP x.Content.Levels.User,AP x.Content.Levels.Message,AP x.Content.Levels.State,AP x.Content.Levels.fP,AP x.Content.Levels.jU,AP x.Content.Levels.nH,AP x.Content.Levels.gZ,AP x.Hash,DT x.pX.Server,AP x.pX.Sum]
def FK :AO:=⟨0,BL,BL,0,false,BL,0,0,[],[],EH,0,Wp⟩
instance : Inhabited AO:=⟨FK⟩
structure EL where
 b_:(List Int)
def FB (x:EL):D:=.agg [(Af ED) x.b_]
def aAA :EL:=⟨[]⟩
instance : Inhabited EL:=⟨aAA⟩
structure Ko where
 aoR:Int
 aij:Nat
def RG (x:Ko):D:=.agg [AP x.aoR,adR x.aij]
def agZ :Ko:=⟨0,0⟩
instance : Inhabited Ko:=⟨agZ⟩
structure Oi where
 lN:Int
 kD:Int
def Fz (x:Oi):D:=.agg [AP x.lN,AP x.kD]
def aAg :Oi:=⟨0,0⟩
instance : Inhabited Oi:=⟨aAg⟩
structure Ak where
 Kind:Int
 Key:ByteArray
 Id:Int
def Aq (x:Ak):D:=.agg [AP x.Kind,DT x.Key,AP x.Id]
def ahO :Ak:=⟨0,BL,0⟩
instance : Inhabited Ak:=⟨ahO⟩
structure aj where
 adU:Int
def ari :aj:=⟨0⟩
instance : Inhabited aj:=⟨ari⟩
structure Tz where
def Xg (x:Tz):D:=.agg []
def apl :Tz:=⟨⟩
instance : Inhabited Tz:=⟨apl⟩
structure LG where
 zS:(List Ak)
 Xj:(List Int)
 ail:(List Int)
def Ov (x:LG):D:=.agg [(Af Aq) x.zS,(Af AP) x.Xj,(Af AP) x.ail]
def TN :LG:=⟨[],[],[]⟩
instance : Inhabited LG:=⟨TN⟩
structure O4 where
 kD:Int
 Ej:Int
 xG:Int
 ain:(List Int)
def Iw (x:O4):D:=.agg [AP x.kD,AP x.Ej,AP x.xG,(Af AP) x.ain]
def aoV :O4:=⟨0,0,0,[]⟩
instance : Inhabited O4:=⟨aoV⟩
structure Q7 where
 U3:Int
 U4:ByteArray
def IL (x:Q7):D:=.agg [AP x.U3,DT x.U4]
def ahD :Q7:=⟨0,BL⟩
instance : Inhabited Q7:=⟨ahD⟩
structure U2 where
 ahq:(List Int)
def XR (x:U2):D:=.agg [(Af AP) x.ahq]
def afw :U2:=⟨[]⟩
instance : Inhabited U2:=⟨afw⟩
structure JO where
 kD:Int
 vC:Int
 xG:Int
def Jw (x:JO):D:=.agg [AP x.kD,AP x.vC,AP x.xG]
def agt :JO:=⟨0,0,0⟩
instance : Inhabited JO:=⟨agt⟩
structure aaI where
 Id:Int
 Before:(List Ak)
 After:(List Ak)
 Err:Int
def arK :aaI:=⟨0,[],[],0⟩
instance : Inhabited aaI:=⟨arK⟩
structure aa8 where
 Same:(List Ak)
 Power:(List Int)
 First:(List Ak)
 Others:(List Int)
 Last:(List Ak)
def arV :aa8:=⟨[],[],[],[],[]⟩
instance : Inhabited aa8:=⟨arV⟩
structure aB8 where
 Pos:Int
 Id:Int
 Status:Int
 Gone:Bool
def ame :aB8:=⟨0,0,0,false⟩
instance : Inhabited aB8:=⟨ame⟩
structure aCA where
 User:ByteArray
 Thread:Int
 Id:Int
 Time:Int
def amd :aCA:=⟨BL,0,0,0⟩
instance : Inhabited aCA:=⟨amd⟩
structure aEU where
 User:ByteArray
 Until:Int
def amo :aEU:=⟨BL,0⟩
instance : Inhabited aEU:=⟨amo⟩
structure aff where
 Id:ByteArray
 Events:(List AO)
 Rows:(List aB8)
 Waiting:(List AO)
 avn:(List Int)
 State:(List Ak)
 Next:Int
 auI:(List aCA)
 avl:(List aEU)
def al4 :aff:=⟨BL,[],[],[],[],[],0,[],[]⟩
instance : Inhabited aff:=⟨al4⟩
def Cx :Tryz.prog.underlying 22=some (.slice 55):=A8
def dU :Tryz.prog.underlying 216=some (.slice 5):=A8
def QL :Ez Tryz.prog 216 5 1 1:=JD A8
def XL :(Tryz.prog.info? 5).bind (·.zero)=some (.int .u8 0):=A8
def Vg :Tryz.prog.underlying 3=some (.int .i64):=A8
def apf :Tryz.prog.underlying 228=some (.int .u64):=A8
def aIw :Tryz.prog.underlying 5=some (.int .u8):=A8
def KJ :Tryz.prog.underlying 9=some (.string):=A8
def IU :Tryz.prog.underlying 45=some (.slice 9):=A8
def NW :DI Tryz.prog 9 false 1:=EO A8
def aq3 :CU Tryz.prog 51 0 0:=CY A8
def ajk :CU Tryz.prog 51 1 1:=CY A8
def DN :DI Tryz.prog 3 false 1:=EO A8
def ah3 :CU Tryz.prog 51 2 2:=CY A8
def amg :CU Tryz.prog 51 3 3:=CY A8
def af0 :DI Tryz.prog 4 false 1:=EO A8
def alg :CU Tryz.prog 51 4 4:=CY A8
def aiF :CU Tryz.prog 51 5 5:=CY A8
def ajn :DI Tryz.prog 45 false 1:=EO A8
def an8 :CU Tryz.prog 51 6 6:=CY A8
def arB :CU Tryz.prog 51 7 7:=CY A8
def nK :DI Tryz.prog 49 true 9:=EO A8
def ae2 :(Tryz.prog.info? 49).bind (·.zero)=some (.agg #[.slice none 0 0,.slice none 0 0,.int .i64 0,.int .i64 0,.int .i64 0,.int .i64 0,.int .i64 0,.int .i64 0,.int .i64 0]):=A8
def an1 :CU Tryz.prog 49 0 0:=CY A8
def aeC :DI Tryz.prog 46 false 1:=EO A8
def JX :Tryz.prog.underlying 46=some (.slice 173):=A8
def V9 :DI Tryz.prog 173 true 2:=EO A8
def vZ :(Tryz.prog.info? 173).bind (·.zero)=some (.agg #[.string BL,.int .i64 0]):=A8
def akP :CU Tryz.prog 173 0 0:=CY A8
def ahE :CU Tryz.prog 173 1 1:=CY A8
def akz :CU Tryz.prog 49 1 1:=CY A8
def aaB :DI Tryz.prog 47 false 1:=EO A8
def Ji :Tryz.prog.underlying 47=some (.slice 208):=A8
def Uo :DI Tryz.prog 208 true 2:=EO A8
def acU :(Tryz.prog.info? 208).bind (·.zero)=some (.agg #[.int .i64 0,.int .i64 0]):=A8
def alc :CU Tryz.prog 208 0 0:=CY A8
def aAp :DI Tryz.prog 44 false 1:=EO A8
def agG :CU Tryz.prog 208 1 1:=CY A8
def ahk :CU Tryz.prog 49 2 2:=CY A8
def aqF :CU Tryz.prog 49 3 3:=CY A8
def aqc :CU Tryz.prog 49 4 4:=CY A8
def ami :CU Tryz.prog 49 5 5:=CY A8
def ajX :CU Tryz.prog 49 6 6:=CY A8
def agP :CU Tryz.prog 49 7 7:=CY A8
def ai8 :CU Tryz.prog 49 8 8:=CY A8
def aeP :(Tryz.prog.info? 211).bind (·.zero)=some (.agg #[.int .i64 0,.int .i64 0,.int .i64 0,.int .i64 0,.int .i64 0,.int .i64 0,.int .i64 0]):=A8
def ajY :Xt Tryz.prog 211 1 (.agg #[.int .i64 0,.int .i64 0,.int .i64 0,.int .i64 0,.int .i64 0,.int .i64 0,.int .i64 0]):=vP A8 aeP A8
def yQ :Tryz.prog.underlying 211=some (.array 7 3):=A8
def acn :DI Tryz.prog 5 false 1:=EO A8
def ahf :CU Tryz.prog 55 10 10:=CY A8
def aCm :DI Tryz.prog 51 true 16:=EO A8
def Xy :Ez Tryz.prog 45 9 1 16:=JD A8
def yH :Ez Tryz.prog 46 173 2 24:=JD A8
def aDT :Ez Tryz.prog 47 208 2 16:=JD A8
def aaU :(Tryz.prog.info? 51).bind (·.zero)=some (.agg #[.string BL,.int .i64 0,.int .i64 0,.bool false,.string BL,.slice none 0 0,.slice none 0 0,.slice none 0 0,.slice none 0 0,.int .i64 0,.int .i64 0,.int .i64 0,.int .i64 0,.int .i64 0,.int .i64 0,.int .i64 0]):=A8
def Pz :(Tryz.prog.info? 55).bind (·.zero)=some (.agg #[.int .i64 0,.string BL,.string BL,.int .i64 0,.bool false,.string BL,.int .i64 0,.int .i64 0,.slice none 0 0,.slice none 0 0,.string BL,.int .i64 0,.int .i64 0,.bool false,.string BL,.slice none 0 0,.slice none 0 0,.slice none 0 0,.slice none 0 0,.int .i64 0,.int .i64 0,.int .i64 0,.int .i64 0,.int .i64 0,.int .i64 0,.int .i64 0,.int .i64 0,.string BL,.int .i64 0]):=A8
def alj :CU Tryz.prog 55 3 3:=CY A8
def Dh :DI Tryz.prog 55 true 29:=EO A8
def afU :(Tryz.prog.info? 262).bind (·.zero)=some (.agg #[.slice none 0 0]):=A8
def afz :GZ Tryz.prog 262 [(0,1)] (.agg #[.slice none 0 0]):=Ih A8 afU A8
def ajw :CU Tryz.prog 55 0 0:=CY A8
def EJ :Ez Tryz.prog 24 3 1 8:=JD A8
def zero3 :(Tryz.prog.info? 3).bind (·.zero)=some (.int .i64 0):=A8
def CO :Tryz.prog.underlying 24=some (.slice 3):=A8
def apj :CU Tryz.prog 262 0 0:=CY A8
def ani :DI Tryz.prog 216 false 1:=EO A8
def ahi :CU Tryz.prog 55 1 1:=CY A8
def apM :CU Tryz.prog 55 2 2:=CY A8
def zero9 :(Tryz.prog.info? 9).bind (·.zero)=some (.string BL):=A8
def asU :CU Tryz.prog 55 4 4:=CY A8
def arW :Ez Tryz.prog 303 4 1 1:=JD A8
def oK :(Tryz.prog.info? 4).bind (·.zero)=some (.bool false):=A8
def acv :Tryz.prog.underlying 303=some (.slice 4):=A8
def alf :CU Tryz.prog 55 5 5:=CY A8
def am3 :CU Tryz.prog 55 6 6:=CY A8
def alo :CU Tryz.prog 55 7 7:=CY A8
def at1 :CU Tryz.prog 55 8 8:=CY A8
def aeH :DI Tryz.prog 24 false 1:=EO A8
def aqI :CU Tryz.prog 55 9 9:=CY A8
def aht :Ez Tryz.prog 304 24 1 24:=JD A8
def zero24 :(Tryz.prog.info? 24).bind (·.zero)=some (.slice none 0 0):=A8
def ad9 :Tryz.prog.underlying 304=some (.slice 24):=A8
def aom :CU Tryz.prog 55 11 26:=CY A8
def amw :CU Tryz.prog 55 12 27:=CY A8
def ak1 :CU Tryz.prog 53 0 0:=CY A8
def agq :CU Tryz.prog 53 1 1:=CY A8
def afM :(Tryz.prog.info? 53).bind (·.zero)=some (.agg #[.string BL,.int .i64 0]):=A8
def aoh :GZ Tryz.prog 53 [(0,1),(1,1)] (.agg #[.string BL,.int .i64 0]):=Ih A8 afM A8
def amu :DI Tryz.prog 53 true 2:=EO A8
def apS :DC Tryz.prog 137=true:=A8
def Ls :Ez Tryz.prog 22 55 29 376:=JD A8
def anx :GZ Tryz.prog 55 [(0,1),(1,1),(2,1),(3,1),(4,1),(5,1),(6,1),(7,1),(8,1),(9,1),(10,16),(26,1),(27,2)] (.agg #[.int .i64 0,.string BL,.string BL,.int .i64 0,.bool false,.string BL,.int .i64 0,.int .i64 0,.slice none 0 0,.slice none 0 0,.string BL,.int .i64 0,.int .i64 0,.bool false,.string BL,.slice none 0 0,.slice none 0 0,.slice none 0 0,.slice none 0 0,.int .i64 0,.int .i64 0,.int .i64 0,.int .i64 0,.int .i64 0,.int .i64 0,.int .i64 0,.int .i64 0,.string BL,.int .i64 0]):=Ih A8 Pz A8
def aob :GZ Tryz.prog 51 [(0,1),(1,1),(2,1),(3,1),(4,1),(5,1),(6,1),(7,9)] (.agg #[.string BL,.int .i64 0,.int .i64 0,.bool false,.string BL,.slice none 0 0,.slice none 0 0,.slice none 0 0,.slice none 0 0,.int .i64 0,.int .i64 0,.int .i64 0,.int .i64 0,.int .i64 0,.int .i64 0,.int .i64 0]):=Ih A8 aaU A8
def aoL :DC Tryz.prog 237=true:=A8
def apU :DC Tryz.prog 238=true:=A8
def aBM :(Tryz.prog.info? 314).bind (·.zero)=some (.agg #[.int .i64 0,.nilFunc]):=A8
def arb :GZ Tryz.prog 314 [(0,1),(1,1)] (.agg #[.int .i64 0,.nilFunc]):=Ih A8 aBM A8
def asx :Ez Tryz.prog 315 314 2 16:=JD A8
def afj :Tryz.prog.underlying 315=some (.slice 314):=A8
def aee :DI Tryz.prog 314 true 2:=EO A8
def ahF :CU Tryz.prog 314 0 0:=CY A8
def ajz :CU Tryz.prog 314 1 1:=CY A8
def aog :DI Tryz.prog 244 false 1:=EO A8
def alF :DC Tryz.prog 359=true:=A8
def ajW :DC Tryz.prog 360=true:=A8
def amM :DC Tryz.prog 361=true:=A8
def aqO :DC Tryz.prog 362=true:=A8
def akJ :DC Tryz.prog 363=true:=A8
def ara :DC Tryz.prog 364=true:=A8
def agw :Tryz.prog.underlying 4=some (.bool):=A8
def qP (x y:G7):Bool:=(x.User.toList==y.User.toList&&(x.N==y.N&&true))
def arl (x y:G7):Zk Tryz.prog 2 173 [.string x.User,.int .i64 x.N] [.string y.User,.int .i64 y.N] (qP x y):=⟨fun d w=>aA9 A8 A8 A8 (l:=[(9,0),(3,1)]) A8 (UG (JE NW A8 w) (JE NW A8 w) (run_equalIn_string w _ _ _ _ KJ)<|UG (JE DN A8 w) (JE DN A8 w) (Xb w _ _ .i64 _ _ _ Vg)<|aAk _ _ _ _)⟩
def al0 :Program.eqGuardType Tryz.prog (Program.depth Tryz.prog) 173=false:=A8
def aHT :Tryz.prog.underlying 44=some (.int .i64):=A8
def aAP (x y:Gm):Bool:=(x.Kind==y.Kind&&(x.N==y.N&&true))
def ajS (x y:Gm):Zk Tryz.prog 2 208 [.int .i64 x.Kind,.int .i64 x.N] [.int .i64 y.Kind,.int .i64 y.N] (aAP x y):=⟨fun d w=>aA9 A8 A8 A8 (l:=[(44,0),(3,1)]) A8 (UG (JE aAp A8 w) (JE aAp A8 w) (Xb w _ _ .i64 _ _ _ aHT)<|UG (JE DN A8 w) (JE DN A8 w) (Xb w _ _ .i64 _ _ _ Vg)<|aAk _ _ _ _)⟩
def aqo :Program.eqGuardType Tryz.prog (Program.depth Tryz.prog) 208=false:=A8
def wV (x y:Lh):Bool:=(x.Server.toList==y.Server.toList&&(x.Sum==y.Sum&&true))
def aiL (x y:Lh):Zk Tryz.prog 2 53 [.string x.Server,.int .i64 x.Sum] [.string y.Server,.int .i64 y.Sum] (wV x y):=⟨fun d w=>aA9 A8 A8 A8 (l:=[(9,0),(3,1)]) A8 (UG (JE NW A8 w) (JE NW A8 w) (run_equalIn_string w _ _ _ _ KJ)<|UG (JE DN A8 w) (JE DN A8 w) (Xb w _ _ .i64 _ _ _ Vg)<|aAk _ _ _ _)⟩
def ar9 :Program.eqGuardType Tryz.prog (Program.depth Tryz.prog) 53=false:=A8
def OA :Tryz.prog.underlying 144=some (.map 3 3):=A8
def FV :KeyTy Tryz.prog 3 Aj:=aoM Vg
def asl :(Tryz.prog.info? 144).bind (·.zero)=some (.map none):=A8
def apH :DI Tryz.prog 144 false 1:=EO A8
def aBm :Ez Tryz.prog 185 187 2 16:=JD A8
def xE :(Tryz.prog.info? 187).bind (·.zero)=some (.agg #[.int .i64 0,.int .i64 0]):=A8
def agh :GZ Tryz.prog 187 [(0,1),(1,1)] (.agg #[.int .i64 0,.int .i64 0]):=Ih A8 xE A8
def UW :Tryz.prog.underlying 185=some (.slice 187):=A8
def QH :DI Tryz.prog 187 true 2:=EO A8
def atG :CU Tryz.prog 187 0 0:=CY A8
def anq :CU Tryz.prog 187 1 1:=CY A8
def Vd :Tryz.prog.underlying 25=some (.slice 92):=A8
def Ja :DI Tryz.prog 92 true 3:=EO A8
def aG :(Tryz.prog.info? 92).bind (·.zero)=some (.agg #[.int .i64 0,.string BL,.int .i64 0]):=A8
def asR :GZ Tryz.prog 92 [(0,1),(1,1),(2,1)] (.agg #[.int .i64 0,.string BL,.int .i64 0]):=Ih A8 aG A8
def amx :CU Tryz.prog 92 0 0:=CY A8
def akM :CU Tryz.prog 92 1 1:=CY A8
def agK :DC Tryz.prog 145=true:=A8
def al3 :DC Tryz.prog 147=true:=A8
def Hd :Tryz.prog.underlying 26=some (.slice 92):=A8
def aoJ :CU Tryz.prog 92 2 2:=CY A8
def Si :Tryz.prog.underlying 119=some (.slice 26):=A8
def dz :DI Tryz.prog 26 false 1:=EO A8
def zero26 :(Tryz.prog.info? 26).bind (·.zero)=some (.slice none 0 0):=A8
def am0 :DI Tryz.prog 119 false 1:=EO A8
def aIJ :DC Tryz.prog 130=true:=A8
def RP :Ez Tryz.prog 26 92 3 32:=JD A8
def wJ :DC Tryz.prog 60=true:=A8
def Xn :Tryz.prog.underlying 104=some (.map 3 4):=A8
def apg :DC Tryz.prog 300=true:=A8
def asX :DC Tryz.prog 301=true:=A8
def aI2 :DC Tryz.prog 229=true:=A8
def ab8 :DC Tryz.prog 302=true:=A8
def jy :DC Tryz.prog 163=true:=A8
def ant :DC Tryz.prog 397=true:=A8
def ai2 :DI Tryz.prog 22 false 1:=EO A8
def abP :(Tryz.prog.info? 150).bind (·.zero)=some (.agg #[.int .i64 0]):=A8
def ahp :GZ Tryz.prog 150 [(0,1)] (.agg #[.int .i64 0]):=Ih A8 abP A8
def aoQ :(match Tryz.prog.underlying 150 with |some (.interface _)=>false|some _=>true|none=>false)=true:=A8
def lq :DC Tryz.prog 86=true:=A8
def PK :DC Tryz.prog 84=true:=A8
def aJj :(Tryz.prog.info? 200).bind (·.zero)=some (.agg #[.int .i64 0,.int .i64 0,.int .i64 0,.int .i64 0,.int .i64 0]):=A8
def akw :Xt Tryz.prog 200 1 (.agg #[.int .i64 0,.int .i64 0,.int .i64 0,.int .i64 0,.int .i64 0]):=vP A8 aJj A8
def aiX :DI Tryz.prog 200 true 5:=EO A8
def abj :Tryz.prog.underlying 200=some (.array 5 3):=A8
def als :DC Tryz.prog 240=true:=A8
def asj :GZ Tryz.prog 49 [(0,1),(1,1),(2,1),(3,1),(4,1),(5,1),(6,1),(7,1),(8,1)] (.agg #[.slice none 0 0,.slice none 0 0,.int .i64 0,.int .i64 0,.int .i64 0,.int .i64 0,.int .i64 0,.int .i64 0,.int .i64 0]):=Ih A8 ae2 A8
def aiY :GZ Tryz.prog 173 [(0,1),(1,1)] (.agg #[.string BL,.int .i64 0]):=Ih A8 vZ A8
def ar1 :DC Tryz.prog 123=true:=A8
def afA :DI Tryz.prog 211 true 7:=EO A8
def aJd :DC Tryz.prog 184=true:=A8
def aBx :DC Tryz.prog 183=true:=A8
def aJx :(Tryz.prog.info? 213).bind (·.zero)=some (.agg #[.slice none 0 0,.slice none 0 0]):=A8
def ai1 :Xt Tryz.prog 213 1 (.agg #[.slice none 0 0,.slice none 0 0]):=vP A8 aJx A8
def agr :Tryz.prog.underlying 213=some (.array 2 47):=A8
def abI :(Tryz.prog.info? 214).bind (·.zero)=some (.agg #[.slice none 0 0,.slice none 0 0]):=A8
def akZ :Xt Tryz.prog 214 1 (.agg #[.slice none 0 0,.slice none 0 0]):=vP A8 abI A8
def aoO :Tryz.prog.underlying 214=some (.array 2 46):=A8
def ald :DC Tryz.prog 82=true:=A8
def aci :(Tryz.prog.info? 317).bind (·.zero)=some (.agg #[]):=A8
def apF :GZ Tryz.prog 317 [] (.agg #[]):=Ih A8 aci A8
def ajR :(match Tryz.prog.underlying 317 with |some (.interface _)=>false|some _=>true|none=>false)=true:=A8
def aHR :DC Tryz.prog 305=true:=A8
def agy :Tryz.prog.underlying 89=some (.int .u64):=A8
def aiR :(Tryz.prog.info? 147).bind (·.zero)=some (.agg #[.slice none 0 0,.slice none 0 0,.slice none 0 0]):=A8
def aaY :(Tryz.prog.info? 194).bind (·.zero)=some (.agg #[]):=A8
def aji :GZ Tryz.prog 194 [] (.agg #[]):=Ih A8 aaY A8
def agH :(match Tryz.prog.underlying 194 with |some (.interface _)=>false|some _=>true|none=>false)=true:=A8
def aGn :(Tryz.prog.info? 284).bind (·.zero)=some (.agg #[.int .i64 0,.string BL]):=A8
def anp :GZ Tryz.prog 284 [(0,1),(1,1)] (.agg #[.int .i64 0,.string BL]):=Ih A8 aGn A8
def aCk :Ez Tryz.prog 279 284 2 24:=JD A8
def Yr :Tryz.prog.underlying 279=some (.slice 284):=A8
def eG :DI Tryz.prog 284 true 2:=EO A8
def agS :CU Tryz.prog 284 0 0:=CY A8
def alW :CU Tryz.prog 284 1 1:=CY A8
def abH :DC Tryz.prog 298=true:=A8
def aDF :(Tryz.prog.info? 347).bind (·.zero)=some (.agg #[.int .i64 0,.int .i64 0,.int .i64 0,.slice none 0 0]):=A8
def ar0 :GZ Tryz.prog 347 [(0,1),(1,1),(2,1),(3,1)] (.agg #[.int .i64 0,.int .i64 0,.int .i64 0,.slice none 0 0]):=Ih A8 aDF A8
def aF2 :Ez Tryz.prog 344 347 4 48:=JD A8
def TF :Tryz.prog.underlying 344=some (.slice 347):=A8
def X4 :DI Tryz.prog 347 true 4:=EO A8
def aj9 :CU Tryz.prog 347 3 3:=CY A8
def aje :CU Tryz.prog 347 0 0:=CY A8
def aiU :CU Tryz.prog 347 1 1:=CY A8
def apR :CU Tryz.prog 347 2 2:=CY A8
def aoI :DC Tryz.prog 416=true:=A8
def amS :DC Tryz.prog 413=true:=A8
def asL :kF Tryz.prog 194 "fedchat/resolve.sort" 413=true:=A8
def agO :CU Tryz.prog 147 1 1:=CY A8
def aJI :(Tryz.prog.info? 197).bind (·.zero)=some (.agg #[.slice none 0 0]):=A8
def aqZ :GZ Tryz.prog 197 [(0,1)] (.agg #[.slice none 0 0]):=Ih A8 aJI A8
def aiz :(match Tryz.prog.underlying 197 with |some (.interface _)=>false|some _=>true|none=>false)=true:=A8
def ai3 :CU Tryz.prog 197 0 0:=CY A8
def aDB :(Tryz.prog.info? 351).bind (·.zero)=some (.agg #[.int .i64 0,.int .i64 0,.int .i64 0]):=A8
def ar5 :GZ Tryz.prog 351 [(0,1),(1,1),(2,1)] (.agg #[.int .i64 0,.int .i64 0,.int .i64 0]):=Ih A8 aDB A8
def aGs :Ez Tryz.prog 349 351 3 24:=JD A8
def Yc :Tryz.prog.underlying 349=some (.slice 351):=A8
def bM :DI Tryz.prog 351 true 3:=EO A8
def cD (x y:JO):Bool:=(x.kD==y.kD&&(x.vC==y.vC&&(x.xG==y.xG&&true)))
def agR (x y:JO):Zk Tryz.prog 2 351 [.int .i64 x.kD,.int .i64 x.vC,.int .i64 x.xG] [.int .i64 y.kD,.int .i64 y.vC,.int .i64 y.xG] (cD x y):=⟨fun d w=>aA9 A8 A8 A8 (l:=[(3,0),(3,1),(3,2)]) A8 (UG (JE DN A8 w) (JE DN A8 w) (Xb w _ _ .i64 _ _ _ Vg)<|UG (JE DN A8 w) (JE DN A8 w) (Xb w _ _ .i64 _ _ _ Vg)<|UG (JE DN A8 w) (JE DN A8 w) (Xb w _ _ .i64 _ _ _ Vg)<|aAk _ _ _ _)⟩
def asH :Program.eqGuardType Tryz.prog (Program.depth Tryz.prog) 351=false:=A8
def aqb :CU Tryz.prog 351 0 0:=CY A8
def ap6 :DC Tryz.prog 418=true:=A8
def ahg :kF Tryz.prog 197 "fedchat/resolve.sort" 418=true:=A8
def arz :CU Tryz.prog 147 0 0:=CY A8
def alA :CU Tryz.prog 147 2 2:=CY A8
def aIN :DI Tryz.prog 147 true 3:=EO A8
def aft :Yu Tryz.prog 147 0 0 false 1=true:=A8
def zero22 :(Tryz.prog.info? 22).bind (·.zero)=some (.slice none 0 0):=A8
def apP :CU Tryz.prog 115 2 2:=CY A8
def ait :DI Tryz.prog 113 false 1:=EO A8
def Yd :Tryz.prog.underlying 113=some (.map 3 68):=A8
def Y7 :(Tryz.prog.info? 68).bind (·.zero)=some (.int .i64 0):=A8
def ahM :CU Tryz.prog 115 1 1:=CY A8
def aqX :DI Tryz.prog 112 false 1:=EO A8
def WR :Tryz.prog.underlying 112=some (.map 3 26):=A8
def zx :Ez Tryz.prog 119 26 1 24:=JD A8
def anW :CU Tryz.prog 115 0 0:=CY A8
def aew :(Tryz.prog.info? 115).bind (·.zero)=some (.agg #[.map none,.map none,.map none]):=A8
def abN :GZ Tryz.prog 115 [(0,1),(1,1),(2,1)] (.agg #[.map none,.map none,.map none]):=Ih A8 aew A8
def anu :DI Tryz.prog 109 false 1:=EO A8
def ag8 :DC Tryz.prog 74=true:=A8
def aGw :Ez Tryz.prog 77 58 1 8:=JD A8
def aen :(Tryz.prog.info? 58).bind (·.zero)=some (.int .i64 0):=A8
def aoe :Tryz.prog.underlying 77=some (.slice 58):=A8
def aJw :(Tryz.prog.info? 70).bind (·.zero)=some (.agg #[.int .i64 0,.slice none 0 0,.slice none 0 0,.int .i64 0]):=A8
def amT :DI Tryz.prog 70 true 4:=EO A8
def aoH :CU Tryz.prog 70 0 0:=CY A8
def amQ :GZ Tryz.prog 70 [(0,1),(1,1),(2,1),(3,1)] (.agg #[.int .i64 0,.slice none 0 0,.slice none 0 0,.int .i64 0]):=Ih A8 aJw A8
def arY :(Tryz.prog.info? 179).bind (·.zero)=some (.agg #[.slice none 0 0,.slice none 0 0,.slice none 0 0,.slice none 0 0,.slice none 0 0]):=A8
def aj1 :CU Tryz.prog 179 0 0:=CY A8
def ahX :CU Tryz.prog 179 1 1:=CY A8
def an4 :CU Tryz.prog 179 2 2:=CY A8
def asZ :CU Tryz.prog 179 3 3:=CY A8
def asW :CU Tryz.prog 179 4 4:=CY A8
def aiT :DI Tryz.prog 179 true 5:=EO A8
def ajs :Yu Tryz.prog 179 4 4 false 1=true:=A8
def alZ :CU Tryz.prog 70 3 3:=CY A8
def asn :DI Tryz.prog 68 false 1:=EO A8
def ajr :CU Tryz.prog 70 2 2:=CY A8
def apQ :CU Tryz.prog 70 1 1:=CY A8
def ang :DI Tryz.prog 58 false 1:=EO A8
def anT :CU Tryz.prog 30 1 1:=CY A8
def am2 :CU Tryz.prog 30 3 3:=CY A8
def amN :CU Tryz.prog 30 2 2:=CY A8
def aow :DI Tryz.prog 23 false 1:=EO A8
def aos :CU Tryz.prog 30 4 4:=CY A8
def agN :CU Tryz.prog 30 5 5:=CY A8
def arU :CU Tryz.prog 30 7 7:=CY A8
def aq0 :DI Tryz.prog 27 false 1:=EO A8
def aml :CU Tryz.prog 30 8 8:=CY A8
def ahU :DI Tryz.prog 28 false 1:=EO A8
def ap5 :CU Tryz.prog 30 0 0:=CY A8
def anF :DI Tryz.prog 94 true 4:=EO A8
def apV :CU Tryz.prog 94 0 0:=CY A8
def amC :DI Tryz.prog 96 true 2:=EO A8
def ahs :CU Tryz.prog 96 0 0:=CY A8
def zero30 :(Tryz.prog.info? 30).bind (·.zero)=some (.agg #[.string BL,.slice none 0 0,.slice none 0 0,.slice none 0 0,.slice none 0 0,.slice none 0 0,.int .i64 0,.slice none 0 0,.slice none 0 0]):=A8
def agI :DI Tryz.prog 60 true 4:=EO A8
def agx :CU Tryz.prog 60 1 1:=CY A8
def ajO :CU Tryz.prog 60 3 3:=CY A8
def agk :DI Tryz.prog 30 true 9:=EO A8
def aaH :(Tryz.prog.info? 60).bind (·.zero)=some (.agg #[.int .i64 0,.int .i64 0,.int .i64 0,.bool false]):=A8
def amm :GZ Tryz.prog 60 [(0,1),(1,1),(2,1),(3,1)] (.agg #[.int .i64 0,.int .i64 0,.int .i64 0,.bool false]):=Ih A8 aaH A8
def anD :GZ Tryz.prog 30 [(0,1),(1,1),(2,1),(3,1),(4,1),(5,1),(6,1),(7,1),(8,1)] (.agg #[.string BL,.slice none 0 0,.slice none 0 0,.slice none 0 0,.slice none 0 0,.slice none 0 0,.int .i64 0,.slice none 0 0,.slice none 0 0]):=Ih A8 zero30 A8
def amh :CU Tryz.prog 30 6 6:=CY A8
def ak6 :Tryz.prog.underlying 58=some (.int .i64):=A8
instance atI :Kn Tryz.prog where
 und:=[(3,.int .i64),(228,.int .u64),(5,.int .u8),(9,.string),(4,.bool),(44,.int .i64),(89,.int .u64),(58,.int .i64)]
 acH:=⟨Vg,apf,aIw,KJ,agw,aHT,agy,ak6,trivial⟩
 ty:=[(9,false,1),(3,false,1),(4,false,1),(45,false,1),(49,true,9),(46,false,1),(173,true,2),(47,false,1),(208,true,2),(44,false,1),(5,false,1),(51,true,16),(55,true,29),(216,false,1),(24,false,1),(53,true,2),(314,true,2),(244,false,1),(144,false,1),(187,true,2),(92,true,3),(26,false,1),(119,false,1),(22,false,1),(200,true,5),(211,true,7),(284,true,2),(347,true,4),(351,true,3),(147,true,3),(113,false,1),(112,false,1),(109,false,1),(70,true,4),(179,true,5),(68,false,1),(58,false,1),(23,false,1),(27,false,1),(28,false,1),(94,true,4),(96,true,2),(60,true,4),(30,true,9)]
 hty:=⟨NW,DN,af0,ajn,nK,aeC,V9,aaB,Uo,aAp,acn,aCm,Dh,ani,aeH,amu,aee,aog,apH,QH,Ja,dz,am0,ai2,aiX,afA,eG,X4,bM,aIN,ait,aqX,anu,amT,aiT,asn,ang,aow,aq0,ahU,anF,amC,agI,agk,trivial⟩
 fld:=[((51,0),0),((51,1),1),((51,2),2),((51,3),3),((51,4),4),((51,5),5),((51,6),6),((51,7),7),((49,0),0),((173,0),0),((173,1),1),((49,1),1),((208,0),0),((208,1),1),((49,2),2),((49,3),3),((49,4),4),((49,5),5),((49,6),6),((49,7),7),((49,8),8),((55,10),10),((55,3),3),((55,0),0),((262,0),0),((55,1),1),((55,2),2),((55,4),4),((55,5),5),((55,6),6),((55,7),7),((55,8),8),((55,9),9),((55,11),26),((55,12),27),((53,0),0),((53,1),1),((314,0),0),((314,1),1),((187,0),0),((187,1),1),((92,0),0),((92,1),1),((92,2),2),((284,0),0),((284,1),1),((347,3),3),((347,0),0),((347,1),1),((347,2),2),((147,1),1),((197,0),0),((351,0),0),((147,0),0),((147,2),2),((115,2),2),((115,1),1),((115,0),0),((70,0),0),((179,0),0),((179,1),1),((179,2),2),((179,3),3),((179,4),4),((70,3),3),((70,2),2),((70,1),1),((30,1),1),((30,3),3),((30,2),2),((30,4),4),((30,5),5),((30,7),7),((30,8),8),((30,0),0),((94,0),0),((96,0),0),((60,1),1),((60,3),3),((30,6),6)]
 hfld:=⟨aq3,ajk,ah3,amg,alg,aiF,an8,arB,an1,akP,ahE,akz,alc,agG,ahk,aqF,aqc,ami,ajX,agP,ai8,ahf,alj,ajw,apj,ahi,apM,asU,alf,am3,alo,at1,aqI,aom,amw,ak1,agq,ahF,ajz,atG,anq,amx,akM,aoJ,agS,alW,aj9,aje,aiU,apR,agO,ai3,aqb,arz,alA,apP,ahM,anW,aoH,aj1,ahX,an4,asZ,asW,alZ,ajr,apQ,anT,am2,amN,aos,agN,arU,aml,ap5,apV,ahs,agx,ajO,amh,trivial⟩
 part:=[((147,0),0,false,1),((179,4),4,false,1)]
 hpart:=⟨aft,ajs,trivial⟩
 zero:=[(5,.int .u8 0),(49,.agg #[.slice none 0 0,.slice none 0 0,.int .i64 0,.int .i64 0,.int .i64 0,.int .i64 0,.int .i64 0,.int .i64 0,.int .i64 0]),(173,.agg #[.string BL,.int .i64 0]),(208,.agg #[.int .i64 0,.int .i64 0]),(211,.agg #[.int .i64 0,.int .i64 0,.int .i64 0,.int .i64 0,.int .i64 0,.int .i64 0,.int .i64 0]),(51,.agg #[.string BL,.int .i64 0,.int .i64 0,.bool false,.string BL,.slice none 0 0,.slice none 0 0,.slice none 0 0,.slice none 0 0,.int .i64 0,.int .i64 0,.int .i64 0,.int .i64 0,.int .i64 0,.int .i64 0,.int .i64 0]),(55,.agg #[.int .i64 0,.string BL,.string BL,.int .i64 0,.bool false,.string BL,.int .i64 0,.int .i64 0,.slice none 0 0,.slice none 0 0,.string BL,.int .i64 0,.int .i64 0,.bool false,.string BL,.slice none 0 0,.slice none 0 0,.slice none 0 0,.slice none 0 0,.int .i64 0,.int .i64 0,.int .i64 0,.int .i64 0,.int .i64 0,.int .i64 0,.int .i64 0,.int .i64 0,.string BL,.int .i64 0]),(262,.agg #[.slice none 0 0]),(3,.int .i64 0),(9,.string BL),(4,.bool false),(24,.slice none 0 0),(53,.agg #[.string BL,.int .i64 0]),(314,.agg #[.int .i64 0,.nilFunc]),(144,.map none),(187,.agg #[.int .i64 0,.int .i64 0]),(92,.agg #[.int .i64 0,.string BL,.int .i64 0]),(26,.slice none 0 0),(150,.agg #[.int .i64 0]),(200,.agg #[.int .i64 0,.int .i64 0,.int .i64 0,.int .i64 0,.int .i64 0]),(213,.agg #[.slice none 0 0,.slice none 0 0]),(214,.agg #[.slice none 0 0,.slice none 0 0]),(317,.agg #[]),(147,.agg #[.slice none 0 0,.slice none 0 0,.slice none 0 0]),(194,.agg #[]),(284,.agg #[.int .i64 0,.string BL]),(347,.agg #[.int .i64 0,.int .i64 0,.int .i64 0,.slice none 0 0]),(197,.agg #[.slice none 0 0]),(351,.agg #[.int .i64 0,.int .i64 0,.int .i64 0]),(22,.slice none 0 0),(68,.int .i64 0),(115,.agg #[.map none,.map none,.map none]),(58,.int .i64 0),(70,.agg #[.int .i64 0,.slice none 0 0,.slice none 0 0,.int .i64 0]),(179,.agg #[.slice none 0 0,.slice none 0 0,.slice none 0 0,.slice none 0 0,.slice none 0 0]),(30,.agg #[.string BL,.slice none 0 0,.slice none 0 0,.slice none 0 0,.slice none 0 0,.slice none 0 0,.int .i64 0,.slice none 0 0,.slice none 0 0]),(60,.agg #[.int .i64 0,.int .i64 0,.int .i64 0,.bool false])]
 hzero:=⟨⟨XL,A8⟩,⟨ae2,A8⟩,⟨vZ,A8⟩,⟨acU,A8⟩,⟨aeP,A8⟩,⟨aaU,A8⟩,⟨Pz,A8⟩,⟨afU,A8⟩,⟨zero3,A8⟩,⟨zero9,A8⟩,⟨oK,A8⟩,⟨zero24,A8⟩,⟨afM,A8⟩,⟨aBM,A8⟩,⟨asl,A8⟩,⟨xE,A8⟩,⟨aG,A8⟩,⟨zero26,A8⟩,⟨abP,A8⟩,⟨aJj,A8⟩,⟨aJx,A8⟩,⟨abI,A8⟩,⟨aci,A8⟩,⟨aiR,A8⟩,⟨aaY,A8⟩,⟨aGn,A8⟩,⟨aDF,A8⟩,⟨aJI,A8⟩,⟨aDB,A8⟩,⟨zero22,A8⟩,⟨Y7,A8⟩,⟨aew,A8⟩,⟨aen,A8⟩,⟨aJw,A8⟩,⟨arY,A8⟩,⟨zero30,A8⟩,⟨aaH,A8⟩,trivial⟩
 st:=[(262,[(0,1)],.agg #[.slice none 0 0]),(53,[(0,1),(1,1)],.agg #[.string BL,.int .i64 0]),(55,[(0,1),(1,1),(2,1),(3,1),(4,1),(5,1),(6,1),(7,1),(8,1),(9,1),(10,16),(26,1),(27,2)],.agg #[.int .i64 0,.string BL,.string BL,.int .i64 0,.bool false,.string BL,.int .i64 0,.int .i64 0,.slice none 0 0,.slice none 0 0,.string BL,.int .i64 0,.int .i64 0,.bool false,.string BL,.slice none 0 0,.slice none 0 0,.slice none 0 0,.slice none 0 0,.int .i64 0,.int .i64 0,.int .i64 0,.int .i64 0,.int .i64 0,.int .i64 0,.int .i64 0,.int .i64 0,.string BL,.int .i64 0]),(51,[(0,1),(1,1),(2,1),(3,1),(4,1),(5,1),(6,1),(7,9)],.agg #[.string BL,.int .i64 0,.int .i64 0,.bool false,.string BL,.slice none 0 0,.slice none 0 0,.slice none 0 0,.slice none 0 0,.int .i64 0,.int .i64 0,.int .i64 0,.int .i64 0,.int .i64 0,.int .i64 0,.int .i64 0]),(314,[(0,1),(1,1)],.agg #[.int .i64 0,.nilFunc]),(187,[(0,1),(1,1)],.agg #[.int .i64 0,.int .i64 0]),(92,[(0,1),(1,1),(2,1)],.agg #[.int .i64 0,.string BL,.int .i64 0]),(150,[(0,1)],.agg #[.int .i64 0]),(49,[(0,1),(1,1),(2,1),(3,1),(4,1),(5,1),(6,1),(7,1),(8,1)],.agg #[.slice none 0 0,.slice none 0 0,.int .i64 0,.int .i64 0,.int .i64 0,.int .i64 0,.int .i64 0,.int .i64 0,.int .i64 0]),(173,[(0,1),(1,1)],.agg #[.string BL,.int .i64 0]),(317,[],.agg #[]),(194,[],.agg #[]),(284,[(0,1),(1,1)],.agg #[.int .i64 0,.string BL]),(347,[(0,1),(1,1),(2,1),(3,1)],.agg #[.int .i64 0,.int .i64 0,.int .i64 0,.slice none 0 0]),(197,[(0,1)],.agg #[.slice none 0 0]),(351,[(0,1),(1,1),(2,1)],.agg #[.int .i64 0,.int .i64 0,.int .i64 0]),(115,[(0,1),(1,1),(2,1)],.agg #[.map none,.map none,.map none]),(70,[(0,1),(1,1),(2,1),(3,1)],.agg #[.int .i64 0,.slice none 0 0,.slice none 0 0,.int .i64 0]),(60,[(0,1),(1,1),(2,1),(3,1)],.agg #[.int .i64 0,.int .i64 0,.int .i64 0,.bool false]),(30,[(0,1),(1,1),(2,1),(3,1),(4,1),(5,1),(6,1),(7,1),(8,1)],.agg #[.string BL,.slice none 0 0,.slice none 0 0,.slice none 0 0,.slice none 0 0,.slice none 0 0,.int .i64 0,.slice none 0 0,.slice none 0 0])]
 hst:=⟨afz,aoh,anx,aob,arb,agh,asR,ahp,asj,aiY,apF,aji,anp,ar0,aqZ,ar5,abN,amQ,amm,anD,trivial⟩
 arr:=[(211,1,.agg #[.int .i64 0,.int .i64 0,.int .i64 0,.int .i64 0,.int .i64 0,.int .i64 0,.int .i64 0]),(200,1,.agg #[.int .i64 0,.int .i64 0,.int .i64 0,.int .i64 0,.int .i64 0]),(213,1,.agg #[.slice none 0 0,.slice none 0 0]),(214,1,.agg #[.slice none 0 0,.slice none 0 0])]
 harr:=⟨ajY,akw,ai1,akZ,trivial⟩
abbrev BH :=fun x=>Au.arr 3 1 (List.map AP x)
abbrev YP :=fun x=>Au.arr 284 2 (List.map IL x)
abbrev DK :=fun x=>Au.arr 55 29 (List.map Ap x)
abbrev Vt :=fun x=>Au.arr 347 4 (List.map Iw x)
abbrev NR :=fun x=>Au.arr 351 3 (List.map Jw x)
abbrev DJ :=fun x=>Au.arr 92 3 (List.map Aq x)
abbrev XM :=fun x=>Au.arr 26 1 (List.map (Af Aq) x)
abbrev Qc :=fun x=>Au.arr 58 1 (List.map AP x)
abbrev VK :=fun x=>Au.arr 9 1 (List.map DT x)
abbrev D8 :=fun x=>Au.arr 5 1 (List.map ED x)
abbrev TR :=fun x=>Au.arr 173 2 (List.map FW x)
abbrev UA :=fun x=>Au.arr 208 2 (List.map Fg x)
abbrev LW :=fun x=>Au.arr 187 2 (List.map Fz x)
abbrev Bj :=fun x=>AV.d ((Af AP) x)
abbrev AY :=fun x=>AV.d (AP x)
abbrev BA :=fun x=>AV.d (CM x)
abbrev Dq :=fun x=>AV.d (Ap x)
abbrev DY :=fun x=>AV.d ((Af Aq) x)
abbrev BO :=fun x=>AV.d ((Af Ap) x)
abbrev RQ :=fun x=>AV.d ((Af Iw) x)
abbrev KU :=fun x=>AV.d ((Af (Af Aq)) x)
abbrev DR :=fun x=>AV.d (DT x)
abbrev Uz :=fun x=>AV.d (Aq x)
abbrev J8 :=fun x=>AV.d ((Af DT) x)
abbrev Le :=fun x=>AV.d (FX x)
abbrev Ij :=fun x=>AV.d ((Af ED) x)
abbrev LX :=fun x=>AV.d (F8 x)
abbrev O8 :=fun x=>AV.d ((Af FW) x)
abbrev Nv :=fun x=>AV.d ((Af Fg) x)
end Go.Proofs.YtolgdkhlelfpoaaGreat
end
section
namespace Go.Proofs.YtolgdkhlelfpoaaGreat
open Go.RowKit
set_option maxRecDepth 20000
set_option maxHeartbeats 4000000
abbrev Am:=List AO
def wY (f:Am):Option Bool:=some (decide ((f.length:Int)≤14))
def ahv (aA r) (h:wY aA=some r):BI 32 [BO aA] [] (BA r) []:=Aw.aH Tryz.func32 rfl<|AZ<|AL<|.a 1<|.p (Bc Ap aA Cx rfl)<|.aW<|Ce
def Ut (f:AX) (h:Int):Option AX:=(Gy 1 0 (f.length:Int) (BD ((f.length:Int)+h))).bind fun j=>some (gCopy j f)
def kE (iW akS r) (h:Ut iW akS=some r):BI 334 [Ij iW,AY akS] [] (.aP 0) [(D8 r)]:=Aw.aH Tryz.func334 rfl<|AL<|.e [(D8 [])] (Ch 5 1 rfl)<|.bD<|AQ h fun f j h=>AL<|.a 1<|.p (Bc ED iW dU rfl)<|.a 1<|.p (Bc ED iW dU rfl)<|.a 2<|.e [(D8 []),(D8 f)] (Xx ED 0 j QL XL A8 A8 A8 BP rfl)<|.aW<|AL<|.a 2<|.e [(D8 []),(D8 (gCopy f iW))] (as8 (k:=1) ED f iW QL A8 (fun _=>rfl) rfl)<|.bD<|AZ<|Ue
def Tv  (j:(AX→Int→Option AX)):AX→Int→Option AX:=fun h f=>(bif decide (f≥128)then(Ci 1 h [Dc .or .u8 (IntKind.u8.wrap f) 128]).bind fun m=>(LY .shr .u64 f 7).bind fun n=>j m n else(Ci 1 h [IntKind.u8.wrap f]).bind fun q=>some q)
def aJn  :AX→Int→Option AX:=aX (Tv) Ar
def qV (f:AX) (h:Int):Option AX:=aJn f h
def VA (f:AX) (h:Int):Option AX:=(LY .shl .u64 (IntKind.u64.wrap h) 1).bind fun j=>(bif decide (h<0)then qV f (Yn .u64 j)else qV f j)
def fE (iW I7 r) (h:VA iW I7=some r):BI 335 [.aP 0,AY I7] [(D8 iW)] (.aP 1) [.dead,(D8 r)]:=Aw.aH Tryz.func335 rfl<|AL<|.e [(D8 iW),(D8 [])] (Ch 5 1 rfl)<|.bD<|AQ h fun m n h=>AL<|.a 2<|.p (aAt (k:=.u64) (k':=.u64) n rfl)<|.aW<|DL (fun s=>∃(q:Int),Bq s ⟨BM 28 [(0,.aP 1),(5,.d ((aBg .u64) q))],[.dead,(D8 iW)],1⟩∧qV iW q=some r) (by rintro s ⟨q,O,h⟩;exact Cc O<|Ac<|AB.block<|EI (fun M f=>⟨BM 28 [(0,.aP 1),(5,.d ((aBg .u64) f))],[.dead,(D8 M)],1⟩) _ _ _ _ (Ad 28 33 [(0,false),(1,true)]) h<|fun S Z z M f h=>Ac<|AZ<|Ag h (fun h=>AB.skip<|AB.block<|AQ h fun U I h=>AL<|.a 3<|.p (TQ (k:=.u8) (u:=(IntKind.u8.wrap f)) (v:=128) rfl)<|.p (Dz QL XL [ED (Dc .or .u8 (IntKind.u8.wrap f) 128)] rfl)<|.e [.dead,.dead,(D8 U)] (EN (k:=1) ED I QL A8 (fun _=>rfl) BP rfl)<|.aW<|AQ h fun x8 J h=>BJ<|.a 1<|.p (aIi (k:=.u64) (k':=.u64) J rfl)<|.a 1<|.nil<|z _ _ _ (Ad 28 33 [(0,false),(2,true)]) h) fun h=>AB.exit<|AQ h fun Y L h=>AL<|.a 3<|.p (Dz QL XL [ED (IntKind.u8.wrap f)] rfl)<|.e [.dead,.dead,(D8 Y)] (EN (k:=1) ED L QL A8 (fun _=>rfl) BP rfl)<|.aW<|by cases h;exact .ret (EC [(0,false),(2,true)]))<|fun j=>AZ<|Ag h (fun h=>BJ<|.a 1<|.p (alK (k:=.u64) (u:=m) rfl)<|.a 1<|.nil<|j _ ⟨(Yn .u64 m),Ad 28 33 [(0,false),(0,true)],h⟩) fun h=>AB.skip<|j _ ⟨m,Ad 28 33 [(0,false),(0,true)],h⟩
def o9 (h:AX) (f:ByteArray):Option AX:=(VA h (f.size:Int)).bind fun j=>(Ci 1 j (BR f)).bind fun m=>some m
def adH (iW gY r) (h:o9 iW gY=some r):BI 333 [.aP 0,DR gY] [(D8 iW)] (.aP 1) [.dead,(D8 r)]:=Aw.aH Tryz.func333 rfl<|AL<|.e [(D8 iW),(D8 [])] (Ch 5 1 rfl)<|.bD<|D6 h fun m f n j h=>AL<|.a 3<|.e (x:=.aP 2) [.dead,(D8 []),(D8 m)] (DU [.ent 0] [.aP 0,AY (gY.size:Int)] (fE iW (gY.size:Int) m f) rfl)<|.a 1<|.e [.dead,(D8 []),.dead,(D8 n)] (arO (k:=2) j QL XL KJ A8 rfl)<|.aW<|by cases h;exact .ret (EC [(0,false),(3,true)])
def Oq (h:AX) (f:ByteArray):Option AX:=(Ut h (BD ((f.size:Int)+10))).bind fun j=>(o9 j f).bind fun m=>some m
def aAh (iW gY r) (h:Oq iW gY=some r):BI 251 [Ij iW,DR gY] [] (.aP 0) [(D8 r)]:=Aw.aH Tryz.func251 rfl<|AL<|.e [(D8 [])] (Ch 5 1 rfl)<|.bD<|D6 h fun f j n m h=>AL<|.a 4<|.e (x:=.aP 1) [(D8 []),(D8 f)] (St [Ij iW,AY (BD ((gY.size:Int)+10))] (kE iW (BD ((gY.size:Int)+10)) f j) rfl)<|.a 1<|.e (x:=.aP 2) [(D8 []),.dead,(D8 n)] (DU [.ent 1] [.aP 1,DR gY] (adH f gY n m) rfl)<|.aW<|MF
def KG (f:AX) (h:Int):Option AX:=(Ut f 10).bind fun j=>(VA j h).bind fun m=>some m
def TS (iW I7 r) (h:KG iW I7=some r):BI 252 [Ij iW,AY I7] [] (.aP 0) [(D8 r)]:=Aw.aH Tryz.func252 rfl<|AL<|.e [(D8 [])] (Ch 5 1 rfl)<|.bD<|D6 h fun f j n m h=>AL<|.a 1<|.e (x:=.aP 1) [(D8 []),(D8 f)] (St [Ij iW,AY 10] (kE iW 10 f j) rfl)<|.a 1<|.e (x:=.aP 2) [(D8 []),.dead,(D8 n)] (DU [.ent 1] [.aP 1,AY I7] (fE f I7 n m) rfl)<|.aW<|MF
def Ud (h:AX) (f:Bool):Option AX:=(Ut h 1).bind fun j=>(bif f then(Ci 1 j [1]).bind fun m=>some m else(Ci 1 j [0]).bind fun n=>some n)
def abk (iW QI r) (h:Ud iW QI=some r):BI 253 [Ij iW,BA QI] [] (.aP 0) [(D8 r)]:=Aw.aH Tryz.func253 rfl<|AL<|.e [(D8 [])] (Ch 5 1 rfl)<|.bD<|AQ h fun n f h=>AL<|.a 1<|.e (x:=.aP 1) [(D8 []),(D8 n)] (St [Ij iW,AY 1] (kE iW 1 n f) rfl)<|.aW<|Ac<|AZ<|Ag h (fun h=>AQ h fun q j h=>AL<|.a 1<|.p (Dz QL XL [ED 1] rfl)<|.e [(D8 []),.dead,(D8 q)] (EN (k:=1) ED j QL A8 (fun _=>rfl) BP rfl)<|.aW<|MF) fun h=>AB.skip<|AQ h fun s m h=>AL<|.a 1<|.p (Dz QL XL [ED 0] rfl)<|.e [(D8 []),.dead,(D8 s)] (EN (k:=1) ED m QL A8 (fun _=>rfl) BP rfl)<|.aW<|MF
abbrev Eh:=List ByteArray
def aBw (f:Eh) (m:(AX→Int→Option AX)):AX→Int→Option AX:=fun j h=>(bif decide (h<(f.length:Int))then(BF f h).bind fun n=>(o9 j n).bind fun q=>m q (BD (h+1))else some j)
def aJg (f:Eh):AX→Int→Option AX:=aX (aBw f) Ar
def pJ (h:AX) (f:Eh):Option AX:=(VA h (f.length:Int)).bind fun j=>aJg f j 0
def aiK (iW cO r) (h:pJ iW cO=some r):BI 336 [.aP 0,J8 cO,.d (.fn (.func 333) [] [])] [(D8 iW)] (.aP 1) [.dead,(D8 r)]:=Aw.aH Tryz.func336 rfl<|AL<|.e [(D8 iW),(D8 [])] (Ch 5 1 rfl)<|.bD<|AQ h fun s f h=>AL<|.a 2<|.p (Bc DT cO IU rfl)<|.e (x:=.aP 2) [.dead,(D8 []),(D8 s)] (DU [.ent 0] [.aP 0,AY (cO.length:Int)] (fE iW (cO.length:Int) s f) rfl)<|.aW<|Ac<|AL<|.a 1<|.p (Bc DT cO IU rfl)<|.aW<|AB.block<|EI (fun j u=>⟨BM 25 [(0,.aP 1),(2,.d (.fn (.func 333) [] [])),(13,J8 cO),(14,AY (cO.length:Int)),(15,AY u)],[.dead,(D8 j)],1⟩) _ _ _ _ (Ad 25 57349 [(0,false),(2,true)]) h<|fun J L m j u h=>AZ<|Ac<|Ag h (fun h=>AB.skip<|Ac<|AB.block<|AQ h fun z n h=>AL<|.p (Bd DT n IU NW rfl)<|.aW<|AQ h fun I q h=>BJ<|.a 3<|.e (x:=.aP 2) [.dead,.dead,(D8 I)] (aIV [.ent 1] [] [] [.aP 1,DR z] (adH j z I q) rfl)<|.a 1<|.nil<|BJ<|.a 2<|.nil<|m _ _ _ (Ad 25 57349 [(0,false),(2,true)]) h) fun h=>AB.exit<|AZ<|aaj
def Zn (h:AX) (f:Eh):Option AX:=(Ut h (BD ((BD (8*(f.length:Int)))+10))).bind fun j=>(pJ j f).bind fun m=>some m
def aIP (iW cO r) (h:Zn iW cO=some r):BI 254 [Ij iW,J8 cO] [] (.aP 0) [(D8 r)]:=Aw.aH Tryz.func254 rfl<|AL<|.e [(D8 [])] (Ch 5 1 rfl)<|.bD<|D6 h fun f j n m h=>AL<|.a 2<|.p (Bc DT cO IU rfl)<|.a 2<|.e (x:=.aP 1) [(D8 []),(D8 f)] (St [Ij iW,AY (BD ((BD (8*(cO.length:Int)))+10))] (kE iW (BD ((BD (8*(cO.length:Int)))+10)) f j) rfl)<|.a 1<|.e (x:=.aP 2) [(D8 []),.dead,(D8 n)] (DU [.ent 1] [.aP 1,J8 cO,.d (.fn (.func 333) [] [])] (aiK f cO n m) rfl)<|.aW<|MF
def aDP (f:Bf) (m:(AX→Int→Option AX)):AX→Int→Option AX:=fun j h=>(bif decide (h<7)then(BF ([f.Levels.User,f.Levels.Message,f.Levels.State,f.Levels.fP,f.Levels.jU,f.Levels.nH,f.Levels.gZ]:AX) h).bind fun n=>(KG j n).bind fun q=>m q (BD (h+1))else some j)
def aDE (f:Bf):AX→Int→Option AX:=aX (aDP f) Ar
def sV (f:Bf) (n:(AX→Int→Option AX)):AX→Int→Option AX:=fun j h=>(bif decide (h<(f.Levels.Kinds.length:Int))then(BF f.Levels.Kinds h).bind fun m=>(KG j m.Kind).bind fun q=>(KG q m.N).bind fun s=>n s (BD (h+1))else aDE f j 0)
def aCa (f:Bf):AX→Int→Option AX:=aX (sV f) Ar
def yh (f:Bf) (m:(AX→Int→Option AX)):AX→Int→Option AX:=fun u h=>(bif decide (h<(f.Levels.Users.length:Int))then(BF f.Levels.Users h).bind fun j=>(Oq u j.User).bind fun n=>(KG n j.N).bind fun q=>m q (BD (h+1))else(KG u (f.Levels.Kinds.length:Int)).bind fun s=>aCa f s 0)
def aaK (f:Bf):AX→Int→Option AX:=aX (yh f) Ar
def l9 (f:Bf):Option AX:=(Oq [] f.Text).bind fun h=>(KG h f.N).bind fun j=>(KG j f.Target).bind fun m=>(Ud m f.Thread).bind fun n=>(Oq n f.Via).bind fun q=>(Zn q f.Allow).bind fun s=>(Zn s f.iq).bind fun u=>(KG u (f.Levels.Users.length:Int)).bind fun z=>aaK f z 0
def aH1 (iP r) (h:l9 iP=some r):BI 192 [LX iP] [] (Ij r) []:=Aw.aH Tryz.func192 rfl<|AZ<|AQ h fun x1 hx1 h=>AL<|.a 2<|.p (x:=(Ij x1)) (apa [.d (.lit (.slice none 0 0)),DR iP.Text] (aAh [] iP.Text x1 hx1).view rfl)<|.aW<|AQ h fun x2 hx2 h=>AL<|.a 3<|.ca (TS x1 iP.N x2 hx2).view<|.aW<|AQ h fun x3 hx3 h=>AL<|.a 3<|.ca (TS x2 iP.Target x3 hx3).view<|.aW<|AQ h fun x4 hx4 h=>AL<|.a 3<|.ca (abk x3 iP.Thread x4 hx4).view<|.aW<|AQ h fun x5 hx5 h=>AL<|.a 3<|.ca (aAh x4 iP.Via x5 hx5).view<|.aW<|AQ h fun x6 hx6 h=>AL<|.a 3<|.ca (aIP x5 iP.Allow x6 hx6).view<|.aW<|AQ h fun x7 hx7 h=>AL<|.a 3<|.ca (aIP x6 iP.iq x7 hx7).view<|.aW<|AZ<|AQ h fun x8 Jz h=>AL<|.a 3<|.p (Bc FW iP.Levels.Users JX rfl)<|.ca (TS x7 (iP.Levels.Users.length:Int) x8 Jz).view<|.aW<|Ac<|AL<|.a 2<|.p (Bc FW iP.Levels.Users JX rfl)<|.aW<|AB.block<|EI (fun v9 m=>⟨BM 103 [(3,Ij v9),(4,.ptr 0 0),(46,O8 iP.Levels.Users),(47,AY (iP.Levels.Users.length:Int)),(48,AY m)],[.box (Ae (FX iP.Levels))],0⟩) _ _ _ _ (Ad 103 492581209243672 [(1,true)]) h<|fun J32 k11 n v9 m h=>AZ<|Ac<|Ag h (fun h=>AB.skip<|Ac<|AB.block<|AQ h fun q s h=>AL<|.p (Bd FW s JX V9 rfl)<|.aW<|D6 h fun u z x15 I h=>AB.draw A8 A8 A8 (.a 3<|.ca (aAh v9 q.User u z).view<|.a 2<|.ca (TS u q.N x15 I).view<|.a 1<|.nil _)<|BJ<|.a 2<|.nil<|n _ _ _ (Ad 103 492581209243672 [(0,true)]) h) fun h=>AB.exit<|AQ h fun x16 J h=>AL<|.a 3<|.p (Bc Fg iP.Levels.Kinds Ji rfl)<|.ca (TS v9 (iP.Levels.Kinds.length:Int) x16 J).view<|.aW<|Ac<|AL<|.a 2<|.p (Bc Fg iP.Levels.Kinds Ji rfl)<|.aW<|AB.block<|EI (fun f L=>⟨BM 103 [(3,Ij f),(4,.ptr 0 0),(66,Nv iP.Levels.Kinds),(67,AY (iP.Levels.Kinds.length:Int)),(68,AY L)],[.box (Ae (FX iP.Levels))],0⟩) _ _ _ _ (Ad 103 516508834063867445272 [(0,true)]) h<|fun J31 k19 M f L h=>AZ<|Ac<|Ag h (fun h=>AB.skip<|Ac<|AB.block<|AQ h fun O S h=>AL<|.p (Bd Fg S Ji Uo rfl)<|.aW<|D6 h fun U Y x23 Z h=>AB.draw A8 A8 A8 (.a 3<|.ca (TS f O.Kind U Y).view<|.a 2<|.ca (TS U O.N x23 Z).view<|.a 1<|.nil _)<|BJ<|.a 2<|.nil<|M _ _ _ (Ad 103 516508834063867445272 [(0,true)]) h) fun h=>AB.exit<|Ac<|AZ<|AB.block<|EI (fun j v25=>⟨BM 103 [(3,Ij j),(94,.d ((JI AP) ([iP.Levels.User,iP.Levels.Message,iP.Levels.State,iP.Levels.fP,iP.Levels.jU,iP.Levels.nH,iP.Levels.gZ]:(List Int)))),(95,AY v25)],[],0⟩) _ _ _ _ (Ad 103 59421121885698253195157962760 []) h<|fun J30 k26 aps j v25 h=>AZ<|Ac<|Ag h (fun h=>AB.skip<|Ac<|AB.block<|AQ h fun x28 hx28 h=>AL<|.p (wQ (k:=.i64) AP hx28 yQ DN A8 rfl)<|.aW<|AQ h fun x29 hx29 h=>BJ<|.a 2<|.ca (TS j x28 x29 hx29).view<|.a 1<|.nil<|BJ<|.a 2<|.nil<|aps _ _ _ (Ad 103 59421121885698253195157962760 []) h) fun h=>Fv
def aFA  :Option Int:=some 860922984064492325
def aqs  (r:Int) (h:aFA=some r):BI 250 [] [] (AY r) []:=Aw.aH Tryz.func250 rfl<|Zz
def aDg (f:AX) (m:(Int→Int→Option Int)):Int→Int→Option Int:=fun j h=>(bif decide (h<(f.length:Int))then(BF f h).bind fun n=>m (Dc .and .u64 (IntKind.u64.wrap ((Dc .xor .u64 j (IntKind.u64.wrap n))*1099511628211)) 4611686018427387903) (BD (h+1))else some (BD j))
def aGr (f:AX):Int→Int→Option Int:=aX (aDg f) Ar
def aCC (f:Int) (h:AX):Option Int:=aGr h (Dc .and .u64 (IntKind.u64.wrap f) 4611686018427387903) 0
def anV (apt lF r) (h:aCC apt lF=some r):BI 249 [AY apt,Ij lF] [] (AY r) []:=Aw.aH Tryz.func249 rfl<|AZ<|AL<|.a 2<|.p (NV (k:=.u64) (u:=(IntKind.u64.wrap apt)) (v:=4611686018427387903) rfl)<|.aW<|Ac<|AL<|.a 1<|.p (Bc ED lF dU rfl)<|.aW<|AB.block<|EI (fun f n=>⟨BM 26 [(5,.d ((aBg .u64) f)),(11,Ij lF),(12,AY (lF.length:Int)),(13,AY n)],[],0⟩) _ _ _ _ (Ad 26 14368 []) h<|fun s z j f n h=>AZ<|Ac<|Ag h (fun h=>AB.skip<|Ac<|AB.block<|AQ h fun q m h=>AL<|.p (Bd ED m dU acn rfl)<|.aW<|BJ<|.a 3<|.p (asJ (k:=.u64) (u:=f) (v:=(IntKind.u64.wrap q)) rfl)<|.a 1<|.p (NV (k:=.u64) (u:=(IntKind.u64.wrap ((Dc .xor .u64 f (IntKind.u64.wrap q))*1099511628211))) (v:=4611686018427387903) rfl)<|.a 1<|.nil<|BJ<|.a 2<|.nil<|j _ _ _ (Ad 26 14368 []) h) fun h=>Fv
def lW (f:AX):Option Int:=(aFA).bind fun h=>(aCC h f).bind fun j=>some j
def ad7 (iW r) (h:lW iW=some r):BI 191 [Ij iW] [] (AY r) []:=Aw.aH Tryz.func191 rfl<|AZ<|D6 h fun m f n j h=>AL<|.ca (aqs  m f)<|.a 1<|.ca (anV m iW n j)<|.aW<|Ce
def mY (f:AO):Option Int:=(l9 f.Content).bind fun h=>(lW h).bind fun j=>some j
def ac4 (aT r) (h:mY aT=some r):BI 138 [Dq aT] [] (AY r) []:=Aw.aH Tryz.func138 rfl<|AZ<|D6 h fun m f n j h=>AL<|.a 2<|.ca (aH1 aT.Content m f)<|.ca (ad7 m n j)<|.aW<|Ce
def OG (f:Eh):Option Eh:=(Ci 16 [] f).bind fun h=>some h
def aAm (aA r) (h:OG aA=some r):BI 141 [J8 aA] [] (.aP 0) [(VK r)]:=Aw.aH Tryz.func141 rfl<|AL<|.e [(VK [])] (Ch 9 1 rfl)<|.bD<|AQ h fun j f h=>AL<|.a 1<|.e [(VK []),.dead,(VK j)] (wu 9 1 (EN (k:=_) DT f Xy A8 (fun _=>rfl) BP rfl))<|.aW<|MF
def X6 (f:CP):Option CP:=(Ci 24 [] f.Users).bind fun h=>(Ci 16 [] (({ f with Users:=h }).Kinds)).bind fun j=>some ({ { f with Users:=h }with Kinds:=j })
def afn (aA r) (h:X6 aA=some r):BI 142 [Le aA] [] (Le r) []:=Aw.aH Tryz.func142 rfl<|AZ<|AQ h fun f m h=>AL<|.a 2<|.e [.box (Ae (FX aA)),.box (Ae (FX Jv)),.dead,(TR f)] (wu 173 2 (EN (k:=_) FW m yH A8 (fun _=>rfl) BP rfl))<|.conv _ (LC (e:=173) (s:=2) 3 (xs:=List.map FW f) A8)<|.aW<|AQ h fun j n h=>AL<|.a 2<|.e [.box (Ae (FX ({ aA with Users:=f }))),.box (Ae (FX Jv)),.dead,.dead,.dead,(UA j)] (wu 208 2 (EN (k:=_) Fg n aDT A8 (fun _=>rfl) BP rfl))<|.conv _ (LC (e:=208) (s:=2) 5 (xs:=List.map Fg j) A8)<|.aW<|AZ<|AB.ret<|by rw[←CS h];exact⟨[Le ({ { aA with Users:=f }with Kinds:=j })],[],⟨⟨1,Ae (FX ({ { aA with Users:=f }with Kinds:=j })),true,9,A8,A8,A8,nK,FN A8,vM,A8⟩,trivial⟩,A8,A8,A8⟩
def kn (f:Bool):Option Int:=(bif f then some 5 else some 0)
def kL (f:Int) (h:Bool):Option Int:=(bif h then some 2 else(bif (f==6)then some 96 else(bif (f==7)then some 1 else(bif (f==9)then some 3 else(bif (f==11)then some 13 else(bif (f==12)then kn (f==12)else(bif (f==13)then kn (f==13)else kn (f==14))))))))
def YS (f:Int):Option Int:=(bif (f==2)then some 19 else(bif (f==3)then some 128 else(bif (f==4)then some 34 else(bif (f==5)then kL f (f==5)else(bif (f==8)then kL f (f==8)else kL f (f==10))))))
def aIS (iD r) (h:YS iD=some r):BI 194 [AY iD] [] (AY r) []:=Aw.aH Tryz.func194 rfl<|AZ<|Ac<|AZ<|AB.block<|AZ<|Ag h Bz fun h=>AZ<|Ag h Bz fun h=>AZ<|Ag h Bz fun h=>DL (fun s=>∃(n:Bool),Bq s ⟨BM 26 [(3,AY iD),(10,BA n)],[],0⟩∧kL iD n=some r) (by rintro s ⟨n,q,h⟩;exact Cc q<|Ag h Bz fun h=>AZ<|Ag h Bz fun h=>AZ<|Ag h Bz fun h=>AZ<|Ag h Bz fun h=>AZ<|Ag h Bz fun h=>DL (fun s=>∃(f:Bool),Bq s ⟨BM 26 [(22,BA f)],[],0⟩∧kn f=some r) (by rintro s ⟨f,q,h⟩;exact Cc q<|Ag h Bz fun h=>Ol)<|fun j=>AZ<|Ag h (fun h=>AB.skip<|j _ ⟨(iD==12),Ad 26 4194304 [],h⟩) fun h=>AZ<|Ag h (fun h=>AB.skip<|j _ ⟨(iD==13),Ad 26 4194304 [],h⟩) fun h=>BJ<|.a 2<|.nil<|j _ ⟨(iD==14),Ad 26 4194304 [],h⟩)<|fun m=>AZ<|Ag h (fun h=>AB.skip<|m _ ⟨(iD==5),Ad 26 1032 [],h⟩) fun h=>AZ<|Ag h (fun h=>AB.skip<|m _ ⟨(iD==8),Ad 26 1032 [],h⟩) fun h=>BJ<|.a 2<|.nil<|m _ ⟨(iD==10),Ad 26 1032 [],h⟩
def Za (f:Int) (h:Bool):Option Int:=(bif h then(YS f).bind fun j=>some j else(bif (f==14)then some 4 else some 0))
def bG (f:Int):Option Int:=(bif (f==2)then some 18 else(bif (f==3)then Za f (f==3)else(bif (f==4)then Za f (f==4)else(bif (f==5)then Za f (f==5)else Za f (f==6)))))
def abe (iD r) (h:bG iD=some r):BI 143 [AY iD] [] (AY r) []:=Aw.aH Tryz.func143 rfl<|AZ<|Ac<|AZ<|AB.block<|AZ<|Ag h Bz fun h=>DL (fun s=>∃(f:Bool),Bq s ⟨BM 15 [(0,AY iD),(3,AY iD),(6,BA f)],[],0⟩∧Za iD f=some r) (by rintro s ⟨f,m,h⟩;exact Cc m<|Ag h (fun h=>AQ h fun n j h=>AL<|.a 1<|.ca (aIS iD n j)<|.aW<|Ce) fun h=>aBE)<|fun K6=>AZ<|Ag h (fun h=>AB.skip<|K6 _ ⟨(iD==3),Ad 15 73 [],h⟩) fun h=>AZ<|Ag h (fun h=>AB.skip<|K6 _ ⟨(iD==4),Ad 15 73 [],h⟩) fun h=>AZ<|Ag h (fun h=>AB.skip<|K6 _ ⟨(iD==5),Ad 15 73 [],h⟩) fun h=>BJ<|.a 2<|.nil<|K6 _ ⟨(iD==6),Ad 15 73 [],h⟩
def aCN (f:Bf):Option Bf:=some f
def aB2 (m:Int) (f:Bf) (h:Bf):Option Bf:=(bif ((Dc .and .i64 m 128) != 0)then(X6 f.Levels).bind fun j=>aCN ({ h with Levels:=j })else aCN h)
def aDD (h:Int) (f:Bf) (m:Bf):Option Bf:=(bif ((Dc .and .i64 h 64) != 0)then(OG f.iq).bind fun j=>aB2 h f ({ m with iq:=j })else aB2 h f m)
def aDL (h:Int) (f:Bf) (m:Bf):Option Bf:=(bif ((Dc .and .i64 h 32) != 0)then(OG f.Allow).bind fun j=>aDD h f ({ m with Allow:=j })else aDD h f m)
def aF0 (h:Int) (f:Bf) (j:Bf):Option Bf:=(bif ((Dc .and .i64 h 16) != 0)then aDL h f ({ j with Via:=f.Via })else aDL h f j)
def aBr (h:Int) (f:Bf) (j:Bf):Option Bf:=(bif ((Dc .and .i64 h 4) != 0)then aF0 h f ({ j with Target:=f.Target })else aF0 h f j)
def nR (h:Int) (f:Bf):Option Bf:=(bif (h==1)then(OG f.Allow).bind fun m=>(OG f.iq).bind fun n=>(X6 f.Levels).bind fun q=>some ({ { { f with Allow:=m }with iq:=n }with Levels:=q })else(bG h).bind fun j=>(bif ((Dc .and .i64 j 2) != 0)then aBr j f ({ EH with N:=f.N })else aBr j f EH))
def afi (iD iQ r) (h:nR iD iQ=some r):BI 99 [AY iD,LX iQ] [] (LX r) []:=Aw.aH Tryz.func99 rfl<|AZ<|Ac<|AZ<|Ag h (fun h=>V8 h fun x2 hx2 x3 hx3 x4 hx4 h=>GR A8 A8 A8 (.a 2<|.ca (aAm iQ.Allow x2 hx2).view<|.a 2<|.ca (aAm iQ.iq x3 hx3).view<|.a 2<|.ca (afn iQ.Levels x4 hx4)<|.a 6<|.nil _)<|AZ<|AB.ret<|by rw[←CS h];exact⟨[LX ({ { { iQ with Allow:=x2 }with iq:=x3 }with Levels:=x4 })],[],⟨⟨1,Ae (F8 ({ { { iQ with Allow:=x2 }with iq:=x3 }with Levels:=x4 })),true,16,A8,A8,A8,aCm,FN A8,Qz,A8⟩,trivial⟩,A8,A8,A8⟩) fun h=>AB.skip<|AZ<|AQ h fun f hx5 h=>AL<|.a 1<|.ca (abe iD f hx5)<|.aW<|DL (fun s=>∃(q:Bf),Bq s ⟨BM 64 [(3,.ptr 0 0),(4,.ptr 1 0),(5,.ptr 2 0),(6,AY f)],[.box (Ae (F8 iQ)),.box (Ae (F8 EH)),.box (Ae (F8 q))],0⟩∧aBr f iQ q=some r) (by rintro s ⟨q,j,h⟩;exact Cc j<|DL (fun s=>∃(z:Bf),Bq s ⟨BM 64 [(3,.ptr 0 0),(4,.ptr 1 0),(5,.ptr 2 0),(6,AY f)],[.box (Ae (F8 iQ)),.box (Ae (F8 EH)),.box (Ae (F8 z))],0⟩∧aF0 f iQ z=some r) (by rintro s ⟨z,j,h⟩;exact Cc j<|DL (fun s=>∃(I:Bf),Bq s ⟨BM 64 [(3,.ptr 0 0),(4,.ptr 1 0),(5,.ptr 2 0),(6,AY f)],[.box (Ae (F8 iQ)),.box (Ae (F8 EH)),.box (Ae (F8 I))],0⟩∧aDL f iQ I=some r) (by rintro s ⟨I,j,h⟩;exact Cc j<|DL (fun s=>∃(J:Bf),Bq s ⟨BM 64 [(3,.ptr 0 0),(4,.ptr 1 0),(5,.ptr 2 0),(6,AY f)],[.box (Ae (F8 iQ)),.box (Ae (F8 EH)),.box (Ae (F8 J))],0⟩∧aDD f iQ J=some r) (by rintro s ⟨J,j,h⟩;exact Cc j<|DL (fun s=>∃(m:Bf),Bq s ⟨BM 64 [(3,.ptr 0 0),(4,.ptr 1 0),(5,.ptr 2 0),(6,AY f)],[.box (Ae (F8 iQ)),.box (Ae (F8 EH)),.box (Ae (F8 m))],0⟩∧aB2 f iQ m=some r) (by rintro s ⟨m,j,h⟩;exact Cc j<|DL (fun s=>∃(n:Bf),Bq s ⟨BM 64 [(4,.ptr 0 0),(5,.ptr 1 0)],[.box (Ae (F8 EH)),.box (Ae (F8 n))],0⟩∧aCN n=some r) (by rintro s ⟨n,j,h⟩;exact Cc j<|AZ<|AB.ret<|by rw[←CS h];exact⟨[LX n],[],⟨⟨0,Ae (F8 n),true,16,A8,A8,A8,aCm,FN A8,Qz,A8⟩,trivial⟩,A8,A8,A8⟩)<|fun L=>AL<|.a 1<|.p (NV (k:=.i64) (u:=f) (v:=128) rfl)<|.aW<|Ag h (fun h=>AQ h fun M O h=>BJ<|.a 2<|.ca (afn iQ.Levels M O)<|.a 2<|.nil<|L _ ⟨({ m with Levels:=M }),Ad 64 48 [(1,true),(2,true)],h⟩) fun h=>AB.skip<|L _ ⟨m,Ad 64 48 [(1,true),(2,true)],h⟩)<|fun S=>AL<|.a 1<|.p (NV (k:=.i64) (u:=f) (v:=64) rfl)<|.aW<|Ag h (fun h=>AQ h fun U Y h=>BJ<|.a 2<|.ca (aAm iQ.iq U Y).view<|.a 2<|.nil<|S _ ⟨({ J with iq:=U }),Ad 64 120 [(0,true),(1,true),(2,true)],h⟩) fun h=>AB.skip<|S _ ⟨J,Ad 64 120 [(0,true),(1,true),(2,true)],h⟩)<|fun Z=>AL<|.a 1<|.p (NV (k:=.i64) (u:=f) (v:=32) rfl)<|.aW<|Ag h (fun h=>AQ h fun SG acQ h=>BJ<|.a 2<|.ca (aAm iQ.Allow SG acQ).view<|.a 2<|.nil<|Z _ ⟨({ I with Allow:=SG }),Ad 64 120 [(0,true),(1,true),(2,true)],h⟩) fun h=>AB.skip<|Z _ ⟨I,Ad 64 120 [(0,true),(1,true),(2,true)],h⟩)<|fun K21=>AL<|.a 1<|.p (NV (k:=.i64) (u:=f) (v:=16) rfl)<|.aW<|Ag h (fun h=>BJ<|.a 4<|.nil<|K21 _ ⟨({ z with Via:=iQ.Via }),Ad 64 120 [(0,true),(1,true),(2,true)],h⟩) fun h=>AB.skip<|K21 _ ⟨z,Ad 64 120 [(0,true),(1,true),(2,true)],h⟩)<|fun K23=>AL<|.a 1<|.p (NV (k:=.i64) (u:=f) (v:=4) rfl)<|.aW<|Ag h (fun h=>BJ<|.a 4<|.nil<|K23 _ ⟨({ q with Target:=iQ.Target }),Ad 64 120 [(0,true),(1,true),(2,true)],h⟩) fun h=>AB.skip<|K23 _ ⟨q,Ad 64 120 [(0,true),(1,true),(2,true)],h⟩)<|fun K25=>AL<|.a 1<|.p (NV (k:=.i64) (u:=f) (v:=2) rfl)<|.aW<|Ag h (fun h=>BJ<|.a 4<|.nil<|K25 _ ⟨({ EH with N:=iQ.N }),Ad 64 120 [(0,true),(1,true),(2,true)],h⟩) fun h=>AB.skip<|K25 _ ⟨EH,Ad 64 120 [(0,true),(1,true),(2,true)],h⟩
def Mem (f:AO):Option AO:=(nR f.Kind f.Content).bind fun h=>some ({ f with Content:=h })
def aiP (aT r) (h:Mem aT=some r):BI 53 [Dq aT] [] (Dq r) []:=Aw.aH Tryz.func53 rfl<|AZ<|AQ h fun f j h=>AL<|.a 4<|.ca (afi aT.Kind aT.Content f j)<|.aW<|AZ<|AB.ret<|by rw[←CS h];exact⟨[Dq ({ aT with Content:=f })],[],⟨⟨1,Ae (Ap ({ aT with Content:=f })),true,29,A8,A8,A8,Dh,FN A8,yV,A8⟩,trivial⟩,A8,A8,A8⟩
def Yk (f:EL) (h:Int):Option EL:=(KG f.b_ h).bind fun j=>some ({ f with b_:=j })
def arZ (Je I7 r) (h:Yk Je I7=some r):BI 263 [.ptr 0 0,AY I7] [.box (Ae (FB Je))] (.dO []) [.box (Ae (FB r))]:=Aw.aH Tryz.func263 rfl<|AQ h fun j f h=>BJ<|.a 6<|.ca (TS Je.b_ I7 j f).view<|.a 3<|.nil<|VJ
def aFt (f:AX) (m:(Int→EL→Option EL)):Int→EL→Option EL:=fun h j=>(bif decide (h<(f.length:Int))then(BF f h).bind fun n=>(Yk j n).bind fun q=>m (BD (h+1)) q else some j)
def aHo (f:AX):Int→EL→Option EL:=aX (aFt f) Ar
def Px (f:EL) (h:AX):Option EL:=aHo h 0 f
def eL (o8 cO r) (h:Px o8 cO=some r):BI 262 [.fn (.func 263) [.ptr 0 0] [],Bj cO] [.box (Ae (FB o8))] (.dO []) [.box (Ae (FB r))]:=Aw.aH Tryz.func262 rfl<|AL<|.a 1<|.p (Bc AP cO CO rfl)<|.aW<|AB.block<|EI (fun q f=>⟨BM 16 [(0,.fn (.func 263) [.ptr 0 0] []),(6,Bj cO),(7,AY (cO.length:Int)),(8,AY q)],[.box (Ae (FB f))],1⟩) _ _ _ _ (Ad 16 449 [(0,true)]) h<|fun z I j q f h=>AZ<|Ac<|Ag h (fun h=>AB.skip<|Ac<|AB.block<|AQ h fun s m h=>AL<|.p (Bd AP m CO DN rfl)<|.aW<|AQ h fun u n h=>BJ<|.a 2<|.e (x:=.dO []) [.box (Ae (FB u))] (WS [.ent 0] [.ptr 0 0] [] [AY s] (arZ f s u n) rfl)<|.nil<|BJ<|.a 2<|vG) fun h=>AB.exit<|VJ
def Zl (f:EL) (h:ByteArray):Option EL:=(Oq f.b_ h).bind fun j=>some ({ f with b_:=j })
def agD (Je gY r) (h:Zl Je gY=some r):BI 265 [.ptr 0 0,DR gY] [.box (Ae (FB Je))] (.dO []) [.box (Ae (FB r))]:=Aw.aH Tryz.func265 rfl<|AQ h fun j f h=>BJ<|.a 6<|.ca (aAh Je.b_ gY j f).view<|.a 3<|.nil<|VJ
def aBl (f:Eh) (m:(Int→EL→Option EL)):Int→EL→Option EL:=fun h j=>(bif decide (h<(f.length:Int))then(BF f h).bind fun n=>(Zl j n).bind fun q=>m (BD (h+1)) q else some j)
def afH (f:Eh):Int→EL→Option EL:=aX (aBl f) Ar
def Sl (f:EL) (h:Eh):Option EL:=afH h 0 f
def pz (o8 cO r) (h:Sl o8 cO=some r):BI 264 [.fn (.func 265) [.ptr 0 0] [],J8 cO] [.box (Ae (FB o8))] (.dO []) [.box (Ae (FB r))]:=Aw.aH Tryz.func264 rfl<|AL<|.a 1<|.p (Bc DT cO IU rfl)<|.aW<|AB.block<|EI (fun q f=>⟨BM 16 [(0,.fn (.func 265) [.ptr 0 0] []),(6,J8 cO),(7,AY (cO.length:Int)),(8,AY q)],[.box (Ae (FB f))],1⟩) _ _ _ _ (Ad 16 449 [(0,true)]) h<|fun z I j q f h=>AZ<|Ac<|Ag h (fun h=>AB.skip<|Ac<|AB.block<|AQ h fun s m h=>AL<|.p (Bd DT m IU NW rfl)<|.aW<|AQ h fun u n h=>BJ<|.a 2<|.e (x:=.dO []) [.box (Ae (FB u))] (WS [.ent 0] [.ptr 0 0] [] [DR s] (agD f s u n) rfl)<|.nil<|BJ<|.a 2<|vG) fun h=>AB.exit<|VJ
def dY (f:EL) (h:Bool):Option EL:=(Ud f.b_ h).bind fun j=>some ({ f with b_:=j })
def arM (Je QI r) (h:dY Je QI=some r):BI 267 [.ptr 0 0,BA QI] [.box (Ae (FB Je))] (.dO []) [.box (Ae (FB r))]:=Aw.aH Tryz.func267 rfl<|AQ h fun j f h=>BJ<|.a 6<|.ca (abk Je.b_ QI j f).view<|.a 3<|.nil<|VJ
def aFE (f:(List Bool)) (m:(Int→EL→Option EL)):Int→EL→Option EL:=fun h j=>(bif decide (h<(f.length:Int))then(BF f h).bind fun n=>(dY j n).bind fun q=>m (BD (h+1)) q else some j)
def aIY (f:(List Bool)):Int→EL→Option EL:=aX (aFE f) Ar
def jH (f:EL) (h:(List Bool)):Option EL:=aIY h 0 f
def akY (o8 cO r) (h:jH o8 cO=some r):BI 266 [.fn (.func 267) [.ptr 0 0] [],.d ((Af CM) cO)] [.box (Ae (FB o8))] (.dO []) [.box (Ae (FB r))]:=Aw.aH Tryz.func266 rfl<|AL<|.a 1<|.p (Bc CM cO acv rfl)<|.aW<|AB.block<|EI (fun q f=>⟨BM 16 [(0,.fn (.func 267) [.ptr 0 0] []),(6,.d ((Af CM) cO)),(7,AY (cO.length:Int)),(8,AY q)],[.box (Ae (FB f))],1⟩) _ _ _ _ (Ad 16 449 [(0,true)]) h<|fun z I j q f h=>AZ<|Ac<|Ag h (fun h=>AB.skip<|Ac<|AB.block<|AQ h fun s m h=>AL<|.p (Bd CM m acv af0 rfl)<|.aW<|AQ h fun u n h=>BJ<|.a 2<|.e (x:=.dO []) [.box (Ae (FB u))] (WS [.ent 0] [.ptr 0 0] [] [BA s] (arM f s u n) rfl)<|.nil<|BJ<|.a 2<|vG) fun h=>AB.exit<|VJ
def aC5 (f:AX) (m:(AX→Int→Option AX)):AX→Int→Option AX:=fun j h=>(bif decide (h<(f.length:Int))then(BF f h).bind fun n=>(VA j n).bind fun q=>m q (BD (h+1))else some j)
def adb (f:AX):AX→Int→Option AX:=aX (aC5 f) Ar
def aAD (h:AX) (f:AX):Option AX:=(VA h (f.length:Int)).bind fun j=>adb f j 0
def arJ (iW cO r) (h:aAD iW cO=some r):BI 384 [.aP 0,Bj cO,.d (.fn (.func 335) [] [])] [(D8 iW)] (.aP 1) [.dead,(D8 r)]:=Aw.aH Tryz.func384 rfl<|AL<|.e [(D8 iW),(D8 [])] (Ch 5 1 rfl)<|.bD<|AQ h fun s f h=>AL<|.a 2<|.p (Bc AP cO CO rfl)<|.e (x:=.aP 2) [.dead,(D8 []),(D8 s)] (DU [.ent 0] [.aP 0,AY (cO.length:Int)] (fE iW (cO.length:Int) s f) rfl)<|.aW<|Ac<|AL<|.a 1<|.p (Bc AP cO CO rfl)<|.aW<|AB.block<|EI (fun j u=>⟨BM 25 [(0,.aP 1),(2,.d (.fn (.func 335) [] [])),(13,Bj cO),(14,AY (cO.length:Int)),(15,AY u)],[.dead,(D8 j)],1⟩) _ _ _ _ (Ad 25 57349 [(0,false),(2,true)]) h<|fun J L m j u h=>AZ<|Ac<|Ag h (fun h=>AB.skip<|Ac<|AB.block<|AQ h fun z n h=>AL<|.p (Bd AP n CO DN rfl)<|.aW<|AQ h fun I q h=>BJ<|.a 3<|.e (x:=.aP 2) [.dead,.dead,(D8 I)] (aIV [.ent 1] [] [] [.aP 1,AY z] (fE j z I q) rfl)<|.a 1<|.nil<|BJ<|.a 2<|.nil<|m _ _ _ (Ad 25 57349 [(0,false),(2,true)]) h) fun h=>AB.exit<|AZ<|aaj
def Ug (h:AX) (f:AX):Option AX:=(Ut h (BD ((BD (2*(f.length:Int)))+10))).bind fun j=>(aAD j f).bind fun m=>some m
def ahV (iW cO r) (h:Ug iW cO=some r):BI 338 [Ij iW,Bj cO] [] (.aP 0) [(D8 r)]:=Aw.aH Tryz.func338 rfl<|AL<|.e [(D8 [])] (Ch 5 1 rfl)<|.bD<|D6 h fun f j n m h=>AL<|.a 2<|.p (Bc AP cO CO rfl)<|.a 2<|.e (x:=.aP 1) [(D8 []),(D8 f)] (St [Ij iW,AY (BD ((BD (2*(cO.length:Int)))+10))] (kE iW (BD ((BD (2*(cO.length:Int)))+10)) f j) rfl)<|.a 1<|.e (x:=.aP 2) [(D8 []),.dead,(D8 n)] (DU [.ent 1] [.aP 1,Bj cO,.d (.fn (.func 335) [] [])] (arJ f cO n m) rfl)<|.aW<|MF
def Zw (f:EL) (h:AX):Option EL:=(Ug f.b_ h).bind fun j=>some ({ f with b_:=j })
def akn (Je cO r) (h:Zw Je cO=some r):BI 269 [.ptr 0 0,Bj cO] [.box (Ae (FB Je))] (.dO []) [.box (Ae (FB r))]:=Aw.aH Tryz.func269 rfl<|AQ h fun j f h=>BJ<|.a 6<|.ca (ahV Je.b_ cO j f).view<|.a 3<|.nil<|VJ
abbrev aCg:=List (List Int)
def aE8 (f:aCg) (m:(Int→EL→Option EL)):Int→EL→Option EL:=fun h j=>(bif decide (h<(f.length:Int))then(BF f h).bind fun n=>(Zw j n).bind fun q=>m (BD (h+1)) q else some j)
def aI8 (f:aCg):Int→EL→Option EL:=aX (aE8 f) Ar
def er (f:EL) (h:aCg):Option EL:=aI8 h 0 f
def agu (o8 cO r) (h:er o8 cO=some r):BI 268 [.fn (.func 269) [.ptr 0 0] [],.d ((Af (Af AP)) cO)] [.box (Ae (FB o8))] (.dO []) [.box (Ae (FB r))]:=Aw.aH Tryz.func268 rfl<|AL<|.a 1<|.p (Bc (Af AP) cO ad9 rfl)<|.aW<|AB.block<|EI (fun q f=>⟨BM 16 [(0,.fn (.func 269) [.ptr 0 0] []),(6,.d ((Af (Af AP)) cO)),(7,AY (cO.length:Int)),(8,AY q)],[.box (Ae (FB f))],1⟩) _ _ _ _ (Ad 16 449 [(0,true)]) h<|fun z I j q f h=>AZ<|Ac<|Ag h (fun h=>AB.skip<|Ac<|AB.block<|AQ h fun s m h=>AL<|.p (Bd (Af AP) m ad9 aeH rfl)<|.aW<|AQ h fun u n h=>BJ<|.a 2<|.e (x:=.dO []) [.box (Ae (FB u))] (WS [.ent 0] [.ptr 0 0] [] [Bj s] (akn f s u n) rfl)<|.nil<|BJ<|.a 2<|vG) fun h=>AB.exit<|VJ
def lK (f:AO):Option AX:=(Px aAA [f.Id]).bind fun n=>(Sl n [f.Room,f.bg]).bind fun q=>(Px q [f.Kind]).bind fun s=>(jH s [f.State]).bind fun u=>(Sl u [f.Key]).bind fun z=>(Px z [f.Time,f.Depth]).bind fun I=>(er I [f.bY,f.dh]).bind fun J=>(l9 f.Content).bind fun L=>(Sl J [O1 L]).bind fun M=>(Px M [f.Hash]).bind fun h=>(Sl h [f.pX.Server]).bind fun j=>(Px j [f.pX.Sum]).bind fun m=>some m.b_
def aoG (aT r) (h:lK aT=some r):BI 206 [Dq aT] [] (Ij r) []:=Aw.aH Tryz.func206 rfl<|AZ<|AZ<|AQ h fun z I h=>AL<|.a 1<|.p (x:=.fn (.func 263) [.ptr 1 0] []) (N7 (fi:=[.ptr 1 0]) (ca:=[]) rfl rfl rfl)<|.a 2<|.p (Dz EJ zero3 [AP aT.Id] rfl)<|.e (x:=.dO []) [.box (Ae (Ap aT)),.box (Ae (FB z))] (DU [.ent 1] [.fn (.func 263) [.ptr 1 0] [],Bj [aT.Id]] (eL aAA [aT.Id] z I) rfl (ha:=⟨⟨_,_,rfl,⟨⟨0,rfl,rfl⟩,trivial⟩,trivial⟩,.inl rfl,trivial⟩))<|.bD<|AQ h fun J L h=>AL<|.a 1<|.p (x:=.fn (.func 265) [.ptr 1 0] []) (N7 (fi:=[.ptr 1 0]) (ca:=[]) rfl rfl rfl)<|.a 4<|.p (Dz Xy zero9 [DT aT.Room,DT aT.bg] rfl)<|.e (x:=.dO []) [.box (Ae (Ap aT)),.box (Ae (FB J))] (DU [.ent 1] [.fn (.func 265) [.ptr 1 0] [],J8 [aT.Room,aT.bg]] (pz z [aT.Room,aT.bg] J L) rfl (ha:=⟨⟨_,_,rfl,⟨⟨0,rfl,rfl⟩,trivial⟩,trivial⟩,.inl rfl,trivial⟩))<|.bD<|AQ h fun M O h=>AL<|.a 1<|.p (x:=.fn (.func 263) [.ptr 1 0] []) (N7 (fi:=[.ptr 1 0]) (ca:=[]) rfl rfl rfl)<|.a 2<|.p (Dz EJ zero3 [AP aT.Kind] rfl)<|.e (x:=.dO []) [.box (Ae (Ap aT)),.box (Ae (FB M))] (DU [.ent 1] [.fn (.func 263) [.ptr 1 0] [],Bj [aT.Kind]] (eL J [aT.Kind] M O) rfl (ha:=⟨⟨_,_,rfl,⟨⟨0,rfl,rfl⟩,trivial⟩,trivial⟩,.inl rfl,trivial⟩))<|.bD<|AQ h fun S U h=>AL<|.a 1<|.p (x:=.fn (.func 267) [.ptr 1 0] []) (N7 (fi:=[.ptr 1 0]) (ca:=[]) rfl rfl rfl)<|.a 2<|.p (Dz arW oK [CM aT.State] rfl)<|.e (x:=.dO []) [.box (Ae (Ap aT)),.box (Ae (FB S))] (DU [.ent 1] [.fn (.func 267) [.ptr 1 0] [],.d ((Af CM) [aT.State])] (akY M [aT.State] S U) rfl (ha:=⟨⟨_,_,rfl,⟨⟨0,rfl,rfl⟩,trivial⟩,trivial⟩,.inl rfl,trivial⟩))<|.bD<|AQ h fun Y Z h=>AL<|.a 1<|.p (x:=.fn (.func 265) [.ptr 1 0] []) (N7 (fi:=[.ptr 1 0]) (ca:=[]) rfl rfl rfl)<|.a 2<|.p (Dz Xy zero9 [DT aT.Key] rfl)<|.e (x:=.dO []) [.box (Ae (Ap aT)),.box (Ae (FB Y))] (DU [.ent 1] [.fn (.func 265) [.ptr 1 0] [],J8 [aT.Key]] (pz S [aT.Key] Y Z) rfl (ha:=⟨⟨_,_,rfl,⟨⟨0,rfl,rfl⟩,trivial⟩,trivial⟩,.inl rfl,trivial⟩))<|.bD<|AQ h fun x6 hx6 h=>AL<|.a 1<|.p (x:=.fn (.func 263) [.ptr 1 0] []) (N7 (fi:=[.ptr 1 0]) (ca:=[]) rfl rfl rfl)<|.a 4<|.p (Dz EJ zero3 [AP aT.Time,AP aT.Depth] rfl)<|.e (x:=.dO []) [.box (Ae (Ap aT)),.box (Ae (FB x6))] (DU [.ent 1] [.fn (.func 263) [.ptr 1 0] [],Bj [aT.Time,aT.Depth]] (eL Y [aT.Time,aT.Depth] x6 hx6) rfl (ha:=⟨⟨_,_,rfl,⟨⟨0,rfl,rfl⟩,trivial⟩,trivial⟩,.inl rfl,trivial⟩))<|.bD<|AQ h fun x7 hx7 h=>AL<|.a 1<|.p (x:=.fn (.func 269) [.ptr 1 0] []) (N7 (fi:=[.ptr 1 0]) (ca:=[]) rfl rfl rfl)<|.a 4<|.p (Dz aht zero24 [(Af AP) aT.bY,(Af AP) aT.dh] rfl)<|.e (x:=.dO []) [.box (Ae (Ap aT)),.box (Ae (FB x7))] (DU [.ent 1] [.fn (.func 269) [.ptr 1 0] [],.d ((Af (Af AP)) [aT.bY,aT.dh])] (agu x6 [aT.bY,aT.dh] x7 hx7) rfl (ha:=⟨⟨_,_,rfl,⟨⟨0,rfl,rfl⟩,trivial⟩,trivial⟩,.inl rfl,trivial⟩))<|.bD<|D6 h fun m Jz x9 SH h=>AL<|.a 1<|.p (x:=.fn (.func 265) [.ptr 1 0] []) (N7 (fi:=[.ptr 1 0]) (ca:=[]) rfl rfl rfl)<|.a 2<|.ca (aH1 aT.Content m Jz)<|.p (apE (l:=m) dU aIw KJ rfl)<|.p (Dz Xy zero9 [DT (O1 m)] rfl)<|.e (x:=.dO []) [.box (Ae (Ap aT)),.box (Ae (FB x9))] (DU [.ent 1] [.fn (.func 265) [.ptr 1 0] [],J8 [O1 m]] (pz x7 [O1 m] x9 SH) rfl (ha:=⟨⟨_,_,rfl,⟨⟨0,rfl,rfl⟩,trivial⟩,trivial⟩,.inl rfl,trivial⟩))<|.bD<|AQ h fun f n h=>AL<|.a 1<|.p (x:=.fn (.func 263) [.ptr 1 0] []) (N7 (fi:=[.ptr 1 0]) (ca:=[]) rfl rfl rfl)<|.a 2<|.p (Dz EJ zero3 [AP aT.Hash] rfl)<|.e (x:=.dO []) [.box (Ae (Ap aT)),.box (Ae (FB f))] (DU [.ent 1] [.fn (.func 263) [.ptr 1 0] [],Bj [aT.Hash]] (eL x9 [aT.Hash] f n) rfl (ha:=⟨⟨_,_,rfl,⟨⟨0,rfl,rfl⟩,trivial⟩,trivial⟩,.inl rfl,trivial⟩))<|.bD<|AQ h fun j q h=>AL<|.a 1<|.p (x:=.fn (.func 265) [.ptr 1 0] []) (N7 (fi:=[.ptr 1 0]) (ca:=[]) rfl rfl rfl)<|.a 3<|.p (Dz Xy zero9 [DT aT.pX.Server] rfl)<|.e (x:=.dO []) [.box (Ae (Ap aT)),.box (Ae (FB j))] (DU [.ent 1] [.fn (.func 265) [.ptr 1 0] [],J8 [aT.pX.Server]] (pz f [aT.pX.Server] j q) rfl (ha:=⟨⟨_,_,rfl,⟨⟨0,rfl,rfl⟩,trivial⟩,trivial⟩,.inl rfl,trivial⟩))<|.bD<|AQ h fun s u h=>AL<|.a 1<|.p (x:=.fn (.func 263) [.ptr 1 0] []) (N7 (fi:=[.ptr 1 0]) (ca:=[]) rfl rfl rfl)<|.a 3<|.p (Dz EJ zero3 [AP aT.pX.Sum] rfl)<|.e (x:=.dO []) [.box (Ae (Ap aT)),.box (Ae (FB s))] (DU [.ent 1] [.fn (.func 263) [.ptr 1 0] [],Bj [aT.pX.Sum]] (eL j [aT.pX.Sum] s u) rfl (ha:=⟨⟨_,_,rfl,⟨⟨0,rfl,rfl⟩,trivial⟩,trivial⟩,.inl rfl,trivial⟩))<|.bD<|AZ<|Ce
def nE (f:AO):Option Int:=(Mem f).bind fun h=>(lK ({ { h with Id:=0 }with pX:=Wp })).bind fun j=>(lW j).bind fun m=>some m
def ac8 (aT r) (h:nE aT=some r):BI 150 [Dq aT] [] (AY r) []:=Aw.aH Tryz.func150 rfl<|AZ<|AQ h fun q f h=>AL<|.a 1<|.ca (aiP aT q f)<|.aW<|AZ<|D6 h fun n j s m h=>AL<|.a 1<|.ca (aoG _ n j)<|.ca (ad7 n s m)<|.aW<|Ce
def qm (h:AO) (f:ByteArray):Option AO:=(mY h).bind fun j=>(nE ({ h with Hash:=j })).bind fun m=>some ({ { { h with Hash:=j }with Id:=m }with pX:=(⟨f,({ { h with Hash:=j }with Id:=m }).Id⟩:Lh) })
def aDt (aT Vb r) (h:qm aT Vb=some r):BI 105 [Dq aT,DR Vb] [] (Dq r) []:=Aw.aH Tryz.func105 rfl<|AZ<|AQ h fun f m h=>AL<|.a 1<|.ca (ac4 aT f m)<|.aW<|AQ h fun j n h=>AL<|.a 1<|.ca (ac8 _ j n)<|.aW<|AZ<|AZ<|AB.ret<|by rw[←CS h];exact⟨[Dq ({ { { aT with Hash:=f }with Id:=j }with pX:=(⟨Vb,({ { aT with Hash:=f }with Id:=j }).Id⟩:Lh) })],[],⟨⟨1,Ae (Ap ({ { { aT with Hash:=f }with Id:=j }with pX:=(⟨Vb,({ { aT with Hash:=f }with Id:=j }).Id⟩:Lh) })),true,29,A8,A8,A8,Dh,FN A8,vM,A8⟩,trivial⟩,A8,A8,A8⟩
def aF9 (f:Am) (h:(AO→Option Bool)) (k2:(Int→Option Int)):Int→Option Int:=fun j=>(bif decide (j<(f.length:Int))then(BF f j).bind fun m=>(h m).bind fun n=>(bif n then some j else k2 (BD (j+1)))else some (-1))
def adI (f:Am) (h:(AO→Option Bool)):Int→Option Int:=bF (aF9 f h) Ar
def Zh (f:Am) (h:(AO→Option Bool)):Option Int:=adI f h 0
def aEH (j:(List AO)) (m:(AO→Option Bool)) (f:D) (n:PV Tryz.prog Ap CM f m) (r:Int) (h:Zh j m=some r):BI 136 [BO j,.d f] [] (AY r) []:=Aw.aH Tryz.func136 rfl<|AZ<|Ac<|AL<|.a 1<|.p (Bc Ap j Cx rfl)<|.aW<|AB.block<|Ee (fun z=>⟨BM 19 [(0,BO j),(1,.d f),(7,AY (j.length:Int)),(8,AY z)],[],0⟩) _ _ _ (Ad 19 387 []) h<|fun I k2 q z h=>AZ<|Ac<|Ag h (fun h=>AB.skip<|Ac<|AB.block<|AZ<|D6 h fun J s L u h=>AL<|.a 3<|.p (Bd Ap s Cx Dh rfl)<|.a 1<|.p (jD (d:=f) (n:PV Tryz.prog Ap CM f m) u rfl)<|.bD<|Ag h Bz fun h=>AB.skip<|BJ<|.a 2<|.nil<|q _ _ (Ad 19 387 []) h) fun h=>Fv
def yZ (f:AO) (h:Int):Option Bool:=some (f.Id==h)
def aq7 (aT c0 r) (h:yZ aT c0=some r):BI 137 [Dq aT,.d (.ref (AP c0).cells 0)] [] (BA r) []:=Aw.aH Tryz.func137 rfl<|Zz
def sS (h:Am) (f:Int):Option Int:=(Zh h (fun a0=>yZ a0 f)).bind fun j=>some j
def aJb (aA dR r) (h:sS aA dR=some r):BI 95 [BO aA,AY dR] [] (AY r) []:=Aw.aH Tryz.func95 rfl<|AZ<|AQ h fun j f h=>AL<|.a 1<|.conv _ (Qb (cs:=Ae (AP dR)) 0 A8 A8)<|.p (x:=.d (.fn (.func 137) [] [(.ref (AP dR).cells 0)])) (TI [(.ref (AP dR).cells 0)] rfl rfl)<|.ca (aEH aA (fun a0=>yZ a0 dR) (.fn (.func 137) [] [(.ref (AP dR).cells 0)]) ⟨137,[(.ref (AP dR).cells 0)],rfl,apS,fun a0 b m=>aq7 a0 dR b m⟩ j f)<|.aW<|Ce
def aFF (f:Am):Option Am:=(Ci 376 [] f).bind fun h=>some h
def ahx (dZ r) (h:aFF dZ=some r):BI 96 [BO dZ] [] (.aP 0) [(DK r)]:=by
 refine Aw.aH Tryz.func96 rfl ?_;unfold aFF at h;refine AL<|.e [(DK [])] (Ch 55 29 rfl)<|.bD<|Ac<|jo (x:=.tmp 3) (t':=22) (d:=4) (es:=List.map Ap dZ) 1 rfl (.a 1<|.nil _) A8 A8 A8 Cx A8 ?_;intro b f;cases b
 ·clear f;refine Kt A8<|AB.skip ?_;obtain⟨m,j,h⟩:=CZ h;refine AL<|.e [(DK []),(DK [])] (WL Ls Pz [] rfl)<|.a 1<|.e [(DK []),.dead,(DK m)] (EN (k:=1) Ap j Ls A8 (fun _=>rfl) BP rfl)<|.aM 1 ?_;rw[←CS h];exact .ret (EC [(2,true)])
 replace f:=kU f;replace h:some []=some r:=ji
 refine OM A8<|AL<|.e [(DK []),(DK [])] (Ch 55 29 rfl)<|.bD ?_;rw[←CS h];exact .ret (EC [(1,true)])
def ZV (f:AO):Option Bool:=(mY f).bind fun h=>some (h==f.Hash)
def aAn (aT r) (h:ZV aT=some r):BI 97 [Dq aT] [] (BA r) []:=Aw.aH Tryz.func97 rfl<|AZ<|AQ h fun j f h=>GR A8 A8 A8 (.a 1<|.ca (ac4 aT j f)<|.a 4<|.nil _)<|Ce
def aaM (f:List AO) (h:Int) (j:List AO):Option Am:=aGR f h j
def arp (f:List AO) (j:Int) (m r:List AO) (h:aaM f j m=some r):BI 98 [.aP 0,AY j,.aP 1] [(DK f),(DK m)] (.aP 2) [.dead,.dead,(DK r)]:=
 ajL (fun _=>rfl) f j m r h
def aC3 (f:Am):Option (Am×Int):=some (f,0)
def aGj (j:(Int→Option (Am×Int))) (f:Int) (m:Am) (h:AO) (n:Bool):Option (Am×Int):=(bif n then j (BD (f+1))else(aaM m f [h]).bind fun q=>some (q,0))
def anU (j:Am) (m:Am) (f:AO) (n:(Int→Option (Am×Int))):Int→Option (Am×Int):=fun h=>(bif decide (h<(j.length:Int))then(BF j h).bind fun q=>aGj n h m f (decide (q.Id<f.Id))else aGj n h m f false)
def ars (f:Am) (j:Am) (h:AO):Int→Option (Am×Int):=bF (anU f j h) Ar
def ajT (f:Am) (h:AO) (k2:(Int→Option (Am×Int))):Int→Option (Am×Int):=fun n=>(bif decide (n<(f.length:Int))then(BF f n).bind fun I=>(bif (!(I.Room.toList==h.Room.toList))then some ([],13)else k2 (BD (n+1)))else(sS f h.Id).bind fun m=>(bif decide (m<0)then some (decide ((f.length:Int)≥2000))else some false).bind fun J=>(bif J then some ([],29)else(aFF f).bind fun j=>(bif decide (m≥0)then(ZV h).bind fun q=>(bif q then(BF f m).bind fun s=>(ZV s).bind fun u=>some (!u)else some false).bind fun z=>(bif z then(BF j m).bind fun L=>aC3 (j.set (m).toNat h)else aC3 j)else ars f j h 0)))
def arL (f:Am) (h:AO):Int→Option (Am×Int):=bF (ajT f h) Ar
def xA (f:Am) (h:AO):Option (Am×Int):=arL f h 0
def aC9 (aA fH r) (h:xA aA fH=some r):BI 52 [BO aA,Dq fH] [] (.dO [.aP 0,AY r.2]) [(DK r.1)]:=Aw.aH Tryz.func52 rfl<|AL<|.a 1<|.e [.box (Ae (Ap fH)),(DK [])] (Ch 55 29 rfl)<|.aW<|Ac<|AL<|.a 1<|.p (Bc Ap aA Cx rfl)<|.aW<|AB.block<|Ee (fun v1=>⟨BM 73 [(0,BO aA),(3,.ptr 0 0),(10,BO aA),(11,AY (aA.length:Int)),(12,AY v1)],[.box (Ae (Ap fH))],0⟩) _ _ _ (Ad 73 7177 [(0,true)]) h<|fun J30 k2 hk2 v1 h=>AZ<|Ac<|Ag h (fun h=>AB.skip<|Ac<|AB.block<|AQ h fun x4 hx4 h=>AL<|.p (Bd Ap hx4 Cx Dh rfl)<|.aW<|AZ<|Ag h (fun h=>AL<|.e [.box (Ae (Ap fH)),.box (Ae (Ap x4)),(DK [])] (Ch 55 29 rfl)<|.aW<|MF) fun h=>AB.skip<|BJ<|.a 2<|.nil<|hk2 _ _ (Ad 73 7177 [(0,true)]) h) fun h=>AB.exit<|AQ h fun x6 hx6 h=>AL<|.a 3<|.ca (aJb aA fH.Id x6 hx6)<|.aW<|Ac<|AL<|.a 2<|AQ h fun x7 hx7 h=>.mg 28 4 (BA x7) (.bi hx7 (fun h=>.a 1<|.p (Bc Ap aA Cx rfl)<|.aW<|Du))<|.bD<|Ag h (fun h=>AL<|.e [.box (Ae (Ap fH)),(DK [])] (Ch 55 29 rfl)<|.aW<|Ue) fun h=>AB.skip<|AQ h fun f z h=>AL<|.a 1<|.e (x:=.aP 1) [.box (Ae (Ap fH)),(DK f)] (St [BO aA] (ahx aA f z) rfl)<|.aW<|Ac<|AZ<|Ag h (fun h=>DL (fun s=>∃(q:(List AO)),Bq s ⟨BM 73 [(9,.aP 0)],[(DK q)],0⟩∧aC3 q=some r) (by rintro s ⟨q,hs,h⟩;exact Cc hs<|AZ<|Vx)<|fun I=>AQ h fun x14 J h=>AL<|.a 1<|.ca (aAn fH x14 J)<|.a 1<|AQ h fun x15 L h=>.mg 40 6 (BA x15) (Ea L (fun e i=>by subst e;have h:=i;exact D6 h fun x17 M x18 O h=>.a 2<|.p (Bd Ap M Cx Dh rfl)<|.a 1<|.ca (aAn x17 x18 O)<|.aW<|Du))<|.bD<|Ag h (fun h=>AQ h fun SG n h=>BJ<|.a 3<|.p (OZ (e':=55) (kd:=.i64) Ap n (k:=1) A8 Cx Dh rfl)<|.e [.box (Ae (Ap fH)),(DK (f.set (x6).toNat fH))] (y8 (e:=55) (size:=29) (v:=(Dq fH)) (k:=1) (i:=(x6).toNat) (off:=0) (a':=fH) Ap A8 (Ip n).2 A8 (Dh).size A8 (FN A8) A8 (fun _=>rfl) rfl)<|.nil<|I _ ⟨(f.set (x6).toNat fH),Ad 73 512 [(1,true)],h⟩) fun h=>AB.skip<|I _ ⟨f,Ad 73 512 [(1,true)],h⟩) fun h=>AB.skip<|AZ<|Ac<|AB.block<|Ee (fun j=>⟨BM 73 [(0,BO aA),(3,.ptr 0 0),(8,AY j),(9,.aP 1)],[.box (Ae (Ap fH)),(DK f)],0⟩) _ _ _ (Ad 73 777 [(0,true),(1,true)]) h<|fun J29 k22 S j h=>Ac<|DL (fun s=>∃(u:Bool),Bq s ⟨BM 73 [(0,BO aA),(3,.ptr 0 0),(8,AY j),(9,.aP 1),(65,BA u)],[.box (Ae (Ap fH)),(DK f)],0⟩∧aGj k22 j f fH u=some r) (by rintro s ⟨u,hs,h⟩;exact Cc hs<|Ag h (fun h=>AB.skip<|AB.block<|BJ<|.a 3<|.nil<|S _ _ (Ad 73 777 [(0,true),(1,true)]) h) fun h=>AB.exit<|AQ h fun U Y h=>AL<|.a 3<|.e [.box (Ae (Ap fH)),(DK f),(DK [fH])] (WL Ls Pz [Ap fH] rfl)<|.e (x:=.aP 3) [.box (Ae (Ap fH)),.dead,.dead,(DK U)] (DU [.ent 1,.ent 2] [.aP 1,AY j,.aP 2] (arp f j [fH] U Y) rfl (hE:=(JA A8<|JA A8<|trivial)))<|.aW<|by cases h;exact .ret (EC [(3,true)]))<|fun Z=>Gf h (fun m h=>AQ h fun x28 hx28 h=>AB.draw A8 A8 A8 (.a 2<|.p (Bc Ap aA Cx rfl)<|.a 1<|.c (BX some m)<|.a 2<|.p (Bd Ap hx28 Cx Dh rfl)<|.a 6<|.nil _)<|Z _ ⟨(decide (x28.Id<fH.Id)),Ad 73 36893488147419104009 [(0,true),(1,true)],h⟩) fun m h=>AB.draw A8 A8 A8 (.a 2<|.p (Bc Ap aA Cx rfl)<|.a 1<|.c (BX some m)<|.a 9<|.nil _)<|Z _ ⟨false,Ad 73 36893488147419104009 [(0,true),(1,true)],h⟩
def abO :AO:={ FK with Room:=aBQ,bg:=iC,Kind:=1,State:=true,Time:=1,Depth:=1 }
def aHe  :Option Am:=(qm abO tZ).bind fun f=>(qm ({ FK with Room:=aBQ,bg:=iC,Kind:=2,State:=true,Key:=iC,Time:=2,Depth:=2,bY:=[f.Id],dh:=[f.Id],Content:={ EH with N:=3 } }) tZ).bind fun h=>(qm ({ FK with Room:=aBQ,bg:=an9,Kind:=11,Time:=3,Depth:=3,bY:=[h.Id],dh:=[f.Id],Content:={ EH with Text:=amE } }) aao).bind fun j=>(xA [] f).bind fun m=>(xA m.1 h).bind fun n=>(xA n.1 j).bind fun q=>some q.1
def aik  (r:(List AO)) (h:aHe=some r):BI 70 [] [] (BO r) []:=Aw.aH Tryz.func70 rfl<|AZ<|AQ h fun f z h=>AL<|.a 1<|.ca (aDt abO tZ f z)<|.aW<|AQ h fun j I h=>AL<|.a 2<|.p (Dz EJ zero3 [AP f.Id] rfl)<|.a 2<|.p (Dz EJ zero3 [AP f.Id] rfl)<|.a 2<|.ca (aDt _ tZ j I)<|.aW<|AQ h fun m J h=>AL<|.a 2<|.p (Dz EJ zero3 [AP j.Id] rfl)<|.a 2<|.p (Dz EJ zero3 [AP f.Id] rfl)<|.a 2<|.ca (aDt _ aao m J)<|.aW<|AQ h fun n L h=>AL<|.a 1<|.e (x:=.dO [.aP 3,AY n.2]) [.box (Ae (Ap f)),.box (Ae (Ap j)),.box (Ae (Ap m)),(DK n.1)] (DU [] [.d (.lit (.slice none 0 0)),Dq f] (aC9 [] f n L) rfl)<|.a 2<|.conv _ (LC (e:=55) (s:=29) 3 (xs:=List.map Ap n.1) A8)<|.aW<|AQ h fun q M h=>AL<|.a 2<|.e (x:=.dO [.aP 4,AY q.2]) [.box (Ae (Ap f)),.box (Ae (Ap j)),.box (Ae (Ap m)),.dead,(DK q.1)] (DU [] [BO n.1,Dq j] (aC9 n.1 j q M) rfl)<|.a 2<|.conv _ (LC (e:=55) (s:=29) 4 (xs:=List.map Ap q.1) A8)<|.aW<|AQ h fun u O h=>AL<|.a 2<|.e (x:=.dO [.aP 5,AY u.2]) [.box (Ae (Ap f)),.box (Ae (Ap j)),.box (Ae (Ap m)),.dead,.dead,(DK u.1)] (DU [] [BO q.1,Dq m] (aC9 q.1 m u O) rfl)<|.a 2<|.conv _ (LC (e:=55) (s:=29) 5 (xs:=List.map Ap u.1) A8)<|.aW<|AZ<|Ce
def YB (f:Int):Option Bool:=(bif decide (f≥1)then some (decide (f≤10))else some false).bind fun h=>some h
def Zi (iD r) (h:YB iD=some r):BI 182 [AY iD] [] (BA r) []:=Aw.aH Tryz.func182 rfl<|AZ<|AL<|.a 2<|AQ h fun j f h=>.mg 5 3 (BA j) (.bi f)<|.aW<|Ce
def aF8 (f:ByteArray) (h:ByteArray):Option (ByteArray×ByteArray×Bool):=(aAj f h).bind fun j=>(bif decide (j≥0)then(Jr f 0 j).bind fun m=>(Jr f (BD (j+(h.size:Int))) ((f).size)).bind fun n=>some (m,n,true)else some (f,BL,false))
def ahJ (dZ SN r) (h:aF8 dZ SN=some r):BI 235 [DR dZ,DR SN] [] (.dO [DR r.1,DR r.2.1,BA r.2.2]) []:=Aw.aH Tryz.func235 rfl<|AZ<|Ac<|AQ h fun q f h=>AL<|.a 2<|.ca (an3 dZ SN q f)<|.aW<|AZ<|Ag h (fun h=>D6 h fun s j u m h=>GR A8 A8 A8 (.a 2<|.p (aBy j (fun _=>rfl) (by intro n;cases n) KJ rfl)<|.a 5<|.p (aBy m (by intro n;cases n) (fun _=>rfl) KJ rfl)<|.a 3<|.nil _)<|Ce) fun h=>Ol
def strings_Cut (h:ByteArray) (f:ByteArray):Option (ByteArray×ByteArray×Bool):=(aF8 h f).bind fun j=>some (j.1,j.2.1,j.2.2)
def aiO (dZ SN r) (h:strings_Cut dZ SN=some r):BI 172 [DR dZ,DR SN] [] (.dO [DR r.1,DR r.2.1,BA r.2.2]) []:=Aw.aH Tryz.func172 rfl<|AZ<|AQ h fun j f h=>AL<|.a 2<|.ca (ahJ dZ SN j f)<|.aW<|Ce
def jm (f:Int):Option Bool:=(bif (f==95)then some true else some (f==46)).bind fun h=>(bif h then some true else some (f==45)).bind fun j=>(bif j then some true else some (f==61)).bind fun m=>some m
def aoA (iP r) (h:jm iP=some r):BI 237 [.d (ED iP)] [] (BA r) []:=Aw.aH Tryz.func237 rfl<|AZ<|AL<|.a 2<|AQ h fun n f h=>.mg 5 3 (BA n) (.bi f)<|.a 1<|AQ h fun q j h=>.mg 10 2 (BA q) (Ea j)<|.a 1<|AQ h fun s m h=>.mg 14 2 (BA s) (Ea m)<|.aW<|Ce
def Yq (f:Int):Option Bool:=(bif decide (f≥97)then some (decide (f≤122))else some false).bind fun h=>(bif h then some true else(bif decide (f≥48)then some (decide (f≤57))else some false).bind fun j=>some j).bind fun m=>some m
def aEJ (iP r) (h:Yq iP=some r):BI 239 [.d (ED iP)] [] (BA r) []:=Aw.aH Tryz.func239 rfl<|AZ<|AL<|.a 2<|AQ h fun n f h=>.mg 5 3 (BA n) (.bi f)<|.a 1<|AQ h fun q j h=>.mg 10 6 (BA q) (Ea j (k2:=fun e i=>by subst e;have h:=i;exact .a 2<|AQ h fun s m h=>.mg 12 3 (BA s) (.bi m)<|.aW<|Du))<|.aW<|Ce
def aDZ (h:ByteArray) (f:(Int→Option Bool)) (q:(Int→Option Bool)):Int→Option Bool:=fun j=>(bif decide (j<(h.size:Int))then(FT h j).bind fun s=>(Yq s).bind fun u=>(bif (!u)then(FT h j).bind fun m=>(f m).bind fun n=>some (!n)else some false).bind fun z=>(bif z then some false else q (BD (j+1)))else some true)
def aCH (h:ByteArray) (f:(Int→Option Bool)):Int→Option Bool:=bF (aDZ h f) Ar
def Wy (h:ByteArray) (f:(Int→Option Bool)):Option Bool:=(bif decide ((h.size:Int)<1)then some true else some (decide ((h.size:Int)>32))).bind fun j=>(bif j then some false else aCH h f 0)
def abW (n:ByteArray) (j:(Int→Option Bool)) (f:D) (m:PV Tryz.prog ED CM f j) (r:Bool) (h:Wy n j=some r):BI 236 [DR n,.d f] [] (BA r) []:=Aw.aH Tryz.func236 rfl<|AZ<|Ac<|AL<|.a 3<|AQ h fun O u h=>.mg 9 4 (BA O) (.bi u)<|.bD<|Ag h Bz fun h=>AB.skip<|Ac<|AZ<|AB.block<|Ee (fun M=>⟨BM 33 [(0,DR n),(1,.d f),(15,AY (n.size:Int)),(16,AY M)],[],0⟩) _ _ _ (Ad 33 98307 []) h<|fun S k5 z M h=>AZ<|Ac<|Ag h (fun h=>AB.skip<|Ac<|AB.block<|AZ<|D6 h fun U I Y J h=>AL<|.a 2<|.p (U8 (k:=.i64) I KJ rfl)<|.ca (aEJ U Y J)<|.a 1<|AQ h fun Z L h=>.mg 24 7 (BA Z) (.bi L (fun h=>D6 h fun x11 q x12 s h=>.a 3<|.p (U8 (k:=.i64) q KJ rfl)<|.p (jD (d:=f) (m:PV Tryz.prog ED CM f j) s rfl)<|.aW<|Du))<|.bD<|Ag h Bz fun h=>AB.skip<|BJ<|.a 2<|.nil<|z _ _ (Ad 33 98307 []) h) fun h=>Fv
def uG (f:ByteArray):Option Bool:=(Wy f (fun a0=>jm a0)).bind fun h=>some h
def ajm (dZ r) (h:uG dZ=some r):BI 173 [DR dZ] [] (BA r) []:=Aw.aH Tryz.func173 rfl<|AZ<|AQ h fun j f h=>AL<|.a 1<|.ca (abW dZ (fun a0=>jm a0) (.fn (.func 237) [] []) ⟨237,[],rfl,aoL,fun a0 b m=>aoA a0 b m⟩ j f)<|.aW<|Ce
def mW (f:Int):Option Bool:=(bif (f==46)then some true else some (f==45)).bind fun h=>some h
def aox (iP r) (h:mW iP=some r):BI 238 [.d (ED iP)] [] (BA r) []:=Aw.aH Tryz.func238 rfl<|AZ<|AL<|.a 2<|AQ h fun j f h=>.mg 5 3 (BA j) (.bi f)<|.aW<|Ce
def rU (f:ByteArray):Option Bool:=(Wy f (fun a0=>mW a0)).bind fun h=>(bif h then(FT f 0).bind fun j=>(Yq j).bind fun m=>some m else some false).bind fun n=>(bif n then(FT f (BD ((f.size:Int)-1))).bind fun q=>(Yq q).bind fun s=>some s else some false).bind fun u=>some u
def akt (dZ r) (h:rU dZ=some r):BI 174 [DR dZ] [] (BA r) []:=Aw.aH Tryz.func174 rfl<|AZ<|AQ h fun z f h=>AL<|.a 1<|.ca (abW dZ (fun a0=>mW a0) (.fn (.func 238) [] []) ⟨238,[],rfl,apU,fun a0 b I=>aox a0 b I⟩ z f)<|.a 1<|AQ h fun J j h=>.mg 6 3 (BA J) (Ea j (fun e i=>by subst e;have h:=i;exact D6 h fun L m M n h=>.a 1<|.p (U8 (k:=.i64) m KJ rfl)<|.ca (aEJ L M n)<|.aW<|Du))<|.a 1<|AQ h fun O q h=>.mg 11 6 (BA O) (Ea q (fun e i=>by subst e;have h:=i;exact D6 h fun S s U u h=>.a 4<|.p (U8 (k:=.i64) s KJ rfl)<|.ca (aEJ S U u)<|.aW<|Du))<|.aW<|Ce
def ZO (f:ByteArray) (h:ByteArray):Option (ByteArray×ByteArray×Bool):=(bif (f.toList==BL.toList)then some true else(FT f 0).bind fun s=>(strings_IndexByte h s).bind fun u=>some (decide (u<0))).bind fun z=>(bif z then some (BL,BL,false)else(Jr f 1 ((f).size)).bind fun I=>(strings_Cut I Z8).bind fun j=>(bif (!j.2.2)then some true else(uG j.1).bind fun m=>some (!m)).bind fun J=>(bif J then some true else(rU j.2.1).bind fun n=>some (!n)).bind fun q=>(bif q then some (BL,BL,false)else some (j.1,j.2.1,true)))
def aaW (Kw acT r) (h:ZO Kw acT=some r):BI 121 [DR Kw,DR acT] [] (.dO [DR r.1,DR r.2.1,BA r.2.2]) []:=Aw.aH Tryz.func121 rfl<|AZ<|Ac<|AL<|.a 2<|AQ h fun S n h=>.mg 12 6 (BA S) (.bi n (k2:=fun h=>D6 h fun U q Y s h=>.a 2<|.p (U8 (k:=.i64) q KJ rfl)<|.ca (ahZ acT U Y s)<|.aW<|Du))<|.bD<|Ag h Bz fun h=>AB.skip<|D6 h fun Z u z I h=>AL<|.a 1<|.p (aBy u Qz (fun _=>rfl) KJ rfl)<|.ca (aiO Z Z8 z I)<|.aW<|Ac<|AL<|.a 2<|AQ h fun x8 J h=>.mg 28 4 (BA x8) (.bi J (k2:=fun h=>AQ h fun L f h=>.a 1<|.ca (ajm z.1 L f)<|.aW<|Du))<|.a 1<|AQ h fun M j h=>.mg 34 3 (BA M) (Ea j (k2:=fun e i=>by subst e;have h:=i;exact AQ h fun O m h=>.a 1<|.ca (akt z.2.1 O m)<|.aW<|Du))<|bC
def eP (h:ByteArray) (f:ByteArray):Option Int:=(ZO h f).bind fun j=>(bif (!j.2.2)then some 3 else some 0)
def aaL (dZ afg r) (h:eP dZ afg=some r):BI 386 [DR dZ,DR afg] [] (AY r) []:=Aw.aH Tryz.func386 rfl<|AZ<|Ac<|AQ h fun j f h=>AL<|.a 2<|.ca (aaW dZ afg j f)<|.aW<|aBE
def fJ (f:ByteArray):Option Int:=(eP f kQ).bind fun h=>some h
def aH9 (dZ r) (h:fJ dZ=some r):BI 354 [DR dZ] [] (AY r) []:=Aw.aH Tryz.func354 rfl<|AZ<|AQ h fun j f h=>AL<|.a 1<|.ca (aaL dZ kQ j f)<|.aW<|Ce
def Vz (f:ByteArray):Option Int:=(eP f gu).bind fun h=>some h
def uY (dZ r) (h:Vz dZ=some r):BI 355 [DR dZ] [] (AY r) []:=Aw.aH Tryz.func355 rfl<|AZ<|AQ h fun j f h=>AL<|.a 1<|.ca (aaL dZ gu j f)<|.aW<|Ce
def aGm (f:ByteArray) (k2:(Int→Option Bool)):Int→Option Bool:=fun h=>(bif decide (h<(f.size:Int))then(FT f h).bind fun j=>(bif decide (j<33)then some true else(FT f h).bind fun m=>some (decide (m>126))).bind fun n=>(bif n then some false else k2 (BD (h+1)))else(bif decide ((f.size:Int)≥1)then some (decide ((f.size:Int)≤32))else some false).bind fun q=>some q)
def aHU (f:ByteArray):Int→Option Bool:=bF (aGm f) Ar
def sB (f:ByteArray):Option Bool:=aHU f 0
def akq (ad4 r) (h:sB ad4=some r):BI 356 [DR ad4] [] (BA r) []:=Aw.aH Tryz.func356 rfl<|AZ<|Ac<|AZ<|AB.block<|Ee (fun s=>⟨BM 28 [(0,DR ad4),(5,AY (ad4.size:Int)),(6,AY s)],[],0⟩) _ _ _ (Ad 28 97 []) h<|fun u k2 f s h=>AZ<|Ac<|Ag h (fun h=>AB.skip<|Ac<|AB.block<|AZ<|AQ h fun J j h=>AL<|.a 2<|.p (U8 (k:=.i64) j KJ rfl)<|.a 1<|AQ h fun z m h=>.mg 13 5 (BA z) (.bi m (k2:=fun h=>AQ h fun L n h=>.a 2<|.p (U8 (k:=.i64) n KJ rfl)<|.aW<|Du))<|.bD<|Ag h Bz fun h=>AB.skip<|BJ<|.a 2<|.nil<|f _ _ (Ad 28 97 []) h) fun h=>AB.exit<|AL<|.a 3<|AQ h fun I q h=>.mg 23 4 (BA I) (.bi q)<|.aW<|Ce
def pV (f:AO):Option Bool:=(fJ f.Room).bind fun h=>(bif (h != 0)then some true else(Vz f.bg).bind fun j=>some (j != 0)).bind fun m=>(bif m then some false else(bif (f.Kind==2)then(Vz f.Key).bind fun n=>some (n==0)else(bif (f.Kind==9)then(sB f.Key).bind fun q=>some q else some true)))
def ajv (aT r) (h:pV aT=some r):BI 290 [Dq aT] [] (BA r) []:=Aw.aH Tryz.func290 rfl<|AZ<|Ac<|AQ h fun s f h=>AL<|.a 2<|.ca (aH9 aT.Room s f)<|.a 1<|AQ h fun u j h=>.mg 7 5 (BA u) (.bi j (k2:=fun h=>AQ h fun z m h=>.a 2<|.ca (uY aT.bg z m)<|.aW<|Du))<|.bD<|Ag h Bz fun h=>AB.skip<|Ac<|AZ<|AB.block<|AZ<|Ag h (fun h=>AQ h fun I n h=>AL<|.a 2<|.ca (uY aT.Key I n)<|.aW<|Ce) fun h=>AZ<|Ag h (fun h=>AQ h fun J q h=>AL<|.a 2<|.ca (akq aT.Key J q)<|.aW<|Ce) fun h=>Ol
def aFU (f:AX) (k2:(Int→Option Bool)):Int→Option Bool:=fun h=>(bif decide (h<(f.length:Int))then(BF f h).bind fun j=>(bif decide (j<0)then some true else(bif decide (h>0)then(BF f (BD (h-1))).bind fun m=>some (decide (m≥j))else some false).bind fun n=>some n).bind fun q=>(bif q then some false else k2 (BD (h+1)))else some true)
def aId (f:AX):Int→Option Bool:=bF (aFU f) Ar
def lV (f:AX):Option Bool:=aId f 0
def aaD (aA r) (h:lV aA=some r):BI 291 [Bj aA] [] (BA r) []:=Aw.aH Tryz.func291 rfl<|AZ<|Ac<|AL<|.a 1<|.p (Bc AP aA CO rfl)<|.aW<|AB.block<|Ee (fun s=>⟨BM 28 [(0,Bj aA),(5,Bj aA),(6,AY (aA.length:Int)),(7,AY s)],[],0⟩) _ _ _ (Ad 28 225 []) h<|fun u k2 f s h=>AZ<|Ac<|Ag h (fun h=>AB.skip<|Ac<|AB.block<|AQ h fun J j h=>AL<|.a 1<|.p (Bd AP j CO DN rfl)<|.aW<|AL<|.a 2<|AQ h fun z m h=>.mg 14 12 (BA z) (.bi m (k2:=fun h=>.a 2<|AQ h fun I n h=>.mg 17 8 (BA I) (.bi n (fun h=>AQ h fun L q h=>.a 3<|.p (Bd AP q CO DN rfl)<|.aW<|Du))<|.aW<|Du))<|.bD<|Ag h Bz fun h=>AB.skip<|BJ<|.a 2<|.nil<|f _ _ (Ad 28 225 []) h) fun h=>Fv
def nD (f:Int):Option Bool:=(bif decide (f≥1)then some (decide (f≤14))else some false).bind fun h=>some h
def aep (iD r) (h:nD iD=some r):BI 357 [AY iD] [] (BA r) []:=Aw.aH Tryz.func357 rfl<|AZ<|AL<|.a 2<|AQ h fun j f h=>.mg 5 3 (BA j) (.bi f)<|.aW<|Ce
def tK (f:CP):Option Bool:=(bif ((f.Users.length:Int)==0)then some ((f.Kinds.length:Int)==0)else some false).bind fun n=>(bif n then some (f.User==0)else some false).bind fun q=>(bif q then some (f.Message==0)else some false).bind fun s=>(bif s then some (f.State==0)else some false).bind fun u=>(bif u then some (f.fP==0)else some false).bind fun z=>(bif z then some (f.jU==0)else some false).bind fun h=>(bif h then some (f.nH==0)else some false).bind fun j=>(bif j then some (f.gZ==0)else some false).bind fun m=>some m
def apb (aA r) (h:tK aA=some r):BI 387 [Le aA] [] (BA r) []:=Aw.aH Tryz.func387 rfl<|AZ<|AL<|.a 2<|.p (Bc FW aA.Users JX rfl)<|.a 1<|AQ h fun M n h=>.mg 7 5 (BA M) (.bi n (fun h=>.a 2<|.p (Bc Fg aA.Kinds Ji rfl)<|.aW<|Du))<|.a 1<|AQ h fun O q h=>.mg 14 3 (BA O) (Ea q)<|.a 1<|AQ h fun S s h=>.mg 19 3 (BA S) (Ea s)<|.a 1<|AQ h fun U u h=>.mg 24 3 (BA U) (Ea u)<|.a 1<|AQ h fun Y z h=>.mg 29 3 (BA Y) (Ea z)<|.a 1<|AQ h fun I f h=>.mg 34 3 (BA I) (Ea f)<|.a 1<|AQ h fun J j h=>.mg 39 3 (BA J) (Ea j)<|.a 1<|AQ h fun L m h=>.mg 44 3 (BA L) (Ea m)<|.aW<|Ce
def uf (f:Int):Option Int:=some f
def zQ (f:Bf) (j:Int):Option Int:=(tK f.Levels).bind fun h=>(bif (!h)then uf (Dc .or .i64 j 128)else uf j)
def zk (f:Bf) (h:Int):Option Int:=(bif decide ((f.iq.length:Int)>0)then zQ f (Dc .or .i64 h 64)else zQ f h)
def aA1 (f:Bf) (h:Int):Option Int:=(bif decide ((f.Allow.length:Int)>0)then zk f (Dc .or .i64 h 32)else zk f h)
def yN (f:Bf) (h:Int):Option Int:=(bif (!(f.Via.toList==BL.toList))then aA1 f (Dc .or .i64 h 16)else aA1 f h)
def yU (f:Bf) (h:Int):Option Int:=(bif f.Thread then yN f (Dc .or .i64 h 8)else yN f h)
def pK (f:Bf) (h:Int):Option Int:=(bif (f.Target != 0)then yU f (Dc .or .i64 h 4)else yU f h)
def rY (f:Bf) (h:Int):Option Int:=(bif (f.N != 0)then pK f (Dc .or .i64 h 2)else pK f h)
def lQ (f:Bf):Option Int:=(bif (!(f.Text.toList==BL.toList))then rY f (Dc .or .i64 0 1)else rY f 0)
def aI0 (iP r) (h:lQ iP=some r):BI 358 [LX iP] [] (AY r) []:=Aw.aH Tryz.func358 rfl<|AZ<|AZ<|DL (fun s=>∃(j:Int),Bq s ⟨BM 47 [(1,.ptr 0 0),(3,AY j)],[.box (Ae (F8 iP))],0⟩∧rY iP j=some r) (by rintro s ⟨j,f,h⟩;exact Cc f<|DL (fun s=>∃(m:Int),Bq s ⟨BM 47 [(1,.ptr 0 0),(3,AY m)],[.box (Ae (F8 iP))],0⟩∧pK iP m=some r) (by rintro s ⟨m,f,h⟩;exact Cc f<|DL (fun s=>∃(n:Int),Bq s ⟨BM 47 [(1,.ptr 0 0),(3,AY n)],[.box (Ae (F8 iP))],0⟩∧yU iP n=some r) (by rintro s ⟨n,f,h⟩;exact Cc f<|DL (fun s=>∃(q:Int),Bq s ⟨BM 47 [(1,.ptr 0 0),(3,AY q)],[.box (Ae (F8 iP))],0⟩∧yN iP q=some r) (by rintro s ⟨q,f,h⟩;exact Cc f<|DL (fun s=>∃(z:Int),Bq s ⟨BM 47 [(1,.ptr 0 0),(3,AY z)],[.box (Ae (F8 iP))],0⟩∧aA1 iP z=some r) (by rintro s ⟨z,f,h⟩;exact Cc f<|DL (fun s=>∃(I:Int),Bq s ⟨BM 47 [(1,.ptr 0 0),(3,AY I)],[.box (Ae (F8 iP))],0⟩∧zk iP I=some r) (by rintro s ⟨I,f,h⟩;exact Cc f<|DL (fun s=>∃(J:Int),Bq s ⟨BM 47 [(1,.ptr 0 0),(3,AY J)],[.box (Ae (F8 iP))],0⟩∧zQ iP J=some r) (by rintro s ⟨J,f,h⟩;exact Cc f<|DL (fun s=>∃(v8:Int),Bq s ⟨BM 47 [(3,AY v8)],[],0⟩∧uf v8=some r) (by rintro s ⟨v8,f,h⟩;exact Cc f<|AZ<|Ce)<|fun K9=>AQ h fun x10 L h=>AL<|.a 2<|.ca (apb iP.Levels x10 L)<|.aW<|Ag h (fun h=>BJ<|.a 1<|.p (TQ (k:=.i64) (u:=J) (v:=128) rfl)<|.a 1<|.nil<|K9 _ ⟨(Dc .or .i64 J 128),Ad 47 8 [],h⟩) fun h=>AB.skip<|K9 _ ⟨J,Ad 47 8 [],h⟩)<|fun M=>AL<|.a 2<|.p (Bc DT iP.iq IU rfl)<|.aW<|Ag h (fun h=>BJ<|.a 1<|.p (TQ (k:=.i64) (u:=I) (v:=64) rfl)<|.a 1<|.nil<|M _ ⟨(Dc .or .i64 I 64),Ad 47 10 [(0,true)],h⟩) fun h=>AB.skip<|M _ ⟨I,Ad 47 10 [(0,true)],h⟩)<|fun O=>AL<|.a 2<|.p (Bc DT iP.Allow IU rfl)<|.aW<|Ag h (fun h=>BJ<|.a 1<|.p (TQ (k:=.i64) (u:=z) (v:=32) rfl)<|.a 1<|.nil<|O _ ⟨(Dc .or .i64 z 32),Ad 47 10 [(0,true)],h⟩) fun h=>AB.skip<|O _ ⟨z,Ad 47 10 [(0,true)],h⟩)<|fun S=>AZ<|Ag h (fun h=>BJ<|.a 1<|.p (TQ (k:=.i64) (u:=q) (v:=16) rfl)<|.a 1<|.nil<|S _ ⟨(Dc .or .i64 q 16),Ad 47 10 [(0,true)],h⟩) fun h=>AB.skip<|S _ ⟨q,Ad 47 10 [(0,true)],h⟩)<|fun U=>AZ<|Ag h (fun h=>BJ<|.a 1<|.p (TQ (k:=.i64) (u:=n) (v:=8) rfl)<|.a 1<|.nil<|U _ ⟨(Dc .or .i64 n 8),Ad 47 10 [(0,true)],h⟩) fun h=>AB.skip<|U _ ⟨n,Ad 47 10 [(0,true)],h⟩)<|fun Y=>AZ<|Ag h (fun h=>BJ<|.a 1<|.p (TQ (k:=.i64) (u:=m) (v:=4) rfl)<|.a 1<|.nil<|Y _ ⟨(Dc .or .i64 m 4),Ad 47 10 [(0,true)],h⟩) fun h=>AB.skip<|Y _ ⟨m,Ad 47 10 [(0,true)],h⟩)<|fun K22=>AZ<|Ag h (fun h=>BJ<|.a 1<|.p (TQ (k:=.i64) (u:=j) (v:=2) rfl)<|.a 1<|.nil<|K22 _ ⟨(Dc .or .i64 j 2),Ad 47 10 [(0,true)],h⟩) fun h=>AB.skip<|K22 _ ⟨j,Ad 47 10 [(0,true)],h⟩)<|fun Z=>AZ<|Ag h (fun h=>BJ<|.a 1<|.p (TQ (k:=.i64) (u:=0) (v:=1) rfl)<|.a 1<|.nil<|Z _ ⟨(Dc .or .i64 0 1),Ad 47 10 [(0,true)],h⟩) fun h=>AB.skip<|Z _ ⟨0,Ad 47 10 [(0,true)],h⟩
def aDJ (f:ByteArray) (j:(Int→Option Int)):Int→Option Int:=fun h=>(bif decide (h<(f.size:Int))then(FT f h).bind fun m=>(bif decide (m<33)then some true else(FT f h).bind fun n=>some (decide (n>126))).bind fun q=>(bif q then some 3 else j (BD (h+1)))else some 0)
def aCj (f:ByteArray):Int→Option Int:=bF (aDJ f) Ar
def jT (f:ByteArray):Option Int:=(bif (f.toList==BL.toList)then some 9 else(bif decide ((f.size:Int)>64)then some 7 else aCj f 0))
def aGt (YF r) (h:jT YF=some r):BI 388 [DR YF] [] (AY r) []:=Aw.aH Tryz.func388 rfl<|AZ<|Ac<|AB.block<|AZ<|Ag h Bz fun h=>AZ<|Ag h Bz fun h=>AB.skip<|Ac<|AZ<|AB.block<|Ee (fun q=>⟨BM 27 [(0,DR YF),(12,AY (YF.size:Int)),(13,AY q)],[],0⟩) _ _ _ (Ad 27 12289 []) h<|fun s z f q h=>AZ<|Ac<|Ag h (fun h=>AB.skip<|Ac<|AB.block<|AZ<|AQ h fun I j h=>AL<|.a 2<|.p (U8 (k:=.i64) j KJ rfl)<|.a 1<|AQ h fun u m h=>.mg 20 5 (BA u) (.bi m (k2:=fun h=>AQ h fun J n h=>.a 2<|.p (U8 (k:=.i64) n KJ rfl)<|.aW<|Du))<|.bD<|Ag h Bz fun h=>AB.skip<|BJ<|.a 2<|.nil<|f _ _ (Ad 27 12289 []) h) fun h=>Fv
def aEF (f:Eh) (m:(Int→Option Int)):Int→Option Int:=fun h=>(bif decide (h<(f.length:Int))then(BF f h).bind fun n=>(jT n).bind fun j=>(bif (j != 0)then some j else m (BD (h+1)))else some 0)
def abh (f:Eh):Int→Option Int:=bF (aEF f) Ar
def TB (f:Eh):Option Int:=(bif decide ((f.length:Int)>100)then some 7 else abh f 0)
def aaV (aA r) (h:TB aA=some r):BI 365 [J8 aA] [] (AY r) []:=Aw.aH Tryz.func365 rfl<|AZ<|Ac<|AL<|.a 1<|.p (Bc DT aA IU rfl)<|.aW<|Ag h Bz fun h=>AB.skip<|Ac<|AL<|.a 1<|.p (Bc DT aA IU rfl)<|.aW<|AB.block<|Ee (fun n=>⟨BM 21 [(9,J8 aA),(10,AY (aA.length:Int)),(11,AY n)],[],0⟩) _ _ _ (Ad 21 3584 []) h<|fun u z f n h=>AZ<|Ac<|Ag h (fun h=>AB.skip<|Ac<|AB.block<|AQ h fun q j h=>AL<|.p (Bd DT j IU NW rfl)<|.aW<|AQ h fun s m h=>AL<|.a 1<|.ca (aGt q s m)<|.aW<|AZ<|Ag h Bz fun h=>AB.skip<|BJ<|.a 2<|.nil<|f _ _ (Ad 21 3584 []) h) fun h=>Fv
def aI (f:Int):Option Bool:=(bif decide (f<(-1000))then some true else some (decide (f>1000))).bind fun h=>some h
def aEx (as5 r) (h:aI as5=some r):BI 391 [AY as5] [] (BA r) []:=Aw.aH Tryz.func391 rfl<|AZ<|AL<|.a 2<|AQ h fun j f h=>.mg 5 3 (BA j) (.bi f)<|.aW<|Ce
def sH (h:G7) (j:(Int→Option Int)) (m:Int) (n:Bool):Option Int:=(bif n then some 8 else(aI h.N).bind fun f=>(bif f then some 2 else j (BD (m+1))))
abbrev JL:=List G7
def aEp (f:JL) (n:(Int→Option Int)):Int→Option Int:=fun h=>(bif decide (h<(f.length:Int))then(BF f h).bind fun j=>(Vz j.User).bind fun q=>(bif (q != 0)then some 3 else(bif decide (h>0)then(BF f (BD (h-1))).bind fun m=>sH j n h (Op.bytesLess (j.User.toList) (m.User.toList)||j.User.toList==m.User.toList)else sH j n h false))else some 0)
def aa3 (f:JL):Int→Option Int:=bF (aEp f) Ar
def oP (f:JL):Option Int:=(bif decide ((f.length:Int)>100)then some 7 else aa3 f 0)
def as9 (aA r) (h:oP aA=some r):BI 389 [O8 aA] [] (AY r) []:=Aw.aH Tryz.func389 rfl<|AZ<|Ac<|AL<|.a 1<|.p (Bc FW aA JX rfl)<|.aW<|Ag h Bz fun h=>AB.skip<|Ac<|AL<|.a 1<|.p (Bc FW aA JX rfl)<|.aW<|AB.block<|Ee (fun z=>⟨BM 39 [(0,O8 aA),(8,O8 aA),(9,AY (aA.length:Int)),(10,AY z)],[],0⟩) _ _ _ (Ad 39 1793 []) h<|fun S U I z h=>AZ<|Ac<|Ag h (fun h=>AB.skip<|Ac<|AB.block<|AQ h fun j J h=>AL<|.a 1<|.p (Bd FW J JX V9 rfl)<|.aW<|AB.block<|AQ h fun Y L h=>AL<|.a 2<|.ca (uY j.User Y L)<|.aW<|Ag h Bz fun h=>DL (fun s=>∃(M:Bool),Bq s ⟨BM 39 [(0,O8 aA),(4,.ptr 0 0),(8,O8 aA),(9,AY (aA.length:Int)),(10,AY z),(20,BA M)],[.box (Ae (FW j))],0⟩∧sH j U z M=some r) (by rintro s ⟨M,Z,h⟩;exact Cc Z<|Ag h Bz fun h=>AQ h fun O m h=>AL<|.a 2<|.ca (aEx j.N O m)<|.aW<|Ag h Bz fun h=>AB.skip<|BJ<|.a 2<|.nil<|I _ _ (Ad 39 1793 []) h)<|fun n=>Gf h (fun f h=>AQ h fun q u h=>AB.draw A8 A8 A8 (.a 2<|.c (BX some f)<|.a 5<|.p (Bd FW u JX V9 rfl)<|.a 5<|.nil _)<|n _ ⟨(Op.bytesLess (j.User.toList) (q.User.toList)||j.User.toList==q.User.toList),Ad 39 1050385 [(0,true)],h⟩) fun f h=>AB.draw A8 A8 A8 (.a 2<|.c (BX some f)<|.a 11<|.nil _)<|n _ ⟨false,Ad 39 1050385 [(0,true)],h⟩) fun h=>Fv
def Sub (h:Gm) (j:(Int→Option Int)) (m:Int) (n:Bool):Option Int:=(bif n then some 8 else(aI h.N).bind fun f=>(bif f then some 2 else j (BD (m+1))))
abbrev JC:=List Gm
def aGF (f:JC) (n:(Int→Option Int)):Int→Option Int:=fun h=>(bif decide (h<(f.length:Int))then(BF f h).bind fun j=>(nD j.Kind).bind fun q=>(bif (!q)then some 1 else(bif decide (h>0)then(BF f (BD (h-1))).bind fun m=>Sub j n h (decide (j.Kind≤m.Kind))else Sub j n h false))else some 0)
def aGy (f:JC):Int→Option Int:=bF (aGF f) Ar
def xC (f:JC):Option Int:=(bif decide ((f.length:Int)>100)then some 7 else aGy f 0)
def arI (aA r) (h:xC aA=some r):BI 390 [Nv aA] [] (AY r) []:=Aw.aH Tryz.func390 rfl<|AZ<|Ac<|AL<|.a 1<|.p (Bc Fg aA Ji rfl)<|.aW<|Ag h Bz fun h=>AB.skip<|Ac<|AL<|.a 1<|.p (Bc Fg aA Ji rfl)<|.aW<|AB.block<|Ee (fun u=>⟨BM 39 [(0,Nv aA),(8,Nv aA),(9,AY (aA.length:Int)),(10,AY u)],[],0⟩) _ _ _ (Ad 39 1793 []) h<|fun S U z u h=>AZ<|Ac<|Ag h (fun h=>AB.skip<|Ac<|AB.block<|AQ h fun j I h=>AL<|.a 1<|.p (Bd Fg I Ji Uo rfl)<|.aW<|AB.block<|AQ h fun Y J h=>AL<|.a 2<|.ca (aep j.Kind Y J)<|.aW<|Ag h Bz fun h=>DL (fun s=>∃(L:Bool),Bq s ⟨BM 39 [(0,Nv aA),(4,.ptr 0 0),(8,Nv aA),(9,AY (aA.length:Int)),(10,AY u),(20,BA L)],[.box (Ae (Fg j))],0⟩∧Sub j U u L=some r) (by rintro s ⟨L,Z,h⟩;exact Cc Z<|Ag h Bz fun h=>AQ h fun M m h=>AL<|.a 2<|.ca (aEx j.N M m)<|.aW<|Ag h Bz fun h=>AB.skip<|BJ<|.a 2<|.nil<|z _ _ (Ad 39 1793 []) h)<|fun n=>Gf h (fun f h=>AQ h fun O q h=>AB.draw A8 A8 A8 (.a 2<|.c (BX some f)<|.a 5<|.p (Bd Fg q Ji Uo rfl)<|.a 5<|.nil _)<|n _ ⟨(decide (j.Kind≤O.Kind)),Ad 39 1050385 [(0,true)],h⟩) fun f h=>AB.draw A8 A8 A8 (.a 2<|.c (BX some f)<|.a 11<|.nil _)<|n _ ⟨false,Ad 39 1050385 [(0,true)],h⟩) fun h=>Fv
def abE (f:CP) (j:(Int→Option Int)):Int→Option Int:=fun h=>(bif decide (h<7)then(BF ([f.User,f.Message,f.State,f.fP,f.jU,f.nH,f.gZ]:AX) h).bind fun m=>(aI m).bind fun n=>(bif n then some 2 else j (BD (h+1)))else some 0)
def aGd (f:CP):Int→Option Int:=bF (abE f) Ar
def Xo (f:CP):Option Int:=(oP f.Users).bind fun h=>(bif (h != 0)then some h else(xC f.Kinds).bind fun j=>(bif (j != 0)then some j else aGd f 0))
def aiI (aA r) (h:Xo aA=some r):BI 366 [Le aA] [] (AY r) []:=Aw.aH Tryz.func366 rfl<|AZ<|Ac<|AQ h fun u f h=>AL<|.a 2<|.ca (as9 aA.Users u f)<|.aW<|AZ<|Ag h Bz fun h=>AB.skip<|Ac<|AQ h fun z j h=>AL<|.a 2<|.ca (arI aA.Kinds z j)<|.aW<|AZ<|Ag h Bz fun h=>AB.skip<|Ac<|AZ<|AB.block<|Ee (fun s=>⟨BM 40 [(33,.d ((JI AP) ([aA.User,aA.Message,aA.State,aA.fP,aA.jU,aA.nH,aA.gZ]:(List Int)))),(34,AY s)],[],0⟩) _ _ _ (Ad 40 25769803776 []) h<|fun I M m s h=>AZ<|Ac<|Ag h (fun h=>AB.skip<|Ac<|AB.block<|AQ h fun J n h=>AL<|.p (wQ (k:=.i64) AP n yQ DN A8 rfl)<|.aW<|AQ h fun L q h=>AL<|.a 1<|.ca (aEx J L q)<|.bD<|Ag h Bz fun h=>AB.skip<|BJ<|.a 2<|.nil<|m _ _ (Ad 40 25769803776 []) h) fun h=>Fv
def aAb (f:Bool):Option Int:=(bif f then some 7 else some 0)
def Ny (h:Int) (f:Bf):Option Int:=(bif (h==9)then some (!(f.Text.toList==BL.toList))else some false).bind fun m=>(bif m then(jT f.Text).bind fun n=>some n else(bif (h==12)then some (f.Text.toList==BL.toList)else some false).bind fun q=>(bif q then some 9 else(bif (h==12)then some (decide ((f.Text.size:Int)>32))else some false).bind fun j=>(bif j then aAb j else aAb (decide ((f.Text.size:Int)>400)))))
def asM (iD iQ r) (h:Ny iD iQ=some r):BI 359 [AY iD,LX iQ] [] (AY r) []:=Aw.aH Tryz.func359 rfl<|AZ<|Ac<|AB.block<|AL<|.a 2<|AQ h fun z m h=>.mg 8 4 (BA z) (.bi m)<|.aW<|Ag h (fun h=>AQ h fun I n h=>AL<|.a 2<|.ca (aGt iQ.Text I n)<|.aW<|Ce) fun h=>AL<|.a 2<|AQ h fun J q h=>.mg 19 4 (BA J) (.bi q)<|.aW<|Ag h Bz fun h=>DL (fun s=>∃(u:Bool),Bq s ⟨BM 37 [(24,BA u)],[],0⟩∧aAb u=some r) (by rintro s ⟨u,L,h⟩;exact Cc L<|Ag h Bz fun h=>Ol)<|fun K10=>AL<|.a 2<|AQ h fun f j h=>.mg 27 5 (BA f) (.bi j)<|.aW<|Ag h (fun h=>AB.skip<|K10 _ ⟨f,Ad 37 16777216 [],h⟩) fun h=>BJ<|.a 5<|.nil<|K10 _ ⟨(decide ((iQ.Text.size:Int)>400)),Ad 37 16777216 [],h⟩
def nM (f:Bf) (h:Int) (j:Int):Option Int:=(bif decide (f.N<h)then some true else some (decide (f.N>j))).bind fun m=>(bif m then some 2 else some 0)
def L8 (h:Int) (f:Bf):Option Int:=(bif (h==2)then nM f 0 4 else(bif (h==8)then nM f 0 1000000000 else(bif (h==10)then nM f 1 10000 else(bif (h==9)then(bif (f.N==1)then some true else some (f.N==2)).bind fun j=>(bif j then some true else some (f.N==6)).bind fun m=>(bif m then some 0 else some 2)else nM f 0 3))))
def apO (iD iQ r) (h:L8 iD iQ=some r):BI 360 [AY iD,LX iQ] [] (AY r) []:=Aw.aH Tryz.func360 rfl<|AZ<|AZ<|DL (fun s=>∃(m:Int) (n:Int),Bq s ⟨BM 39 [(3,.ptr 0 0),(5,AY m),(6,AY n)],[.box (Ae (F8 iQ))],0⟩∧nM iQ m n=some r) (by rintro s ⟨m,n,I,h⟩;exact Cc I<|Ac<|AL<|.a 4<|AQ h fun J q h=>.mg 33 5 (BA J) (.bi q)<|bC)<|fun K6=>AZ<|AB.block<|AZ<|Ag h (fun h=>BJ<|.a 1<|.nil<|K6 _ ⟨0,4,Ad 39 104 [(0,true)],h⟩) fun h=>AZ<|Ag h (fun h=>BJ<|.a 1<|.nil<|K6 _ ⟨0,1000000000,Ad 39 104 [(0,true)],h⟩) fun h=>AZ<|Ag h (fun h=>BJ<|.a 2<|.nil<|K6 _ ⟨1,10000,Ad 39 104 [(0,true)],h⟩) fun h=>AZ<|Ag h (fun h=>Ac<|AZ<|AL<|.a 2<|AQ h fun u f h=>.mg 21 3 (BA u) (.bi f)<|.a 1<|AQ h fun z j h=>.mg 26 2 (BA z) (Ea j)<|bC) fun h=>AB.skip<|K6 _ ⟨0,3,Ad 39 104 [(0,true)],h⟩
def Ot (h:Int) (f:Bf):Option Int:=(bif decide (f.Target<0)then some true else(bif (f.Target==0)then some (h != 11)else some false).bind fun j=>some j).bind fun m=>(bif m then some 2 else some 0)
def ai4 (iD iQ r) (h:Ot iD iQ=some r):BI 361 [AY iD,LX iQ] [] (AY r) []:=Aw.aH Tryz.func361 rfl<|AZ<|Ac<|AL<|.a 3<|AQ h fun m f h=>.mg 8 8 (BA m) (.bi f (k2:=fun h=>.a 3<|AQ h fun n j h=>.mg 12 3 (BA n) (.bi j)<|.aW<|Du))<|bC
def Vy (h:Int) (f:Bf):Option Int:=(bif f.Thread then some (f.Target==0)else some false).bind fun j=>(bif j then some 1 else some 0)
def an6 (iD iQ r) (h:Vy iD iQ=some r):BI 362 [AY iD,LX iQ] [] (AY r) []:=Aw.aH Tryz.func362 rfl<|AZ<|Ac<|AL<|.a 2<|AQ h fun j f h=>.mg 7 4 (BA j) (.bi f)<|bC
def Vu (h:Int) (f:Bf):Option Int:=(bif (f.Via.toList==BL.toList)then some 0 else(bif (f.N != 3)then some 1 else(Vz f.Via).bind fun j=>some j))
def ajq (iD iQ r) (h:Vu iD iQ=some r):BI 363 [AY iD,LX iQ] [] (AY r) []:=Aw.aH Tryz.func363 rfl<|AZ<|Ac<|AB.block<|AZ<|Ag h Bz fun h=>AZ<|Ag h Bz fun h=>AB.skip<|AQ h fun j f h=>AL<|.a 2<|.ca (uY iQ.Via j f)<|.aW<|Ce
def aGL (f:Bf) (s:(Int→Option Int)):Int→Option Int:=fun j=>(bif decide (j<(f.Allow.length:Int))then(BF f.Allow j).bind fun h=>(fJ h).bind fun n=>(bif (n != 0)then some 3 else(bif decide (j>0)then(BF f.Allow (BD (j-1))).bind fun m=>some (Op.bytesLess (h.toList) (m.toList)||h.toList==m.toList)else some false).bind fun q=>(bif q then some 8 else s (BD (j+1))))else some 0)
def aeE (f:Bf):Int→Option Int:=bF (aGL f) Ar
def U9 (h:Int) (f:Bf):Option Int:=(bif (h==6)then(TB f.Allow).bind fun j=>some j else(bif decide ((f.Allow.length:Int)>0)then some (f.N != 3)else some false).bind fun m=>(bif m then some 1 else(bif decide ((f.Allow.length:Int)>100)then some 7 else aeE f 0)))
def aqT (iD iQ r) (h:U9 iD iQ=some r):BI 364 [AY iD,LX iQ] [] (AY r) []:=Aw.aH Tryz.func364 rfl<|AZ<|Ac<|AB.block<|AZ<|Ag h (fun h=>AQ h fun M q h=>AL<|.a 2<|.ca (aaV iQ.Allow M q)<|.aW<|Ce) fun h=>AL<|.a 2<|.p (Bc DT iQ.Allow IU rfl)<|.a 1<|AQ h fun O s h=>.mg 18 4 (BA O) (.bi s)<|.aW<|Ag h Bz fun h=>AL<|.a 2<|.p (Bc DT iQ.Allow IU rfl)<|.aW<|Ag h Bz fun h=>AB.skip<|Ac<|AL<|.a 2<|.p (Bc DT iQ.Allow IU rfl)<|.aW<|AB.block<|Ee (fun L=>⟨BM 52 [(3,.ptr 0 0),(29,J8 iQ.Allow),(30,AY (iQ.Allow.length:Int)),(31,AY L)],[.box (Ae (F8 iQ))],0⟩) _ _ _ (Ad 52 3758096392 [(0,true)]) h<|fun S Y u L h=>AZ<|Ac<|Ag h (fun h=>AB.skip<|Ac<|AB.block<|AQ h fun z f h=>AL<|.a 1<|.p (Bd DT f IU NW rfl)<|.aW<|Ac<|AQ h fun I j h=>AL<|.a 1<|.ca (aH9 z I j)<|.aW<|Ag h Bz fun h=>AB.skip<|AL<|.a 2<|AQ h fun J m h=>.mg 41 9 (BA J) (.bi m (fun h=>AQ h fun U n h=>.a 5<|.p (Bd DT n IU NW rfl)<|.aW<|Du))<|.bD<|Ag h Bz fun h=>AB.skip<|BJ<|.a 2<|.nil<|u _ _ (Ad 52 3758096392 [(0,true)]) h) fun h=>Fv
def aAL (n:Nat) (a0:Int) (f:Bf):Option Int:=bif n==359 then Ny a0 f else bif n==360 then L8 a0 f else bif n==361 then Ot a0 f else bif n==362 then Vy a0 f else bif n==363 then Vu a0 f else bif n==364 then U9 a0 f else none
def amv (n a0 f r) (h:aAL n a0 f=some r):Ui Tryz.prog AP F8 AP (adR n) (aAL n):=by
 by_cases m:n=359
 ·subst m;exact⟨359,[],rfl,alF,fun a0 f c j=>asM a0 f c j⟩
 by_cases q:n=360
 ·subst q;exact⟨360,[],rfl,ajW,fun a0 f c j=>apO a0 f c j⟩
 by_cases s:n=361
 ·subst s;exact⟨361,[],rfl,amM,fun a0 f c j=>ai4 a0 f c j⟩
 by_cases u:n=362
 ·subst u;exact⟨362,[],rfl,aqO,fun a0 f c j=>an6 a0 f c j⟩
 by_cases z:n=363
 ·subst z;exact⟨363,[],rfl,akJ,fun a0 f c j=>ajq a0 f c j⟩
 by_cases I:n=364
 ·subst I;exact⟨364,[],rfl,ara,fun a0 f c j=>aqT a0 f c j⟩
 rw[aAL,ZU m,ZU q,ZU s,ZU u,ZU z,ZU I]at h;have h:(none:Option Int)=some r:=h;cases h
def Wj :(List Ko):=[(⟨1,359⟩:Ko),(⟨2,360⟩:Ko),(⟨4,361⟩:Ko),(⟨8,362⟩:Ko),(⟨16,363⟩:Ko),(⟨32,364⟩:Ko)]
def aBI (f:(Int→Bf→Option Int)) (h:Int) (j:Bf):Option Int:=f (BD (h+1)) j
def VY (s:Int) (j:Int) (m:(Int→Bf→Option Int)):Int→Bf→Option Int:=fun h f=>(bif decide (h<(Wj.length:Int))then(BF Wj h).bind fun n=>(bif ((Dc .and .i64 s n.aoR)==0)then aBI m h f else(aAL n.aij j f).bind fun q=>(bif (q != 0)then some q else aBI m h f))else(bif ((Dc .and .i64 s 64) != 0)then(TB f.iq).bind fun u=>some u else(bif ((Dc .and .i64 s 128) != 0)then(Xo f.Levels).bind fun z=>some z else some 0)))
def J9 (h:Int) (f:Int):Int→Bf→Option Int:=aX (VY h f) Ar
def IZ (f:Int) (h:Bf):Option Int:=(YS f).bind fun m=>(nD f).bind fun n=>(bif (!n)then some true else(lQ h).bind fun q=>some ((Dc .andNot .i64 q m) != 0)).bind fun s=>(bif s then some 1 else(lQ h).bind fun u=>(bif (u==0)then(bG f).bind fun j=>some (j==0)else some false).bind fun z=>(bif z then some 0 else J9 m f 0 h))
def anM (iD iQ r) (h:IZ iD iQ=some r):BI 292 [AY iD,LX iQ] [] (AY r) []:=Aw.aH Tryz.func292 rfl<|AZ<|AQ h fun n S h=>AL<|.a 1<|.ca (aIS iD n S)<|.aW<|Ac<|AQ h fun x2 U h=>AL<|.a 1<|.ca (aep iD x2 U)<|.a 1<|AQ h fun x3 Y h=>.mg 15 6 (BA x3) (.bi Y (k2:=fun h=>AQ h fun x5 Z h=>.a 1<|.ca (aI0 iQ x5 Z)<|.a 1<|.p (aqW (k:=.i64) (u:=x5) (v:=n) rfl)<|.aW<|Du))<|.bD<|Ag h Bz fun h=>AB.skip<|Ac<|AQ h fun x7 hx7 h=>AL<|.a 1<|.ca (aI0 iQ x7 hx7)<|.a 1<|AQ h fun x8 Jz h=>.mg 25 4 (BA x8) (.bi Jz (fun h=>AQ h fun x10 q h=>.a 1<|.ca (abe iD x10 q)<|.aW<|Du))<|.bD<|Ag h Bz fun h=>AB.skip<|AL<|.a 6<|.p (Dz asx aBM [RG (⟨1,359⟩:Ko),RG (⟨2,360⟩:Ko),RG (⟨4,361⟩:Ko),RG (⟨8,362⟩:Ko),RG (⟨16,363⟩:Ko),RG (⟨32,364⟩:Ko)] rfl)<|.aW<|Ac<|AL<|.a 1<|.p (Bc RG Wj afj rfl)<|.aW<|AB.block<|EI (fun j f=>⟨BM 69 [(0,AY iD),(3,.ptr 0 0),(5,AY n),(37,.d ((Af RG) Wj)),(38,AY (Wj.length:Int)),(39,AY j)],[.box (Ae (F8 f))],0⟩) _ _ _ _ (Ad 69 962072674345 [(0,true)]) h<|fun J25 k14 z j f h=>AZ<|Ac<|Ag h (fun h=>AB.skip<|DL (fun s=>Bq s ⟨BM 69 [(0,AY iD),(3,.ptr 0 0),(5,AY n),(37,.d ((Af RG) Wj)),(38,AY (Wj.length:Int)),(39,AY j)],[.box (Ae (F8 f))],0⟩∧aBI k14 j f=some r) (by rintro s ⟨hs,h⟩;exact Cc hs<|BJ<|.a 2<|.nil<|z _ _ _ (Ad 69 962072674345 [(0,true)]) h)<|fun I=>AB.block<|AQ h fun J L h=>AL<|.p (Bd RG L afj aee rfl)<|.aW<|Ac<|AL<|.a 3<|.p (NV (k:=.i64) (u:=n) (v:=J.aoR) rfl)<|.aW<|Ag h (fun h=>AB.exit<|I _ ⟨Ad 69 962072674345 [(0,true)],h⟩) fun h=>AB.skip<|AQ h fun x19 m h=>AL<|.a 4<|.p (X3 (amv J.aij iD f x19 m) m rfl)<|.aW<|AZ<|Ag h Bz fun h=>AB.skip<|I _ ⟨Ad 69 962072674345 [(0,true)],h⟩) fun h=>AB.exit<|Ac<|AL<|.a 1<|.p (NV (k:=.i64) (u:=n) (v:=64) rfl)<|.aW<|Ag h (fun h=>AQ h fun Zb M h=>AL<|.a 2<|.ca (aaV f.iq Zb M)<|.aW<|Ce) fun h=>AB.skip<|Ac<|AL<|.a 1<|.p (NV (k:=.i64) (u:=n) (v:=128) rfl)<|.aW<|Ag h (fun h=>AQ h fun x24 O h=>AL<|.a 2<|.ca (aiI f.Levels x24 O)<|.aW<|Ce) fun h=>Ol
def VF (f:AO) (I:Bool):Option Int:=(bif I then some 1 else(pV f).bind fun J=>(bif (!J)then some 3 else(bif decide (f.Time<0)then some true else some (decide (f.Time>1000000000))).bind fun L=>(bif L then some true else some (decide (f.Depth<1))).bind fun M=>(bif M then some true else some (decide (f.Depth>100000))).bind fun h=>(bif h then some 2 else(bif decide ((f.bY.length:Int)>10)then some true else some (decide ((f.dh.length:Int)>8))).bind fun j=>(bif j then some 7 else(lV f.bY).bind fun m=>(bif (!m)then some true else(lV f.dh).bind fun n=>some (!n)).bind fun q=>(bif q then some 8 else(bif ((f.bY.length:Int)==0)then some (f.Kind != 1)else some false).bind fun s=>(bif s then some 9 else(bif (f.Kind==1)then some (decide ((BD ((f.bY.length:Int)+(f.dh.length:Int)))>0))else some false).bind fun u=>(bif u then some 6 else(IZ f.Kind f.Content).bind fun z=>some z)))))))
def vK (f:AO):Option Int:=(bif (f.Kind==2)then some true else some (f.Kind==9)).bind fun j=>(bif decide (f.Kind<1)then VF f true else(bif decide (f.Kind>14)then VF f true else(YB f.Kind).bind fun h=>(bif (!(f.State==h))then VF f true else(bif (!(f.Key.toList==BL.toList))then VF f (!j)else VF f false))))
def aro (aT r) (h:vK aT=some r):BI 221 [Dq aT] [] (AY r) []:=Aw.aH Tryz.func221 rfl<|AZ<|AL<|.a 3<|AQ h fun x1 Z h=>.mg 7 4 (BA x1) (.bi Z)<|.aW<|Ac<|AB.block<|DL (fun s=>∃(v3:Bool),Bq s ⟨BM 112 [(1,.ptr 0 0),(12,BA v3)],[.box (Ae (Ap aT))],0⟩∧VF aT v3=some r) (by rintro s ⟨v3,hs,h⟩;exact Cc hs<|Ag h Bz fun h=>AQ h fun x5 hx5 h=>AL<|.a 1<|.ca (ajv aT x5 hx5)<|.aW<|Ag h Bz fun h=>AL<|.a 3<|AQ h fun x7 hx7 h=>.mg 46 4 (BA x7) (.bi hx7)<|.a 1<|AQ h fun x9 SH h=>.mg 52 3 (BA x9) (Ea SH)<|.a 1<|AQ h fun x11 I h=>.mg 57 3 (BA x11) (Ea I)<|.aW<|Ag h Bz fun h=>AL<|.a 2<|.p (Bc AP aT.bY CO rfl)<|.a 1<|AQ h fun x14 J h=>.mg 66 5 (BA x14) (.bi J (k2:=fun h=>.a 2<|.p (Bc AP aT.dh CO rfl)<|.aW<|Du))<|.aW<|Ag h Bz fun h=>AQ h fun x17 L h=>AL<|.a 2<|.ca (aaD aT.bY x17 L)<|.a 1<|AQ h fun x18 M h=>.mg 77 5 (BA x18) (.bi M (k2:=fun h=>AQ h fun SG O h=>.a 2<|.ca (aaD aT.dh SG O)<|.aW<|Du))<|.aW<|Ag h Bz fun h=>AL<|.a 2<|.p (Bc AP aT.bY CO rfl)<|.a 1<|AQ h fun Zb S h=>.mg 88 4 (BA Zb) (.bi S)<|.aW<|Ag h Bz fun h=>AL<|.a 3<|AQ h fun x25 U h=>.mg 97 9 (BA x25) (.bi U (fun h=>.a 2<|.p (Bc AP aT.bY CO rfl)<|.a 2<|.p (Bc AP aT.dh CO rfl)<|.aW<|Du))<|.aW<|Ag h Bz fun h=>AB.skip<|AQ h fun x28 Y h=>AL<|.a 4<|.ca (anM aT.Kind aT.Content x28 Y)<|.aW<|Ce)<|fun n=>Gf h (fun f h=>AB.draw A8 A8 A8 (.a 3<|.c (BX some f)<|.a 22<|.nil _)<|n _ ⟨true,Ad 112 4098 [(0,true)],h⟩) fun f h=>Gf h (fun j h=>AB.draw A8 A8 A8 (.a 3<|.c (BX some f)<|.a 4<|.c (BX some j)<|.a 17<|.nil _)<|n _ ⟨true,Ad 112 4098 [(0,true)],h⟩) fun j h=>AQ h fun z q h=>Gf h (fun m h=>AB.draw A8 A8 A8 (.a 3<|.c (BX some f)<|.a 4<|.c (BX some j)<|.a 4<|.ca (Zi aT.Kind z q)<|.a 2<|.c (BX some m)<|.a 9<|.nil _)<|n _ ⟨true,Ad 112 4098 [(0,true)],h⟩) fun m h=>Gf h (fun u h=>AB.draw A8 A8 A8 (.a 3<|.c (BX some f)<|.a 4<|.c (BX some j)<|.a 4<|.ca (Zi aT.Kind z q)<|.a 2<|.c (BX some m)<|.a 3<|.c (BX some u)<|.a 5<|.nil _)<|n _ ⟨(!x1),Ad 112 4098 [(0,true)],h⟩) fun u h=>AB.draw A8 A8 A8 (.a 3<|.c (BX some f)<|.a 4<|.c (BX some j)<|.a 4<|.ca (Zi aT.Kind z q)<|.a 2<|.c (BX some m)<|.a 3<|.c (BX some u)<|.a 5<|.nil _)<|n _ ⟨false,Ad 112 4098 [(0,true)],h⟩
def aB4 (f:Eh) (h:Eh) (m:(Int→Option Bool)):Int→Option Bool:=fun j=>(bif decide (j<(f.length:Int))then(BF f j).bind fun n=>(BF h j).bind fun q=>(bif (!(n.toList==q.toList))then some false else m (BD (j+1)))else some true)
def aHF (f:Eh) (h:Eh):Int→Option Bool:=bF (aB4 f h) Ar
def fQ (f:Eh) (h:Eh):Option Bool:=(bif ((f.length:Int) != (h.length:Int))then some false else aHF f h 0)
def aJv (lH lF r) (h:fQ lH lF=some r):BI 293 [J8 lH,J8 lF] [] (BA r) []:=Aw.aH Tryz.func293 rfl<|AZ<|Ac<|AL<|.a 1<|.p (Bc DT lH IU rfl)<|.a 1<|.p (Bc DT lF IU rfl)<|.aW<|Ag h Bz fun h=>AB.skip<|Ac<|AL<|.a 1<|.p (Bc DT lH IU rfl)<|.aW<|AB.block<|Ee (fun n=>⟨BM 26 [(0,J8 lH),(1,J8 lF),(12,AY (lH.length:Int)),(13,AY n)],[],0⟩) _ _ _ (Ad 26 12291 []) h<|fun q s f n h=>AZ<|Ac<|Ag h (fun h=>AB.skip<|Ac<|AB.block<|AZ<|D6 h fun u j z m h=>GR A8 A8 A8 (.a 2<|.p (Bd DT j IU NW rfl)<|.a 3<|.p (Bd DT m IU NW rfl)<|.a 2<|.nil _)<|Ag h Bz fun h=>AB.skip<|BJ<|.a 2<|.nil<|f _ _ (Ad 26 12291 []) h) fun h=>Fv
def aGJ (f:JL) (h:JL) (m:(Int→Option Bool)):Int→Option Bool:=fun j=>(bif decide (j<(f.length:Int))then(BF f j).bind fun n=>(BF h j).bind fun q=>(bif (!qP n q)then some false else m (BD (j+1)))else some true)
def afE (f:JL) (h:JL):Int→Option Bool:=bF (aGJ f h) Ar
def aA3 (f:JL) (h:JL):Option Bool:=(bif ((f.length:Int) != (h.length:Int))then some false else afE f h 0)
def akm (lH lF r) (h:aA3 lH lF=some r):BI 294 [O8 lH,O8 lF] [] (BA r) []:=Aw.aH Tryz.func294 rfl<|AZ<|Ac<|AL<|.a 1<|.p (Bc FW lH JX rfl)<|.a 1<|.p (Bc FW lF JX rfl)<|.aW<|Ag h Bz fun h=>AB.skip<|Ac<|AL<|.a 1<|.p (Bc FW lH JX rfl)<|.aW<|AB.block<|Ee (fun s=>⟨BM 26 [(0,O8 lH),(1,O8 lF),(12,AY (lH.length:Int)),(13,AY s)],[],0⟩) _ _ _ (Ad 26 12291 []) h<|fun u z m s h=>AZ<|Ac<|Ag h (fun h=>AB.skip<|Ac<|AB.block<|AZ<|D6 h fun f n j q h=>GR A8 A8 A8 (.a 2<|.p (Bd FW n JX V9 rfl)<|.a 3<|.p (Bd FW q JX V9 rfl)<|.a 1<|.p (x:=(BA (!qP f j))) (aBe [.string f.User,.int .i64 f.N] [.string j.User,.int .i64 j.N] (arl f j) BP al0 rfl)<|.nil _)<|Ag h Bz fun h=>AB.skip<|BJ<|.a 2<|.nil<|m _ _ (Ad 26 12291 []) h) fun h=>Fv
def aDK (f:JC) (h:JC) (m:(Int→Option Bool)):Int→Option Bool:=fun j=>(bif decide (j<(f.length:Int))then(BF f j).bind fun n=>(BF h j).bind fun q=>(bif (!aAP n q)then some false else m (BD (j+1)))else some true)
def aHE (f:JC) (h:JC):Int→Option Bool:=bF (aDK f h) Ar
def zY (f:JC) (h:JC):Option Bool:=(bif ((f.length:Int) != (h.length:Int))then some false else aHE f h 0)
def arw (lH lF r) (h:zY lH lF=some r):BI 295 [Nv lH,Nv lF] [] (BA r) []:=Aw.aH Tryz.func295 rfl<|AZ<|Ac<|AL<|.a 1<|.p (Bc Fg lH Ji rfl)<|.a 1<|.p (Bc Fg lF Ji rfl)<|.aW<|Ag h Bz fun h=>AB.skip<|Ac<|AL<|.a 1<|.p (Bc Fg lH Ji rfl)<|.aW<|AB.block<|Ee (fun s=>⟨BM 26 [(0,Nv lH),(1,Nv lF),(12,AY (lH.length:Int)),(13,AY s)],[],0⟩) _ _ _ (Ad 26 12291 []) h<|fun u z m s h=>AZ<|Ac<|Ag h (fun h=>AB.skip<|Ac<|AB.block<|AZ<|D6 h fun f n j q h=>GR A8 A8 A8 (.a 2<|.p (Bd Fg n Ji Uo rfl)<|.a 3<|.p (Bd Fg q Ji Uo rfl)<|.a 1<|.p (x:=(BA (!aAP f j))) (aBe [.int .i64 f.Kind,.int .i64 f.N] [.int .i64 j.Kind,.int .i64 j.N] (ajS f j) BP aqo rfl)<|.nil _)<|Ag h Bz fun h=>AB.skip<|BJ<|.a 2<|.nil<|m _ _ (Ad 26 12291 []) h) fun h=>Fv
def oN (f:Bf) (h:Bf):Option Bool:=(bif (!(f.Text.toList==h.Text.toList))then some true else some (f.N != h.N)).bind fun U=>(bif U then some true else some (f.Target != h.Target)).bind fun Y=>(bif Y then some true else some (!(f.Thread==h.Thread))).bind fun Z=>(bif Z then some true else some (!(f.Via.toList==h.Via.toList))).bind fun x7=>(bif x7 then some true else(fQ f.Allow h.Allow).bind fun j=>some (!j)).bind fun x9=>(bif x9 then some true else(fQ f.iq h.iq).bind fun m=>some (!m)).bind fun n=>(bif n then some false else(aA3 f.Levels.Users h.Levels.Users).bind fun q=>(bif q then(zY f.Levels.Kinds h.Levels.Kinds).bind fun s=>some s else some false).bind fun u=>(bif u then some (f.Levels.User==h.Levels.User)else some false).bind fun z=>(bif z then some (f.Levels.Message==h.Levels.Message)else some false).bind fun I=>(bif I then some (f.Levels.State==h.Levels.State)else some false).bind fun J=>(bif J then some (f.Levels.fP==h.Levels.fP)else some false).bind fun L=>(bif L then some (f.Levels.jU==h.Levels.jU)else some false).bind fun M=>(bif M then some (f.Levels.nH==h.Levels.nH)else some false).bind fun O=>(bif O then some (f.Levels.gZ==h.Levels.gZ)else some false).bind fun S=>some S)
def anJ (lH lF r) (h:oN lH lF=some r):BI 222 [LX lH,LX lF] [] (BA r) []:=Aw.aH Tryz.func222 rfl<|AZ<|AB.aii [] 108 0x68383206638310641830062182f064302e062302d05c082c05a082b060102a05e1029060302805c182805e302705a182705c202605a28250580024056002305818220500822056182104e0821058202004c0820056281f04a081f054301e050101e052301d04e101d050201c04c181c04e281b04a181b04c281a04a201a048181904400190461818042001804820170400017046281603e0016044101503c0815042101403a0814044201304018130380813042281203e18120360812040281103e2011034081103c2010038101003a280f036100f038280e036200e034180e032100d02a000d030100c028000c032200b02e180b026000b030280a02c180a024000a02e280902c2009022000902a2008026100802008080282807024100701e080702628060242006022180601c0806020280501e200501c100501a2004016100401000040182803014100300e000301628020142002012180200c0002010280100e200100c100100a08010082800006200000410000020000 [51,52] ⟨BM 121 [(2,.ptr 0 0),(3,.ptr 1 0),(5,.ptr 2 0),(6,.ptr 3 0)],[.box (Ae (F8 lH)),.box (Ae (F8 lF)),.box (Ae (FX lH.Levels)),.box (Ae (FX lF.Levels))],0⟩ ⟨YV (Ad 121 108 [(0,true),(1,true),(2,true),(3,true)]),YV (Ad 121 108 [(0,true),(1,true),(3,true),(2,true)]),trivial⟩<|Ac<|AL<|.a 5<|AQ h fun x1 S h=>.mg 16 6 (BA x1) (.bi S)<|.a 1<|AQ h fun x3 U h=>.mg 24 5 (BA x3) (Ea U)<|.a 1<|AQ h fun x5 Y h=>.mg 31 5 (BA x5) (Ea Y)<|.a 1<|AQ h fun x7 Z h=>.mg 38 5 (BA x7) (Ea Z)<|.a 1<|AQ h fun x9 SH h=>.mg 45 6 (BA x9) (Ea SH (k2:=fun e i=>by subst e;have h:=i;exact AQ h fun x11 f h=>.a 4<|.ca (aJv lH.Allow lF.Allow x11 f)<|.aW<|Du))<|.a 1<|AQ h fun x12 j h=>.mg 53 6 (BA x12) (Ea j (k2:=fun e i=>by subst e;have h:=i;exact AQ h fun x14 m h=>.a 4<|.ca (aJv lH.iq lF.iq x14 m)<|.aW<|Du))<|.bD<|Ag h Bz fun h=>AB.skip<|AQ h fun x16 n h=>AL<|.a 4<|.ca (akm lH.Levels.Users lF.Levels.Users x16 n)<|.a 1<|AQ h fun x17 q h=>.mg 66 5 (BA x17) (Ea q (fun e i=>by subst e;have h:=i;exact AQ h fun x19 s h=>.a 4<|.ca (arw lH.Levels.Kinds lF.Levels.Kinds x19 s)<|.aW<|Du))<|.a 1<|AQ h fun SG u h=>.mg 73 5 (BA SG) (Ea u)<|.a 1<|AQ h fun Zb z h=>.mg 80 5 (BA Zb) (Ea z)<|.a 1<|AQ h fun x24 I h=>.mg 87 5 (BA x24) (Ea I)<|.a 1<|AQ h fun x26 J h=>.mg 94 5 (BA x26) (Ea J)<|.a 1<|AQ h fun x28 L h=>.mg 101 5 (BA x28) (Ea L)<|.a 1<|AQ h fun x30 M h=>.mg 108 5 (BA x30) (Ea M)<|.a 1<|AQ h fun x32 O h=>.mg 115 5 (BA x32) (Ea O)<|.aW<|Ce
def Ym (f:ByteArray):Option ByteArray:=(ZO f jB).bind fun h=>some h.2.1
def aAy (Kw r) (h:Ym Kw=some r):BI 85 [DR Kw] [] (DR r) []:=Aw.aH Tryz.func85 rfl<|AZ<|AQ h fun j f h=>AL<|.a 1<|.ca (aaW Kw jB j f)<|.aW<|AZ<|Ce
def Wu (f:AO) (h:Bool):Option Int:=(bif h then some 6 else(nE f).bind fun j=>(bif (j != f.Id)then some 11 else(Ym f.bg).bind fun m=>(bif (!wV f.pX (⟨m,f.Id⟩:Lh))then some 12 else some 0)))
def aA7 (f:AO):Option Int:=(vK f).bind fun n=>(bif (n != 0)then some n else(ZV f).bind fun h=>(bif (!h)then(nR f.Kind f.Content).bind fun j=>(oN f.Content j).bind fun m=>Wu f (!m)else Wu f false))
def alb (aT r) (h:aA7 aT=some r):BI 159 [Dq aT] [] (AY r) []:=Aw.aH Tryz.func159 rfl<|AZ<|Ac<|AQ h fun S J h=>AL<|.a 1<|.ca (aro aT S J)<|.aW<|AZ<|Ag h Bz fun h=>AB.skip<|Ac<|AB.block<|DL (fun s=>∃(L:Bool),Bq s ⟨BM 40 [(1,.ptr 0 0),(9,BA L)],[.box (Ae (Ap aT))],0⟩∧Wu aT L=some r) (by rintro s ⟨L,U,h⟩;exact Cc U<|Ag h Bz fun h=>AQ h fun Y M h=>GR A8 A8 A8 (.a 1<|.ca (ac8 aT Y M)<|.a 4<|.nil _)<|Ag h Bz fun h=>AQ h fun m O h=>GR A8 A8 A8 (.a 4<|.ca (aAy aT.bg m O)<|.a 3<|.p (x:=(BA (!wV aT.pX (⟨m,aT.Id⟩:Lh)))) (aBe [.string aT.pX.Server,.int .i64 aT.pX.Sum] [.string ((⟨m,aT.Id⟩:Lh).Server),.int .i64 ((⟨m,aT.Id⟩:Lh).Sum)] (aiL aT.pX (⟨m,aT.Id⟩:Lh)) BP ar9 rfl)<|.a 1<|.nil _)<|Ag h Bz fun h=>Ol)<|fun K9=>AQ h fun n j h=>Gf h (fun f h=>D6 h fun q u z I h=>AB.draw A8 A8 A8 (.a 1<|.ca (aAn aT n j)<|.a 1<|.c (BX some f)<|.a 6<|.ca (afi aT.Kind aT.Content q u)<|.ca (anJ aT.Content q z I)<|.a 3<|.nil _)<|K9 _ ⟨(!z),Ad 40 514 [(0,true)],h⟩) fun f h=>AB.draw A8 A8 A8 (.a 1<|.ca (aAn aT n j)<|.a 1<|.c (BX some f)<|.a 11<|.nil _)<|K9 _ ⟨false,Ad 40 514 [(0,true)],h⟩
def rO (f:Am) (j:(Int→Option Int)):Int→Option Int:=fun h=>(bif decide (h<(f.length:Int))then(BF f h).bind fun m=>(BF f (BD (h-1))).bind fun n=>(bif decide (m.Id≤n.Id)then some 8 else j (BD (h+1)))else some 0)
def vF (f:Am):Int→Option Int:=bF (rO f) Ar
def VN (f:Am) (n:(Int→Option Int)):Int→Option Int:=fun h=>(bif decide (h<(f.length:Int))then(BF f h).bind fun j=>(BF f 0).bind fun m=>(bif (!(j.Room.toList==m.Room.toList))then some 13 else n (BD (h+1)))else vF f 1)
def jk (f:Am):Int→Option Int:=bF (VN f) Ar
def gy (f:Am) (m:(Int→Option Int)):Int→Option Int:=fun h=>(bif decide (h<(f.length:Int))then(BF f h).bind fun n=>(aA7 n).bind fun j=>(bif (j != 0)then some j else m (BD (h+1)))else jk f 0)
def aEC (f:Am):Int→Option Int:=bF (gy f) Ar
def Om (f:Am):Option Int:=(bif decide ((f.length:Int)>2000)then some 7 else aEC f 0)
def akR (aA r) (h:Om aA=some r):BI 111 [BO aA] [] (AY r) []:=Aw.aH Tryz.func111 rfl<|AZ<|Ac<|AL<|.a 1<|.p (Bc Ap aA Cx rfl)<|.aW<|Ag h Bz fun h=>AB.skip<|Ac<|AL<|.a 1<|.p (Bc Ap aA Cx rfl)<|.aW<|AB.block<|Ee (fun L=>⟨BM 56 [(0,BO aA),(12,BO aA),(13,AY (aA.length:Int)),(14,AY L)],[],0⟩) _ _ _ (Ad 56 28673 []) h<|fun O k3 u L h=>AZ<|Ac<|Ag h (fun h=>AB.skip<|Ac<|AB.block<|AQ h fun S z h=>AL<|.p (Bd Ap z Cx Dh rfl)<|.aW<|AQ h fun U I h=>AL<|.a 1<|.ca (alb S U I)<|.aW<|AZ<|Ag h Bz fun h=>AB.skip<|BJ<|.a 2<|.nil<|u _ _ (Ad 56 28673 []) h) fun h=>AB.exit<|Ac<|AL<|.a 1<|.p (Bc Ap aA Cx rfl)<|.aW<|AB.block<|Ee (fun M=>⟨BM 56 [(0,BO aA),(24,BO aA),(25,AY (aA.length:Int)),(26,AY M)],[],0⟩) _ _ _ (Ad 56 117440513 []) h<|fun Y k9 J M h=>AZ<|Ac<|Ag h (fun h=>AB.skip<|Ac<|AB.block<|AQ h fun Z f h=>AL<|.p (Bd Ap f Cx Dh rfl)<|.aW<|AQ h fun x12 j h=>GR A8 A8 A8 (.a 3<|.p (Bd Ap j Cx Dh rfl)<|.a 3<|.nil _)<|Ag h Bz fun h=>AB.skip<|BJ<|.a 2<|.nil<|J _ _ (Ad 56 117440513 []) h) fun h=>AB.exit<|Ac<|AZ<|AB.block<|Ee (fun m=>⟨BM 56 [(0,BO aA),(8,AY m)],[],0⟩) _ _ _ (Ad 56 257 []) h<|fun J20 k15 n m h=>Ac<|AL<|.a 2<|.p (Bc Ap aA Cx rfl)<|.aW<|Ag h (fun h=>AB.skip<|Ac<|AB.block<|D6 h fun x17 q x18 s h=>GR A8 A8 A8 (.a 2<|.p (Bd Ap q Cx Dh rfl)<|.a 5<|.p (Bd Ap s Cx Dh rfl)<|.a 3<|.nil _)<|Ag h Bz fun h=>AB.skip<|BJ<|.a 3<|.nil<|n _ _ (Ad 56 257 []) h) fun h=>Fv
def adS (f:Am) (m:(Int→(List (Int×Int))→Option (List (Int×Int)))):Int→(List (Int×Int))→Option (List (Int×Int)):=fun h j=>(bif decide (h≥0)then(BF f h).bind fun n=>m (BD (h-1)) (CW j n.Id h)else some j)
def afS (f:Am):Int→(List (Int×Int))→Option (List (Int×Int)):=aX (adS f) Ar
def VW (f:Am):Option (List (Int×Int)):=afS f (BD ((f.length:Int)-1)) []
def iR (aA r) (h:VW aA=some r):BI 117 [BO aA] [] (.mp 0) [.map (List.map (Ah Aj AP) r)]:=Aw.aH Tryz.func117 rfl<|AZ<|AL<|.a 1<|.p (Bc Ap aA Cx rfl)<|.e (x:=.mp 0) [.map (List.map (Ah Aj AP) [])] (akF (kd:=.i64) (n:=(aA.length:Int)) OA rfl)<|.aW<|Ac<|AL<|.a 1<|.p (Bc Ap aA Cx rfl)<|.aW<|AB.block<|EI (fun f j=>⟨BM 23 [(0,BO aA),(3,.mp 0),(4,AY f)],[.map (List.map (Ah Aj AP) j)],0⟩) _ _ _ _ (Ad 23 25 [(0,true)]) h<|fun z I q f j h=>Ac<|AZ<|Ag h (fun h=>AB.skip<|Ac<|AB.block<|AQ h fun u s h=>BJ<|.a 3<|.p (Bd Ap s Cx Dh rfl)<|.a 3<|.e [.map (List.map (Ah Aj AP) (CW j u.Id f))] (dS (k:=0) (key:=u.Id) (val:=f) (m:=j) AP OA FV A8 rfl)<|.nil<|BJ<|.a 3<|.nil<|q _ _ _ (Ad 23 25 [(0,true)]) h) fun h=>Tm
def aCZ (f:AX) (h:(List (Int×Int))) (k2:(Int→Option Bool)):Int→Option Bool:=fun j=>(bif decide (j<(f.length:Int))then(BF f j).bind fun m=>(bif (!((Bg h m).isSome))then some false else k2 (BD (j+1)))else some true)
def ad5 (f:AX) (h:(List (Int×Int))):Int→Option Bool:=bF (aCZ f h) Ar
def kM (f:AX) (h:(List (Int×Int))):Option Bool:=ad5 f h 0
def ae5 (Xv YH r) (h:kM Xv YH=some r):BI 223 [Bj Xv,.ptr 0 0] [.box [.mp 1],.map (List.map (Ah Aj AP) YH)] (BA r) [.box [.mp 1],.map (List.map (Ah Aj AP) YH)]:=Aw.aH Tryz.func223 rfl<|AZ<|Ac<|AL<|.a 1<|.p (Bc AP Xv CO rfl)<|.aW<|AB.block<|Ee (fun q=>⟨BM 23 [(1,.ptr 0 0),(8,Bj Xv),(9,AY (Xv.length:Int)),(10,AY q)],[.box [.mp 1],.map (List.map (Ah Aj AP) YH)],2⟩) _ _ _ (Ad 23 1794 [(0,true),(1,true)]) h<|fun s k2 f q h=>AZ<|Ac<|Ag h (fun h=>AB.skip<|Ac<|AB.block<|AQ h fun j n h=>AL<|.p (Bd AP n CO DN rfl)<|.aW<|AL<|.a 2<|.p (x:=.dO [AY ((Bg YH j).getD 0),BA ((Bg YH j).isSome)]) (um (k:=1) (key:=j) (m:=YH) AP 0 OA FV zero3 A8 A8 A8 rfl)<|.aW<|AZ<|Ag h (fun h=>AZ<|aHW) fun h=>AB.skip<|BJ<|.a 2<|.nil<|f _ _ (Ad 23 1794 [(0,true),(1,true)]) h) fun h=>AB.exit<|AZ<|aHW
def aF4 (f:Am) (q:(Int→(List (Int×Int))→Option Bool)):Int→(List (Int×Int))→Option Bool:=fun h j=>(bif decide (h<(f.length:Int))then(BF f h).bind fun s=>(kM s.bY j).bind fun u=>(bif (!u)then some true else(BF f h).bind fun m=>(kM m.dh j).bind fun n=>some (!n)).bind fun z=>(bif z then some false else q (BD (h+1)) j)else some true)
def abz (f:Am):Int→(List (Int×Int))→Option Bool:=aX (aF4 f) Ar
def qB (f:Am):Option Bool:=(VW f).bind fun h=>abz f 0 h
def agA (aA r) (h:qB aA=some r):BI 160 [BO aA] [] (BA r) []:=Aw.aH Tryz.func160 rfl<|AZ<|AQ h fun L s h=>AL<|.a 1<|.e (x:=.mp 0) [.map (List.map (Ah Aj AP) L)] (DU [] [BO aA] (iR aA L s) rfl)<|.aW<|AL<|.p (x:=.fn (.func 223) [] [.ptr 1 0]) (N7 (fi:=[]) (ca:=[.ptr 1 0]) rfl rfl rfl)<|.aW<|Ac<|AL<|.a 1<|.p (Bc Ap aA Cx rfl)<|.aW<|AB.block<|EI (fun M f=>⟨BM 33 [(0,BO aA),(4,.fn (.func 223) [] [.ptr 0 0]),(10,AY (aA.length:Int)),(11,AY M)],[.box [.mp 1],.map (List.map (Ah Aj AP) f)],0⟩) _ _ _ _ (Ad 33 3089 [(1,true),(0,true)]) h<|fun U Z u M f h=>AZ<|Ac<|Ag h (fun h=>AB.skip<|Ac<|AB.block<|AZ<|D6 h fun O z S I h=>AL<|.a 3<|.p (Bd Ap z Cx Dh rfl)<|.a 2<|.e (x:=(BA S)) [.box [.mp 1],.map (List.map (Ah Aj AP) f)] (WS [.ent 0,.ent 1] [] [.ptr 0 0] [Bj O.bY] (ae5 O.bY f S I) rfl (hE:=(JA A8<|JA A8<|trivial)))<|.a 1<|AQ h fun Y J h=>.mg 22 9 (BA Y) (.bi J (k2:=fun h=>D6 h fun j m n q h=>.a 3<|.p (Bd Ap m Cx Dh rfl)<|.a 2<|.e (x:=(BA n)) [.box [.mp 1],.map (List.map (Ah Aj AP) f)] (WS [.ent 0,.ent 1] [] [.ptr 0 0] [Bj j.dh] (ae5 j.dh f n q) rfl (hE:=(JA A8<|JA A8<|trivial)))<|.aW<|Du))<|.bD<|Ag h Bz fun h=>AB.skip<|BJ<|.a 2<|.nil<|u _ _ _ (Ad 33 3089 [(0,true),(1,true)]) h) fun h=>Fv
def aFp (f:AO) (n:Am) (h:(List (Int×Int))) (q:(Int→Int→Option (Bool×(List (Int×Int))))):Int→Int→Option (Bool×(List (Int×Int))):=fun j m=>(bif decide (m<(f.bY.length:Int))then(BF f.bY m).bind fun s=>(BF n ((Bg h s).getD 0)).bind fun u=>q (TM j u.Depth) (BD (m+1))else(bif decide (f.Depth>j)then some ((BD (f.Depth-j))==1)else some false).bind fun z=>some (z,h))
def acE (h:AO) (j:Am) (f:(List (Int×Int))):Int→Int→Option (Bool×(List (Int×Int))):=aX (aFp h j f) Ar
def aDW (f:AO) (j:Am) (h:(List (Int×Int))) (k2:(Int→Option (Bool×(List (Int×Int))))):Int→Option (Bool×(List (Int×Int))):=fun m=>(bif decide (m<(f.dh.length:Int))then(BF f.dh m).bind fun n=>(BF j ((Bg h n).getD 0)).bind fun q=>(bif decide (q.Depth≥f.Depth)then some (false,h)else k2 (BD (m+1)))else(bif ((f.bY.length:Int)==0)then some ((f.Depth==1),h)else(BF f.bY 0).bind fun s=>(BF j ((Bg h s).getD 0)).bind fun u=>acE f j h u.Depth 0))
def aIX (h:AO) (j:Am) (f:(List (Int×Int))):Int→Option (Bool×(List (Int×Int))):=bF (aDW h j f) Ar
def pq (h:Am) (f:(List (Int×Int))) (j:AO):Option (Bool×(List (Int×Int))):=aIX j h f 0
def ale (aA NZ dQ r) (h:pq aA NZ dQ=some r):BI 161 [BO aA,.mp 0,Dq dQ] [.map (List.map (Ah Aj AP) NZ)] (BA r.1) [.map (List.map (Ah Aj AP) r.2)]:=Aw.aH Tryz.func161 rfl<|AZ<|Ac<|AL<|.a 2<|.p (Bc AP dQ.dh CO rfl)<|.aW<|AB.block<|Ee (fun Y=>⟨BM 75 [(0,BO aA),(1,.mp 0),(5,.ptr 1 0),(13,Bj dQ.dh),(14,AY (dQ.dh.length:Int)),(15,AY Y)],[.map (List.map (Ah Aj AP) NZ),.box (Ae (Ap dQ))],1⟩) _ _ _ (Ad 75 57379 [(0,true),(1,true)]) h<|fun J19 k2 I Y h=>AZ<|Ac<|Ag h (fun h=>AB.skip<|Ac<|AB.block<|AQ h fun Z J h=>AL<|.p (Bd AP J CO DN rfl)<|.aW<|AQ h fun x5 L h=>GR A8 A8 A8 (.a 3<|.p (x:=(AY ((Bg NZ Z).getD 0))) (WB (k:=0) (key:=Z) (m:=NZ) AP 0 OA FV zero3 A8 A8 A8 rfl)<|.p (Bd Ap L Cx Dh rfl)<|.a 5<|.nil _)<|Ag h (fun h=>AZ<|Vx) fun h=>AB.skip<|BJ<|.a 2<|.nil<|I _ _ (Ad 75 57379 [(0,true),(1,true)]) h) fun h=>AB.exit<|Ac<|AL<|.a 2<|.p (Bc AP dQ.bY CO rfl)<|.aW<|Ag h (fun h=>AZ<|Vx) fun h=>AB.skip<|D6 h fun x8 M x9 O h=>AL<|.a 4<|.p (Bd AP M CO DN rfl)<|.a 1<|.p (x:=(AY ((Bg NZ x8).getD 0))) (WB (k:=0) (key:=x8) (m:=NZ) AP 0 OA FV zero3 A8 A8 A8 rfl)<|.p (Bd Ap O Cx Dh rfl)<|.aW<|Ac<|AL<|.a 2<|.p (Bc AP dQ.bY CO rfl)<|.aW<|AB.block<|EI (fun f j=>⟨BM 75 [(0,BO aA),(1,.mp 0),(5,.ptr 1 0),(9,AY f),(48,Bj dQ.bY),(49,AY (dQ.bY.length:Int)),(50,AY j)],[.map (List.map (Ah Aj AP) NZ),.box (Ae (Ap dQ))],1⟩) _ _ _ _ (Ad 75 1970324836975139 [(0,true),(1,true)]) h<|fun J18 k12 n f j h=>AZ<|Ac<|Ag h (fun h=>AB.skip<|Ac<|AB.block<|AQ h fun q s h=>AL<|.p (Bd AP s CO DN rfl)<|.aW<|AQ h fun S u h=>BJ<|.a 4<|.p (x:=(AY ((Bg NZ q).getD 0))) (WB (k:=0) (key:=q) (m:=NZ) AP 0 OA FV zero3 A8 A8 A8 rfl)<|.p (Bd Ap u Cx Dh rfl)<|.a 2<|.p (x:=(AY (TM f S.Depth))) (ar4 rfl)<|.a 1<|.nil<|BJ<|.a 2<|.nil<|n _ _ _ (Ad 75 1970324836975139 [(0,true),(1,true)]) h) fun h=>AB.exit<|AL<|.a 4<|AQ h fun U z h=>.mg 68 6 (BA U) (.bi z)<|.aW<|Vx
def aCx (f:Am) (m:(Int→(List (Int×Int))→Option Int)):Int→(List (Int×Int))→Option Int:=fun h n=>(bif decide (h<(f.length:Int))then(BF f h).bind fun q=>(pq f n q).bind fun j=>(bif (!j.1)then some 15 else m (BD (h+1)) j.2)else some 0)
def aIx (f:Am):Int→(List (Int×Int))→Option Int:=aX (aCx f) Ar
def Fn2 (f:Am):Option Int:=(qB f).bind fun h=>(bif (!h)then some 14 else(VW f).bind fun j=>aIx f 0 j)
def arR (aA r) (h:Fn2 aA=some r):BI 112 [BO aA] [] (AY r) []:=Aw.aH Tryz.func112 rfl<|AZ<|Ac<|AQ h fun L f h=>AL<|.a 1<|.ca (agA aA L f)<|.aW<|Ag h Bz fun h=>AB.skip<|AQ h fun z j h=>AL<|.a 1<|.e (x:=.mp 0) [.map (List.map (Ah Aj AP) z)] (DU [] [BO aA] (iR aA z j) rfl)<|.aW<|Ac<|AL<|.a 1<|.p (Bc Ap aA Cx rfl)<|.aW<|AB.block<|EI (fun I m=>⟨BM 24 [(0,BO aA),(3,.mp 0),(11,AY (aA.length:Int)),(12,AY I)],[.map (List.map (Ah Aj AP) m)],0⟩) _ _ _ _ (Ad 24 6153 [(0,true)]) h<|fun M O n I m h=>AZ<|Ac<|Ag h (fun h=>AB.skip<|Ac<|AB.block<|AZ<|D6 h fun J q s u h=>AL<|.a 4<|.p (Bd Ap q Cx Dh rfl)<|.a 1<|.e (x:=(BA s.1)) [.map (List.map (Ah Aj AP) s.2)] (DU [.ent 0] [BO aA,.mp 0,Dq J] (ale aA m J s u) rfl)<|.aW<|Ag h Bz fun h=>AB.skip<|BJ<|.a 2<|.nil<|n _ _ _ (Ad 24 6153 [(0,true)]) h) fun h=>Fv
end Go.Proofs.YtolgdkhlelfpoaaGreat
end
