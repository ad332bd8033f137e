/- Part 3 of what the laws' proofs lean on: states of the walk, typed functions of the program and their laws (short forms written by wip/shrink.py; no condition). -/
import Derived.Test.YtolgdkhlelfpoaaGreatRj2
set_option linter.defProp false
set_option linter.unnecessarySimpa false
set_option linter.unusedVariables false
set_option linter.unusedSimpArgs false
section
namespace Go.Proofs.YtolgdkhlelfpoaaGreat
open Go.RowKit Go.Sort
section
variable {α : Type}
def Yt (le:α→α→Bool) (x:α):List α→List α
 | []=>[x]
 |y::l=>bif le x y then x::y::l else y::Yt le x l
def QB (le:α→α→Bool) (l:List α):List α:=l.foldr (Yt le) []
def aH3 (le:α→α→Bool) (x:α):∀l,(Yt le x l).Perm (x::l)
 | []=>.refl _
 |y::l=>by
  unfold Yt;cases h:le x y with
  |true=>exact .refl _
  |false=>exact((aH3 le x l).cons y).trans (.swap x y l)
def Xt (le:α→α→Bool):∀l,(QB le l).Perm l
 | []=>.refl _
 |x::l=>(aH3 le x (QB le l)).trans ((Xt le l).cons x)
def aeP {le:α→α→Bool} (m:∀x y z,le x y=true→le y z=true→le x z=true) (q:∀x y,le x y=false→le y x=true) (x:α):∀l,l.Pairwise (fun a b=>le a b=true)→(Yt le x l).Pairwise (fun a b=>le a b=true)
 | [],_=>by simp[Yt]
 |y::l,h=>by
  have h':=PD.1 h;unfold Yt;cases j:le x y with
  |true=>
   refine PD.2 ⟨fun z f=>?_,h⟩;rcases Ew.1 f with rfl|f
   ·exact j
   exact m x y z j (h'.1 z f)
  |false=>
   refine PD.2 ⟨fun z f=>?_,aeP m q x l h'.2⟩;rcases Ew.1 ((aH3 le x l).mem_iff.1 f)with rfl|f
   ·exact q _ _ j
   exact h'.1 z f
def aIs {le:α→α→Bool} (f:∀x y z,le x y=true→le y z=true→le x z=true) (j:∀x y,le x y=false→le y x=true):∀l:List α,(QB le l).Pairwise (fun a b=>le a b=true)
 | []=>.nil
 |x::l=>aeP f j x _ (aIs f j l)
def asY {le:α→α→Bool} (f:∀x y z,le x y=true→le y z=true→le x z=true) (j:∀x y,le x y=false→le y x=true) (ha:∀x y,le x y=true→le y x=true→x=y) {l m:List α} (q:m.Perm l) (s:m.Pairwise (fun a b=>le a b=true)):m=QB le l:=
 (q.trans (Xt le l).symm).eq_of_pairwise (fun a b _ _ u I=>ha a b u I) s (aIs f j l)
def aGl {e:α→D} {enc:α→List Value} (f:∀x,(e x).cells=(enc x).map .lit):∀l:List α,flat (l.map e)=(l.flatMap enc).map fun v=>.d (.lit v)
 | []=>rfl
 |x::l=>by rw[JD,UD,aGl f l,f,KW,I9,ZI];rfl
def aAg {enc:α→List Value} {k:Nat} (f:∀x,(enc x).length=k):∀l:List α,(l.flatMap enc).length=l.length*k
 | []=>BK
 |x::l=>by rw[KW,Dx,f,aAg f l,FK,XG,yY,P7]
def aKm {e:α→D} {enc:α→List Value} {k:Nat} (m:∀x,(e x).cells=(enc x).map .lit) (z:∀x,(enc x).length=k) (M:∀x,∀v∈enc x,v.oneCell'=true) {ok:Nat→Prop} {w:World} {H:List Ba} {h:Ba} {T:TypeId} {l:List α}:
 EW ok w H h (.arr T k (l.map e))↔h.size=k∧lG w T k h.v l.length (l.flatMap enc):=by
 have hl:=aAg z l;constructor
 ·rintro⟨q,_,xs,j,s,I⟩;refine⟨q,?_⟩;rw[Ch]at j
  have :xs=l.flatMap enc:=by
   rw[aGl m]at s I;rw[Ch]at s;refine Z9 s fun i hi J=>?_;have L:=(I i gX).2;simp only[List.getD,IY,Dl J,HY,Lc,Dl hi]at L;cases L with |d _ _ h=>rw[DT.abH h]
  rw[←this];exact j
 rintro⟨q,j⟩;refine⟨q,fun x u=>?_,l.flatMap enc,by rw[Ch];exact j,?_⟩
 ·obtain⟨n,_,rfl⟩:=F7.1 u;rw[m,Ch,z]
 rw[aGl m];refine⟨BK,fun i hi=>?_⟩;have f:i<(l.flatMap enc).length:=FX
 simp only[List.getD,IY,Dl f,HY,Lc];refine⟨?_,.d _ _ (.lit _)⟩;obtain⟨x,_,u⟩:=Qj.1 (Eh f);exact M x _ u
def ahB {f:Array Value} (j:f.size=2):f= #[f.getD 0 undef,f.getD 1 undef]:=by
 refine Xd Zt fun i q m=>?_;simp at m;have :i=0∨i=1:=AL
 rcases this with rfl|rfl<;>simp[Array.getD,j]
def Am.arK {P:Program} {f g:FuncId} {T:TypeId} {k:Nat} {e:α→D} {enc:α→List Value} (J:∀x,(e x).cells=(enc x).map .lit) (hk:∀x,(enc x).length=k) (h1:∀x,∀v∈enc x,v.oneCell'=true) {l r:List α}
 (h:∀(v:Value) (w:World),lG w T k v l.length (l.flatMap enc)→Calls P f #[v,.func (.func g) #[] #[]] w fun x w'=>x=.returned (.tuple #[])∧lG w' T k v r.length (r.flatMap enc)∧Turns v w w'):
 Am P f [.aS 0,.d (.fn (.func g) [] [])] [.arr T k (l.map e)] (.eF []) [.arr T k (r.map e)]:=by
 intro ok X H w s L hs ha;have h0:=ha 0 BK;have M:=ha 1 BK;rw[ahB hs];obtain⟨hd,Z,hok⟩:=FV L.ent L.hlen (k:=0) rfl;obtain hv:=O8 h0 Z
 have hf:s.getD 1 undef=.func (.func g) #[] #[]:=by
  simp only[List.getD,zn,aE9,Lc]at M;generalize s.getD 1 undef=u at M;cases M with
  |d _ _ M=>
   cases M with
   |fn _ _ _ vs us hl hm'=>
    have e1:vs= #[]:=XL KX;have e2:us= #[]:=XL (by simpa using hm');rw[e1,e2]
 rw[hv,hf];obtain⟨hz,how⟩:=(aKm J hk h1).1 hok;refine(h hd.v w how).mono ?_;rintro x w' ⟨rfl,O,I⟩;have q:=fun b U=>L.blk 0 _ hd b rfl rfl Z U
 have hg:=L.change (ok':=ok) (H':=H) (w':=w') (es':=[.arr T k (r.map e)]) (fun c=>DC hd.v=some c) I.os I.tape I.output I.size I.block (fun c J _=>⟨(q c J).1,(q c J).2.2⟩) (fun _ h=>h) (fun _ h=>.inl h) (.refl _) L.hlen (by
  intro j e' h' m Y
  match j,m with
  |0,m=>
   simp at m;subst m;rw[Z]at Y;obtain rfl:=CO Y;refine .inr ⟨(aKm J hk h1).2 ⟨hz,O⟩,fun _ b U=>⟨(q b U).1,UM (q b U).2.1 I.size,(q b U).2.2,fun k' e'' h'' hne z=>?_⟩⟩
   match k',z with
   |0,_=>exact absurd rfl hne
   |k'+1,z=>simp at z
  |k+1,m=>simp at m)
 exact⟨_,ok,H,rfl,hg.1,.eF [] #[] rfl (fun i hi=>MN)⟩
end
section
variable {α : Type} [Inhabited α]
def aMw {enc:α→List Value} {k:Nat} (j:∀x,(enc x).length=k) (l:List α):(flatK enc k l.toArray).toList=l.flatMap enc:=by
 have key:∀(l:List α) (t:Nat),t<l.length*k→(enc (l[t/k]?.getD default))[t % k]? =(l.flatMap enc)[t]? :=by
  intro l
  induction l with
  |nil=>intro t f;simp at f
  |cons x l s=>
   intro t f;rw[FK,XG,yY]at f;rw[KW];by_cases h:t<k
   ·rw[Nat.div_eq_of_lt h,Nat.mod_eq_of_lt h,Fr (by rw[j];exact h)];rfl
   have h':k≤t:=RI h;rcases XW k with m|m
   ·subst m;simp at f
   have u:t/k=(t-k)/k+1:=Nat.div_eq_sub_div m h';rw[u,Nat.mod_eq_sub_mod h',Ir (by rw[j];exact h'),j,←s (t-k) AL,zn]
 refine Z9 (by simp[aAg j]) fun t z I=>?_;have f:t<l.length*k:=Qw
 have :=key l t f;rw[Dl I]at this;have q:=get_flatK enc k l.toArray t RJ;rw[mD _ _ RJ]at q;rw[Array.getElem_toList,q];have J:(l.toArray)[t/k]! =l[t/k]?.getD default:=BK
 rw[J];simp[List.getElem!_eq_getElem?_getD,this]
end
def RX (a b:Int):Int:=if a<b then -1 else if a>b then 1 else 0
def Wu (p q:Int×Int×Int):Int:=if p.2.1=q.2.1 then(if p.2.2=q.2.2 then RX p.1 q.1 else RX p.2.2 q.2.2)else RX q.2.1 p.2.1
def aGR (a b:Int):RX a b<0↔a<b:=by
 unfold RX;split
 ·omega
 split<;>omega
def arP (p q:Int×Int×Int):Wu p q<0↔q.2.1<p.2.1∨p.2.1=q.2.1∧(p.2.2<q.2.2∨p.2.2=q.2.2∧p.1<q.1):=by
 unfold Wu;split
 ·split
  ·rw[aGR];omega
  rw[aGR];omega
 rw[aGR];omega
def agW (a b:Int) (W:World):Calls Tryz.prog 423 #[.int .i64 a,.int .i64 b] W fun e w'=>e=.returned (.int .i64 (RX a b))∧w'=W:=by
 unfold RX
 go_enter Tryz.func423,Tryz.ntmps423
 go_wp2
 all_goals (go_ret;exact⟨rfl,rfl⟩)
set_option maxHeartbeats 1000000 in
def aiC (r p1 p2 p3 q1 q2 q3:Int) (hr:r=if p2=q2 then(if p3=q3 then RX p1 q1 else RX p3 q3)else RX q2 p2) (W:World):Calls Tryz.prog 422 #[.agg #[.int .i64 p1,.int .i64 p2,.int .i64 p3],.agg #[.int .i64 q1,.int .i64 q2,.int .i64 q3]] W fun e w'=>e=.returned (.int .i64 r)∧∃q j,w'=grow (W.drewN q) j:=by
 have f:=agW;generalize RX=c at f hr;have m:p2≠q2→c q2 p2=r:=fun h=>by rw[hr,D9 h]
 have s:p2=q2→p3≠q3→c p3 q3=r:=fun h k=>by rw[hr,Cb h,D9 k]
 have u:p2=q2→p3=q3→c p1 q1=r:=fun h k=>by rw[hr,Cb h,Cb k]
 clear hr
 go_enter Tryz.func422,Tryz.ntmps422
 go_wp2_with (go_at_call 423;refine(f _ _ _).mono ?_;rintro e w' ⟨rfl,rfl⟩)
 all_goals go_ret
 ·rename_i h;rw[m Jf];exact⟨rfl,0,_,aI0⟩
 ·rename_i h k;rw[s Jf (by simpa using k)];exact⟨rfl,0,_,aI0⟩
 rename_i h k;rw[u Jf (by simpa using k)];exact⟨rfl,0,_,aI0⟩
def J7 (p q:Int×Int×Int):Bool:= !decide (Wu q p<0)
def nK (p q:Int×Int×Int):J7 p q=true↔¬(p.2.1<q.2.1∨q.2.1=p.2.1∧(q.2.2<p.2.2∨q.2.2=p.2.2∧q.1<p.1)):=by
 unfold J7;rw[Qp,X5,arP]
def aMr (x y z:Int×Int×Int) (h:J7 x y=true) (k:J7 y z=true):J7 x z=true:=by
 rw[nK]at *;omega
def alQ (x y:Int×Int×Int) (h:J7 x y=false):J7 y x=true:=by
 have h:¬J7 x y=true:=by rw[h];decide
 rw[nK]at *;omega
def agX (x y:Int×Int×Int) (h:J7 x y=true) (k:J7 y x=true):x=y:=by
 rw[nK]at *;obtain⟨f,j,m⟩:=x;obtain⟨q,s,u⟩:=y;simp only[Qx]at *;omega
def aes (p q:Int×Int×Int):J7 p q=false↔(p.2.1<q.2.1∨q.2.1=p.2.1∧(q.2.2<p.2.2∨q.2.2=p.2.2∧q.1<p.1)):=by
 rw[←Jb,nK,Decidable.not_not]
def al3 (x y z:Int×Int×Int) (h:J7 y x=false) (k:J7 z y=false):J7 z x=false:=by
 rw[aes]at *;omega
section
variable {α : Type}
def zK (f:α→Int×Int×Int) (l:List α):Option (List α):=if l.length≤1099511627776 then some (QB (fun x y=>J7 (f x) (f y)) l)else none
def NT (f:α→Int×Int×Int) (x:α):List Value:=[.int .i64 (f x).1,.int .i64 (f x).2.1,.int .i64 (f x).2.2]
def aop (f:α→Int×Int×Int) (x:α):(NT f x).length=3:=rfl
def aJE (f:α→Int×Int×Int) (x:α):∀v∈NT f x,v.oneCell'=true:=fun v j=>by
 simp[NT]at j;rcases j with rfl|rfl|rfl<;>rfl
def wV (f:α→Int×Int×Int) (x y:α):ltOf (fun x y=>Wu (f x) (f y)) x y= !J7 (f y) (f x):=by simp[ltOf,J7]
def akw (f:α→Int×Int×Int):SWO (ltOf fun x y:α=>Wu (f x) (f y)):=by
 refine⟨fun x=>?_,fun x y z h k=>?_,fun x y z h k=>?_⟩
 ·rw[wV,(nK (f x) (f x)).2 AL];rfl
 ·rw[wV,Qp]at *;exact al3 _ _ _ h k
 rw[wV,Bool.not_eq_false']at *;exact aMr _ _ _ k h
variable [Inhabited α]
def ail (f:α→Int×Int×Int) (blk off size:Nat) (w:World):CmpLays Tryz.prog 422 #[] (NT f) 3 (fun x y=>Wu (f x) (f y)) blk off size w:=
 fun m os j _ x y=>aiC (Wu (f x) (f y)) (f x).1 (f x).2.1 (f x).2.2 (f y).1 (f y).2.1 (f y).2.2 rfl (sortWorldK (NT f) 3 w blk off m j os)
set_option maxHeartbeats 2000000 in
def akK (f:α→Int×Int×Int) (hf:∀x y,f x=f y→x=y) (e:α→D) (he:∀x,e x=.agg [AY (f x).1,AY (f x).2.1,AY (f x).2.2]) (l r:List α) (h:zK f l=some r):
 BF 421 [.aS 0,.d (.fn (.func 422) [] [])] [.arr 351 3 (l.map e)] (.eF []) [.arr 351 3 (r.map e)]:=by
 unfold zK at h;split at h
 ·rename_i hn;obtain rfl:=CO h;have O:=aop f;refine Am.arK (enc:=NT f) (fun x=>by rw[he];rfl) O (aJE f) fun v w how=>?_;generalize hr:QB (fun x y=>J7 (f x) (f y)) l=r;have s:r.length=l.length:=by rw[←hr];exact(Xt _ l).length_eq
  rcases how.2 with⟨rfl,h0⟩|⟨g,cap,u,rfl,hbase,hg,hnc,hcm,hcs,I⟩
  ·have hl:l=[]:=GY h0;have hl':r=[]:=GY (by rw[s,h0]);subst hl;subst hl';refine(AnyF.slices_SortFunc_none (P:=Tryz.prog) (ρ:=Tryz.UC) { Tryz.akG with } none 0 _ w).mono ?_;rintro e w' ⟨rfl,h⟩;subst h;exact⟨rfl,lG.nil _ _ _,Turns.refl _ _⟩
  have U:g<w.heap.size:=(FN.1 hg).1;have m:=aMw (enc:=NT f) O l
  have hH:HoldsK (NT f) 3 w g 0 l.toArray:=by
   unfold HoldsK;have J:(flatK (NT f) 3 l.toArray).size=l.length*3:=BK
   generalize flatK (NT f) 3 l.toArray=F at m J;intro j L;refine⟨?_,by simp[World.frozen?,hg]⟩;have e0:(u.toList.take (l.length*3))[j]? =(l.flatMap (NT f))[j]? :=by rw[I]
   rw[LZ AL,←m]at e0;simp only[World.cell?,hg,Ie];simp only[Option.isSome_none,SE,Jl];rw[←kW,e0,kW,mD F j L,dU L];rfl
  have eg:∀args w,(callFunc 422 args).run Tryz.prog w=.ok (.enter 422 args) w:=enters_of Tryz.func422 A8 rfl;have :=AnyQ.slices_SortFunc (P:=Tryz.prog) (ρ:=Tryz.UC) Tryz.akG 3 Tryz.isAgg351 Tryz.sizeOf351 (NT f) O (aJE f) (fun x y=>Wu (f x) (f y)) (akw f) 422 #[] g 0 cap l.toArray w eg (ail f _ _ _ _) hH U E8;refine this.mono ?_;rintro e' w' ⟨rfl,M,n,os,hp,hs,rfl⟩;obtain⟨Y,_,q⟩:=hp;have Z:M.size=l.length:=by simpa using Y
  have e1:M.extract 0 l.toArray.size=M:=by rw[←Y];exact Array.extract_size
  rw[e1,Array.extract_size]at q
  have hm:M.toList=r:=by
   rw[←hr];refine asY (le:=fun x y=>J7 (f x) (f y)) (fun x y z=>aMr (f x) (f y) (f z)) (fun x y=>alQ (f x) (f y)) (fun x y h k=>hf _ _ (agX (f x) (f y) h k)) q ?_;refine KQ.2 fun i j hi L hij=>?_;have :=hs i j (EF _) hij (by simpa[Z]using L);rw[wV,mD M i FX,mD M j (by simpa using L)]at this;simpa using this
  obtain rfl:M=r.toArray:=by rw[←hm]
  have hF:=aMw (enc:=NT f) O r;have J:(flatK (NT f) 3 r.toArray).size=l.length*3:=by simp[s]
  generalize hFF:flatK (NT f) 3 r.toArray=F at hF J;refine⟨rfl,⟨by rw[aAg O],.inr ⟨g,cap,putCells id 0 F u,by rw[s],EF _,?_,AL,hcm,by simpa[putCells]using hcs,?_⟩⟩,⟨rfl,rfl,rfl,by simp[sortWorldK,putRowK],fun c hc hne=>?_⟩⟩
  ·unfold sortWorldK putRowK;rw[hFF,heap_grow_old _ _ aBD];simp[putRow,mapBlock,Sort.ahead,NH,hg,onCells]
  ·rw[←hF,s];apply dP;intro j;by_cases L:j<l.length*3
   ·have hjc:j<u.size:=by have :=Iu 3 hnc;omega
    rw[LZ L,kW,kW];have hjF:j<F.size:=AL
    simp[putCells,hjF,hjc]
   rw[List.getElem?_take_eq_none AL,Jp E8]
  unfold sortWorldK putRowK;rw[heap_grow_old _ _ (by simpa using hc)];have :g≠c:=fun e=>hne jB;simp[putRow,mapBlock,Sort.ahead,NH,this]
 cases h
end
end Go.Proofs.YtolgdkhlelfpoaaGreat
end
section
namespace Go.Proofs.YtolgdkhlelfpoaaGreat
open Go.RowKit
def CW.freeze {C:Dv} {ok:Nat→Prop} {H:List Ba} {es:List BH} {w:World} (m:CW C ok H es w) {k:Nat} {e:BH} {hd:Ba} (Z:es[k]? =some e) (hl:e.live=true) (L:H[k]? =some hd):CW C (fun b=>ok b∨DC hd.v=some b) H (es.set k .dead) w:=by
 have s:k<es.length:=(FC.1 Z).1;have I:=fun b f=>m.blk k _ hd b Z hl L f;have hg:Dz ok w (fun b=>ok b∨DC hd.v=some b) w:=fun b f=>⟨.inl f,rfl⟩
 refine⟨m.fr,fun b f=>.inl (m.vY b f),?_,?_,m.names,by simp[m.hlen],?_,?_,?_⟩
 ·rintro b (f|f)
  ·exact m.vZ b f
  exact .inr (I b f).2.2
 ·rintro b (f|f)
  ·exact m.jF b f
  exact(I b f).2.1
 ·intro j e' h' he u;rcases KR s he with⟨rfl,rfl⟩|⟨_,z⟩
  ·trivial
  exact(m.ent j e' h' z u).mono hg (.refl _) (fun _ _ _=>rfl)
 ·intro j e' h' b he J u f;rcases KR s he with⟨rfl,rfl⟩|⟨hne,z⟩
  ·cases J
  have h3:=m.blk j e' h' b z J u f;refine⟨fun q=>?_,h3.2⟩;rcases q with q|q
  ·exact h3.1 q
  exact hne (m.Cm j k e' _ h' hd b z Z J hl u L f q)
 intro i j e1 e2 h1 h2 b he1 he2 M O hh1 hh2 hb1 hb2;rcases KR s he1 with⟨rfl,rfl⟩|⟨_,U⟩
 ·cases M
 rcases KR s he2 with⟨rfl,rfl⟩|⟨_,Y⟩
 ·cases O
 exact m.Cm i j e1 e2 h1 h2 b U Y M O hh1 hh2 hb1 hb2
section
variable {P : Program} {o : Oper} {es : List BH}
def agm {t J L:TypeId} {x:Operand} {k:Nat} {m:List (Value×D)} (ht:P.underlying t=some (.map J L)) (M:es[k]? =some (.map m)) (ho:o.op=.range t x):Bc P o [(x,.mp k)] es (.ptr es.length 0) (es.set k .dead++[.iter m []]):=
 .eff fun C ok H a w f hn=>by
  obtain⟨hd,O,s⟩:=FV f.ent f.hlen M;obtain⟨b,ms,clock,U,u,h3⟩:=s;have Y:=Qy (hn (x,.mp k) BK) O;simp only at Y;have hb:b<w.heap.size:=(FN.1 u).1;have Z:=f.freeze M rfl O;have g0:Dz ok w (fun c=>ok c∨DC hd.v=some c) w:=fun c q=>⟨.inl q,rfl⟩
  have z:DC hd.v=some b:=by rw[U];rfl
  have g1:Dz (fun c=>ok c∨DC hd.v=some c) w (fun c=>ok c∨DC hd.v=some c) (w.alloc (.mapIter (some b) clock #[] clock)):=fun c q=>⟨q,Io _ _ _ (Z.jF c q)⟩
  have I:EW (fun c=>ok c∨DC hd.v=some c) (w.alloc (.mapIter (some b) clock #[] clock)) (H++[⟨.pointer (some ⟨w.heap.size,0,none⟩),0⟩]) ⟨.pointer (some ⟨w.heap.size,0,none⟩),0⟩ (.iter m []):=
   ⟨w.heap.size,b,ms,clock, #[],rfl,ZJ _ _,.inr z,(Io _ _ _ hb).trans u,(h3.mono g0).mono g1,rfl,fun j i hj=>by simp at hj⟩
  obtain⟨m1,g2⟩:=Z.push (.mapIter (some b) clock #[] clock) ⟨.pointer (some ⟨w.heap.size,0,none⟩),0⟩ _ (aBH w) I;refine⟨.pointer (some ⟨w.heap.size,0,none⟩),_,_,_,.inl ?_,g0.trans g2,Names.push _ _,m1,.ptr _ _ w.heap.size 0 rJ⟩;have hr:=run_range_map (P:=P) w t J L b ms clock ht u;simp[execOp,ho,Y,U,hr]
def born_inj {ok:Nat→Prop} {w:World} {es:List (Value×D)} {ms:Array MapEntry} {clock:Nat} (h:JF ok w es ms clock) {i j:Nat} {m n:MapEntry} (hi:ms[i]? =some m) (q:ms[j]? =some n) (s:m.born=n.born):i=j:=by
 rcases nX i j with f|f|f
 ·have :=h.inc i j m n f hi q;omega
 ·exact f
 have :=h.inc j i n m f q hi;omega
def aq5 {ok:Nat→Prop} {w:World} {es:List (Value×D)} {ms:Array MapEntry} {clock:Nat} (h:JF ok w es ms clock):(ms.toList.map (·.born)).Nodup:=by
 unfold List.Nodup;rw[KQ];intro i j hi f m;simp only[Ch,QN]at hi f;have q:ms[i]? =some ms[i]:=Oo
 have s:ms[j]? =some ms[j]:=WU
 simp only[TD,Array.getElem_toList];intro e;have :=born_inj h q s e;omega
def aqR {K V:Type} {x:Operand} {n i:Nat} {ek:K→Value} {ev:V→D} {m:List (K×V)} {vis:List Nat} {p:K×V} (Z:m[i]? =some p) (he:es[n]? =some (.iter (m.map (Aj ek ev)) (vis++[i]))) (ho:o.op=.entry x):
 Bc P o [(x,.ptr n 0)] es (.eF [.d (.lit (ek p.1)),.d (ev p.2)]) es:=
 .pure fun ok H a w q hl hn=>by
  obtain⟨hd,hh,z⟩:=FV q hl he;obtain⟨bi,L,ms,clock,seen,M,h2,h3,h4,O,h6,h7⟩:=z;have I:=hn (x,.ptr n 0) BK;simp only at I;generalize hv:a.eval x=v at I;cases I with
  |ptr _ _ b' s U=>
   rw[hh]at U;obtain rfl:=CO U;simp only[Value.pointer.injEq,Jq,Addr.mk.injEq]at M;obtain⟨rfl,_⟩:=M;obtain⟨e,Y,q2⟩:=h7 vis.length i BK;have J:(m.map (Aj ek ev))[i]? =some (Aj ek ev p):=by rw[IY,Z];rfl
   obtain⟨r1,r2,_⟩:=O.ent i _ e J Y;refine⟨.tuple #[e.key,e.val],?_,.eF _ _ rfl fun j hj=>?_⟩
   ·have f:seen.back?=some e.born:=by
     rw[Array.back?_eq_getElem?,h6];simpa using q2
    have u:e∈ms.toList:=by
     rw[Array.mem_toList_iff];exact Array.mem_of_getElem? Y
    have hf:ms.find? (·.born==e.born)=some e:=by rw[←Array.find?_toList];exact find_born e ms.toList (aq5 O) u
    have g1:(getObj b').run P w=.ok (.mapIter (some L) clock seen clock) w:=by simp[getObj,Sem.run,h2]
    have g2:(getObj L).run P w=.ok (.map ms clock) w:=QM h4;simp[execOp,ho,hv,Instr.entry,g1,g2,f,hf]
   match j,hj with
   |0,_=>rw[show([Ac.d (.lit (ek p.1)),.d (ev p.2)]:List Ac).getD 0 .junk=.d (.lit (ek p.1))from rfl,show(#[e.key,e.val]:Array Value).getD 0 undef=e.key from rfl,r1];exact .d _ _ (.lit _)
   |1,_=>exact .d _ _ r2
end
def agQ {P:Program} {w:World} {ok:Nat→Prop} {ty:TypeId} {bi M clock:Nat} {seen:Array Nat} {ms:Array MapEntry} {es:List (Value×D)} (hi:w.heap[bi]? =some (.mapIter (some M) clock seen clock)) (hb:w.heap[M]? =some (.map ms clock)) (hM:JF ok w es ms clock):
 ((leftOf ms seen).size=0∧(Instr.next (.pointer (some ⟨bi,0,none⟩)) false ty).run P w=.ok (.tuple #[.bool false]) w)∨
 ∃e∈(leftOf ms seen).toList,∃f:World,(f=w∨f=w.drew)∧(Instr.next (.pointer (some ⟨bi,0,none⟩)) false ty).run P w=.ok (.tuple #[.bool true,e.key,e.val]) (f.putObj bi (.mapIter (some M) clock (seen.push e.born) clock)):=by
 have q:∀x∈ms.toList,x.born<clock:=fun x s=>by
  obtain⟨i,hi,rfl⟩:=Hf s;have u:i<ms.size:=FX
  have O:i<es.length:=by rw[←hM.len];exact u
  have :=(hM.ent i es[i] ms[i] (by simp[O]) (by simp[u])).2.2;simpa using this
 simp only[Instr.next,getObj,Ei,Sem.run,hi,hb,Result.andThen,next_test_false seen ms clock clock q (Dw _),SE,Jl];unfold leftOf;have m:∀x∈(Array.filter (fun e=> !seen.contains e.born) ms).toList,x.born<clock:=fun x s=>q x (by simp at s ⊢;exact s.1);generalize Array.filter (fun e=> !seen.contains e.born) ms=L at m ⊢;have e1:L.filter (fun x=>decide (x.born<clock))=L:=Array.filter_eq_self.2 (fun x s=>by simpa using m x VJ)
 have e2:L.filter (fun x=>decide (x.born≥clock))= #[]:=by
  rw[Array.filter_eq_empty_iff];intro x s;have :=m x VJ;simp;omega
 simp only[e1,e2,Array.append_empty];by_cases h0:L.size=0
 ·left;have :L= #[]:=XL h0;subst this;refine⟨rfl,?_⟩;simp[choose,Sem.run,Question.forced]
 right;have U:L.isEmpty=false:=by simp[Array.isEmpty,h0]
 simp only[U,SE,Jl,Array.empty_append,Array.size_map]
 have Y:∃(j:Nat) (f:World),j<L.size∧(f=w∨f=w.drew)∧(choose (Question.mapNext L.size)).run P w=.ok j f:=by
  by_cases hf:L.size≤1
  ·exact⟨0,w,AL,.inl rfl,by simp[choose,Sem.run,Question.forced,hf]⟩
  exact⟨_,w.drew,ah _ AL,.inr rfl,by
   simp only[choose,Sem.run,Question.forced,Fl,hf,Jl,Question.cut]
   rfl⟩
 obtain⟨j,f,hj,z,I⟩:=Y;refine⟨L[j],BK,f,z,?_⟩;have Z:f.heap[bi]? =some (.mapIter (some M) clock seen clock):=by rcases z with rfl|rfl<;>exact hi
 have J:∀(o':Obj),(setObj bi o').run P f=.ok () (f.putObj bi o'):=fun o'=>by simp[setObj,Sem.run,Z,World.putObj]
 simp only[I,Array.getElem?_map,dU hj,HY,Ei,J,Result.andThen];rfl
section
variable {P : Program} {ops : Array Oper} {o : Oper} {rest l : List Oper} {σ : Ar} {Q : Exit → Ar → Prop} {K V : Type}
def asR {ms:Array MapEntry} {seen:Array Nat} {e:MapEntry} (h:e∈(leftOf ms seen).toList):e∈ms.toList∧e.born∉seen:=by
 unfold leftOf at h;simp at h;exact⟨by simpa using h.1,h.2⟩
def D5.next {ek:K→Value} {ev:V→D} {x:Operand} {ty:Bool} (n:Nat) (m:List (K×V)) (vis:List Nat) (hn:σ.ents[n]? =some (.iter (m.map (Aj ek ev)) vis)) (ho:o.op=.next x false) (hx:σ.get x=.ptr n 0) (hg:JH ops σ o.guard=some true)
 (h0:(∀i,i<m.length→i∈vis)→D5 P ops rest (σ.pY o.dst (.eF [.d (Cj false)])) Q)
 (h1:∀i p,m[i]? =some p→i∉vis→D5 P ops rest (σ.put o.dst (.eF [.d (Cj true),.d (.lit (ek p.1)),.d (ev p.2)]) (σ.ents.set n (.iter (m.map (Aj ek ev)) (vis++[i])))) Q):D5 P ops (o::rest) σ Q:=by
 refine⟨fun ro l2 Q' C ok H a w u hk=>?_⟩;show wpListIn (Hq ro) 0 P ops Q' (o::(rest++l2)) a w;unfold wpListIn;rw[Cb (Np u (Kw hg))];have hv:=hx▸u.get x;obtain⟨hd,Y,Z⟩:=FV u.mem.ent u.mem.hlen hn;obtain⟨bi,J,ms,clock,seen,q1,q2,q3,q4,q5,q6,q7⟩:=Z
 have I:a.eval x=.pointer (some ⟨bi,0,none⟩):=by
  generalize a.eval x=v at hv;cases hv with
  |ptr _ _ b' s hH=>
   rw[Y]at hH;obtain rfl:=CO hH;simp only[Value.pointer.injEq,Jq,Addr.mk.injEq]at q1;obtain⟨rfl,_⟩:=q1;rfl
 have hlen:ms.size=m.length:=by rw[q5.len,Ch]
 unfold Oper.wpIn;rw[ZN _ _ _ (by rw[ho];intro c h;cases h)];rcases agQ (P:=P) (ty:=o.type) q2 q4 q5 with⟨hs,hr⟩|⟨e,L,w1,hw1,hr⟩
 ·have he:(execOp a.eval o).run P w=.ok (.value (.tuple #[.bool false])) w:=by simp[execOp,ho,I,hr]
  rw[he];refine⟨fun _ _=>trivial,?_⟩
  refine(h0 fun i hi=>?_).run ro l2 Q' C ok H _ w (u.put o.dst (.refl _ _) (.refl _) u.mem (.eF _ _ rfl fun j f=>by
   match j,f with
   |0,_=>exact .d _ _ (.lit _))) hk
  have M:i<ms.size:=AL
  have hnot:ms[i]∉(leftOf ms seen).toList:=by
   have :leftOf ms seen= #[]:=XL hs;rw[this];simp
  have hin:ms[i].born∈seen:=by
   apply UN;intro hc;refine hnot ?_;unfold leftOf;simp[hc]
  obtain⟨j,f,O⟩:=Array.getElem_of_mem hin;have hjv:j<vis.length:=AL
  obtain⟨e,r1,r2⟩:=q7 j vis[j] (by simp[hjv])
  have hb:e.born=ms[i].born:=by
   have e3:seen[j]? =some seen[j]:=WU
   rw[e3,O]at r2;exact(CO r2).symm
  have :=born_inj q5 r1 (show ms[i]? =some ms[i] by simp[M]) hb;rw[←this];simp
 have he:(execOp a.eval o).run P w=.ok (.value (.tuple #[.bool true,e.key,e.val])) (w1.putObj bi (.mapIter (some J) clock (seen.push e.born) clock)):=by simp[execOp,ho,I,hr]
 rw[he];refine⟨fun _ _=>trivial,?_⟩;obtain⟨axN,hes⟩:=asR L;obtain⟨i,hi,hie⟩:=Hf axN;have M:i<ms.size:=FX
 have U:ms[i]? =some e:=by rw[←hie];simp[M]
 have him:i<m.length:=AL
 have hpe:(m.map (Aj ek ev))[i]? =some (Aj ek ev m[i]):=by simp[him]
 obtain⟨r1,r2,_⟩:=q5.ent i _ e hpe U
 have axO:i∉vis:=fun hc=>by
  obtain⟨j,f,O⟩:=Hf hc;obtain⟨e2,s1,s2⟩:=q7 j i (by simp[←O,f]);rw[U]at s1;obtain rfl:=CO s1;exact hes (Array.mem_of_getElem? s2)
 have z:CW C ok H σ.ents w1∧Dz ok w ok w1:=by
  rcases hw1 with rfl|rfl
  ·exact⟨u.mem,.refl _ _⟩
  exact u.mem.drew
 have hi1:w1.heap[bi]? =some (.mapIter (some J) clock seen clock):=by rcases hw1 with rfl|rfl<;>exact q2
 have q:w1.heap[J]? =some (.map ms clock):=(z.2 J q3).2.trans q4;have hne:J≠bi:=fun e=>by rw[e,hi1]at q;cases q
 obtain⟨m2,g2⟩:=z.1.ado (o:=.mapIter (some J) clock (seen.push e.born) clock) (e':=.iter (m.map (Aj ek ev)) (vis++[i])) hn rfl Y (by rw[q1];rfl)
  (fun g=>⟨bi,J,ms,clock,seen.push e.born,q1,VB (FN.1 hi1).1,q3,(X9 hne).trans q,(q5.mono z.2).mono g,by simp[q6],fun j i' f=>by
   by_cases hjl:j<vis.length
   ·rw[Fr hjl]at f;obtain⟨e2,s1,s2⟩:=q7 j i' f;exact⟨e2,s1,by rw[Array.getElem?_push_lt AL];simpa[dU (show j<seen.size by omega)]using s2⟩
   have hj2:j=vis.length:=by
    have :=(FC.1 f).1;simp at this;omega
   subst hj2;simp at f;subst f
   exact⟨e,U,by rw[←q6];simp⟩⟩)
 have g3:=z.2.trans g2
 have hp:=(h1 i m[i] (by simp[him]) axO).run ro l2 Q' C ok H (a.put o.dst (.tuple #[.bool true,e.key,e.val])) _ (u.put o.dst (x:=.eF [.d (Cj true),.d (.lit (ek m[i].1)),.d (ev m[i].2)]) g3 (.refl _) m2 (.eF _ _ rfl fun j f=>by
  match j,f with
  |0,_=>exact .d _ _ (.lit _)
  |1,_=>
   show R ok _ H (.d (.lit (ek m[i].1))) e.key;rw[r1];exact .d _ _ (.lit _)
  |2,_=>exact .d _ _ (r2.mono g3))) hk
 exact hp
def AO.at6 {A Rr:Type} {cd:Code} (S:List Nat→A→Ar) (m:List (K×V)) (step:A→K×V→Option A) (Kf:A→Option Rr) (r:Rr) (a0:A) (hs:CJ σ (S [] a0))
 (I:∀vis:List Nat,vis.Nodup→(∀i,i∈vis↔i<m.length)→((vis.filterMap fun(i:Nat)=>m[i]?).foldlM step a0).bind Kf=some r)
 (round:∀(J:Ar→Prop) (vis:List Nat) (a:A),((∀i,i<m.length→i∈vis)→Kf a=some r)→(∀i p,m[i]? =some p→i∉vis→∃a',step a p=some a'∧∀s,CJ s (S (vis++[i]) a')→J s)→AO P cd (S vis a) (Jh J Q)):AO P (.loop cd) σ Q:=by
 have O:∀vis:List Nat,vis.Nodup→(∀i∈vis,i<m.length)→∃rest,(vis++rest).Nodup∧(∀i,i∈vis++rest↔i<m.length):=fun vis f q=>by
  refine⟨(List.range m.length).filter fun i=> !vis.contains i,?_,fun i=>?_⟩
  ·refine jX.2 ⟨f,List.Pairwise.filter _ List.nodup_range,fun a ha b U e=>?_⟩;subst e;rw[G7]at U;simp[ha]at U
  rw[Gf,G7];constructor
  ·rintro(h|h)
   ·exact q i h
   simpa using h.1
  intro h;by_cases Z:i∈vis
  ·exact .inl Z
  exact .inr ⟨Jf,by simp[Z]⟩
 refine AO.loop (fun n s=>∃vis a,n=m.length-vis.length∧vis.Nodup∧(∀i∈vis,i<m.length)∧(vis.filterMap fun(i:Nat)=>m[i]?).foldlM step a0=some a∧CJ s (S vis a)) (m.length) ⟨[],a0,BK,Xj,fun i h=>Gw,rfl,hs⟩ ?_;rintro n s ⟨vis,a,rfl,f,q,hf,L⟩;refine CZ L (round _ vis a (fun Z=>?_) (fun i p hp hi=>?_))
 ·have :=I vis f (fun i=>⟨q i,Z i⟩);rw[hf]at this;exact this
 have him:i<m.length:=(FC.1 hp).1;have u:(vis++[i]).Nodup:=jX.2 ⟨f,BK,fun a ha b U e=>by simp at U;subst U;subst e;exact hi ha⟩
 have z:∀j∈vis++[i],j<m.length:=fun j Y=>by
  rcases Gf.1 Y with h|h
  ·exact q j h
  simp at h;subst h;exact him
 obtain⟨rest,h1,h2⟩:=O (vis++[i]) u z;have h3:=I _ h1 h2;rw[dG,dG]at h3;simp only[Na,List.filterMap_nil,hp,List.foldlM_append,Ro,List.foldlM_nil,hf,bind,pure,Af]at h3;cases hst:step a p with
 |none=>rw[hst]at h3;simp at h3
 |some a'=>
  refine⟨a',rfl,fun s hs=>⟨m.length-(vis++[i]).length,?_,vis++[i],a',rfl,u,z,?_,hs⟩⟩
  ·have :vis.length<m.length:=by
    have L:vis.length≤(List.range m.length).length:=by
     refine aKb f ?_;intro j Y;simpa using q j Y
    have M:(vis++[i]).length≤(List.range m.length).length:=by
     refine aKb u ?_;intro j Y;simpa using z j Y
    simp at M;omega
   simp;omega
  rw[dG,List.foldlM_append,hf];simp[hp,hst]
end
def agS {α:Type}:∀(m:List α) (vis:List Nat),vis.Nodup→(∀i,i∈vis↔i<m.length)→(vis.filterMap fun(i:Nat)=>m[i]?).Perm m:=fun m vis f j=>by
 have q:vis.Perm (List.range m.length):=by
  rw[List.perm_iff_count];intro a;rw[f.count,List.nodup_range.count];simp[j a]
 have s:((List.range m.length).filterMap fun(i:Nat)=>m[i]?)=m:=by
  apply dP;intro i
  have :∀(n:Nat),n≤m.length→((List.range n).filterMap fun(i:Nat)=>m[i]?)=m.take n:=by
   intro n
   induction n with
   |zero=>intro _;simp
   |succ n u=>
    intro I;rw[wW,dG,u AL];have hl:n<m.length:=AL
    simp[hl]
  rw[this m.length (Dw _),Jy]
 have z:=q.filterMap (fun(i:Nat)=>m[i]?)
 rwa [s]at z
def aEH {α β:Type} {c:α→Bool} {f:α→β} {b:Nat}:∀(l:List α) (v:List β),
 l.foldlM (fun v p=>bif c p then(DU b v [f p]).bind fun x=>some x else some v) v=if(v.length+(l.filter c).length)*b≤140737488355328∨l.filter c=[]then some (v++(l.filter c).map f)else none
 | [],v=>BK
 |p::l,v=>by
  rw[Ro];cases q:c p with
  |false=>
   have m:=aEH (c:=c) (f:=f) (b:=b) l v;simp only[BO,bind,Af,m,Vs,q,SE,Jl]
  |true=>
   simp only[Bh,Vs,q,KD];have u:DU b v [f p]=if(v.length+[f p].length)*b≤140737488355328 then some (v++[f p])else none:=rfl
   rw[u];by_cases j:(v.length+[f p].length)*b≤140737488355328
   ·rw[Cb j];have m:=aEH (c:=c) (f:=f) (b:=b) l (v++[f p]);simp only[Af,bind,m];have s:(v++[f p]).length+(l.filter c).length=v.length+(p::l.filter c).length:=E8
    rw[s];by_cases hl:l.filter c=[]
    ·rw[hl]at s ⊢;simp only[FK,Nh]at j ⊢;simp[j]
    simp[hl]
   rw[D9 j];simp only[Option.bind_none,bind];rw[D9];rintro(h|h)
   ·refine j (Dn (Iu _ ?_) h);simp
   cases h
def aos {α β Rr:Type} {c:α→Bool} {f:α→β} {b:Nat} {q m:List α} {v:List β} {Kf:List β→Option Rr} {r:Rr} (u:q.Perm m) (z:∀x y,x.Perm y→Kf x=Kf y)
 (h:(m.foldlM (fun v p=>bif c p then(DU b v [f p]).bind fun x=>some x else some v) v).bind Kf=some r):
 (q.foldlM (fun v p=>bif c p then(DU b v [f p]).bind fun x=>some x else some v) v).bind Kf=some r:=by
 rw[aEH]at h ⊢;have j:=u.filter c
 have e:((v.length+(q.filter c).length)*b≤140737488355328∨q.filter c=[])↔((v.length+(m.filter c).length)*b≤140737488355328∨m.filter c=[]):=by
  rw[j.length_eq];constructor
  ·rintro(h|h)
   ·exact .inl h
   exact .inr (by rw[h]at j;exact j.symm.eq_nil)
  rintro(h|h)
  ·exact .inl h
  exact .inr (by rw[h]at j;exact j.eq_nil)
 by_cases s:((v.length+(m.filter c).length)*b≤140737488355328∨m.filter c=[])
 ·rw[Cb s]at h;rw[Cb (e.2 s)];simp only[Af]at h ⊢;rw[←h];exact z _ _ ((j.map f).append_left v)
 rw[D9 s]at h;cases h
section
variable {K V : Type} [BEq K]
def F6 :List (K×V)→K→Nat
 | [],_=>0
 |p::m,k=>bif k==p.1 then 0 else F6 m k+1
def aJy {ek:K→Value} {kd:TypeDesc} (j:∀a b,Instr.sameNow kd (ek a) (ek b)=some (a==b)) (k:K) (v:V):∀(m:List (K×V)) (l:List MapEntry) (i:Nat),l.map (·.key)=m.map (fun p=>ek p.1)→
 (Instr.findNow kd (ek k) l i=some none∧Bv m k=none∧DK m k v=m++[(k,v)]∧F6 m k=m.length)∨
 ∃e p,Instr.findNow kd (ek k) l i=some (some (i+F6 m k,e.val))∧l[F6 m k]? =some e∧m[F6 m k]? =some p∧Bv m k=some p.2∧(k==p.1)=true∧DK m k v=m.set (F6 m k) (k,v)
 | [],[],_,_=>.inl ⟨rfl,rfl,rfl,rfl⟩
 | [],_::_,_,h=>Gw
 |_::_,[],_,h=>Gw
 |p::m,e::l,i,h=>by
  simp only[JD,aEe]at h;cases f:(k==p.1)with
  |true=>
   refine .inr ⟨e,p,?_,?_,?_,?_,f,?_⟩
   ·simp[Instr.findNow,h.1,j,f,F6]
   ·simp[F6,f]
   ·simp[F6,f]
   ·simp[Bv,f]
   simp[DK,F6,f]
  |false=>
   rcases aJy j k v m l (i+1) h.2 with⟨q,s,u,z⟩|⟨e',I,q,s,u,z,J,L⟩
   ·refine .inl ⟨?_,?_,?_,?_⟩
    ·simp[Instr.findNow,h.1,j,f,q]
    ·simp[Bv,f,s]
    ·simp[DK,f,u]
    simp[F6,f,z]
   refine .inr ⟨e',I,?_,by simpa[F6,f]using s,by simpa[F6,f]using u,?_,J,?_⟩
   ·simp[Instr.findNow,h.1,j,f,q,F6];omega
   ·simp[Bv,f,z]
   simp[DK,f,L,F6]
def aLj (k:K) (v:V):∀m:List (K×V),(DK m k v)[F6 m k]? =some (k,v)
 | []=>rfl
 |p::m=>by
  cases f:(k==p.1)with
  |true=>simp[DK,F6,f]
  |false=>simp[DK,F6,f,aLj k v m]
def acM (k:K) (v u:V):∀m:List (K×V),(DK m k v).set (F6 m k) (k,u)=DK m k u
 | []=>rfl
 |p::m=>by
  cases f:(k==p.1)with
  |true=>simp[DK,F6,f]
  |false=>simp[DK,F6,f,acM k v u m]
end
section
variable {ok : Nat → Prop} {w : World} {es : List (Value × D)} {ms : Array MapEntry} {clock : Nat}
def QA.nil:QA #[] 0:=⟨rfl,fun i e h=>Gw⟩
def QA.push (h:QA ms clock) {k v:Value}:QA (ms.push { key:=k,val:=v,born:=clock }) (clock+1):=by
 refine⟨by simp[h.1],fun i e f=>?_⟩;rw[aDe]at f;split at f
 ·rename_i j;obtain rfl:=CO f;rw[j];exact h.1
 exact h.2 i e f
def QA.modify (h:QA ms clock) (j:Nat) (f:MapEntry→MapEntry) (q:∀e,(f e).born=e.born):QA (ms.modify j f) clock:=by
 refine⟨by simp[h.1],fun i e m=>?_⟩;rw[NH]at m;split at m
 ·rw[TQ]at m;obtain⟨s,u,rfl⟩:=m;rw[q];exact h.2 i s u
 exact h.2 i e m
def QA.find (h:QA ms clock) {n:Nat} (f:n<ms.size):ms.findIdx? (fun e=>(e.born:Int)==(n:Int))=some n:=by
 rw[Array.findIdx?_eq_some_iff_getElem];refine⟨f,?_,fun j m=>?_⟩
 ·have :=h.2 n ms[n] WU;simp[this]
 have :=h.2 j ms[j] (by simp[Nat.lt_trans m f]);simp[this];omega
def aok (ms:Array MapEntry) (j:Nat) (k v:Value) (f:∀e,ms[j]? =some e→e.key=k):(ms.modify j fun e=>{ e with val:=v })=ms.modify j fun e=>{ e with key:=k,val:=v }:=by
 apply kN;intro i;rw[NH,NH];split
 ·rename_i e;subst e;cases m:ms[j]? with
  |none=>rfl
  |some e=>simp[f e m]
 rfl
def ajb (ms:Array MapEntry) (j:Nat) (k v:Value) (f:∀e,ms[j]? =some e→e.val=v):(ms.modify j fun e=>{ e with key:=k })=ms.modify j fun e=>{ e with key:=k,val:=v }:=by
 apply kN;intro i;rw[NH,NH];split
 ·rename_i e;subst e;cases m:ms[j]? with
  |none=>rfl
  |some e=>simp[f e m]
 rfl
end
section
variable {P : Program} {o : Oper} {es : List BH} {K V : Type} [BEq K]
def ak2 {t:TypeId} {f:Array (Nat×Operand)} {j:List (Nat×Nat)} {z:Value} {cs:List Ac} (m:Hz P t j z) (vs:List Ac) (q:Iz (fun(i:Nat)=>j[i]?) (Eo z) f.toList vs=cs) (s:Ld (fun(i:Nat)=>j[i]?) (Eo z).length f.toList vs=true) (u:o.op=.build t f):
 Bc P o (LD f.toList vs) es (.ag cs) es:=q▸afF m vs s u
def Uu (x y:Int):Int:=bif decide (y>x)then y else x
def akW {x y:Operand} {ats:Array TypeId} {kd:IntKind} {a b:Int} (q:o.op=.call { callee:=.builtin .max,args:= #[x,y],argTypes:=ats }):
 Bc P o [(x,.d (.lit (.int kd a))),(y,.d (.lit (.int kd b)))] es (.d (.lit (.int kd (Uu a b)))) es:=
 .pure fun ok H c w _ _ f=>by
  have j:=(EN f).1.lit;have m:=(EN f).2.lit;simp only at j m;have e:Uu a b=if b>a then b else a:=by unfold Uu;by_cases h:b>a<;>simp[h]
  refine⟨.int kd (Uu a b),?_,.d _ _ (.lit _)⟩;rw[e];simp[execOp,q,resolve,invoke,builtin,j,m,Go.run_max_int2]
def aGK {t:TypeId} (s:o.op=.makeMap t none):Bc P o [] es (.mp es.length) (es++[.bg []]):=
 .eff fun C ok H a w f L=>by
  have q:EW ok (w.alloc (.map #[] 0)) (H++[⟨.map (some w.heap.size),0⟩]) ⟨.map (some w.heap.size),0⟩ (.bg []):=
   ⟨w.heap.size, #[],0,rfl,(aHf w _).1,⟨rfl,fun i e m u=>kT,fun i j m n _ f=>SH⟩,.nil⟩
  obtain⟨z,I⟩:=f.push (.map #[] 0) ⟨.map (some w.heap.size),0⟩ _ (fun b q=>aCL) q;refine⟨.map (some w.heap.size),_,ok,_,.inl ?_,I,Names.push _ _,z,.mp _ _ 0 rfl rJ⟩;have J:(newObj (.map #[] 0)).run P w=.ok w.heap.size (w.alloc (.map #[] 0)):=rfl;simp[execOp,s,Instr.makeMap,J]
def WX {t u I:TypeId} {x y:Operand} {k:Nat} {ek:K→Value} (ev:V→D) (J:V) {z:Value} {m:List (K×V)} {key:K} (U:P.underlying t=some (.map u I)) (Y:KeyTy P u ek) (Z:(P.info? I).bind (·.zero)=some z) (j:Vt z=ev J) (q:z.cells.all (·.oneCell')=true)
 (he:es[k]? =some (.bg (m.map (Aj ek ev)))) (ho:o.op=.lookup t x y false):Bc P o [(x,.mp k),(y,.d (.lit (ek key)))] es (.d (ev ((Bv m key).getD J))) es:=
 .pure fun ok H a w f hl L=>by
  obtain⟨hd,hh,s⟩:=FV f hl he;obtain⟨b,ms,clock,h1,h2,h3,_⟩:=s;have M:=Qy (EN L).1 hh;have O:=(EN L).2.lit;simp only at M O;obtain⟨v,hr,hv⟩:=aA8 (key:=key) ev U Y Z j q h2 h3 false;refine⟨v,?_,.d _ _ hv⟩;simp[execOp,ho,M,O,h1,hr]
def ahC {t u I:TypeId} {x y:Operand} {k:Nat} {ek:K→Value} (ev:V→D) (J:V) {z:Value} {m:List (K×V)} {key:K} (U:P.underlying t=some (.map u I)) (Y:KeyTy P u ek) (Z:(P.info? I).bind (·.zero)=some z) (j:Vt z=ev J) (q:z.cells.all (·.oneCell')=true)
 (he:es[k]? =some (.bg (m.map (Aj ek ev)))) (ho:o.op=.lookup t x y true):Bc P o [(x,.mp k),(y,.d (.lit (ek key)))] es (.eF [.d (ev ((Bv m key).getD J)),.d (Cj (Bv m key).isSome)]) es:=
 .pure fun ok H a w f hl L=>by
  obtain⟨hd,hh,s⟩:=FV f hl he;obtain⟨b,ms,clock,h1,h2,h3,_⟩:=s;have M:=Qy (EN L).1 hh;have O:=(EN L).2.lit;simp only at M O;obtain⟨v,hr,hv⟩:=aA8 (key:=key) ev U Y Z j q h2 h3 true;refine⟨.tuple #[v,.bool (Bv m key).isSome],?_,.eF _ _ rfl fun i hi=>?_⟩
  ·simp[execOp,ho,M,O,h1,hr]
  match i,hi with
  |0,_=>exact .d _ _ hv
  |1,_=>exact .d _ _ (.lit _)
def rD {C:Dv} {ok:Nat→Prop} {H:List Ba} {w:World} (u:CW C ok H es w) {k:Nat} {es0 m:List (Value×D)} {b clock f:Nat} {ms j:Array MapEntry} {hd:Ba} (z:es[k]? =some (.bg es0)) (I:H[k]? =some hd) (q:hd.v=.map (some b)) (s:w.heap[b]? =some (.map ms clock))
 (J:JF ok w m j f) (L:QA j f):(setObj b (.map j f)).run P w=.ok () (w.putObj b (.map j f))∧CW C ok H (es.set k (.bg m)) (w.putObj b (.map j f))∧Dz ok w ok (w.putObj b (.map j f)):=by
 refine⟨by simp[setObj,Sem.run,s,World.putObj],u.ado z rfl I (by rw[q];rfl) fun M=>⟨b,j,f,q,VB (FN.1 s).1,J.mono M,L⟩⟩
def aiD {t kt vt:TypeId} {x y u:Operand} {k:Nat} {ek:K→Value} (ev:V→D) {m:List (K×V)} {key:K} {val:V} (ht:P.underlying t=some (.map kt vt)) (z:KeyTy P kt ek) (O:es[k]? =some (.bg (m.map (Aj ek ev)))) (ho:o.op=.mapUpdate t x y u):
 Bc P o [(x,.mp k),(y,.d (.lit (ek key))),(u,.d (ev val))] es .junk (es.set k (.bg ((DK m key val).map (Aj ek ev)))):=
 .eff fun C ok H a w I U=>by
  obtain⟨hd,Y,Z⟩:=FV I.ent I.hlen O;obtain⟨b,ms,clock,J,L,M,h4⟩:=Z;have hx:=Qy (U (x,.mp k) BK) Y;have hy:=(U (y,.d (.lit (ek key))) BK).lit;have hu:DT ok w (ev val) (a.eval u):=by have :=U (u,.d (ev val)) BK;cases this with |d _ _ h=>exact h
  simp only at hx hy;obtain⟨kd,f,hs⟩:=z.same;have hks:ms.toList.map (·.key)=m.map (fun p=>ek p.1):=by rw[M.keys];simp[Aj,qB]
  have q:=z.check;rcases aAs (i:=0) hs key val m ms.toList hks with⟨q1,_,q3⟩|⟨j,e,p,q1,q2,q3,_,q5,q6⟩
  ·have hM:=M.push (k:=ek key) hu;obtain⟨r1,r2,r3⟩:=rD (P:=P) I O Y J L hM h4.push;refine⟨undef,_,ok,H,.inr ⟨rfl,?_⟩,r3,.refl _,?_,.junk _⟩
   ·simp[execOp,ho,hx,hy,J,Instr.mapUpdate,underlying,ht,QM L,q,Instr.findKey,f,q1,r1]
   rw[q3,I9];exact r2
  have hM:=M.modify (k:=ek key) hu j;obtain⟨r1,r2,r3⟩:=rD (P:=P) I O Y J L hM (h4.modify j _ fun _=>rfl)
  have s:e.key=ek key:=by
   have h5:(m.map (Aj ek ev))[j]? =some (Aj ek ev p):=by rw[IY,q3];rfl
   rw[(M.ent j _ e h5 jf).1,z.eq _ _ q5];rfl
  have hst:∀w,(Instr.keyThatStays (ek key) (ek key)).run P w=.ok (ek key) w:=fun w=>by simp[Instr.keyThatStays,z.bits]
  have hms:ms[j]? =some e:=jf
  refine⟨undef,_,ok,H,.inr ⟨rfl,?_⟩,r3,.refl _,?_,.junk _⟩
  ·simp[execOp,ho,hx,hy,J,Instr.mapUpdate,underlying,ht,QM L,q,Instr.findKey,f,q1,hms,s,hst,r1]
  rw[q6,yQ];exact r2
def aGZ {t kt vt:TypeId} {x y:Operand} {k:Nat} {ek:K→Value} (ev:V→D) (u:V) {z:Value} {m:List (K×V)} {key:K} (ht:P.underlying t=some (.map kt vt)) (Z:KeyTy P kt ek) (hz:(P.info? vt).bind (·.zero)=some z) (hzv:Vt z=ev u) (hzl:z.cells.all (·.oneCell')=true)
 (he:es[k]? =some (.bg (m.map (Aj ek ev)))) (ho:o.op=.mapEntry t x y):
 Bc P o [(x,.mp k),(y,.d (.lit (ek key)))] es (.eF [.d (ev ((Bv m key).getD u)),.d (AY (F6 m key:Nat))]) (es.set k (.bg ((DK m key ((Bv m key).getD u)).map (Aj ek ev)))):=
 .eff fun C ok H a w hm hn=>by
  obtain⟨hd,hh,hok⟩:=FV hm.ent hm.hlen he;obtain⟨b,ms,clock,h1,h2,I,h4⟩:=hok;have hx:=Qy (EN hn).1 hh;have hy:=(EN hn).2.lit;simp only at hx hy;obtain⟨kd,J,hs⟩:=Z.same;have hks:ms.toList.map (·.key)=m.map (fun p=>ek p.1):=by rw[I.keys];simp[Aj,qB]
  have L:=Z.check;have hml:ms.size=m.length:=by have :=I.len;simpa using this
  obtain⟨i0,hi0,hz'⟩:=eu.1 hz;rcases aJy (i:=0) hs key ((Bv m key).getD u) m ms.toList hks with⟨q1,q2,q3,q4⟩|⟨e,p,q1,q2,q3,q4,q5,q6⟩
  ·have M:DT ok w (ev ((Bv m key).getD u)) z:=by
    rw[q2];have :=adU (ok:=ok) (w:=w) hzl;rw[hzv]at this;exact this
   have hM:=I.push (k:=ek key) M;obtain⟨r1,r2,O⟩:=rD (P:=P) hm he hh h1 h2 hM h4.push;refine⟨.tuple #[z,goInt clock],_,ok,H,.inl ?_,O,.refl _,?_,.eF _ _ rfl fun i hi=>?_⟩
   ·simp[execOp,ho,hx,hy,h1,Instr.mapEntry,underlying,ht,QM h2,L,Instr.findKey,J,q1,r1,zeroValue,typeInfo,hi0,hz']
   ·rw[q3,I9];exact r2
   match i,hi with
   |0,_=>
    have q:=M.mono O;exact .d _ _ q
   |1,_=>
    have :goInt (clock:Nat)=.int .i64 (F6 m key:Nat):=by rw[q4,←hml,←h4.1];rfl
    show R ok _ H (.d (AY (F6 m key:Nat))) (goInt clock);rw[this];exact .d _ _ (.lit _)
  have h5:(m.map (Aj ek ev))[F6 m key]? =some (Aj ek ev p):=by rw[IY,q3];rfl
  have f:ms[F6 m key]? =some e:=jf
  have j:=I.ent _ _ e h5 f;have M:DT ok w (ev ((Bv m key).getD u)) e.val:=by rw[q4];exact j.2.1
  have hM:=I.modify (k:=ek key) M (F6 m key);have hmk:=ajb ms (F6 m key) (ek key) e.val (fun e' U=>by rw[f]at U;rw[←CO U]);rw[←hmk]at hM;have Y:e.key=ek key:=by rw[j.1,Z.eq _ _ q5];rfl
  obtain⟨r1,r2,O⟩:=rD (P:=P) hm he hh h1 h2 hM (h4.modify _ _ fun _=>rfl);have hst:∀w,(Instr.keyThatStays (ek key) (ek key)).run P w=.ok (ek key) w:=fun w=>by simp[Instr.keyThatStays,Z.bits]
  have s:e.born=F6 m key:=h4.2 _ e f;refine⟨.tuple #[e.val,goInt (F6 m key:Nat)],_,ok,H,.inl ?_,O,.refl _,?_,.eF _ _ rfl fun i hi=>?_⟩
  ·simp[execOp,ho,hx,hy,h1,Instr.mapEntry,underlying,ht,QM h2,L,Instr.findKey,J,q1,f,Y,hst,r1,s]
  ·rw[q6,yQ];exact r2
  match i,hi with
  |0,_=>
   have q:=M.mono O;exact .d _ _ q
  |1,_=>exact .d _ _ (.lit _)
def aGn {t kt:TypeId} {x s u:Operand} {k:Nat} {ek:K→Value} (ev:V→D) {m:List (K×V)} {key:K} {z0 val:V} (hk:KeyTy P kt ek) (Y:es[k]? =some (.bg ((DK m key z0).map (Aj ek ev)))) (ho:o.op=.entryStore t x s u):
 Bc P o [(x,.mp k),(s,.d (AY (F6 m key:Nat))),(u,.d (ev val))] es .junk (es.set k (.bg ((DK m key val).map (Aj ek ev)))):=
 .eff fun C ok H a w J L=>by
  obtain⟨hd,Z,M⟩:=FV J.ent J.hlen Y;obtain⟨b,ms,clock,h1,h2,O,h4⟩:=M;have hx:=Qy (L (x,.mp k) BK) Z;have hy:a.eval s=.int .i64 (F6 m key:Nat):=(L (s,.d (AY (F6 m key:Nat))) BK).lit;have hu:DT ok w (ev val) (a.eval u):=by have :=L (u,.d (ev val)) BK;cases this with |d _ _ h=>exact h
  simp only at hx;have f:=aLj key z0 m;have h5:((DK m key z0).map (Aj ek ev))[F6 m key]? =some (Aj ek ev (key,z0)):=by rw[IY,f];rfl
  have j:F6 m key<ms.size:=by
   have h6:=(FC.1 f).1;have :=O.len;rw[Ch]at this;omega
  have q:ms[F6 m key]? =some ms[F6 m key]:=Zt
  have z:=O.ent _ _ _ h5 q;have hM:=O.modify (k:=ek key) hu (F6 m key);have U:=aok ms (F6 m key) (ek key) (a.eval u) (fun e' I=>by rw[q]at I;rw[←CO I];exact z.1);rw[←U]at hM;obtain⟨r1,r2,r3⟩:=rD (P:=P) J Y Z h1 h2 hM (h4.modify _ _ fun _=>rfl);refine⟨undef,_,ok,H,.inr ⟨rfl,?_⟩,r3,.refl _,?_,.junk _⟩
  ·simp[execOp,ho,hx,hy,h1,Instr.entryStore,QM h2,asInt,asIntOf,h4.find j,r1]
  have e1:((DK m key z0).map (Aj ek ev)).set (F6 m key) (ek key,ev val)=(DK m key val).map (Aj ek ev):=by
   rw[←acM key z0 val m,yQ];rfl
  rw[←e1];exact r2
end
section
variable {P : Program} {σ : Ar} {Q : Exit → Ar → Prop} {c : Operand} {x y : Code}
def Ae {A:Type} {b:Bool} {u v z:A} (h:(bif b then u else v)=z) (f:u=z→AO P x σ Q) (j:v=z→AO P y σ Q) (m:σ.get c=.d (.lit (.bool b)):=by kernel_rfl):AO P (.cond c x y) σ Q:=
 AO.cond b m (fun e=>f (iZ e h)) (fun e=>j (oD e h))
end
def aEv {A:Type} {b:Bool} {u v z:A} (h:(bif b then u else v)=z):(b=true∧u=z)∨(b=false∧v=z):=by
 cases b with
 |true=>exact .inl ⟨rfl,h⟩
 |false=>exact .inr ⟨rfl,h⟩
def CU {A:Type} {a b:A} (h:some a=some b):a=b:=CO h
def Z5 {α β γ:Type} {x:Option α} {y:α→Option β} {f:α→β→Option γ} {z:γ} (h:(x.bind fun a=>(y a).bind (f a))=some z):∃a,x=some a∧∃b,y a=some b∧f a b=some z:=by
 obtain⟨a,j,h⟩:=DN h;obtain⟨b,m,h⟩:=DN h;exact⟨a,j,b,m,h⟩
def aAX {α β γ δ:Type} {x:Option α} {y:α→Option β} {w:α→β→Option δ} {f:α→β→δ→Option γ} {z:γ} (h:(x.bind fun a=>(y a).bind fun b=>(w a b).bind (f a b))=some z):∃a,x=some a∧∃b,y a=some b∧∃d,w a b=some d∧f a b d=some z:=by
 obtain⟨a,j,b,m,h⟩:=Z5 h;obtain⟨d,q,h⟩:=DN h;exact⟨a,j,b,m,d,q,h⟩
def AQ {α β:Type} {x:Option α} {f:α→Option β} {z:β} {G:Prop} (h:x.bind f=some z) (k:∀a,x=some a→f a=some z→G):G:=by
 obtain⟨a,j,h⟩:=DN h;exact k a j h
def C9 {α β γ:Type} {x:Option α} {y:α→Option β} {f:α→β→Option γ} {z:γ} {G:Prop} (h:(x.bind fun a=>(y a).bind (f a))=some z) (k:∀a,x=some a→∀b,y a=some b→f a b=some z→G):G:=by
 obtain⟨a,j,b,m,h⟩:=Z5 h;exact k a j b m h
def Pv {α β γ δ:Type} {x:Option α} {y:α→Option β} {w:α→β→Option δ} {f:α→β→δ→Option γ} {z:γ} {G:Prop} (h:(x.bind fun a=>(y a).bind fun b=>(w a b).bind (f a b))=some z) (k:∀a,x=some a→∀b,y a=some b→∀d,w a b=some d→f a b d=some z→G):G:=by
 obtain⟨a,j,b,m,d,q,h⟩:=aAX h;exact k a j b m d q h
section
variable {P : Program} {o : Oper} {es : List BH} {α : Type}
def BN {x y:Operand} {t e:TypeId} {i:Int} {agg:Bool} {size:Nat} (enc:α→D) {l:List α} {a:α} (h:BJ l i=some a) (f:P.underlying t=some (.slice e)) (j:Dc P e agg size) (m:o.op=.indexAddr t x y) (q:(enc a).cells.length=size:=by kernel_rfl):
 Bc P o [(x,.d (Ai enc l)),(y,.d (.lit (.int .i64 i)))] es (.d (.ref (enc a).cells 0)) es:=ah5 enc h f j q m
def EG {t e:TypeId} {size j len:Nat} {z:Value} (hE:Fg P t e size j) (s:(P.info? e).bind (·.zero)=some z) (ys:List D) {f:Array (Nat×Operand)} (u:o.op=.buildSlice t len f) (I:z.cells.all (·.oneCell')=true:=by kernel_rfl) (m:z.cells.size=size:=by kernel_rfl) (hlen:Nat.ble (len*size) 16777216=true:=by kernel_rfl)
 (J:Ld (fun i=>some (i*size,size)) (len*size) f.toList (ys.map .d)=true:=by kernel_rfl) (L:Iz (fun i=>some (i*size,size)) (OO z (len*size)) f.toList (ys.map .d)=flat ys:=by kernel_rfl) (hl:ys.length=len:=by kernel_rfl) (q:ys.all (fun y=>decide (y.cells.length=size))=true:=by kernel_rfl):
 Bc P o (LD f.toList (ys.map .d)) es (.d (.sl ys)) es:=aqS hE s I m (Ee hlen) (ys.map .d) ys J L hl q u
def KC {t e:TypeId} {size j len:Nat} {z:Value} (hE:Fg P t e size j) (s:(P.info? e).bind (·.zero)=some z) (ys:List D) {f:Array (Nat×Operand)} (u:o.op=.buildSlice t len f) (I:z.cells.all (·.oneCell')=true:=by kernel_rfl) (m:z.cells.size=size:=by kernel_rfl) (hlen:Nat.ble (len*size) 16777216=true:=by kernel_rfl)
 (J:Ld (fun i=>some (i*size,size)) (len*size) f.toList (ys.map .d)=true:=by kernel_rfl) (L:Iz (fun i=>some (i*size,size)) (OO z (len*size)) f.toList (ys.map .d)=flat ys:=by kernel_rfl) (hl:ys.length=len:=by kernel_rfl) (q:ys.all (fun y=>decide (y.cells.length=size))=true:=by kernel_rfl):
 Bc P o (LD f.toList (ys.map .d)) es (.aS es.length) (es++[.arr e size ys]):=aLf hE s I m (Ee hlen) (ys.map .d) ys J L hl q u
def D5.aM {ops:Array Oper} {l:List Oper} {σ:Ar} {K:Exit→Ar→Prop} [T:Kn P] {M:Ar→Prop} (n:Nat) (k:M (Q8 (Gj T ops n l σ))) (hl:l.length=n:=by kernel_rfl) (h:(Gj T ops n l σ).isSome=true:=by kernel_rfl):D5 P ops l σ (Jh M K):=
 .a n (by rw[aBQ (OZ hl)];exact .aY k) h
end
def FD {A:Type} {b:Bool} {u v z:A} {G:Prop} (h:(bif b then u else v)=z) (f:b=true→u=z→G) (k2:b=false→v=z→G):G:=by
 rcases aEv h with⟨e,h⟩|⟨e,h⟩
 ·exact f e h
 exact k2 e h
def aqH {A:Type} (o:Option A) (f:A→Ac):Ac:=match o with
 |none=>.d (.lit (.pointer none))
 |some a=>f a
def aiy {A:Type} (o:Option A) (f:A→List BH):List BH:=match o with
 |none=>[]
 |some a=>f a
def TR {A B:Type} (o:Option A) (x:Option B) (f:A→Option B):Option B:=match o with
 |none=>x
 |some a=>f a
def gK {A B:Type} {x z:Option B} {f:A→Option B} (h:TR none x f=z):x=z:=h
def dJ {A B:Type} {x z:Option B} {a:A} {f:A→Option B} (h:TR (some a) x f=z):f a=z:=h
section
variable {P : Program} {o : Oper} {es : List BH}
def zN {t t':TypeId} {x y:Operand} {k off:Nat} (q:P.underlying t=some (.pointer (P.pointee t))) (z:o.op=.binOp .eql t x y t'):Bc P o [(x,.ptr k off),(y,.d (.lit (.pointer none)))] es (.d (Cj false)) es:=
 .pure fun _ _ a w _ _ j=>⟨.bool false,by
  have f:=(EN j).1;have m:=(EN j).2.lit;simp only at f m;generalize I:a.eval x=u at f;cases f with
  |ptr _ _ b s L=>
   have J:(eqGuard .eql t x y (Value.pointer (some ⟨b,off,none⟩)) (.pointer none)).run P w=.ok () w:=by
    unfold eqGuard;simp[pure,Sem.run_pure']
   simp only[execOp,z,I,m,Ei,J,Ep,run_eql_pointer_nil w t _ q,FT]
   rfl,.d _ _ (.lit _)⟩
def aAk {t t':TypeId} {x y:Operand} (q:P.underlying t=some (.pointer (P.pointee t))) (s:o.op=.binOp .eql t x y t'):Bc P o [(x,.d (.lit (.pointer none))),(y,.d (.lit (.pointer none)))] es (.d (Cj true)) es:=
 .pure fun _ _ a w _ _ f=>⟨.bool true,by
  have j:=(EN f).1.lit;have m:=(EN f).2.lit;simp only at j m
  have u:(eqGuard .eql t x y (Value.pointer none) (.pointer none)).run P w=.ok () w:=by
   unfold eqGuard;simp[pure,Sem.run_pure']
  simp only[execOp,s,j,m,Ei,u,Ep,run_eql_pointer_nil w t _ q,FT]
  rfl,.d _ _ (.lit _)⟩
end
def aE1 :List ResultVar→Bool
 | []=>true
 | .tmp _::rs=>aE1 rs
 |_::_=>false
def xF (σ:Ar):List ResultVar→List Ac
 | []=>[]
 | .tmp t::rs=>σ.slots.getD t .junk::xF σ rs
 |_::rs=>.junk::xF σ rs
def aaY {P:Program} {σ:Ar}:∀{rs:List ResultVar},aE1 rs=true→WV P σ rs (xF σ rs)
 | [],_=>trivial
 | .tmp _::_,h=>⟨rfl,aaY h⟩
def EK {P:Program} {σ:Ar} {rs:List ResultVar} {f:Ac} {E':List BH} (π:List (Nat×Bool)) (ha:aE1 rs=true:=by kernel_rfl) (j:Sv σ.base σ.ents π=true:=by kernel_rfl) (m:f=(aA (xF σ rs)).back π:=by kernel_rfl) (q:E'=QS σ.ents π:=by kernel_rfl):
 ∃xs π,WV P σ rs xs∧Sv σ.base σ.ents π=true∧f=(aA xs).back π∧E'=QS σ.ents π:=⟨_,π,aaY ha,j,m,q⟩
def XJ :Nat→Nat→List (Nat×Nat×Nat)
 |0,_=>[]
 |n+1,x=>(x % 2048,x/2048 % 64,x/131072 % 2048)::XJ n (x/268435456)
def aDW :List (Nat×Nat×Nat)→List (List Nat)→Nat→List (List Nat)
 | [],N,_=>N
 |t::Tr,N,n=>bif Nat.beq t.2.2 n then aDW Tr (N++[t.2.1::N.getD t.1 []]) (n+1)else aDW Tr N n
def SN (n x:Nat):List (List Nat):=aDW (XJ n x) [[]] 1
section
variable {P : Program} [T : Kn P] {id : Nat} {ops : Array Oper} {σ : Ar} {Q : Exit → Ar → Prop} {y : Code}
def AO.aqj (L:List (KY P)) (n x f:Nat) (j:AO P y (Ku T L ops σ ((SN n x).getD f [])) Q) (m:P.follows .mixedOrders=true:=by kernel_rfl) (q:qQ ops (SN n x) (XJ n x) [f]=true:=by kernel_rfl)
 (s:((XJ n x).map fun t=>Ux T L ops (Ku T L ops σ ((SN n x).getD t.1 [])) t.2.1)=(XJ n x).map fun t=>some (Ku T L ops σ ((SN n x).getD t.2.2 []),Vx L t.2.1):=by kernel_rfl) (u:(SN n x).getD 0 [0]=[]:=by kernel_rfl):AO P (.seq (.region id ops true) y) σ Q:=
 AO.awL L _ _ f j m q u s
def AO.akQ (L:List (KY P)) (n x:Nat) (F:List Nat) (f:Ar) (j:Oe (fun k=>jv (Ku T L ops σ ((SN n x).getD k [])) f) F) (m:AO P y f Q) (q:P.follows .mixedOrders=true:=by kernel_rfl) (s:qQ ops (SN n x) (XJ n x) F=true:=by kernel_rfl)
 (u:((XJ n x).map fun t=>Ux T L ops (Ku T L ops σ ((SN n x).getD t.1 [])) t.2.1)=(XJ n x).map fun t=>some (Ku T L ops σ ((SN n x).getD t.2.2 []),Vx L t.2.1):=by kernel_rfl) (z:(SN n x).getD 0 [0]=[]:=by kernel_rfl):AO P (.seq (.region id ops true) y) σ Q:=
 AO.awM L _ _ F f j m q s z u
end
end Go.Proofs.YtolgdkhlelfpoaaGreat
end
section
namespace Go
open Go.Proofs.YtolgdkhlelfpoaaGreat
variable {P : Program}
def aBu (w:World) (L O ty f:TypeId) (b o m s:Nat) (a:Addr) (q u k n:Nat) (cs:List Value)
 (U:P.underlying L=some (.slice f)) (M:(P.info? f).map (·.size)=some k) (Y:n=Nat.min q m) (hl:cs.length=n*k)
 (z:∀j v,cs[j]? =some v→w.cell? (a.add j)=some v) (Z:∀j,j<cs.length→(w.cell? ⟨b,o+j,none⟩).isSome=true) (hf:∀j,j<cs.length→w.frozen? ⟨b,o+j,none⟩=false) (h1:∀v∈cs,v.oneCell'=true):
 (Builtin.copy_ #[L,O] ty #[.slice (some ⟨b,o,none⟩) m s,.slice (some a) q u]).run P w=.ok (goInt n) (w.setCells b o cs):=by
 have I:=aCP (P:=P) w a cs z;have hst:=run_storeCells_cells (P:=P) b o cs 0 w jS (by simpa using hf) h1;rw[hl]at I;cases J:P.info? f with
 |none=>simp[J]at M
 |some i=>
  have hi:i.size=k:=by simpa[J]using M
  simp[Builtin.copy_,rH U,Builtin.lenOf,Builtin.firstCells,sizeOf,typeInfo,J,hi,←Y,I,hst]
end Go
namespace Go.Proofs.YtolgdkhlelfpoaaGreat
open Go.Shelf Go.RowKit Go.Lib
set_option linter.unusedVariables false
set_option linter.unusedSimpArgs false
set_option maxHeartbeats 4000000 in
set_option maxRecDepth 100000 in
def anq (b n c i vb vc:Nat) (cs vs:List Value) (w:World) (hi:i<n) (hroom:n+1≤c) (hc63:c≤9223372036854775807) (hvb:vb≠b)
 (hcl:cs.length=n*29) (hvl:vs.length=29)
 (hcs:∀j v,cs[j]? =some v→w.cell? ⟨b,j,none⟩=some v) (hsp:∀j,j<(n+1)*29→(w.cell? ⟨b,j,none⟩).isSome=true) (hfz:∀j,j<(n+1)*29→w.frozen? ⟨b,j,none⟩=false)
 (hvs:∀j v,vs[j]? =some v→w.cell? ⟨vb,j,none⟩=some v) (h1c:∀v∈cs,v.oneCell'=true) (h1v:∀v∈vs,v.oneCell'=true)
 (tA tB:TypeId) (kA kB:Nat) (hsa:w.shape? vb=some (tA,kA)) (hsb:w.shape? b=some (tB,kB)) (hkB:kB≠0) (hfa:w.frozen? ⟨vb,0,none⟩=false) (hfe:w.frozen? ⟨vb,kA,none⟩=false):
 Calls Tryz.prog 98 #[.slice (some ⟨b,0,none⟩) n c,.int .i64 i,.slice (some ⟨vb,0,none⟩) 1 vc] w fun e w'=>
  e=.returned (.slice (some ⟨b,0,none⟩) (n+1) c)∧w'=(w.drew.setCells b ((i+1)*29) (cs.drop (i*29))).setCells b (i*29) vs:=by
 have hz2:¬((i:Int)=(n:Int)):=AL
 have hw1:BI ((i:Int)+1)=(i:Int)+1:=QF
 have hw2:BI ((n:Int)+1)=(n:Int)+1:=QF
 have hb1:(0:Int)≤(i:Int)+1:=AL
 have hin:i≤n:=AL
 have htn:((i:Int)+1).toNat=i+1:=AL
 have ayA:((n:Int)+1).toNat=n+1:=AL
 have hb2:¬(c=i+1):=AL
 have hb3:(i:Int)≤(n:Int)+1:=AL
 have hb4:¬(c=i):=AL
 have hb5:¬((c:Int)<(n:Int)+1):=AL
 have q:(Tryz.prog.info? 55).map (·.size)=some 29:=A8
 have L:∀w,(Go.sizeOf 55).run Tryz.prog w=.ok 29 w:=fun w=>by
  cases M:Tryz.prog.info? 55 with
  |none=>simp[M]at q
  |some i=>
   have h0:i.size=29:=by simpa[M]using q
   simp[sizeOf,typeInfo,M,h0]
 have O:∀U Y,(callFunc 139 #[.slice (some ⟨vb,0,none⟩) 1 vc,.slice (some ⟨b,(i+1)*29,none⟩) U Y]).run Tryz.prog w=.ok (.value (.bool false)) w:=fun U Y=>by
  rw[run_callFunc_extern Tryz.func139 A8 A8 A8 (e:=Extern.SlicesOverlaps.overlaps #[22,22] #[4]) A8,
   Lib.run_overlaps_apart w 22 4 55 iw 29 L ⟨vb,0,none⟩ ⟨b,(i+1)*29,none⟩ 1 vc U Y hvb tA tB kA kB hsa hsb hkB hfa hfe]
  rfl
 have s:(cs.drop (i*29)).length=(n-i)*29:=by rw[Jc,hcl,Nat.sub_mul]
 have u:∀ty Ag Z,(Builtin.copy_ #[22,22] ty #[.slice (some ⟨b,(i+1)*29,none⟩) (n-i) Ag,.slice (some ⟨b,i*29,none⟩) (n+1-i) Z]).run Tryz.prog w.drew=.ok (goInt (n-i:Nat)) (w.drew.setCells b ((i+1)*29) (cs.drop (i*29))):=fun ty Ag Z=>
  aBu w.drew _ _ ty 55 b ((i+1)*29) (n-i) Ag ⟨b,i*29,none⟩ (n+1-i) Z 29 (n-i) (cs.drop (i*29)) iw q zq s
   (fun j v f=>by rw[fD];exact hcs (i*29+j) v (by rwa [Nz]at f))
   (fun j f=>hsp _ aCY) (fun j f=>hfz _ aCY) (fun v hv=>h1c v (aBo hv))
 obtain⟨W1,m⟩:∃W1,W1=w.drew.setCells b ((i+1)*29) (cs.drop (i*29)):=⟨_,rfl⟩
 have z:∀k,k<(n+1)*29→(W1.cell? ⟨b,k,none⟩).isSome=true:=fun k hk=>by
  rw[m];exact isSome_setCells b (cs.drop (i*29)) ((i+1)*29) w.drew (fun j f=>hsp _ aCY) _ (hsp k hk)
 have I:∀(W:World),(∀x,W.cell? x=W1.cell? x)→(∀x,W.frozen? x=W1.frozen? x)→∀ty Ag,(Builtin.copy_ #[22,22] ty #[.slice (some ⟨b,i*29,none⟩) (n+1-i) Ag,.slice (some ⟨vb,0,none⟩) 1 vc]).run Tryz.prog W=.ok (goInt (1:Nat)) (W.setCells b (i*29) vs):=fun W J hWf ty Ag=>
  aBu W _ _ ty 55 b (i*29) (n+1-i) Ag ⟨vb,0,none⟩ 1 vc 29 1 vs iw q zq (by rw[hvl])
   (fun j v f=>by
    rw[fD,J,m,World.cell?_setCells_out b _ _ _ _ (fun h _=>absurd h hvb),Ie]
    exact hvs j v f)
   (fun j f=>by rw[J];exact z _ AL) (fun j f=>by rw[hWf,m,World.frozen?_setCells];exact hfz _ AL) h1v
 rw[←m]at u;have mixed:Tryz.prog.follows .mixedOrders=true:=A8
 go_enter Tryz.func98,Tryz.ntmps98
 go_wp2_with (simp only[O])
 go_region_law_o (refine step_copy_runI rfl _ _ 22 22 rfl _ _ sU sU (u _ _ _) ?_)
 go_wp2_with (at_builtin;refine wpList_copy_runI _ rfl _ _ 22 22 rfl _ _ rfl rfl (I _ (fun _=>rfl) (fun _=>rfl) _ _) ?_)
 go_ret
 first|exact⟨rfl,rfl⟩|exact⟨rfl,by rw[m]⟩
set_option maxHeartbeats 4000000 in
set_option maxRecDepth 100000 in
def apL (b n c i vb vc:Nat) (cs vs:List Value) (w:World) (hi:i<n) (hnc:n≤c) (hroom:c<n+1) (hbig:(n+1)*376≤140737488355328)
 (hcl:cs.length=n*29) (hvl:vs.length=29)
 (hcs:∀j v,cs[j]? =some v→w.cell? ⟨b,j,none⟩=some v) (hvs:∀j v,vs[j]? =some v→w.cell? ⟨vb,j,none⟩=some v) (h1c:∀v∈cs,v.oneCell'=true) (h1v:∀v∈vs,v.oneCell'=true):
 Calls Tryz.prog 98 #[.slice (some ⟨b,0,none⟩) n c,.int .i64 i,.slice (some ⟨vb,0,none⟩) 1 vc] w fun e w'=>∃G ROW,e=.returned (.slice (some ⟨w.heap.size,0,none⟩) (n+1) G)∧n+1≤G∧G≤maxLen∧G*29≤ROW.size∧ROW.toList.take (i*29)=cs.take (i*29)∧
  w'=(((w.alloc (.cells ROW 55)).drew.setCells w.heap.size (i*29) vs).drew).setCells w.heap.size ((i+1)*29) (cs.drop (i*29)):=by
 have hE:Fg Tryz.prog 22 55 29 376:=KF A8;obtain⟨i0,z0,U,hz0,Y,Z,hzc⟩:=hE.info;have hsz:(Tryz.prog.info? 55).map (·.size)=some 29:=by rw[U];simp[Y]
 have mixed:Tryz.prog.follows .mixedOrders=true:=A8
 have hz2:¬((i:Int)=(n:Int)):=AL
 have hz3:(c:Int)<(n:Int)+1:=AL
 have hil:i*29<cs.length:=AL
 have hbw:b<w.heap.size:=block_lt_of_cell (hcs 0 _ (Dl AL));have hvw:vb<w.heap.size:=block_lt_of_cell (hvs 0 _ (Dl AL));have hkk:(n:Int)+1-(i:Int)=((n+1-i:Nat):Int):=AL
 have J:i+(n+1-i)=n+1:=AL
 have L:(cs.take (i*29)).length=i*29:=by rw[Gx];omega
 have z:(Builtin.firstCells i0.size i (.slice (some ⟨b,0,none⟩) i c)).run Tryz.prog w.drew=.ok (cs.take (i*29)).toArray w.drew:=by
  rw[Y]
  exact run_firstCells_some w.drew 29 i ⟨b,0,none⟩ i c (cs.take (i*29)) (by rw[L]) (fun j v f=>by
   rw[fD,Ie];rw[ji]at f;split at f
   ·exact hcs j v f
   cases f)
 have u:∀ty,(Builtin.append_ #[22,3] ty #[.slice (some ⟨b,0,none⟩) i c,.int .i64 ((n:Int)+1-(i:Int))]).run Tryz.prog w=
  .ok (.slice (some ⟨w.heap.size,0,none⟩) (n+1) (grownCap w (n+1) c 55)) (w.drew.alloc (.cells ((cs.take (i*29)).toArray++Builtin.zeroCells z0.cells (n+1-i)++Builtin.zeroCells z0.cells (grownCap w (n+1) c 55-(n+1))) 55)):=fun ty=>by
  have h:=Lib.run_append_grow_zeros w 22 3 ty 55 i0 z0 .i64 .i64 hE.und A8 U hz0 (some ⟨b,0,none⟩) i c (cs.take (i*29)) z (n+1-i) AL AL AL AL (by rw[Z];omega) (by rw[Z,J];exact growslice_fits AL AL);rw[J]at h;rw[hkk];exact h
 have hGn:n+1≤grownCap w (n+1) c 55:=grownCap_ge w _ _ _;have M:=grownCap_le_maxLen w (n+1) c 55 aAB;obtain⟨G,hG⟩:∃G,G=grownCap w (n+1) c 55:=⟨_,rfl⟩
 obtain⟨ROW,m⟩:∃ROW:Array Value,ROW=(cs.take (i*29)).toArray++Builtin.zeroCells z0.cells (n+1-i)++Builtin.zeroCells z0.cells (G-(n+1)):=⟨_,rfl⟩
 rw[←hG]at u hGn M;rw[←m]at u
 have hRl:ROW.size=G*29:=by
  rw[m];simp[Builtin.zeroCells,hzc];omega
 have hRt:ROW.toList.take (i*29)=cs.take (i*29):=by
  rw[m];simp[Gu];rw[qo L]
 obtain⟨W1,q⟩:∃W1,W1=w.drew.alloc (.cells ROW 55):=⟨_,rfl⟩
 rw[←q]at u
 have hN:∀j,j<(n+1)*29→(W1.cell? ⟨w.heap.size,j,none⟩).isSome=true:=fun j f=>by
  rw[q,World.cell?_alloc_at (w:=w.drew) ROW _ w.heap.size j rfl,dU AL];rfl
 have hNf:∀j,W1.frozen? ⟨w.heap.size,j,none⟩=false:=fun j=>by rw[q];exact World.frozen?_alloc_at (w:=w.drew) ROW _ w.heap.size j rfl
 have hOb:∀j v,w.cell? ⟨b,j,none⟩=some v→W1.cell? ⟨b,j,none⟩=some v:=fun j v h=>by rw[q,World.cell?_alloc_past (w:=w.drew) _ b j hbw];exact h
 have hOv:∀j v,w.cell? ⟨vb,j,none⟩=some v→W1.cell? ⟨vb,j,none⟩=some v:=fun j v h=>by rw[q,World.cell?_alloc_past (w:=w.drew) _ vb j hvw];exact h
 have hcpA:∀(W:World),(∀x,W.cell? x=W1.cell? x)→(∀x,W.frozen? x=W1.frozen? x)→∀ty Ag,(Builtin.copy_ #[22,22] ty #[.slice (some ⟨w.heap.size,i*29,none⟩) (n+1-i) Ag,.slice (some ⟨vb,0,none⟩) 1 vc]).run Tryz.prog W=.ok (goInt (1:Nat)) (W.setCells w.heap.size (i*29) vs):=fun W s O ty Ag=>
  aBu W _ _ ty 55 w.heap.size (i*29) (n+1-i) Ag ⟨vb,0,none⟩ 1 vc 29 1 vs hE.und hsz zq (by rw[hvl])
   (fun j v f=>by rw[fD,s,Ie];exact hOv _ v (hvs j v f))
   (fun j f=>by rw[s];exact hN _ AL) (fun j f=>by rw[O];exact hNf _) h1v
 have hG63:G≤9223372036854775807:=by unfold maxLen at M;omega
 have hGi:¬(G=i):=AL
 have hGim:¬(G=i+1):=AL
 have hci:¬(c=i):=AL
 have hbN:b≠w.heap.size:=AL
 have hdl:(cs.drop (i*29)).length=(n-i)*29:=by rw[Jc,hcl,Nat.sub_mul]
 have I:∀(W:World),(∀x,W.cell? x=(W1.setCells w.heap.size (i*29) vs).cell? x)→(∀x,W.frozen? x=(W1.setCells w.heap.size (i*29) vs).frozen? x)→∀ty Ag sc,(Builtin.copy_ #[22,22] ty #[.slice (some ⟨w.heap.size,(i+1)*29,none⟩) (n-i) Ag,.slice (some ⟨b,i*29,none⟩) (n-i) sc]).run Tryz.prog W=.ok (goInt (n-i:Nat)) (W.setCells w.heap.size ((i+1)*29) (cs.drop (i*29))):=fun W s O ty Ag sc=>
  aBu W _ _ ty 55 w.heap.size ((i+1)*29) (n-i) Ag ⟨b,i*29,none⟩ (n-i) sc 29 (n-i) (cs.drop (i*29)) hE.und hsz zq hdl
   (fun j v f=>by
    rw[fD,s,World.cell?_setCells_out _ _ _ _ _ (fun h _=>absurd h hbN)]
    exact hOb _ v (hcs (i*29+j) v (by rwa [Nz]at f)))
   (fun j f=>by rw[s];exact isSome_setCells _ vs (i*29) W1 (fun t ht=>hN _ AL) _ (hN _ (by rw[hdl]at f;omega)))
   (fun j f=>by rw[O,World.frozen?_setCells];exact hNf _) (fun v hv=>h1c v (aBo hv))
 subst q;have hE1:∀x,((w.alloc (.cells ROW 55)).drew).cell? x=(w.drew.alloc (.cells ROW 55)).cell? x:=fun x=>rfl;have hE2:∀x,((w.alloc (.cells ROW 55)).drew).frozen? x=(w.drew.alloc (.cells ROW 55)).frozen? x:=fun x=>rfl;have hF1:∀x,(((w.alloc (.cells ROW 55)).drew.setCells w.heap.size (i*29) vs).drew).cell? x=((w.drew.alloc (.cells ROW 55)).setCells w.heap.size (i*29) vs).cell? x:=fun x=>rfl;have hF2:∀x,(((w.alloc (.cells ROW 55)).drew.setCells w.heap.size (i*29) vs).drew).frozen? x=((w.drew.alloc (.cells ROW 55)).setCells w.heap.size (i*29) vs).frozen? x:=fun x=>rfl;have hw1:BI ((i:Int)+1)=(i:Int)+1:=QF
 have hw2:BI ((n:Int)+1)=(n:Int)+1:=QF
 have hw3:BI ((n:Int)+1-(i:Int))=(n:Int)+1-(i:Int):=QF
 have hb1:(0:Int)≤(i:Int)+1:=AL
 have hin:i≤n:=AL
 have htn:((i:Int)+1).toNat=i+1:=AL
 have hb3:(i:Int)≤(n:Int):=AL
 clear hkk J z m hG hil L
 go_enter Tryz.func98,Tryz.ntmps98
 go_wp2_with (first
  |(at_builtin;refine aFr _ rfl _ _ _ _ rfl _ _ rfl rfl _ _ (u _) ?_)
  |(at_builtin;refine wpList_copy_runI _ rfl _ _ 22 22 rfl _ _ rfl rfl (hcpA _ hE1 hE2 _ _) ?_)
  |(at_builtin;refine wpList_copy_runI _ rfl _ _ 22 22 rfl _ _ rfl rfl (I _ (fun _=>rfl) (fun _=>rfl) _ _ _) ?_))
 go_region_law_o (refine step_copy_runI rfl _ _ 22 22 rfl (.slice (some ⟨w.heap.size,(i+1)*29,none⟩) (n-i) (G-(i+1))) (.slice (some ⟨b,i*29,none⟩) (n-i) (c-i)) sU sU (I _ hF1 hF2 3 (G-(i+1)) (c-i)) ?_)
 go_wp2
 go_ret
 exact⟨G,ROW,rfl,hGn,M,OZ hRl.symm,hRt,rfl⟩
def putAt (f:Array Value):Nat→List Value→Array Value
 |_,[]=>f
 |o,v::r=>putAt (f.setIfInBounds o v) (o+1) r
def YI :∀(vs:List Value) (o:Nat) (f:Array Value),(putAt f o vs).size=f.size
 | [],_,_=>rfl
 |v::r,o,f=>by rw[putAt,YI r];simp
def rE :∀(vs:List Value) (o:Nat) (f:Array Value),o+vs.length≤f.size→(putAt f o vs).toList=f.toList.take o++vs++f.toList.drop (o+vs.length)
 | [],o,f,_=>by simp[putAt]
 |v::r,o,f,h=>by
  simp only[FK]at h;rw[putAt,rE r (o+1) _ E8,aDg];refine dP fun j=>?_;simp only[Gu,List.getElem?_append,Gx,Us,QN,ji,List.getElem?_set,Nz,FK,Y3,aIr]
  grind
def pS (b:Nat):∀(vs:List Value) (o:Nat) (w:World) (f:Array Value) (e:TypeId) (fr:Nat×Nat),w.heap[b]? =some (.cells f e fr)→(w.setCells b o vs).heap[b]? =some (.cells (putAt f o vs) e fr)
 | [],_,_,_,_,_,h=>h
 |v::r,o,w,f,e,fr,h=>by
  rw[World.setCells,putAt];refine pS b r (o+1) _ _ e fr ?_;simp[World.setCell,NH,h]
set_option maxHeartbeats 4000000 in
set_option maxRecDepth 100000 in
def afP {v:Value} {n vb vc:Nat} {xs news:List Value} {w:World} (hown:lG w 55 29 v n xs) (hsrc:VK w (.slice (some ⟨vb,0,none⟩) 1 vc) 1 29 news) (hb:(n+1)*376≤140737488355328):
 Calls Tryz.prog 98 #[v,.int .i64 n,.slice (some ⟨vb,0,none⟩) 1 vc] w fun e w'=>∃v',e=.returned v'∧lG w' 55 29 v' (n+1) (xs++news)∧w.grownBy w' v.ownBlock∧∀g,DC v'=some g→DC v=some g∨w.heap.size≤g:=by
 have hE:Fg Tryz.prog 22 55 29 376:=KF A8;obtain⟨v',w',m,q,s,u⟩:=aEQ (ty:=22) hE hown hsrc hb aAB;have mixed:Tryz.prog.follows .mixedOrders=true:=A8
 rcases hown.2 with⟨rfl,I⟩|⟨g,cap,J,rfl,_,O,L,f,M,j⟩
 ·subst I
  go_enter Tryz.func98,Tryz.ntmps98
  go_wp2_with (at_builtin;refine aFr _ rfl _ _ _ _ rfl _ _ rfl rfl _ _ m ?_)
  go_ret
  exact⟨v',rfl,q,s,u⟩
 have z:cap≤9223372036854775807:=by unfold maxLen at f;omega
 go_enter Tryz.func98,Tryz.ntmps98
 go_wp2_with (at_builtin;refine aFr _ rfl _ _ _ _ rfl _ _ rfl rfl _ _ m ?_)
 all_goals (go_ret;exact⟨v',rfl,q,s,u⟩)
def oJ (b:Nat):∀(vs:List Value) (o:Nat) (w:World),(w.setCells b o vs).os=w.os∧(w.setCells b o vs).tape=w.tape∧(w.setCells b o vs).output=w.output∧(w.setCells b o vs).heap.size=w.heap.size∧∀i,i≠b→(w.setCells b o vs).heap[i]? =w.heap[i]?
 | [],_,_=>⟨rfl,rfl,rfl,rfl,fun _ _=>rfl⟩
 |v::r,o,w=>by
  obtain⟨f,j,m,q,s⟩:=oJ b r (o+1) (w.setCell ⟨b,o,none⟩ v);rw[World.setCells];refine⟨f,j,m,by rw[q];simp[World.setCell],fun i hi=>?_⟩;rw[s i hi];simp[World.setCell,NH,Ne.symm hi]
def amb {f:Array Value} {xs vs:List Value} {a N k:Nat} (m:f.toList.take N=xs) (hl:xs.length=N) (j:vs.length=k) (ha:a≤N) (u:N+k≤f.size):
 (putAt (putAt f (a+k) (xs.drop a)) a vs).toList.take (N+k)=xs.take a++vs++xs.drop a:=by
 have hd:(xs.drop a).length=N-a:=by rw[Jc,hl]
 rw[rE vs a _ (by rw[YI];omega),rE (xs.drop a) (a+k) f AL,j,hd]
 have q:(f.toList.take (a+k)++xs.drop a++f.toList.drop (a+k+(N-a))).take a=xs.take a:=by
  rw[Gu,List.take_append_of_le_length E8,aCU,←m,aCU,iH AL,iH ha]
 have s:(f.toList.take (a+k)++xs.drop a++f.toList.drop (a+k+(N-a))).drop (a+k)=xs.drop a++f.toList.drop (a+k+(N-a)):=by
  rw[Gu,List.drop_left' E8]
 rw[q,s,←Gu,qo (by simp[hd,j,hl];omega)]
def agO {f:Array Value} {xs vs:List Value} {a N k:Nat} (m:f.toList.take a=xs.take a) (hl:xs.length=N) (j:vs.length=k) (ha:a≤N) (s:N+k≤f.size):
 (putAt (putAt f a vs) (a+k) (xs.drop a)).toList.take (N+k)=xs.take a++vs++xs.drop a:=by
 have hd:(xs.drop a).length=N-a:=by rw[Jc,hl]
 rw[rE (xs.drop a) (a+k) _ (by rw[YI];omega),rE vs a f AL,j,hd,m];have q:(xs.take a++vs++f.toList.drop (a+k)).take (a+k)=xs.take a++vs:=qo (by simp[j,hl];omega);rw[q,qo (by simp[hd,j,hl];omega)]
def nR {w:World} {g n:Nat} {f:Array Value} {xs:List Value} {T:TypeId} {fr:Nat×Nat} (m:w.heap[g]? =some (.cells f T fr)) (q:f.toList.take n=xs) (j:Nat) (v:Value) (h:xs[j]? =some v):w.cell? ⟨g,j,none⟩=some v:=by
 unfold World.cell?;simp only[m];rw[←q,ji]at h;split at h
 ·simpa using h
 cases h
def ahm {w:World} {g:Nat} {f:Array Value} {T:TypeId} {fr:Nat×Nat} (m:w.heap[g]? =some (.cells f T fr)) (j:Nat) (h:j<f.size):(w.cell? ⟨g,j,none⟩).isSome=true:=by
 unfold World.cell?;simp[m,h]
def aGW {w:World} {g:Nat} {f:Array Value} {T:TypeId} (m:w.heap[g]? =some (.cells f T (0,0))) (j:Nat):w.frozen? ⟨g,j,none⟩=false:=by
 unfold World.frozen?;simp[m]
def apK {v:Value} {n vb vc i:Nat} {xs f:List Value} {w:World} (hi:i≤n) (s:lG w 55 29 v n xs) (h1:∀u∈xs,u.oneCell'=true) (hx:lG w 55 29 (.slice (some ⟨vb,0,none⟩) 1 vc) 1 f) (O:∀u∈f,u.oneCell'=true) (hne:DC v≠some vb) (hb:(n+1)*376≤140737488355328):
 Calls Tryz.prog 98 #[v,.int .i64 i,.slice (some ⟨vb,0,none⟩) 1 vc] w fun e w'=>∃v',e=.returned v'∧lG w' 55 29 v' (n+1) (xs.take (i*29)++f++xs.drop (i*29))∧Turns v w w'∧∀g,DC v'=some g→DC v=some g∨w.heap.size≤g:=by
 have z:=s.1;have I:f.length=29:=by have :=hx.1;omega
 rcases hx.2 with⟨e0,_⟩|⟨vb',ayB,axP,e0,_,J,hvn,_,hvs,U⟩
 ·cases e0
 injection e0 with e1 _ e3
 injection e1 with e1
 injection e1 with e1
 subst e1 e3;rcases Yl i n with Y|Y
 ·rcases s.2 with⟨_,h0⟩|⟨g,cap,M,rfl,_,hg,hnc,hcm,hcs,q⟩
  ·omega
  have hgv:vb≠g:=fun e=>hne jB;have hil:i*29≤n*29:=Iu _ hi;rcases Yl n cap with m|m
  ·have hfit:(n+1)*29≤M.size:=Dn (Iu _ m) hcs;refine(anq g n cap i vb vc xs f w Y m (by unfold maxLen at hcm;omega) hgv z I (nR hg q) (fun j hj=>ahm hg j AL) (fun j _=>aGW hg j) (nR J U) h1 O 55 55 axP.size M.size (by simp[World.shape?,J]) (by simp[World.shape?,hg]) AL (aGW J 0) (aGW J _)).mono ?_;rintro e w' ⟨rfl,rfl⟩;have hh:=pS g f (i*29) _ _ _ _ (pS g (xs.drop (i*29)) ((i+1)*29) w.drew M 55 (0,0) hg);obtain⟨a1,a2,a3,a4,a5⟩:=oJ g (xs.drop (i*29)) ((i+1)*29) w.drew;obtain⟨b1,b2,b3,b4,b5⟩:=oJ g f (i*29) (w.drew.setCells g ((i+1)*29) (xs.drop (i*29)));refine⟨_,rfl,⟨?_,.inr ⟨g,cap,_,rfl,EF _,hh,m,hcm,by rw[YI,YI];exact hcs,?_⟩⟩,⟨b1.trans a1,b2.trans a2,b3.trans a3,by rw[b4,a4];exact Dw _,fun c hc hcb=>?_⟩,fun g' Z=>.inl Z⟩
   ·simp[I,z];omega
   ·have :=amb (a:=i*29) (k:=29) q z I hil AL;rw[show(i+1)*29=i*29+29 by omega,show(n+1)*29=n*29+29 by omega];exact this
   have L:c≠g:=fun e=>hcb jB;rw[b5 c L,a5 c L];rfl
  refine(apL g n cap i vb vc xs f w Y hnc AL hb z I (nR hg q) (nR J U) h1 O).mono ?_;rintro e w' ⟨G,ROW,rfl,hGn,hGm,hGs,hRt,rfl⟩
  have hal:((w.alloc (.cells ROW 55)).drew).heap[w.heap.size]? =some (.cells ROW 55 (0,0)):=by
   show(w.heap.push (.cells ROW 55 (0,0)))[w.heap.size]? =_;simp
  have hh:=pS w.heap.size (xs.drop (i*29)) ((i+1)*29) _ _ _ _ (show(((w.alloc (.cells ROW 55)).drew.setCells w.heap.size (i*29) f).drew).heap[w.heap.size]? =_ from pS w.heap.size f (i*29) _ ROW 55 (0,0) hal);obtain⟨a1,a2,a3,a4,a5⟩:=oJ w.heap.size f (i*29) (w.alloc (.cells ROW 55)).drew;obtain⟨b1,b2,b3,b4,b5⟩:=oJ w.heap.size (xs.drop (i*29)) ((i+1)*29) ((w.alloc (.cells ROW 55)).drew.setCells w.heap.size (i*29) f).drew;refine⟨_,rfl,⟨?_,.inr ⟨w.heap.size,G,_,rfl,EF _,hh,hGn,hGm,by rw[YI,YI];exact hGs,?_⟩⟩,⟨b1.trans a1,b2.trans a2,b3.trans a3,?_,fun c hc hcb=>?_⟩,fun g' Z=>.inr (by simp[DC]at Z;omega)⟩
  ·simp[I,z];omega
  ·have :=agO (a:=i*29) (k:=29) hRt z I hil (by have :=Iu 29 hGn;omega);rw[show(i+1)*29=i*29+29 by omega,show(n+1)*29=n*29+29 by omega];exact this
  ·rw[b4];show w.heap.size≤((w.alloc (.cells ROW 55)).drew.setCells w.heap.size (i*29) f).heap.size;rw[a4];show w.heap.size≤(w.heap.push (.cells ROW 55 (0,0))).size;simp
  have L:c≠w.heap.size:=AL
  rw[b5 c L];show((w.alloc (.cells ROW 55)).drew.setCells w.heap.size (i*29) f).heap[c]? =_;rw[a5 c L];show(w.heap.push (.cells ROW 55 (0,0)))[c]? =_;simp[aDe,L]
 have hni:i=n:=AL
 subst hni;refine(afP s ⟨AL,O,.inl ⟨_,_,rfl,fun j u hj=>by rw[fD,Ie];exact nR J U j u hj⟩⟩ hb).mono ?_;rintro e w' ⟨v',rfl,h2,h3,h4⟩;refine⟨v',rfl,?_,⟨h3.os,h3.tape,h3.output,h3.size,fun k hk hne'=>h3.block k hk ?_⟩,h4⟩
 ·rw[Ns AL,aBQ AL,S9];exact h2
 rcases s.2 with⟨rfl,_⟩|⟨g,cap,M,rfl,_⟩
 ·simp[Value.ownBlock]
 intro e;exact hne' e.symm
def aou {f:Array Value} (j:f.size=3):f= #[f.getD 0 undef,f.getD 1 undef,f.getD 2 undef]:=by
 refine Xd Zt fun i q m=>?_;simp at m;have :i=0∨i=1∨i=2:=AL
 rcases this with rfl|rfl|rfl<;>simp[Array.getD,j]
def akx {ok:Nat→Prop} {w:World} {H:List Ba} {xs:List Ac} {vs:List Value} (h:FH ok w H xs vs) (n:Nat):FH ok w H (xs.take n) (vs.take n):=by
 refine⟨by rw[Gx,Gx,h.1],fun i hi=>?_⟩;rw[Gx]at hi;have :=h.2 i AL;rw[lq,lq]at this ⊢;rw[LZ AL,LZ AL];exact this
def agD {ok:Nat→Prop} {w:World} {H:List Ba} {xs:List Ac} {vs:List Value} (h:FH ok w H xs vs) (n:Nat):FH ok w H (xs.drop n) (vs.drop n):=by
 refine⟨by rw[Jc,Jc,h.1],fun i hi=>?_⟩;rw[Jc]at hi;have :=h.2 (n+i) AL;rw[lq,lq]at this ⊢;rw[Nz,Nz];exact this
def ach {ok:Nat→Prop} {w:World} {H:List Ba} {xs:List Ac} {vs:List Value} (h:FH ok w H xs vs):∀u∈vs,u.oneCell'=true:=fun u j=>by
 obtain⟨i,hi,rfl⟩:=Hf j;have f:=h.2 i (by rw[←h.1];exact hi);have :=f.2.leaf f.1
 rwa [lq,Dl hi]at this
def aIp {size:Nat}:∀{es:List D} (i:Nat),(∀x∈es,x.cells.length=size)→flat (es.take i)=(flat es).take (i*size)
 | [],i,_=>Qv
 |x::l,0,_=>Qv
 |x::l,i+1,h=>by
  have f:(x.cells.map Ac.d).length=size:=by rw[Ch];exact h x (FB ..)
  rw[List.take_succ_cons,UD,UD,aIp i fun y j=>h y (G9 _ j),XG,yY,P7,←f,List.take_length_add_append]
def acz {size:Nat}:∀{es:List D} (i:Nat),(∀x∈es,x.cells.length=size)→flat (es.drop i)=(flat es).drop (i*size)
 | [],i,_=>Qv
 |x::l,0,_=>Qv
 |x::l,i+1,h=>by
  have f:(x.cells.map Ac.d).length=size:=by rw[Ch];exact h x (FB ..)
  rw[List.drop_succ_cons,UD,acz i fun y j=>h y (G9 _ j),XG,yY,P7,←f,List.drop_length_add_append]
def CW.kill {C:Dv} {ok:Nat→Prop} {H:List Ba} {es:List BH} {w:World} (q:CW C ok H es w) (k:Nat):CW C ok H (es.set k .dead) w:=
 (q.change (ok':=ok) (H':=H) (w':=w) (es':=es.set k .dead) (fun _=>False) rfl rfl rfl (Dw _) (fun _ _ _=>rfl) (fun _ h=>h.elim) (fun _ h=>h) (fun _ h=>.inl h) (.refl _) (by simpa using q.hlen) (by
  intro j e' h' f m;by_cases s:k=j
  ·subst s;rw[List.getElem?_set]at f;simp only[KD]at f;split at f
   ·cases f;exact .inr ⟨trivial,fun h=>Gt⟩
   cases f
  rw[Vb s]at f
  exact .inl ⟨f,m,fun _ _ _ h=>h⟩)).1
def tK {α:Type} (l:List α) (i:Int) (m:List α):Option (List α):=match m with
 | [x]=>if(0≤i∧i≤(l.length:Int))∧l.length≤34359738368 then some (l.take i.toNat++x::l.drop i.toNat)else none
 |_=>none
def amq {α:Type} {e:α→D} (hk:∀x,(e x).cells.length=29) (l:List α) (q:Int) (m r:List α) (h:tK l q m=some r):
 BF 98 [.aS 0,.d (AY q),.aS 1] [.arr 55 29 (l.map e),.arr 55 29 (m.map e)] (.aS 2) [.dead,.dead,.arr 55 29 (r.map e)]:=by
 unfold tK at h;split at h
 case h_2=>cases h
 rename_i x;split at h
 case isFalse=>cases h
 rename_i hc;obtain⟨⟨hq0,hql⟩,hb⟩:=hc;obtain rfl:=CO h;obtain⟨i,rfl⟩:∃i:Nat,q=i:=⟨q.toNat,AL⟩
 have hi:i≤l.length:=AL
 rw[Vw];intro ok X H w J u hs ha;have h0:=ha 0 BK;have hq:=ha 1 BK;have h2:=ha 2 BK;rw[aou hs];obtain⟨hd,hh,hok⟩:=FV u.ent u.hlen (k:=0) rfl;obtain⟨L,M,O⟩:=FV u.ent u.hlen (k:=1) rfl;obtain hv:=O8 h0 hh;obtain hv1:=O8 h2 M
 have hq':J.getD 1 undef=.int .i64 i:=by
  simp only[List.getD,zn,aE9,Lc]at hq;cases hq with |d _ _ hq=>exact DT.abH hq
 rw[hv,hv1,hq'];obtain⟨hz,U,xs,Y,I⟩:=hok;obtain⟨hz1,ayC,news,j,s⟩:=O;rw[Ch]at Y
 obtain⟨g1,c1,Z⟩:∃g1 c1,L.v=.slice (some ⟨g1,0,none⟩) 1 c1:=by
  rcases j.2 with⟨_,h⟩|⟨g,cap,cur,h,_⟩
  ·cases h
  exact⟨g,cap,h⟩
 have hne:DC hd.v≠some g1:=fun hb=>by
  have :=u.Cm 0 1 _ _ hd L g1 rfl rfl rfl rfl hh M hb (by rw[Z];rfl);cases this
 rw[Z]at j ⊢;refine(apK hi Y (ach I) j (ach s) hne AL).mono ?_;rintro y w' ⟨v',rfl,f,ht,hblk⟩;have hlen:l.length+1=((l.take i++x::l.drop i).map e).length:=E8
 rw[hlen]at f
 have hfl:flat ((l.take i++x::l.drop i).map e)=(flat (l.map e)).take (i*29)++flat ([x].map e)++(flat (l.map e)).drop (i*29):=by
  rw[←aIp i U,←acz i U,←cD,←cD,I9,JD,WY,Y6,Gu];rfl
 have hg:=u.turn (e:=.arr 55 29 ((l.take i++x::l.drop i).map e)) (h':=⟨v',29⟩) (w':=w') (k:=0) rfl rfl hh ht.os ht.tape ht.output ht.size ht.block (fun g hg=>⟨qG f hg,hblk g hg⟩) (fun hgr=>⟨rfl,fun y hy=>by
  obtain⟨z,_,rfl⟩:=F7.1 hy
  exact hk z,_,f,by rw[hfl];exact(vG (vG (akx I _) s) (agD I _)).mono hgr (.push _ _)⟩)
 refine⟨v',ok,H++[⟨v',29⟩],rfl,hg.1.kill 1,?_⟩;have hl:H.length=2:=u.hlen;have hr:(H++[(⟨v',29⟩:Ba)])[2]? =some ⟨v',29⟩:=by rw[←hl];simp
 rcases f.2 with⟨rfl,_⟩|⟨g,cap,cur,rfl,_⟩
 ·exact .aS 2 _ _ _ 29 hr
 exact .aS 2 _ _ _ 29 hr
end Go.Proofs.YtolgdkhlelfpoaaGreat
end
section
namespace Go.Proofs.YtolgdkhlelfpoaaGreat
open Go.RowKit
section
variable {P : Program} {o : Oper} {es : List BH}
def Nq {f:FuncId} {ops:Array Operand} {ats:Array TypeId} (dO:List Ac) {eH:List Ac} {j res':Ac} {E':List BH} (m:Am P f eH [] j E') (q:o.op=.call { callee:=.value (.func f),args:=ops,argTypes:=ats }) (s:DX P f=true:=by kernel_rfl) (u:E'.all BH.closed=true:=by kernel_rfl)
 (ha:Kt [] dO eH:=by repeat (first|exact trivial|refine⟨.inl rfl,?_⟩|refine⟨.inr (.inr ⟨rfl,rfl⟩),?_⟩)) (hl:ops.toList.length=dO.length:=by kernel_rfl) (z:j.up [] es.length=res':=by kernel_rfl):Bc P o (Ef ops.toList dO) es res' (es++E'):=aJn m s u ha hl z q
def aeZ {f:FuncId} {ops:Array Operand} {ats:Array TypeId} (dO:List Ac) {eH:List Ac} {j res':Ac} (m:Am P f eH [] j []) (q:o.op=.call { callee:=.value (.func f),args:=ops,argTypes:=ats }) (s:DX P f=true:=by kernel_rfl)
 (ha:Kt [] dO eH:=by repeat (first|exact trivial|refine⟨.inl rfl,?_⟩|refine⟨.inr (.inr ⟨rfl,rfl⟩),?_⟩)) (hl:ops.toList.length=dO.length:=by kernel_rfl) (u:j.up [] es.length=res':=by kernel_rfl):Bc P o (Ef ops.toList dO) es res' es:=aeS m s ha hl u q
def Df {f:FuncId} {ops:Array Operand} {ats:Array TypeId} (srcs:List DV) (dO:List Ac) {eH:List Ac} {E E':List BH} {j res':Ac} (m:Am P f eH E j E') (q:o.op=.call { callee:=.value (.func f),args:=ops,argTypes:=ats }) (s:DX P f=true:=by kernel_rfl) (u:Pj srcs es E E'=true:=by kernel_rfl)
 (hE:Rl srcs es srcs E:=by first|exact trivial|exact Jv A8 trivial) (ha:Kt srcs dO eH:=by repeat (first|exact trivial|refine⟨.inl rfl,?_⟩|refine⟨⟨0,rfl,rfl⟩,?_⟩|refine⟨⟨1,rfl,rfl⟩,?_⟩|refine⟨⟨2,rfl,rfl⟩,?_⟩|refine⟨.inr (.inr ⟨rfl,rfl⟩),?_⟩)) (hl:ops.toList.length=dO.length:=by kernel_rfl)
 (z:res'=j.up srcs es.length:=by kernel_rfl):Bc P o (Ef ops.toList dO) es res' (KA srcs es E'):=aa8 srcs m s u hE ha hl z q
def Xk {f:FuncId} {x:Operand} {ops:Array Operand} {ats:Array TypeId} (srcs:List DV) (fi ca dO:List Ac) {eH:List Ac} {E E':List BH} {j res':Ac} (m:Am P f eH E j E') (q:o.op=.call { callee:=.value x,args:=ops,argTypes:=ats }) (s:DX P f=true:=by kernel_rfl) (u:Pj srcs es E E'=true:=by kernel_rfl)
 (hE:Rl srcs es srcs E:=by first|exact trivial|exact Jv A8 trivial) (ha:Kt srcs (fi++dO++ca) eH:=by repeat (first|exact trivial|refine⟨.inl rfl,?_⟩|refine⟨⟨0,rfl,rfl⟩,?_⟩|refine⟨⟨1,rfl,rfl⟩,?_⟩|refine⟨⟨2,rfl,rfl⟩,?_⟩|refine⟨.inr (.inr ⟨rfl,rfl⟩),?_⟩)) (hl:ops.toList.length=dO.length:=by kernel_rfl)
 (z:res'=j.up srcs es.length:=by kernel_rfl):Bc P o ((x,.fn (.func f) fi ca)::Ef ops.toList dO) es res' (KA srcs es E'):=aiE srcs fi ca m s u hE ha hl z q
def aMb {f:FuncId} {x:Operand} {ops:Array Operand} {ats:Array TypeId} (srcs:List DV) (fi ca:List D) (dO:List Ac) {eH:List Ac} {E E':List BH} {j res':Ac} (m:Am P f eH E j E') (q:o.op=.call { callee:=.value x,args:=ops,argTypes:=ats }) (s:DX P f=true:=by kernel_rfl) (u:Pj srcs es E E'=true:=by kernel_rfl)
 (hE:Rl srcs es srcs E:=by first|exact trivial|exact Jv A8 trivial) (ha:Kt srcs (fi.map .d++dO++ca.map .d) eH:=by repeat (first|exact trivial|refine⟨.inl rfl,?_⟩|refine⟨⟨0,rfl,rfl⟩,?_⟩|refine⟨⟨1,rfl,rfl⟩,?_⟩|refine⟨⟨2,rfl,rfl⟩,?_⟩|refine⟨.inr (.inr ⟨rfl,rfl⟩),?_⟩)) (hl:ops.toList.length=dO.length:=by kernel_rfl)
 (z:res'=j.up srcs es.length:=by kernel_rfl):Bc P o ((x,.d (.fn (.func f) fi ca))::Ef ops.toList dO) es res' (KA srcs es E'):=ai5 srcs fi ca m s u hE ha hl z q
end
section
variable {P : Program} {ops : Array Oper} {o : Oper} {rest l : List Oper} {σ : Ar} {K : Exit → Ar → Prop}
def D5.ca {f:FuncId} {dO:List Ac} {j:Ac} (m:Am P f dO [] j []) (k:D5 P ops rest (σ.pY o.dst (j.up [] σ.ents.length)) K) (q:DX P f=true:=by kernel_rfl) (s:TI σ o=some (f,dO):=by kernel_rfl)
 (hd:dO.all Ac.yF=true:=by kernel_rfl) (u:JH ops σ o.guard=some true:=by kernel_rfl):D5 P ops (o::rest) σ K:=.call m q k s hd u
def El.ca {σ':Ar} {f:FuncId} {dO:List Ac} {j:Ac} {rs:List Ac} {ess:List (List BH)} {bs:List Bool} (m:Am P f dO [] j []) (k:El P ops rest (σ.pY o.dst (j.up [] σ.ents.length)) rs ess bs σ') (q:DX P f=true:=by kernel_rfl) (s:TI σ o=some (f,dO):=by kernel_rfl)
 (hd:dO.all Ac.yF=true:=by kernel_rfl) (u:JH ops σ o.guard=some true:=by kernel_rfl):El P ops (o::rest) σ (j.up [] σ.ents.length::rs) (σ.ents::ess) (false::bs) σ':=.call m q k s hd u
end
section
variable {P : Program} {ops : Array Oper} {o : Oper} {rest l : List Oper} {σ : Ar} {K : Exit → Ar → Prop}
def D5.aW [T:Kn P] {M:Ar→Prop} (k:M (Q8 (Gj T ops l.length l σ))) (h:(Gj T ops l.length l σ).isSome=true:=by kernel_rfl):D5 P ops l σ (Jh M K):=.aM l.length k rfl h
def D5.bi [T:Kn P] {A:Type} {b:Bool} {u v z:A} (h:(bif b then u else v)=z) (j:u=z→D5 P ops rest (σ.pY o.dst (.d (.lit (.bool true)))) K:=by exact fun h=>.aW<|CM) (k2:v=z→D5 P ops rest (σ.pY o.dst (.d (.lit (.bool false)))) K:=by exact fun h=>.aW<|CM)
 (f:(UH T ops σ o).map (fun r=>(r.x,r.E,r.bar))=some (.d (.lit (.bool b)),σ.ents,false):=by kernel_rfl):D5 P ops (o::rest) σ K:=FD h (fun e h=>.c (BR some e) (j h) f) fun e h=>.c (BR some e) (k2 h) f
def CY {A:Type} {b:Bool} {u v z:A} {G:Prop} (h:(bif b then u else v)=z) (f:b=true→u=z→G:=by exact fun e i=>aMJ) (k2:b=false→v=z→G:=by exact fun e i=>aMJ):G:=FD h f k2
def AX [T:Kn P] {id:Nat} {y:Code} {Q:Exit→Ar→Prop} (k:AO P y (Q8 (Gj T ops ops.toList.length ops.toList σ)) Q) (h:(Gj T ops ops.toList.length ops.toList σ).isSome=true:=by kernel_rfl):AO P (.seq (.region id ops false) y) σ Q:=AP (.aW k h)
end
section
variable {P : Program} {ops : Array Oper} {l : List Oper} {σ : Ar} {K : Exit → Ar → Prop}
def D5.mg (a c:Nat) (x:Ac) (f:D5 P ops (l.take (c+1)) σ (Jh (fun s=>s.wipe (List.range' a c)=(σ.wipe (List.range' a c)).pY (some (a+c)) x) K)) (j:D5 P ops (l.drop (c+1)) ((σ.wipe (List.range' a c)).pY (some (a+c)) x) K):D5 P ops l σ K:=.merge (c+1) (List.range' a c) (a+c) x f j
end
def Ad {σ S:Ar} (n w:Nat) (π:List (Nat×Bool)) (f:Sv σ.base σ.ents π=true:=by kernel_rfl) (j:S=⟨Je π (mk n w) σ.slots,QS σ.ents π,σ.base⟩:=by kernel_rfl):CJ σ S:=am8 (mk n w) π f j
def MO {α β:Type} {y:α} {g:α→Option (Except Value β)} {r:Except Value β} (h:JX (.ok y) g=some r):g y=some r:=h
def Ls {α β:Type} {u:Value} {g:α→Option (Except Value β)} {r:Except Value β} (h:JX (.error u) g=some r):some (.error u)=some r:=h
def BZ :ByteArray:=⟨#[]⟩
def Zc (k:IntKind) (n:Int):D:=.lit (.int k n)
def aCk :ByteArray:=⟨#[33,114,58,97]⟩
def oN :ByteArray:=⟨#[64,117,58,97]⟩
def uU :ByteArray:=⟨#[97]⟩
def apm :ByteArray:=⟨#[104,105]⟩
def aqy :ByteArray:=⟨#[64,119,58,98]⟩
def aJr :ByteArray:=⟨#[98]⟩
def dN :ByteArray:=⟨#[58]⟩
def o8 :ByteArray:=⟨#[33]⟩
def lX :ByteArray:=⟨#[64]⟩
def oO :ByteArray:=⟨#[64,33]⟩
def GL :ByteArray:=⟨#[84,101,120,116]⟩
def Gp :ByteArray:=⟨#[78]⟩
def JG :ByteArray:=⟨#[86,105,97]⟩
def JK :ByteArray:=⟨#[76,101,118,101,108,115]⟩
def IW :ByteArray:=⟨#[65,108,108,111,119]⟩
def J5 :ByteArray:=⟨#[68,101,110,121]⟩
def Gy :ByteArray:=⟨#[84,97,114,103,101,116]⟩
def JE :ByteArray:=⟨#[84,104,114,101,97,100]⟩
structure Gi where
 User:ByteArray
 N:Int
def ER (x:Gi):D:=.agg [CQ x.User,AY x.N]
def aic :Gi:=⟨BZ,0⟩
instance : Inhabited Gi:=⟨aic⟩
structure Hu where
 Kind:Int
 N:Int
def EX (x:Hu):D:=.agg [AY x.Kind,AY x.N]
def apk :Hu:=⟨0,0⟩
instance : Inhabited Hu:=⟨apk⟩
structure D8 where
 Users:(List Gi)
 Kinds:(List Hu)
 User:Int
 Message:Int
 State:Int
 fV:Int
 jH:Int
 nD:Int
 gQ:Int
def EY (x:D8):D:=.agg [(Ai ER) x.Users,(Ai EX) x.Kinds,AY x.User,AY x.Message,AY x.State,AY x.fV,AY x.jH,AY x.nD,AY x.gQ]
def L8 :D8:=⟨[],[],0,0,0,0,0,0,0⟩
instance : Inhabited D8:=⟨L8⟩
structure Bq where
 Text:ByteArray
 N:Int
 Target:Int
 Thread:Bool
 Via:ByteArray
 Allow:(List ByteArray)
 gB:(List ByteArray)
 Levels:D8
def EI (x:Bq):D:=.agg [CQ x.Text,AY x.N,AY x.Target,Cj x.Thread,CQ x.Via,(Ai CQ) x.Allow,(Ai CQ) x.gB,(Ai ER) x.Levels.Users,(Ai EX) x.Levels.Kinds,AY x.Levels.User,AY x.Levels.Message,AY x.Levels.State,AY x.Levels.fV,AY x.Levels.jH,AY x.Levels.nD,AY x.Levels.gQ]
def Dq :Bq:=⟨BZ,0,0,false,BZ,[],[],L8⟩
instance : Inhabited Bq:=⟨Dq⟩
structure Lp where
 Server:ByteArray
 Sum:Int
def amP (x:Lp):D:=.agg [CQ x.Server,AY x.Sum]
def Z8 :Lp:=⟨BZ,0⟩
instance : Inhabited Lp:=⟨Z8⟩
structure AU where
 Id:Int
 Room:ByteArray
 bC:ByteArray
 Kind:Int
 State:Bool
 Key:ByteArray
 Time:Int
 Depth:Int
 bD:(List Int)
 bJ:(List Int)
 Content:Bq
 Hash:Int
 nV:Lp
def Aq (x:AU):D:=.agg [AY x.Id,CQ x.Room,CQ x.bC,AY x.Kind,Cj x.State,CQ x.Key,AY x.Time,AY x.Depth,(Ai AY) x.bD,(Ai AY) x.bJ,CQ x.Content.Text,AY x.Content.N,AY x.Content.Target,Cj x.Content.Thread,CQ x.Content.Via,(Ai CQ) x.Content.Allow,(Ai CQ) x.Content.gB,(Ai ER) x.Content.Levels.Users,(Ai EX) x.Content.Levels.Kinds,AY x.Content.Levels.User,AY x.Content.Levels.Message,AY x.Content.Levels.State,AY x.Content.Levels.fV,AY x.Content.Levels.jH,AY x.Content.Levels.nD,AY x.Content.Levels.gQ,AY x.Hash,CQ x.nV.Server,AY x.nV.Sum]
def G6 :AU:=⟨0,BZ,BZ,0,false,BZ,0,0,[],[],Dq,0,Z8⟩
instance : Inhabited AU:=⟨G6⟩
structure Ec where
 b_:(List Int)
def Fq (x:Ec):D:=.agg [(Ai CV) x.b_]
def aA2 :Ec:=⟨[]⟩
instance : Inhabited Ec:=⟨aA2⟩
structure MK where
 arY:Int
 akR:Nat
def Ry (x:MK):D:=.agg [AY x.arY,aLs x.akR]
def ars :MK:=⟨0,0⟩
instance : Inhabited MK:=⟨ars⟩
structure QI where
 nH:Int
 lg:Int
def Gz (x:QI):D:=.agg [AY x.nH,AY x.lg]
def aB4 :QI:=⟨0,0⟩
instance : Inhabited QI:=⟨aB4⟩
structure Az where
 Kind:Int
 Key:ByteArray
 Id:Int
def BD (x:Az):D:=.agg [AY x.Kind,CQ x.Key,AY x.Id]
def ao0 :Az:=⟨0,BZ,0⟩
instance : Inhabited Az:=⟨ao0⟩
structure aI where
 agj:Int
def afs :aI:=⟨0⟩
instance : Inhabited aI:=⟨afs⟩
structure U7 where
def Xg (x:U7):D:=.agg []
def aeu :U7:=⟨⟩
instance : Inhabited U7:=⟨aeu⟩
structure MC where
 Bo:(List Az)
 YP:(List Int)
 akT:(List Int)
def QW (x:MC):D:=.agg [(Ai BD) x.Bo,(Ai AY) x.YP,(Ai AY) x.akT]
def Tt :MC:=⟨[],[],[]⟩
instance : Inhabited MC:=⟨Tt⟩
structure Oi where
 lg:Int
 FQ:Int
 yS:Int
 akU:(List Int)
def Jt (x:Oi):D:=.agg [AY x.lg,AY x.FQ,AY x.yS,(Ai AY) x.akU]
def alB :Oi:=⟨0,0,0,[]⟩
instance : Inhabited Oi:=⟨alB⟩
structure Qc where
 WO:Int
 WQ:ByteArray
def J8 (x:Qc):D:=.agg [AY x.WO,CQ x.WQ]
def ahK :Qc:=⟨0,BZ⟩
instance : Inhabited Qc:=⟨ahK⟩
structure VA where
 aj6:(List Int)
def XV (x:VA):D:=.agg [(Ai AY) x.aj6]
def ahj :VA:=⟨[]⟩
instance : Inhabited VA:=⟨ahj⟩
structure Kq where
 lg:Int
 wU:Int
 yS:Int
def Lh (x:Kq):D:=.agg [AY x.lg,AY x.wU,AY x.yS]
def afN :Kq:=⟨0,0,0⟩
instance : Inhabited Kq:=⟨afN⟩
structure aIt where
 Id:Int
 Before:(List Az)
 After:(List Az)
 Err:Int
def aq0 :aIt:=⟨0,[],[],0⟩
instance : Inhabited aIt:=⟨aq0⟩
structure abg where
 Same:(List Az)
 Power:(List Int)
 First:(List Az)
 Others:(List Int)
 Last:(List Az)
def aiZ :abg:=⟨[],[],[],[],[]⟩
instance : Inhabited abg:=⟨aiZ⟩
structure aFN where
 Pos:Int
 Id:Int
 Status:Int
 Gone:Bool
def ahZ :aFN:=⟨0,0,0,false⟩
instance : Inhabited aFN:=⟨ahZ⟩
structure aHO where
 User:ByteArray
 Thread:Int
 Id:Int
 Time:Int
def aij :aHO:=⟨BZ,0,0,0⟩
instance : Inhabited aHO:=⟨aij⟩
structure aHM where
 User:ByteArray
 Until:Int
def alh :aHM:=⟨BZ,0⟩
instance : Inhabited aHM:=⟨alh⟩
structure aeU where
 Id:ByteArray
 Events:(List AU)
 Rows:(List aFN)
 Waiting:(List AU)
 ayu:(List Int)
 State:(List Az)
 Next:Int
 axR:(List aHO)
 ayr:(List aHM)
def asO :aeU:=⟨BZ,[],[],[],[],[],0,[],[]⟩
instance : Inhabited aeU:=⟨asO⟩
def Cx :Tryz.prog.underlying 22=some (.slice 55):=A8
def Ul :Tryz.prog.underlying 216=some (.slice 5):=A8
def Ht :Fg Tryz.prog 216 5 1 1:=KF A8
def OY :(Tryz.prog.info? 5).bind (·.zero)=some (.int .u8 0):=A8
def VW :Tryz.prog.underlying 3=some (.int .i64):=A8
def akC :Tryz.prog.underlying 228=some (.int .u64):=A8
def zI :Tryz.prog.underlying 5=some (.int .u8):=A8
def FU :Tryz.prog.underlying 9=some (.string):=A8
def F9 :Tryz.prog.underlying 45=some (.slice 9):=A8
def J3 :Dc Tryz.prog 9 false 1:=Ej A8
def amd :DF Tryz.prog 51 0 0:=DL A8
def alM :DF Tryz.prog 51 1 1:=DL A8
def D6 :Dc Tryz.prog 3 false 1:=Ej A8
def amx :DF Tryz.prog 51 2 2:=DL A8
def ano :DF Tryz.prog 51 3 3:=DL A8
def ac8 :Dc Tryz.prog 4 false 1:=Ej A8
def ap3 :DF Tryz.prog 51 4 4:=DL A8
def ah4 :DF Tryz.prog 51 5 5:=DL A8
def agT :Dc Tryz.prog 45 false 1:=Ej A8
def aqe :DF Tryz.prog 51 6 6:=DL A8
def af4 :DF Tryz.prog 51 7 7:=DL A8
def qO :Dc Tryz.prog 49 true 9:=Ej A8
def aIn :(Tryz.prog.info? 49).bind (·.zero)=some (.agg #[.slice none 0 0,.slice none 0 0,.int .i64 0,.int .i64 0,.int .i64 0,.int .i64 0,.int .i64 0,.int .i64 0,.int .i64 0]):=A8
def alY :DF Tryz.prog 49 0 0:=DL A8
def aL3 :Dc Tryz.prog 46 false 1:=Ej A8
def FY :Tryz.prog.underlying 46=some (.slice 173):=A8
def JQ :Dc Tryz.prog 173 true 2:=Ej A8
def uM :(Tryz.prog.info? 173).bind (·.zero)=some (.agg #[.string BZ,.int .i64 0]):=A8
def amR :DF Tryz.prog 173 0 0:=DL A8
def ao8 :DF Tryz.prog 173 1 1:=DL A8
def arz :DF Tryz.prog 49 1 1:=DL A8
def aIz :Dc Tryz.prog 47 false 1:=Ej A8
def FW :Tryz.prog.underlying 47=some (.slice 208):=A8
def JY :Dc Tryz.prog 208 true 2:=Ej A8
def aaU :(Tryz.prog.info? 208).bind (·.zero)=some (.agg #[.int .i64 0,.int .i64 0]):=A8
def agP :DF Tryz.prog 208 0 0:=DL A8
def aC1 :Dc Tryz.prog 44 false 1:=Ej A8
def ard :DF Tryz.prog 208 1 1:=DL A8
def ajS :DF Tryz.prog 49 2 2:=DL A8
def ajN :DF Tryz.prog 49 3 3:=DL A8
def akD :DF Tryz.prog 49 4 4:=DL A8
def afk :DF Tryz.prog 49 5 5:=DL A8
def apU :DF Tryz.prog 49 6 6:=DL A8
def alj :DF Tryz.prog 49 7 7:=DL A8
def ar0 :DF Tryz.prog 49 8 8:=DL A8
def aLm :(Tryz.prog.info? 211).bind (·.zero)=some (.agg #[.int .i64 0,.int .i64 0,.int .i64 0,.int .i64 0,.int .i64 0,.int .i64 0,.int .i64 0]):=A8
def asX :Xl Tryz.prog 211 1 (.agg #[.int .i64 0,.int .i64 0,.int .i64 0,.int .i64 0,.int .i64 0,.int .i64 0,.int .i64 0]):=aBF A8 aLm A8
def uq :Tryz.prog.underlying 211=some (.array 7 3):=A8
def aED :Dc Tryz.prog 5 false 1:=Ej A8
def alp :DF Tryz.prog 55 10 10:=DL A8
def QZ :Dc Tryz.prog 51 true 16:=Ej A8
def MR :Fg Tryz.prog 45 9 1 16:=KF A8
def vK :Fg Tryz.prog 46 173 2 24:=KF A8
def aDm :Fg Tryz.prog 47 208 2 16:=KF A8
def adk :(Tryz.prog.info? 51).bind (·.zero)=some (.agg #[.string BZ,.int .i64 0,.int .i64 0,.bool false,.string BZ,.slice none 0 0,.slice none 0 0,.slice none 0 0,.slice none 0 0,.int .i64 0,.int .i64 0,.int .i64 0,.int .i64 0,.int .i64 0,.int .i64 0,.int .i64 0]):=A8
def RF :(Tryz.prog.info? 55).bind (·.zero)=some (.agg #[.int .i64 0,.string BZ,.string BZ,.int .i64 0,.bool false,.string BZ,.int .i64 0,.int .i64 0,.slice none 0 0,.slice none 0 0,.string BZ,.int .i64 0,.int .i64 0,.bool false,.string BZ,.slice none 0 0,.slice none 0 0,.slice none 0 0,.slice none 0 0,.int .i64 0,.int .i64 0,.int .i64 0,.int .i64 0,.int .i64 0,.int .i64 0,.int .i64 0,.int .i64 0,.string BZ,.int .i64 0]):=A8
def agl :DF Tryz.prog 55 3 3:=DL A8
def DZ :Dc Tryz.prog 55 true 29:=Ej A8
def aLz :(Tryz.prog.info? 262).bind (·.zero)=some (.agg #[.slice none 0 0]):=A8
def aqg :Hz Tryz.prog 262 [(0,1)] (.agg #[.slice none 0 0]):=Jg A8 aLz A8
def ajZ :DF Tryz.prog 55 0 0:=DL A8
def EU :Fg Tryz.prog 24 3 1 8:=KF A8
def zero3 :(Tryz.prog.info? 3).bind (·.zero)=some (.int .i64 0):=A8
def Bl :Tryz.prog.underlying 24=some (.slice 3):=A8
def aoV :DF Tryz.prog 262 0 0:=DL A8
def anu :Dc Tryz.prog 216 false 1:=Ej A8
def aqU :DF Tryz.prog 55 1 1:=DL A8
def amJ :DF Tryz.prog 55 2 2:=DL A8
def zero9 :(Tryz.prog.info? 9).bind (·.zero)=some (.string BZ):=A8
def apb :DF Tryz.prog 55 4 4:=DL A8
def ahD :Fg Tryz.prog 303 4 1 1:=KF A8
def pG :(Tryz.prog.info? 4).bind (·.zero)=some (.bool false):=A8
def aL2 :Tryz.prog.underlying 303=some (.slice 4):=A8
def arE :DF Tryz.prog 55 5 5:=DL A8
def aiW :DF Tryz.prog 55 6 6:=DL A8
def apO :DF Tryz.prog 55 7 7:=DL A8
def ako :DF Tryz.prog 55 8 8:=DL A8
def aeB :Dc Tryz.prog 24 false 1:=Ej A8
def ain :DF Tryz.prog 55 9 9:=DL A8
def alI :Fg Tryz.prog 304 24 1 24:=KF A8
def zero24 :(Tryz.prog.info? 24).bind (·.zero)=some (.slice none 0 0):=A8
def aMm :Tryz.prog.underlying 304=some (.slice 24):=A8
def ark :DF Tryz.prog 55 11 26:=DL A8
def arD :DF Tryz.prog 55 12 27:=DL A8
def ah6 :DF Tryz.prog 53 0 0:=DL A8
def amm :DF Tryz.prog 53 1 1:=DL A8
def adM :(Tryz.prog.info? 53).bind (·.zero)=some (.agg #[.string BZ,.int .i64 0]):=A8
def an7 :Hz Tryz.prog 53 [(0,1),(1,1)] (.agg #[.string BZ,.int .i64 0]):=Jg A8 adM A8
def arV :Dc Tryz.prog 53 true 2:=Ej A8
def ao6 :DX Tryz.prog 137=true:=A8
def N9 :Fg Tryz.prog 22 55 29 376:=KF A8
def aqw :Hz Tryz.prog 55 [(0,1),(1,1),(2,1),(3,1),(4,1),(5,1),(6,1),(7,1),(8,1),(9,1),(10,16),(26,1),(27,2)] (.agg #[.int .i64 0,.string BZ,.string BZ,.int .i64 0,.bool false,.string BZ,.int .i64 0,.int .i64 0,.slice none 0 0,.slice none 0 0,.string BZ,.int .i64 0,.int .i64 0,.bool false,.string BZ,.slice none 0 0,.slice none 0 0,.slice none 0 0,.slice none 0 0,.int .i64 0,.int .i64 0,.int .i64 0,.int .i64 0,.int .i64 0,.int .i64 0,.int .i64 0,.int .i64 0,.string BZ,.int .i64 0]):=Jg A8 RF A8
def ala :Hz Tryz.prog 51 [(0,1),(1,1),(2,1),(3,1),(4,1),(5,1),(6,1),(7,9)] (.agg #[.string BZ,.int .i64 0,.int .i64 0,.bool false,.string BZ,.slice none 0 0,.slice none 0 0,.slice none 0 0,.slice none 0 0,.int .i64 0,.int .i64 0,.int .i64 0,.int .i64 0,.int .i64 0,.int .i64 0,.int .i64 0]):=Jg A8 adk A8
def an2 :DX Tryz.prog 237=true:=A8
def as9 :DX Tryz.prog 238=true:=A8
def aF0 :(Tryz.prog.info? 314).bind (·.zero)=some (.agg #[.int .i64 0,.nilFunc]):=A8
def aki :Hz Tryz.prog 314 [(0,1),(1,1)] (.agg #[.int .i64 0,.nilFunc]):=Jg A8 aF0 A8
def ap1 :Fg Tryz.prog 315 314 2 16:=KF A8
def aKQ :Tryz.prog.underlying 315=some (.slice 314):=A8
def aLX :Dc Tryz.prog 314 true 2:=Ej A8
def akS :DF Tryz.prog 314 0 0:=DL A8
def afr :DF Tryz.prog 314 1 1:=DL A8
def al6 :Dc Tryz.prog 244 false 1:=Ej A8
def alK :DX Tryz.prog 359=true:=A8
def aiF :DX Tryz.prog 360=true:=A8
def afv :DX Tryz.prog 361=true:=A8
def apa :DX Tryz.prog 362=true:=A8
def aio :DX Tryz.prog 363=true:=A8
def apj :DX Tryz.prog 364=true:=A8
def akV :Tryz.prog.underlying 4=some (.bool):=A8
def aCC (x y:Gi):Bool:=(x.User.toList==y.User.toList&&(x.N==y.N&&true))
def alV (x y:Gi):Zl Tryz.prog 2 173 [.string x.User,.int .i64 x.N] [.string y.User,.int .i64 y.N] (aCC x y):=⟨fun d w=>xE A8 A8 A8 (l:=[(9,0),(3,1)]) A8 (Ty (KJ J3 A8 w) (KJ J3 A8 w) (run_equalIn_string w _ _ _ _ FU)<|Ty (KJ D6 A8 w) (KJ D6 A8 w) (Y7 w _ _ .i64 _ _ _ VW)<|aB8 _ _ _ _)⟩
def anU :Program.eqGuardType Tryz.prog (Program.depth Tryz.prog) 173=false:=A8
def aLu :Tryz.prog.underlying 44=some (.int .i64):=A8
def aAV (x y:Hu):Bool:=(x.Kind==y.Kind&&(x.N==y.N&&true))
def ape (x y:Hu):Zl Tryz.prog 2 208 [.int .i64 x.Kind,.int .i64 x.N] [.int .i64 y.Kind,.int .i64 y.N] (aAV x y):=⟨fun d w=>xE A8 A8 A8 (l:=[(44,0),(3,1)]) A8 (Ty (KJ aC1 A8 w) (KJ aC1 A8 w) (Y7 w _ _ .i64 _ _ _ aLu)<|Ty (KJ D6 A8 w) (KJ D6 A8 w) (Y7 w _ _ .i64 _ _ _ VW)<|aB8 _ _ _ _)⟩
def am6 :Program.eqGuardType Tryz.prog (Program.depth Tryz.prog) 208=false:=A8
def aBm (x y:Lp):Bool:=(x.Server.toList==y.Server.toList&&(x.Sum==y.Sum&&true))
def akb (x y:Lp):Zl Tryz.prog 2 53 [.string x.Server,.int .i64 x.Sum] [.string y.Server,.int .i64 y.Sum] (aBm x y):=⟨fun d w=>xE A8 A8 A8 (l:=[(9,0),(3,1)]) A8 (Ty (KJ J3 A8 w) (KJ J3 A8 w) (run_equalIn_string w _ _ _ _ FU)<|Ty (KJ D6 A8 w) (KJ D6 A8 w) (Y7 w _ _ .i64 _ _ _ VW)<|aB8 _ _ _ _)⟩
def asL :Program.eqGuardType Tryz.prog (Program.depth Tryz.prog) 53=false:=A8
def Oz :Tryz.prog.underlying 144=some (.map 3 3):=A8
def Gg :KeyTy Tryz.prog 3 Aw:=aj9 VW
def aiX :(Tryz.prog.info? 144).bind (·.zero)=some (.map none):=A8
def ag8 :Dc Tryz.prog 144 false 1:=Ej A8
def aEj :Fg Tryz.prog 185 187 2 16:=KF A8
def vH :(Tryz.prog.info? 187).bind (·.zero)=some (.agg #[.int .i64 0,.int .i64 0]):=A8
def arb :Hz Tryz.prog 187 [(0,1),(1,1)] (.agg #[.int .i64 0,.int .i64 0]):=Jg A8 vH A8
def XK :Tryz.prog.underlying 185=some (.slice 187):=A8
def Qh :Dc Tryz.prog 187 true 2:=Ej A8
def aoB :DF Tryz.prog 187 0 0:=DL A8
def ajq :DF Tryz.prog 187 1 1:=DL A8
def Vy :Tryz.prog.underlying 25=some (.slice 92):=A8
def IL :Dc Tryz.prog 92 true 3:=Ej A8
def eA :(Tryz.prog.info? 92).bind (·.zero)=some (.agg #[.int .i64 0,.string BZ,.int .i64 0]):=A8
def aqT :Hz Tryz.prog 92 [(0,1),(1,1),(2,1)] (.agg #[.int .i64 0,.string BZ,.int .i64 0]):=Jg A8 eA A8
def apu :DF Tryz.prog 92 0 0:=DL A8
def ah7 :DF Tryz.prog 92 1 1:=DL A8
def ajf :DX Tryz.prog 145=true:=A8
def aro :DX Tryz.prog 147=true:=A8
def Gl :Tryz.prog.underlying 26=some (.slice 92):=A8
def ale :DF Tryz.prog 92 2 2:=DL A8
def Ui :Tryz.prog.underlying 119=some (.slice 26):=A8
def jZ :Dc Tryz.prog 26 false 1:=Ej A8
def zero26 :(Tryz.prog.info? 26).bind (·.zero)=some (.slice none 0 0):=A8
def aow :Dc Tryz.prog 119 false 1:=Ej A8
def aKf :DX Tryz.prog 130=true:=A8
def SB :Fg Tryz.prog 26 92 3 32:=KF A8
def tV :DX Tryz.prog 60=true:=A8
def Yg :Tryz.prog.underlying 104=some (.map 3 4):=A8
def asQ :DX Tryz.prog 300=true:=A8
def anW :DX Tryz.prog 301=true:=A8
def aKj :DX Tryz.prog 229=true:=A8
def adJ :DX Tryz.prog 302=true:=A8
def mP :DX Tryz.prog 163=true:=A8
def aoY :DX Tryz.prog 397=true:=A8
def anv :Dc Tryz.prog 22 false 1:=Ej A8
def aLB :(Tryz.prog.info? 150).bind (·.zero)=some (.agg #[.int .i64 0]):=A8
def anQ :Hz Tryz.prog 150 [(0,1)] (.agg #[.int .i64 0]):=Jg A8 aLB A8
def arJ :(match Tryz.prog.underlying 150 with |some (.interface _)=>false|some _=>true|none=>false)=true:=A8
def gY :DX Tryz.prog 86=true:=A8
def RQ :DX Tryz.prog 84=true:=A8
def aaC :(Tryz.prog.info? 200).bind (·.zero)=some (.agg #[.int .i64 0,.int .i64 0,.int .i64 0,.int .i64 0,.int .i64 0]):=A8
def arF :Xl Tryz.prog 200 1 (.agg #[.int .i64 0,.int .i64 0,.int .i64 0,.int .i64 0,.int .i64 0]):=aBF A8 aaC A8
def ahH :Dc Tryz.prog 200 true 5:=Ej A8
def ade :Tryz.prog.underlying 200=some (.array 5 3):=A8
def anF :DX Tryz.prog 240=true:=A8
def asA :Hz Tryz.prog 49 [(0,1),(1,1),(2,1),(3,1),(4,1),(5,1),(6,1),(7,1),(8,1)] (.agg #[.slice none 0 0,.slice none 0 0,.int .i64 0,.int .i64 0,.int .i64 0,.int .i64 0,.int .i64 0,.int .i64 0,.int .i64 0]):=Jg A8 aIn A8
def amF :Hz Tryz.prog 173 [(0,1),(1,1)] (.agg #[.string BZ,.int .i64 0]):=Jg A8 uM A8
def al7 :DX Tryz.prog 123=true:=A8
def aKP :Dc Tryz.prog 211 true 7:=Ej A8
def aKi :DX Tryz.prog 184=true:=A8
def aHx :DX Tryz.prog 183=true:=A8
def aLd :(Tryz.prog.info? 213).bind (·.zero)=some (.agg #[.slice none 0 0,.slice none 0 0]):=A8
def anG :Xl Tryz.prog 213 1 (.agg #[.slice none 0 0,.slice none 0 0]):=aBF A8 aLd A8
def agI :Tryz.prog.underlying 213=some (.array 2 47):=A8
def acy :(Tryz.prog.info? 214).bind (·.zero)=some (.agg #[.slice none 0 0,.slice none 0 0]):=A8
def ah3 :Xl Tryz.prog 214 1 (.agg #[.slice none 0 0,.slice none 0 0]):=aBF A8 acy A8
def aib :Tryz.prog.underlying 214=some (.array 2 46):=A8
def anT :DX Tryz.prog 82=true:=A8
def aLH :(Tryz.prog.info? 317).bind (·.zero)=some (.agg #[]):=A8
def apB :Hz Tryz.prog 317 [] (.agg #[]):=Jg A8 aLH A8
def asu :(match Tryz.prog.underlying 317 with |some (.interface _)=>false|some _=>true|none=>false)=true:=A8
def adS :DX Tryz.prog 305=true:=A8
def ao5 :Tryz.prog.underlying 89=some (.int .u64):=A8
def amo :(Tryz.prog.info? 147).bind (·.zero)=some (.agg #[.slice none 0 0,.slice none 0 0,.slice none 0 0]):=A8
def aJY :(Tryz.prog.info? 194).bind (·.zero)=some (.agg #[]):=A8
def apY :Hz Tryz.prog 194 [] (.agg #[]):=Jg A8 aJY A8
def anl :(match Tryz.prog.underlying 194 with |some (.interface _)=>false|some _=>true|none=>false)=true:=A8
def aDk :(Tryz.prog.info? 284).bind (·.zero)=some (.agg #[.int .i64 0,.string BZ]):=A8
def aga :Hz Tryz.prog 284 [(0,1),(1,1)] (.agg #[.int .i64 0,.string BZ]):=Jg A8 aDk A8
def aGD :Fg Tryz.prog 279 284 2 24:=KF A8
def fM :Tryz.prog.underlying 279=some (.slice 284):=A8
def iP :Dc Tryz.prog 284 true 2:=Ej A8
def aiv :DF Tryz.prog 284 0 0:=DL A8
def ane :DF Tryz.prog 284 1 1:=DL A8
def aay :DX Tryz.prog 298=true:=A8
def aCI :(Tryz.prog.info? 347).bind (·.zero)=some (.agg #[.int .i64 0,.int .i64 0,.int .i64 0,.slice none 0 0]):=A8
def agq :Hz Tryz.prog 347 [(0,1),(1,1),(2,1),(3,1)] (.agg #[.int .i64 0,.int .i64 0,.int .i64 0,.slice none 0 0]):=Jg A8 aCI A8
def aDu :Fg Tryz.prog 344 347 4 48:=KF A8
def UG :Tryz.prog.underlying 344=some (.slice 347):=A8
def Xq :Dc Tryz.prog 347 true 4:=Ej A8
def asj :DF Tryz.prog 347 3 3:=DL A8
def ahk :DF Tryz.prog 347 0 0:=DL A8
def alo :DF Tryz.prog 347 1 1:=DL A8
def agK :DF Tryz.prog 347 2 2:=DL A8
def aoI :DX Tryz.prog 416=true:=A8
def alD :DX Tryz.prog 413=true:=A8
def akL :qZ Tryz.prog 194 "fedchat/resolve.sort" 413=true:=A8
def aoZ :DF Tryz.prog 147 1 1:=DL A8
def ady :(Tryz.prog.info? 197).bind (·.zero)=some (.agg #[.slice none 0 0]):=A8
def alS :Hz Tryz.prog 197 [(0,1)] (.agg #[.slice none 0 0]):=Jg A8 ady A8
def aoh :(match Tryz.prog.underlying 197 with |some (.interface _)=>false|some _=>true|none=>false)=true:=A8
def af5 :DF Tryz.prog 197 0 0:=DL A8
def aFm :(Tryz.prog.info? 351).bind (·.zero)=some (.agg #[.int .i64 0,.int .i64 0,.int .i64 0]):=A8
def an0 :Hz Tryz.prog 351 [(0,1),(1,1),(2,1)] (.agg #[.int .i64 0,.int .i64 0,.int .i64 0]):=Jg A8 aFm A8
def aM1 :Fg Tryz.prog 349 351 3 24:=KF A8
def aN :Tryz.prog.underlying 349=some (.slice 351):=A8
def cG :Dc Tryz.prog 351 true 3:=Ej A8
def oI (x y:Kq):Bool:=(x.lg==y.lg&&(x.wU==y.wU&&(x.yS==y.yS&&true)))
def alZ (x y:Kq):Zl Tryz.prog 2 351 [.int .i64 x.lg,.int .i64 x.wU,.int .i64 x.yS] [.int .i64 y.lg,.int .i64 y.wU,.int .i64 y.yS] (oI x y):=⟨fun d w=>xE A8 A8 A8 (l:=[(3,0),(3,1),(3,2)]) A8 (Ty (KJ D6 A8 w) (KJ D6 A8 w) (Y7 w _ _ .i64 _ _ _ VW)<|Ty (KJ D6 A8 w) (KJ D6 A8 w) (Y7 w _ _ .i64 _ _ _ VW)<|Ty (KJ D6 A8 w) (KJ D6 A8 w) (Y7 w _ _ .i64 _ _ _ VW)<|aB8 _ _ _ _)⟩
def ajW :Program.eqGuardType Tryz.prog (Program.depth Tryz.prog) 351=false:=A8
def afL :DF Tryz.prog 351 0 0:=DL A8
def ajy :DX Tryz.prog 418=true:=A8
def ams :qZ Tryz.prog 197 "fedchat/resolve.sort" 418=true:=A8
def ah2 :DF Tryz.prog 147 0 0:=DL A8
def anx :DF Tryz.prog 147 2 2:=DL A8
def abW :Dc Tryz.prog 147 true 3:=Ej A8
def amV :eI Tryz.prog 147 0 0 false 1=true:=A8
def zero22 :(Tryz.prog.info? 22).bind (·.zero)=some (.slice none 0 0):=A8
def ap8 :DF Tryz.prog 115 2 2:=DL A8
def alq :Dc Tryz.prog 113 false 1:=Ej A8
def fP :Tryz.prog.underlying 113=some (.map 3 68):=A8
def Y2 :(Tryz.prog.info? 68).bind (·.zero)=some (.int .i64 0):=A8
def aly :DF Tryz.prog 115 1 1:=DL A8
def apM :Dc Tryz.prog 112 false 1:=Ej A8
def XR :Tryz.prog.underlying 112=some (.map 3 26):=A8
def Opn :Fg Tryz.prog 119 26 1 24:=KF A8
def arN :DF Tryz.prog 115 0 0:=DL A8
def aak :(Tryz.prog.info? 115).bind (·.zero)=some (.agg #[.map none,.map none,.map none]):=A8
def aMM :Hz Tryz.prog 115 [(0,1),(1,1),(2,1)] (.agg #[.map none,.map none,.map none]):=Jg A8 aak A8
def ap9 :Dc Tryz.prog 109 false 1:=Ej A8
def ao3 :DX Tryz.prog 74=true:=A8
def aeC :Fg Tryz.prog 77 58 1 8:=KF A8
def adZ :(Tryz.prog.info? 58).bind (·.zero)=some (.int .i64 0):=A8
def as3 :Tryz.prog.underlying 77=some (.slice 58):=A8
def WR :DX Tryz.prog 327=true:=A8
def aHr :DX Tryz.prog 328=true:=A8
def aey :DX Tryz.prog 329=true:=A8
def aMs :DX Tryz.prog 380=true:=A8
def abk :(Tryz.prog.info? 70).bind (·.zero)=some (.agg #[.int .i64 0,.slice none 0 0,.slice none 0 0,.int .i64 0]):=A8
def ajI :Dc Tryz.prog 70 true 4:=Ej A8
def aqX :DF Tryz.prog 70 0 0:=DL A8
def ajP :Hz Tryz.prog 70 [(0,1),(1,1),(2,1),(3,1)] (.agg #[.int .i64 0,.slice none 0 0,.slice none 0 0,.int .i64 0]):=Jg A8 abk A8
def afH :(Tryz.prog.info? 179).bind (·.zero)=some (.agg #[.slice none 0 0,.slice none 0 0,.slice none 0 0,.slice none 0 0,.slice none 0 0]):=A8
def aru :DF Tryz.prog 179 0 0:=DL A8
def asc :DF Tryz.prog 179 1 1:=DL A8
def ag7 :DF Tryz.prog 179 2 2:=DL A8
def agA :DF Tryz.prog 179 3 3:=DL A8
def amw :DF Tryz.prog 179 4 4:=DL A8
def ajY :Dc Tryz.prog 179 true 5:=Ej A8
def anP :eI Tryz.prog 179 4 4 false 1=true:=A8
def afZ :DF Tryz.prog 70 3 3:=DL A8
def aoy :Dc Tryz.prog 68 false 1:=Ej A8
def an5 :DF Tryz.prog 70 2 2:=DL A8
def agF :DF Tryz.prog 70 1 1:=DL A8
def arX :Dc Tryz.prog 58 false 1:=Ej A8
def ari :DF Tryz.prog 30 1 1:=DL A8
def al9 :DF Tryz.prog 30 3 3:=DL A8
def aqN :DF Tryz.prog 30 2 2:=DL A8
def aoi :Dc Tryz.prog 23 false 1:=Ej A8
def aju :DF Tryz.prog 30 4 4:=DL A8
def aoW :DF Tryz.prog 30 5 5:=DL A8
def ao7 :DF Tryz.prog 30 7 7:=DL A8
def aph :Dc Tryz.prog 27 false 1:=Ej A8
def ajw :DF Tryz.prog 30 8 8:=DL A8
def aq3 :Dc Tryz.prog 28 false 1:=Ej A8
def agi :DF Tryz.prog 30 0 0:=DL A8
def ahM :Dc Tryz.prog 94 true 4:=Ej A8
def apt :DF Tryz.prog 94 0 0:=DL A8
def as4 :Dc Tryz.prog 96 true 2:=Ej A8
def alu :DF Tryz.prog 96 0 0:=DL A8
def zero30 :(Tryz.prog.info? 30).bind (·.zero)=some (.agg #[.string BZ,.slice none 0 0,.slice none 0 0,.slice none 0 0,.slice none 0 0,.slice none 0 0,.int .i64 0,.slice none 0 0,.slice none 0 0]):=A8
def ao4 :Dc Tryz.prog 60 true 4:=Ej A8
def ama :DF Tryz.prog 60 1 1:=DL A8
def af7 :DF Tryz.prog 60 3 3:=DL A8
def akf :Dc Tryz.prog 30 true 9:=Ej A8
def aKV :(Tryz.prog.info? 60).bind (·.zero)=some (.agg #[.int .i64 0,.int .i64 0,.int .i64 0,.bool false]):=A8
def aiA :Hz Tryz.prog 60 [(0,1),(1,1),(2,1),(3,1)] (.agg #[.int .i64 0,.int .i64 0,.int .i64 0,.bool false]):=Jg A8 aKV A8
def anK :Hz Tryz.prog 30 [(0,1),(1,1),(2,1),(3,1),(4,1),(5,1),(6,1),(7,1),(8,1)] (.agg #[.string BZ,.slice none 0 0,.slice none 0 0,.slice none 0 0,.slice none 0 0,.slice none 0 0,.int .i64 0,.slice none 0 0,.slice none 0 0]):=Jg A8 zero30 A8
def anY :DF Tryz.prog 30 6 6:=DL A8
def ap6 :Tryz.prog.underlying 58=some (.int .i64):=A8
instance asx :Kn Tryz.prog where
 und:=[(3,.int .i64),(228,.int .u64),(5,.int .u8),(9,.string),(4,.bool),(44,.int .i64),(89,.int .u64),(58,.int .i64)]
 aeT:=⟨VW,akC,zI,FU,akV,aLu,ao5,ap6,trivial⟩
 ty:=[(9,false,1),(3,false,1),(4,false,1),(45,false,1),(49,true,9),(46,false,1),(173,true,2),(47,false,1),(208,true,2),(44,false,1),(5,false,1),(51,true,16),(55,true,29),(216,false,1),(24,false,1),(53,true,2),(314,true,2),(244,false,1),(144,false,1),(187,true,2),(92,true,3),(26,false,1),(119,false,1),(22,false,1),(200,true,5),(211,true,7),(284,true,2),(347,true,4),(351,true,3),(147,true,3),(113,false,1),(112,false,1),(109,false,1),(70,true,4),(179,true,5),(68,false,1),(58,false,1),(23,false,1),(27,false,1),(28,false,1),(94,true,4),(96,true,2),(60,true,4),(30,true,9)]
 hty:=⟨J3,D6,ac8,agT,qO,aL3,JQ,aIz,JY,aC1,aED,QZ,DZ,anu,aeB,arV,aLX,al6,ag8,Qh,IL,jZ,aow,anv,ahH,aKP,iP,Xq,cG,abW,alq,apM,ap9,ajI,ajY,aoy,arX,aoi,aph,aq3,ahM,as4,ao4,akf,trivial⟩
 fld:=[((51,0),0),((51,1),1),((51,2),2),((51,3),3),((51,4),4),((51,5),5),((51,6),6),((51,7),7),((49,0),0),((173,0),0),((173,1),1),((49,1),1),((208,0),0),((208,1),1),((49,2),2),((49,3),3),((49,4),4),((49,5),5),((49,6),6),((49,7),7),((49,8),8),((55,10),10),((55,3),3),((55,0),0),((262,0),0),((55,1),1),((55,2),2),((55,4),4),((55,5),5),((55,6),6),((55,7),7),((55,8),8),((55,9),9),((55,11),26),((55,12),27),((53,0),0),((53,1),1),((314,0),0),((314,1),1),((187,0),0),((187,1),1),((92,0),0),((92,1),1),((92,2),2),((284,0),0),((284,1),1),((347,3),3),((347,0),0),((347,1),1),((347,2),2),((147,1),1),((197,0),0),((351,0),0),((147,0),0),((147,2),2),((115,2),2),((115,1),1),((115,0),0),((70,0),0),((179,0),0),((179,1),1),((179,2),2),((179,3),3),((179,4),4),((70,3),3),((70,2),2),((70,1),1),((30,1),1),((30,3),3),((30,2),2),((30,4),4),((30,5),5),((30,7),7),((30,8),8),((30,0),0),((94,0),0),((96,0),0),((60,1),1),((60,3),3),((30,6),6)]
 hfld:=⟨amd,alM,amx,ano,ap3,ah4,aqe,af4,alY,amR,ao8,arz,agP,ard,ajS,ajN,akD,afk,apU,alj,ar0,alp,agl,ajZ,aoV,aqU,amJ,apb,arE,aiW,apO,ako,ain,ark,arD,ah6,amm,akS,afr,aoB,ajq,apu,ah7,ale,aiv,ane,asj,ahk,alo,agK,aoZ,af5,afL,ah2,anx,ap8,aly,arN,aqX,aru,asc,ag7,agA,amw,afZ,an5,agF,ari,al9,aqN,aju,aoW,ao7,ajw,agi,apt,alu,ama,af7,anY,trivial⟩
 part:=[((147,0),0,false,1),((179,4),4,false,1)]
 hpart:=⟨amV,anP,trivial⟩
 zero:=[(5,.int .u8 0),(49,.agg #[.slice none 0 0,.slice none 0 0,.int .i64 0,.int .i64 0,.int .i64 0,.int .i64 0,.int .i64 0,.int .i64 0,.int .i64 0]),(173,.agg #[.string BZ,.int .i64 0]),(208,.agg #[.int .i64 0,.int .i64 0]),(211,.agg #[.int .i64 0,.int .i64 0,.int .i64 0,.int .i64 0,.int .i64 0,.int .i64 0,.int .i64 0]),(51,.agg #[.string BZ,.int .i64 0,.int .i64 0,.bool false,.string BZ,.slice none 0 0,.slice none 0 0,.slice none 0 0,.slice none 0 0,.int .i64 0,.int .i64 0,.int .i64 0,.int .i64 0,.int .i64 0,.int .i64 0,.int .i64 0]),(55,.agg #[.int .i64 0,.string BZ,.string BZ,.int .i64 0,.bool false,.string BZ,.int .i64 0,.int .i64 0,.slice none 0 0,.slice none 0 0,.string BZ,.int .i64 0,.int .i64 0,.bool false,.string BZ,.slice none 0 0,.slice none 0 0,.slice none 0 0,.slice none 0 0,.int .i64 0,.int .i64 0,.int .i64 0,.int .i64 0,.int .i64 0,.int .i64 0,.int .i64 0,.int .i64 0,.string BZ,.int .i64 0]),(262,.agg #[.slice none 0 0]),(3,.int .i64 0),(9,.string BZ),(4,.bool false),(24,.slice none 0 0),(53,.agg #[.string BZ,.int .i64 0]),(314,.agg #[.int .i64 0,.nilFunc]),(144,.map none),(187,.agg #[.int .i64 0,.int .i64 0]),(92,.agg #[.int .i64 0,.string BZ,.int .i64 0]),(26,.slice none 0 0),(150,.agg #[.int .i64 0]),(200,.agg #[.int .i64 0,.int .i64 0,.int .i64 0,.int .i64 0,.int .i64 0]),(213,.agg #[.slice none 0 0,.slice none 0 0]),(214,.agg #[.slice none 0 0,.slice none 0 0]),(317,.agg #[]),(147,.agg #[.slice none 0 0,.slice none 0 0,.slice none 0 0]),(194,.agg #[]),(284,.agg #[.int .i64 0,.string BZ]),(347,.agg #[.int .i64 0,.int .i64 0,.int .i64 0,.slice none 0 0]),(197,.agg #[.slice none 0 0]),(351,.agg #[.int .i64 0,.int .i64 0,.int .i64 0]),(22,.slice none 0 0),(68,.int .i64 0),(115,.agg #[.map none,.map none,.map none]),(58,.int .i64 0),(70,.agg #[.int .i64 0,.slice none 0 0,.slice none 0 0,.int .i64 0]),(179,.agg #[.slice none 0 0,.slice none 0 0,.slice none 0 0,.slice none 0 0,.slice none 0 0]),(30,.agg #[.string BZ,.slice none 0 0,.slice none 0 0,.slice none 0 0,.slice none 0 0,.slice none 0 0,.int .i64 0,.slice none 0 0,.slice none 0 0]),(60,.agg #[.int .i64 0,.int .i64 0,.int .i64 0,.bool false])]
 hzero:=⟨⟨OY,A8⟩,⟨aIn,A8⟩,⟨uM,A8⟩,⟨aaU,A8⟩,⟨aLm,A8⟩,⟨adk,A8⟩,⟨RF,A8⟩,⟨aLz,A8⟩,⟨zero3,A8⟩,⟨zero9,A8⟩,⟨pG,A8⟩,⟨zero24,A8⟩,⟨adM,A8⟩,⟨aF0,A8⟩,⟨aiX,A8⟩,⟨vH,A8⟩,⟨eA,A8⟩,⟨zero26,A8⟩,⟨aLB,A8⟩,⟨aaC,A8⟩,⟨aLd,A8⟩,⟨acy,A8⟩,⟨aLH,A8⟩,⟨amo,A8⟩,⟨aJY,A8⟩,⟨aDk,A8⟩,⟨aCI,A8⟩,⟨ady,A8⟩,⟨aFm,A8⟩,⟨zero22,A8⟩,⟨Y2,A8⟩,⟨aak,A8⟩,⟨adZ,A8⟩,⟨abk,A8⟩,⟨afH,A8⟩,⟨zero30,A8⟩,⟨aKV,A8⟩,trivial⟩
 st:=[(262,[(0,1)],.agg #[.slice none 0 0]),(53,[(0,1),(1,1)],.agg #[.string BZ,.int .i64 0]),(55,[(0,1),(1,1),(2,1),(3,1),(4,1),(5,1),(6,1),(7,1),(8,1),(9,1),(10,16),(26,1),(27,2)],.agg #[.int .i64 0,.string BZ,.string BZ,.int .i64 0,.bool false,.string BZ,.int .i64 0,.int .i64 0,.slice none 0 0,.slice none 0 0,.string BZ,.int .i64 0,.int .i64 0,.bool false,.string BZ,.slice none 0 0,.slice none 0 0,.slice none 0 0,.slice none 0 0,.int .i64 0,.int .i64 0,.int .i64 0,.int .i64 0,.int .i64 0,.int .i64 0,.int .i64 0,.int .i64 0,.string BZ,.int .i64 0]),(51,[(0,1),(1,1),(2,1),(3,1),(4,1),(5,1),(6,1),(7,9)],.agg #[.string BZ,.int .i64 0,.int .i64 0,.bool false,.string BZ,.slice none 0 0,.slice none 0 0,.slice none 0 0,.slice none 0 0,.int .i64 0,.int .i64 0,.int .i64 0,.int .i64 0,.int .i64 0,.int .i64 0,.int .i64 0]),(314,[(0,1),(1,1)],.agg #[.int .i64 0,.nilFunc]),(187,[(0,1),(1,1)],.agg #[.int .i64 0,.int .i64 0]),(92,[(0,1),(1,1),(2,1)],.agg #[.int .i64 0,.string BZ,.int .i64 0]),(150,[(0,1)],.agg #[.int .i64 0]),(49,[(0,1),(1,1),(2,1),(3,1),(4,1),(5,1),(6,1),(7,1),(8,1)],.agg #[.slice none 0 0,.slice none 0 0,.int .i64 0,.int .i64 0,.int .i64 0,.int .i64 0,.int .i64 0,.int .i64 0,.int .i64 0]),(173,[(0,1),(1,1)],.agg #[.string BZ,.int .i64 0]),(317,[],.agg #[]),(194,[],.agg #[]),(284,[(0,1),(1,1)],.agg #[.int .i64 0,.string BZ]),(347,[(0,1),(1,1),(2,1),(3,1)],.agg #[.int .i64 0,.int .i64 0,.int .i64 0,.slice none 0 0]),(197,[(0,1)],.agg #[.slice none 0 0]),(351,[(0,1),(1,1),(2,1)],.agg #[.int .i64 0,.int .i64 0,.int .i64 0]),(115,[(0,1),(1,1),(2,1)],.agg #[.map none,.map none,.map none]),(70,[(0,1),(1,1),(2,1),(3,1)],.agg #[.int .i64 0,.slice none 0 0,.slice none 0 0,.int .i64 0]),(60,[(0,1),(1,1),(2,1),(3,1)],.agg #[.int .i64 0,.int .i64 0,.int .i64 0,.bool false]),(30,[(0,1),(1,1),(2,1),(3,1),(4,1),(5,1),(6,1),(7,1),(8,1)],.agg #[.string BZ,.slice none 0 0,.slice none 0 0,.slice none 0 0,.slice none 0 0,.slice none 0 0,.int .i64 0,.slice none 0 0,.slice none 0 0])]
 hst:=⟨aqg,an7,aqw,ala,aki,arb,aqT,anQ,asA,amF,apB,apY,aga,agq,alS,an0,aMM,ajP,aiA,anK,trivial⟩
 arr:=[(211,1,.agg #[.int .i64 0,.int .i64 0,.int .i64 0,.int .i64 0,.int .i64 0,.int .i64 0,.int .i64 0]),(200,1,.agg #[.int .i64 0,.int .i64 0,.int .i64 0,.int .i64 0,.int .i64 0]),(213,1,.agg #[.slice none 0 0,.slice none 0 0]),(214,1,.agg #[.slice none 0 0,.slice none 0 0])]
 harr:=⟨asX,arF,anG,ah3,trivial⟩
abbrev BL :=fun x=>BH.arr 3 1 (List.map AY x)
abbrev ZW :=fun x=>BH.arr 284 2 (List.map J8 x)
abbrev Dh :=fun x=>BH.arr 55 29 (List.map Aq x)
abbrev Yj :=fun x=>BH.arr 347 4 (List.map Jt x)
abbrev Ny :=fun x=>BH.arr 351 3 (List.map Lh x)
abbrev Dj :=fun x=>BH.arr 92 3 (List.map BD x)
abbrev Yv :=fun x=>BH.arr 26 1 (List.map (Ai BD) x)
abbrev TB :=fun x=>BH.arr 58 1 (List.map AY x)
abbrev Ii :=fun x=>BH.arr 9 1 (List.map CQ x)
abbrev BU :=fun x=>BH.arr 5 1 (List.map CV x)
abbrev U1 :=fun x=>BH.arr 173 2 (List.map ER x)
abbrev VN :=fun x=>BH.arr 208 2 (List.map EX x)
abbrev NR :=fun x=>BH.arr 187 2 (List.map Gz x)
abbrev Bz :=fun x=>Ac.d ((Ai AY) x)
abbrev AV :=fun x=>Ac.d (AY x)
abbrev Ah :=fun x=>Ac.d (Cj x)
abbrev Di :=fun x=>Ac.d (Aq x)
abbrev Dp :=fun x=>Ac.d ((Ai BD) x)
abbrev BQ :=fun x=>Ac.d ((Ai Aq) x)
abbrev SK :=fun x=>Ac.d ((Ai Jt) x)
abbrev MI :=fun x=>Ac.d ((Ai (Ai BD)) x)
abbrev D7 :=fun x=>Ac.d (CQ x)
abbrev VO :=fun x=>Ac.d (BD x)
abbrev Gh :=fun x=>Ac.d ((Ai CQ) x)
abbrev Ji :=fun x=>Ac.d (EY x)
abbrev GH :=fun x=>Ac.d ((Ai CV) x)
abbrev G5 :=fun x=>Ac.d (EI x)
abbrev MB :=fun x=>Ac.d ((Ai ER) x)
abbrev MX :=fun x=>Ac.d ((Ai EX) x)
end Go.Proofs.YtolgdkhlelfpoaaGreat
end
section
namespace Go.Proofs.YtolgdkhlelfpoaaGreat
open Go.RowKit
set_option maxRecDepth 20000
set_option maxHeartbeats 4000000
abbrev Au:=List AU
def aIF (f:Au):Option Bool:=some (decide ((f.length:Int)≤14))
def vF (aB r) (h:aIF aB=some r):BF 32 [BQ aB] [] (Ah r) []:=Am.aH Tryz.func32 rfl<|AX<|AP<|.a 1<|.p (BP Aq aB Cx rfl)<|.aW<|CS
def WS (f:AZ) (j:Int):Option AZ:=(IK 1 0 (f.length:Int) (BI ((f.length:Int)+j))).bind fun m=>some (gCopy m f)
def ni (fE zo r) (h:WS fE zo=some r):BF 334 [GH fE,AV zo] [] (.aS 0) [(BU r)]:=Am.aH Tryz.func334 rfl<|AP<|.e [(BU [])] (Cc 5 1 rfl)<|.aY<|AQ h fun f j h=>AP<|.a 1<|.p (BP CV fE Ul rfl)<|.a 1<|.p (BP CV fE Ul rfl)<|.a 2<|.e [(BU []),(BU f)] (XO CV 0 j Ht OY A8 A8 A8 BX rfl)<|.aW<|AP<|.a 2<|.e [(BU []),(BU (gCopy f fE))] (ar6 (k:=1) CV f fE Ht A8 (fun _=>rfl) rfl)<|.aY<|AX<|PS
def U8  (m:(AZ→Int→Option AZ)):AZ→Int→Option AZ:=fun j f=>(bif decide (f≥128)then(DU 1 j [E5 .or .u8 (IntKind.u8.wrap f) 128]).bind fun q=>(N7 .shr .u64 f 7).bind fun s=>m q s else(DU 1 j [IntKind.u8.wrap f]).bind fun u=>some u)
def aKU  :AZ→Int→Option AZ:=aX (U8) BA
def aAP (f:AZ) (j:Int):Option AZ:=aKU f j
def Wh (f:AZ) (j:Int):Option AZ:=(N7 .shl .u64 (IntKind.u64.wrap j) 1).bind fun m=>(bif decide (j<0)then aAP f (Xx .u64 m)else aAP f m)
def iT (fE qh r) (h:Wh fE qh=some r):BF 335 [.aS 0,AV qh] [(BU fE)] (.aS 1) [.dead,(BU r)]:=Am.aH Tryz.func335 rfl<|AP<|.e [(BU fE),(BU [])] (Cc 5 1 rfl)<|.aY<|AQ h fun m q h=>AP<|.a 2<|.p (uZ (k:=.u64) (k':=.u64) q rfl)<|.aW<|DJ (fun s=>∃(z:Int),CJ s ⟨BM 28 [(0,.aS 1),(5,.d ((Zc .u64) z))],[.dead,(BU fE)],1⟩∧aAP fE z=some r) (by rintro s ⟨z,U,h⟩;exact CZ U<|Aa<|AO.block<|Dy (fun O f=>⟨BM 28 [(0,.aS 1),(5,.d ((Zc .u64) f))],[.dead,(BU O)],1⟩) _ _ _ _ (Ad 28 33 [(0,false),(1,true)]) h<|fun Y k5 I O f h=>Aa<|AX<|Ae h (fun h=>AO.skip<|AO.block<|AQ h fun Z J h=>AP<|.a 3<|.p (V5 (k:=.u8) (u:=(IntKind.u8.wrap f)) (v:=128) rfl)<|.p (EG Ht OY [CV (E5 .or .u8 (IntKind.u8.wrap f) 128)] rfl)<|.e [.dead,.dead,(BU Z)] (ED (k:=1) CV J Ht A8 (fun _=>rfl) BX rfl)<|.aW<|AQ h fun x8 L h=>BG<|.a 1<|.p (aMH (k:=.u64) (k':=.u64) L rfl)<|.a 1<|.nil<|I _ _ _ (Ad 28 33 [(0,false),(2,true)]) h) fun h=>AO.exit<|AQ h fun x9 M h=>AP<|.a 3<|.p (EG Ht OY [CV (IntKind.u8.wrap f)] rfl)<|.e [.dead,.dead,(BU x9)] (ED (k:=1) CV M Ht A8 (fun _=>rfl) BX rfl)<|.aW<|by cases h;exact .ret (EK [(0,false),(2,true)]))<|fun j=>AX<|Ae h (fun h=>BG<|.a 1<|.p (aMP (k:=.u64) (u:=m) rfl)<|.a 1<|.nil<|j _ ⟨(Xx .u64 m),Ad 28 33 [(0,false),(0,true)],h⟩) fun h=>AO.skip<|j _ ⟨m,Ad 28 33 [(0,false),(0,true)],h⟩
def mZ (j:AZ) (f:ByteArray):Option AZ:=(Wh j (f.size:Int)).bind fun m=>(DU 1 m (Bf f)).bind fun q=>some q
def aIe (fE iM r) (h:mZ fE iM=some r):BF 333 [.aS 0,D7 iM] [(BU fE)] (.aS 1) [.dead,(BU r)]:=Am.aH Tryz.func333 rfl<|AP<|.e [(BU fE),(BU [])] (Cc 5 1 rfl)<|.aY<|C9 h fun m f q j h=>AP<|.a 3<|.e (x:=.aS 2) [.dead,(BU []),(BU m)] (Df [.ent 0] [.aS 0,AV (iM.size:Int)] (iT fE (iM.size:Int) m f) rfl)<|.a 1<|.e [.dead,(BU []),.dead,(BU q)] (anC (k:=2) j Ht OY FU A8 rfl)<|.aW<|by cases h;exact .ret (EK [(0,false),(3,true)])
def Oa (j:AZ) (f:ByteArray):Option AZ:=(WS j (BI ((f.size:Int)+10))).bind fun m=>(mZ m f).bind fun q=>some q
def sK (fE iM r) (h:Oa fE iM=some r):BF 251 [GH fE,D7 iM] [] (.aS 0) [(BU r)]:=Am.aH Tryz.func251 rfl<|AP<|.e [(BU [])] (Cc 5 1 rfl)<|.aY<|C9 h fun f j q m h=>AP<|.a 4<|.e (x:=.aS 1) [(BU []),(BU f)] (Nq [GH fE,AV (BI ((iM.size:Int)+10))] (ni fE (BI ((iM.size:Int)+10)) f j) rfl)<|.a 1<|.e (x:=.aS 2) [(BU []),.dead,(BU q)] (Df [.ent 1] [.aS 1,D7 iM] (aIe f iM q m) rfl)<|.aW<|L6
def KO (f:AZ) (j:Int):Option AZ:=(WS f 10).bind fun m=>(Wh m j).bind fun q=>some q
def UQ (fE qh r) (h:KO fE qh=some r):BF 252 [GH fE,AV qh] [] (.aS 0) [(BU r)]:=Am.aH Tryz.func252 rfl<|AP<|.e [(BU [])] (Cc 5 1 rfl)<|.aY<|C9 h fun f j q m h=>AP<|.a 1<|.e (x:=.aS 1) [(BU []),(BU f)] (Nq [GH fE,AV 10] (ni fE 10 f j) rfl)<|.a 1<|.e (x:=.aS 2) [(BU []),.dead,(BU q)] (Df [.ent 1] [.aS 1,AV qh] (iT f qh q m) rfl)<|.aW<|L6
def UO (j:AZ) (f:Bool):Option AZ:=(WS j 1).bind fun m=>(bif f then(DU 1 m [1]).bind fun q=>some q else(DU 1 m [0]).bind fun s=>some s)
def aaM (fE JJ r) (h:UO fE JJ=some r):BF 253 [GH fE,Ah JJ] [] (.aS 0) [(BU r)]:=Am.aH Tryz.func253 rfl<|AP<|.e [(BU [])] (Cc 5 1 rfl)<|.aY<|AQ h fun q f h=>AP<|.a 1<|.e (x:=.aS 1) [(BU []),(BU q)] (Nq [GH fE,AV 1] (ni fE 1 q f) rfl)<|.aW<|Aa<|AX<|Ae h (fun h=>AQ h fun s j h=>AP<|.a 1<|.p (EG Ht OY [CV 1] rfl)<|.e [(BU []),.dead,(BU s)] (ED (k:=1) CV j Ht A8 (fun _=>rfl) BX rfl)<|.aW<|L6) fun h=>AO.skip<|AQ h fun u m h=>AP<|.a 1<|.p (EG Ht OY [CV 0] rfl)<|.e [(BU []),.dead,(BU u)] (ED (k:=1) CV m Ht A8 (fun _=>rfl) BX rfl)<|.aW<|L6
abbrev FM:=List ByteArray
def aGV (f:FM) (q:(AZ→Int→Option AZ)):AZ→Int→Option AZ:=fun m j=>(bif decide (j<(f.length:Int))then(BJ f j).bind fun s=>(mZ m s).bind fun u=>q u (BI (j+1))else some m)
def aMW (f:FM):AZ→Int→Option AZ:=aX (aGV f) BA
def wZ (j:AZ) (f:FM):Option AZ:=(Wh j (f.length:Int)).bind fun m=>aMW f m 0
def ake (fE dh r) (h:wZ fE dh=some r):BF 336 [.aS 0,Gh dh,.d (.fn (.func 333) [] [])] [(BU fE)] (.aS 1) [.dead,(BU r)]:=Am.aH Tryz.func336 rfl<|AP<|.e [(BU fE),(BU [])] (Cc 5 1 rfl)<|.aY<|AQ h fun u f h=>AP<|.a 2<|.p (BP CQ dh F9 rfl)<|.e (x:=.aS 2) [.dead,(BU []),(BU u)] (Df [.ent 0] [.aS 0,AV (dh.length:Int)] (iT fE (dh.length:Int) u f) rfl)<|.aW<|Aa<|AP<|.a 1<|.p (BP CQ dh F9 rfl)<|.aW<|AO.block<|Dy (fun j z=>⟨BM 25 [(0,.aS 1),(2,.d (.fn (.func 333) [] [])),(13,Gh dh),(14,AV (dh.length:Int)),(15,AV z)],[.dead,(BU j)],1⟩) _ _ _ _ (Ad 25 57349 [(0,false),(2,true)]) h<|fun L M m j z h=>AX<|Aa<|Ae h (fun h=>AO.skip<|Aa<|AO.block<|AQ h fun I q h=>AP<|.p (BN CQ q F9 J3 rfl)<|.aW<|AQ h fun J s h=>BG<|.a 3<|.e (x:=.aS 2) [.dead,.dead,(BU J)] (aMb [.ent 1] [] [] [.aS 1,D7 I] (aIe j I J s) rfl)<|.a 1<|.nil<|BG<|.a 2<|.nil<|m _ _ _ (Ad 25 57349 [(0,false),(2,true)]) h) fun h=>AO.exit<|AX<|aBx
def VI (j:AZ) (f:FM):Option AZ:=(WS j (BI ((BI (8*(f.length:Int)))+10))).bind fun m=>(wZ m f).bind fun q=>some q
def adr (fE dh r) (h:VI fE dh=some r):BF 254 [GH fE,Gh dh] [] (.aS 0) [(BU r)]:=Am.aH Tryz.func254 rfl<|AP<|.e [(BU [])] (Cc 5 1 rfl)<|.aY<|C9 h fun f j q m h=>AP<|.a 2<|.p (BP CQ dh F9 rfl)<|.a 2<|.e (x:=.aS 1) [(BU []),(BU f)] (Nq [GH fE,AV (BI ((BI (8*(dh.length:Int)))+10))] (ni fE (BI ((BI (8*(dh.length:Int)))+10)) f j) rfl)<|.a 1<|.e (x:=.aS 2) [(BU []),.dead,(BU q)] (Df [.ent 1] [.aS 1,Gh dh,.d (.fn (.func 333) [] [])] (ake f dh q m) rfl)<|.aW<|L6
def jI (f:Bq) (q:(AZ→Int→Option AZ)):AZ→Int→Option AZ:=fun m j=>(bif decide (j<7)then(BJ ([f.Levels.User,f.Levels.Message,f.Levels.State,f.Levels.fV,f.Levels.jH,f.Levels.nD,f.Levels.gQ]:AZ) j).bind fun s=>(KO m s).bind fun u=>q u (BI (j+1))else some m)
def zS (f:Bq):AZ→Int→Option AZ:=aX (jI f) BA
def dW (f:Bq) (s:(AZ→Int→Option AZ)):AZ→Int→Option AZ:=fun m j=>(bif decide (j<(f.Levels.Kinds.length:Int))then(BJ f.Levels.Kinds j).bind fun q=>(KO m q.Kind).bind fun u=>(KO u q.N).bind fun z=>s z (BI (j+1))else zS f m 0)
def uY (f:Bq):AZ→Int→Option AZ:=aX (dW f) BA
def fK (f:Bq) (q:(AZ→Int→Option AZ)):AZ→Int→Option AZ:=fun I j=>(bif decide (j<(f.Levels.Users.length:Int))then(BJ f.Levels.Users j).bind fun m=>(Oa I m.User).bind fun s=>(KO s m.N).bind fun u=>q u (BI (j+1))else(KO I (f.Levels.Kinds.length:Int)).bind fun z=>uY f z 0)
def aD9 (f:Bq):AZ→Int→Option AZ:=aX (fK f) BA
def Yh (f:Bq):Option AZ:=(Oa [] f.Text).bind fun j=>(KO j f.N).bind fun m=>(KO m f.Target).bind fun q=>(UO q f.Thread).bind fun s=>(Oa s f.Via).bind fun u=>(VI u f.Allow).bind fun z=>(VI z f.gB).bind fun I=>(KO I (f.Levels.Users.length:Int)).bind fun J=>aD9 f J 0
def aK1 (dH r) (h:Yh dH=some r):BF 192 [G5 dH] [] (GH r) []:=Am.aH Tryz.func192 rfl<|AX<|AQ h fun x1 hx1 h=>AP<|.a 2<|.p (x:=(GH x1)) (aeZ [.d (.lit (.slice none 0 0)),D7 dH.Text] (sK [] dH.Text x1 hx1).view rfl)<|.aW<|AQ h fun x2 hx2 h=>AP<|.a 3<|.ca (UQ x1 dH.N x2 hx2).view<|.aW<|AQ h fun x3 hx3 h=>AP<|.a 3<|.ca (UQ x2 dH.Target x3 hx3).view<|.aW<|AQ h fun x4 hx4 h=>AP<|.a 3<|.ca (aaM x3 dH.Thread x4 hx4).view<|.aW<|AQ h fun x5 hx5 h=>AP<|.a 3<|.ca (sK x4 dH.Via x5 hx5).view<|.aW<|AQ h fun x6 hx6 h=>AP<|.a 3<|.ca (adr x5 dH.Allow x6 hx6).view<|.aW<|AQ h fun x7 hx7 h=>AP<|.a 3<|.ca (adr x6 dH.gB x7 hx7).view<|.aW<|AX<|AQ h fun x8 yj h=>AP<|.a 3<|.p (BP ER dH.Levels.Users FY rfl)<|.ca (UQ x7 (dH.Levels.Users.length:Int) x8 yj).view<|.aW<|Aa<|AP<|.a 2<|.p (BP ER dH.Levels.Users FY rfl)<|.aW<|AO.block<|Dy (fun v9 m=>⟨BM 103 [(3,GH v9),(4,.ptr 0 0),(46,MB dH.Levels.Users),(47,AV (dH.Levels.Users.length:Int)),(48,AV m)],[.box (Ag (EY dH.Levels))],0⟩) _ _ _ _ (Ad 103 492581209243672 [(1,true)]) h<|fun J32 k11 q v9 m h=>AX<|Aa<|Ae h (fun h=>AO.skip<|Aa<|AO.block<|AQ h fun s u h=>AP<|.p (BN ER u FY JQ rfl)<|.aW<|C9 h fun z I x15 J h=>AO.draw A8 A8 A8 (.a 3<|.ca (sK v9 s.User z I).view<|.a 2<|.ca (UQ z s.N x15 J).view<|.a 1<|.nil _)<|BG<|.a 2<|.nil<|q _ _ _ (Ad 103 492581209243672 [(0,true)]) h) fun h=>AO.exit<|AQ h fun x16 L h=>AP<|.a 3<|.p (BP EX dH.Levels.Kinds FW rfl)<|.ca (UQ v9 (dH.Levels.Kinds.length:Int) x16 L).view<|.aW<|Aa<|AP<|.a 2<|.p (BP EX dH.Levels.Kinds FW rfl)<|.aW<|AO.block<|Dy (fun f M=>⟨BM 103 [(3,GH f),(4,.ptr 0 0),(66,MX dH.Levels.Kinds),(67,AV (dH.Levels.Kinds.length:Int)),(68,AV M)],[.box (Ag (EY dH.Levels))],0⟩) _ _ _ _ (Ad 103 516508834063867445272 [(0,true)]) h<|fun J31 k19 O f M h=>AX<|Aa<|Ae h (fun h=>AO.skip<|Aa<|AO.block<|AQ h fun U Y h=>AP<|.p (BN EX Y FW JY rfl)<|.aW<|C9 h fun Z ae1 x23 ae2 h=>AO.draw A8 A8 A8 (.a 3<|.ca (UQ f U.Kind Z ae1).view<|.a 2<|.ca (UQ Z U.N x23 ae2).view<|.a 1<|.nil _)<|BG<|.a 2<|.nil<|O _ _ _ (Ad 103 516508834063867445272 [(0,true)]) h) fun h=>AO.exit<|Aa<|AX<|AO.block<|Dy (fun j v25=>⟨BM 103 [(3,GH j),(94,.d ((KE AY) ([dH.Levels.User,dH.Levels.Message,dH.Levels.State,dH.Levels.fV,dH.Levels.jH,dH.Levels.nD,dH.Levels.gQ]:(List Int)))),(95,AV v25)],[],0⟩) _ _ _ _ (Ad 103 59421121885698253195157962760 []) h<|fun J30 k26 asD j v25 h=>AX<|Aa<|Ae h (fun h=>AO.skip<|Aa<|AO.block<|AQ h fun x28 hx28 h=>AP<|.p (aAA (k:=.i64) AY hx28 uq D6 A8 rfl)<|.aW<|AQ h fun x29 hx29 h=>BG<|.a 2<|.ca (UQ j x28 x29 hx29).view<|.a 1<|.nil<|BG<|.a 2<|.nil<|asD _ _ _ (Ad 103 59421121885698253195157962760 []) h) fun h=>Ey
def wB  :Option Int:=some 860922984064492325
def ajT  (r:Int) (h:wB=some r):BF 250 [] [] (AV r) []:=Am.aH Tryz.func250 rfl<|Xa
def kQ (f:AZ) (q:(Int→Int→Option Int)):Int→Int→Option Int:=fun m j=>(bif decide (j<(f.length:Int))then(BJ f j).bind fun s=>q (E5 .and .u64 (IntKind.u64.wrap ((E5 .xor .u64 m (IntKind.u64.wrap s))*1099511628211)) 4611686018427387903) (BI (j+1))else some (BI m))
def aGS (f:AZ):Int→Int→Option Int:=aX (kQ f) BA
def aB9 (f:Int) (j:AZ):Option Int:=aGS j (E5 .and .u64 (IntKind.u64.wrap f) 4611686018427387903) 0
def aqx (ahE fF r) (h:aB9 ahE fF=some r):BF 249 [AV ahE,GH fF] [] (AV r) []:=Am.aH Tryz.func249 rfl<|AX<|AP<|.a 2<|.p (Ol (k:=.u64) (u:=(IntKind.u64.wrap ahE)) (v:=4611686018427387903) rfl)<|.aW<|Aa<|AP<|.a 1<|.p (BP CV fF Ul rfl)<|.aW<|AO.block<|Dy (fun f q=>⟨BM 26 [(5,.d ((Zc .u64) f)),(11,GH fF),(12,AV (fF.length:Int)),(13,AV q)],[],0⟩) _ _ _ _ (Ad 26 14368 []) h<|fun z I j f q h=>AX<|Aa<|Ae h (fun h=>AO.skip<|Aa<|AO.block<|AQ h fun s m h=>AP<|.p (BN CV m Ul aED rfl)<|.aW<|BG<|.a 3<|.p (aJB (k:=.u64) (u:=f) (v:=(IntKind.u64.wrap s)) rfl)<|.a 1<|.p (Ol (k:=.u64) (u:=(IntKind.u64.wrap ((E5 .xor .u64 f (IntKind.u64.wrap s))*1099511628211))) (v:=4611686018427387903) rfl)<|.a 1<|.nil<|BG<|.a 2<|.nil<|j _ _ _ (Ad 26 14368 []) h) fun h=>Ey
def Xu (f:AZ):Option Int:=(wB).bind fun j=>(aB9 j f).bind fun m=>some m
def adL (fE r) (h:Xu fE=some r):BF 191 [GH fE] [] (AV r) []:=Am.aH Tryz.func191 rfl<|AX<|C9 h fun m f q j h=>AP<|.ca (ajT  m f)<|.a 1<|.ca (aqx m fE q j)<|.aW<|CS
def bW (f:AU):Option Int:=(Yh f.Content).bind fun j=>(Xu j).bind fun m=>some m
def aMu (aO r) (h:bW aO=some r):BF 138 [Di aO] [] (AV r) []:=Am.aH Tryz.func138 rfl<|AX<|C9 h fun m f q j h=>AP<|.a 2<|.ca (aK1 aO.Content m f)<|.ca (adL m q j)<|.aW<|CS
def PZ (f:FM):Option FM:=(DU 16 [] f).bind fun j=>some j
def aAL (aB r) (h:PZ aB=some r):BF 141 [Gh aB] [] (.aS 0) [(Ii r)]:=Am.aH Tryz.func141 rfl<|AP<|.e [(Ii [])] (Cc 9 1 rfl)<|.aY<|AQ h fun j f h=>AP<|.a 1<|.e [(Ii []),.dead,(Ii j)] (aAM 9 1 (ED (k:=_) CQ f MR A8 (fun _=>rfl) BX rfl))<|.aW<|L6
def Yi (f:D8):Option D8:=(DU 24 [] f.Users).bind fun j=>(DU 16 [] (({ f with Users:=j }).Kinds)).bind fun m=>some ({ { f with Users:=j }with Kinds:=m })
def aMq (aB r) (h:Yi aB=some r):BF 142 [Ji aB] [] (Ji r) []:=Am.aH Tryz.func142 rfl<|AX<|AQ h fun f m h=>AP<|.a 2<|.e [.box (Ag (EY aB)),.box (Ag (EY L8)),.dead,(U1 f)] (aAM 173 2 (ED (k:=_) ER m vK A8 (fun _=>rfl) BX rfl))<|.conv _ (LH (e:=173) (s:=2) 3 (xs:=List.map ER f) A8)<|.aW<|AQ h fun j q h=>AP<|.a 2<|.e [.box (Ag (EY ({ aB with Users:=f }))),.box (Ag (EY L8)),.dead,.dead,.dead,(VN j)] (aAM 208 2 (ED (k:=_) EX q aDm A8 (fun _=>rfl) BX rfl))<|.conv _ (LH (e:=208) (s:=2) 5 (xs:=List.map EX j) A8)<|.aW<|AX<|AO.ret<|by rw[←CU h];exact⟨[Ji ({ { aB with Users:=f }with Kinds:=j })],[],⟨⟨1,Ag (EY ({ { aB with Users:=f }with Kinds:=j })),true,9,A8,A8,A8,qO,Ee A8,aHv,A8⟩,trivial⟩,A8,A8,A8⟩
def qp (f:Bool):Option Int:=(bif f then some 5 else some 0)
def qm (f:Int) (j:Bool):Option Int:=(bif j then some 2 else(bif (f==6)then some 96 else(bif (f==7)then some 1 else(bif (f==9)then some 3 else(bif (f==11)then some 13 else(bif (f==12)then qp (f==12)else(bif (f==13)then qp (f==13)else qp (f==14))))))))
def ZO (f:Int):Option Int:=(bif (f==2)then some 19 else(bif (f==3)then some 128 else(bif (f==4)then some 34 else(bif (f==5)then qm f (f==5)else(bif (f==8)then qm f (f==8)else qm f (f==10))))))
def abB (dF r) (h:ZO dF=some r):BF 194 [AV dF] [] (AV r) []:=Am.aH Tryz.func194 rfl<|AX<|Aa<|AX<|AO.block<|AX<|Ae h Bd fun h=>AX<|Ae h Bd fun h=>AX<|Ae h Bd fun h=>DJ (fun s=>∃(q:Bool),CJ s ⟨BM 26 [(3,AV dF),(10,Ah q)],[],0⟩∧qm dF q=some r) (by rintro s ⟨q,u,h⟩;exact CZ u<|Ae h Bd fun h=>AX<|Ae h Bd fun h=>AX<|Ae h Bd fun h=>AX<|Ae h Bd fun h=>AX<|Ae h Bd fun h=>DJ (fun s=>∃(f:Bool),CJ s ⟨BM 26 [(22,Ah f)],[],0⟩∧qp f=some r) (by rintro s ⟨f,u,h⟩;exact CZ u<|Ae h Bd fun h=>ND)<|fun j=>AX<|Ae h (fun h=>AO.skip<|j _ ⟨(dF==12),Ad 26 4194304 [],h⟩) fun h=>AX<|Ae h (fun h=>AO.skip<|j _ ⟨(dF==13),Ad 26 4194304 [],h⟩) fun h=>BG<|.a 2<|.nil<|j _ ⟨(dF==14),Ad 26 4194304 [],h⟩)<|fun m=>AX<|Ae h (fun h=>AO.skip<|m _ ⟨(dF==5),Ad 26 1032 [],h⟩) fun h=>AX<|Ae h (fun h=>AO.skip<|m _ ⟨(dF==8),Ad 26 1032 [],h⟩) fun h=>BG<|.a 2<|.nil<|m _ ⟨(dF==10),Ad 26 1032 [],h⟩
def er (f:Int) (j:Bool):Option Int:=(bif j then(ZO f).bind fun m=>some m else(bif (f==14)then some 4 else some 0))
def gJ (f:Int):Option Int:=(bif (f==2)then some 18 else(bif (f==3)then er f (f==3)else(bif (f==4)then er f (f==4)else(bif (f==5)then er f (f==5)else er f (f==6)))))
def aap (dF r) (h:gJ dF=some r):BF 143 [AV dF] [] (AV r) []:=Am.aH Tryz.func143 rfl<|AX<|Aa<|AX<|AO.block<|AX<|Ae h Bd fun h=>DJ (fun s=>∃(f:Bool),CJ s ⟨BM 15 [(0,AV dF),(3,AV dF),(6,Ah f)],[],0⟩∧er dF f=some r) (by rintro s ⟨f,m,h⟩;exact CZ m<|Ae h (fun h=>AQ h fun q j h=>AP<|.a 1<|.ca (abB dF q j)<|.aW<|CS) fun h=>xw)<|fun K6=>AX<|Ae h (fun h=>AO.skip<|K6 _ ⟨(dF==3),Ad 15 73 [],h⟩) fun h=>AX<|Ae h (fun h=>AO.skip<|K6 _ ⟨(dF==4),Ad 15 73 [],h⟩) fun h=>AX<|Ae h (fun h=>AO.skip<|K6 _ ⟨(dF==5),Ad 15 73 [],h⟩) fun h=>BG<|.a 2<|.nil<|K6 _ ⟨(dF==6),Ad 15 73 [],h⟩
def aH4 (f:Bq):Option Bq:=some f
def aCl (q:Int) (f:Bq) (j:Bq):Option Bq:=(bif ((E5 .and .i64 q 128) != 0)then(Yi f.Levels).bind fun m=>aH4 ({ j with Levels:=m })else aH4 j)
def aHT (j:Int) (f:Bq) (q:Bq):Option Bq:=(bif ((E5 .and .i64 j 64) != 0)then(PZ f.gB).bind fun m=>aCl j f ({ q with gB:=m })else aCl j f q)
def aCq (j:Int) (f:Bq) (q:Bq):Option Bq:=(bif ((E5 .and .i64 j 32) != 0)then(PZ f.Allow).bind fun m=>aHT j f ({ q with Allow:=m })else aHT j f q)
def aIR (j:Int) (f:Bq) (m:Bq):Option Bq:=(bif ((E5 .and .i64 j 16) != 0)then aCq j f ({ m with Via:=f.Via })else aCq j f m)
def aIX (j:Int) (f:Bq) (m:Bq):Option Bq:=(bif ((E5 .and .i64 j 4) != 0)then aIR j f ({ m with Target:=f.Target })else aIR j f m)
def lC (j:Int) (f:Bq):Option Bq:=(bif (j==1)then(PZ f.Allow).bind fun q=>(PZ f.gB).bind fun s=>(Yi f.Levels).bind fun u=>some ({ { { f with Allow:=q }with gB:=s }with Levels:=u })else(gJ j).bind fun m=>(bif ((E5 .and .i64 m 2) != 0)then aIX m f ({ Dq with N:=f.N })else aIX m f Dq))
def aLR (dF dQ r) (h:lC dF dQ=some r):BF 99 [AV dF,G5 dQ] [] (G5 r) []:=Am.aH Tryz.func99 rfl<|AX<|Aa<|AX<|Ae h (fun h=>Pv h fun x2 hx2 x3 hx3 x4 hx4 h=>GK A8 A8 A8 (.a 2<|.ca (aAL dQ.Allow x2 hx2).view<|.a 2<|.ca (aAL dQ.gB x3 hx3).view<|.a 2<|.ca (aMq dQ.Levels x4 hx4)<|.a 6<|.nil _)<|AX<|AO.ret<|by rw[←CU h];exact⟨[G5 ({ { { dQ with Allow:=x2 }with gB:=x3 }with Levels:=x4 })],[],⟨⟨1,Ag (EI ({ { { dQ with Allow:=x2 }with gB:=x3 }with Levels:=x4 })),true,16,A8,A8,A8,QZ,Ee A8,TU,A8⟩,trivial⟩,A8,A8,A8⟩) fun h=>AO.skip<|AX<|AQ h fun f hx5 h=>AP<|.a 1<|.ca (aap dF f hx5)<|.aW<|DJ (fun s=>∃(z:Bq),CJ s ⟨BM 64 [(3,.ptr 0 0),(4,.ptr 1 0),(5,.ptr 2 0),(6,AV f)],[.box (Ag (EI dQ)),.box (Ag (EI Dq)),.box (Ag (EI z))],0⟩∧aIX f dQ z=some r) (by rintro s ⟨z,j,h⟩;exact CZ j<|DJ (fun s=>∃(I:Bq),CJ s ⟨BM 64 [(3,.ptr 0 0),(4,.ptr 1 0),(5,.ptr 2 0),(6,AV f)],[.box (Ag (EI dQ)),.box (Ag (EI Dq)),.box (Ag (EI I))],0⟩∧aIR f dQ I=some r) (by rintro s ⟨I,j,h⟩;exact CZ j<|DJ (fun s=>∃(J:Bq),CJ s ⟨BM 64 [(3,.ptr 0 0),(4,.ptr 1 0),(5,.ptr 2 0),(6,AV f)],[.box (Ag (EI dQ)),.box (Ag (EI Dq)),.box (Ag (EI J))],0⟩∧aCq f dQ J=some r) (by rintro s ⟨J,j,h⟩;exact CZ j<|DJ (fun s=>∃(L:Bq),CJ s ⟨BM 64 [(3,.ptr 0 0),(4,.ptr 1 0),(5,.ptr 2 0),(6,AV f)],[.box (Ag (EI dQ)),.box (Ag (EI Dq)),.box (Ag (EI L))],0⟩∧aHT f dQ L=some r) (by rintro s ⟨L,j,h⟩;exact CZ j<|DJ (fun s=>∃(m:Bq),CJ s ⟨BM 64 [(3,.ptr 0 0),(4,.ptr 1 0),(5,.ptr 2 0),(6,AV f)],[.box (Ag (EI dQ)),.box (Ag (EI Dq)),.box (Ag (EI m))],0⟩∧aCl f dQ m=some r) (by rintro s ⟨m,j,h⟩;exact CZ j<|DJ (fun s=>∃(q:Bq),CJ s ⟨BM 64 [(4,.ptr 0 0),(5,.ptr 1 0)],[.box (Ag (EI Dq)),.box (Ag (EI q))],0⟩∧aH4 q=some r) (by rintro s ⟨q,j,h⟩;exact CZ j<|AX<|AO.ret<|by rw[←CU h];exact⟨[G5 q],[],⟨⟨0,Ag (EI q),true,16,A8,A8,A8,QZ,Ee A8,TU,A8⟩,trivial⟩,A8,A8,A8⟩)<|fun M=>AP<|.a 1<|.p (Ol (k:=.i64) (u:=f) (v:=128) rfl)<|.aW<|Ae h (fun h=>AQ h fun O U h=>BG<|.a 2<|.ca (aMq dQ.Levels O U)<|.a 2<|.nil<|M _ ⟨({ m with Levels:=O }),Ad 64 48 [(1,true),(2,true)],h⟩) fun h=>AO.skip<|M _ ⟨m,Ad 64 48 [(1,true),(2,true)],h⟩)<|fun Y=>AP<|.a 1<|.p (Ol (k:=.i64) (u:=f) (v:=64) rfl)<|.aW<|Ae h (fun h=>AQ h fun Z ae3 h=>BG<|.a 2<|.ca (aAL dQ.gB Z ae3).view<|.a 2<|.nil<|Y _ ⟨({ L with gB:=Z }),Ad 64 120 [(0,true),(1,true),(2,true)],h⟩) fun h=>AO.skip<|Y _ ⟨L,Ad 64 120 [(0,true),(1,true),(2,true)],h⟩)<|fun K18=>AP<|.a 1<|.p (Ol (k:=.i64) (u:=f) (v:=32) rfl)<|.aW<|Ae h (fun h=>AQ h fun Jk aad h=>BG<|.a 2<|.ca (aAL dQ.Allow Jk aad).view<|.a 2<|.nil<|K18 _ ⟨({ J with Allow:=Jk }),Ad 64 120 [(0,true),(1,true),(2,true)],h⟩) fun h=>AO.skip<|K18 _ ⟨J,Ad 64 120 [(0,true),(1,true),(2,true)],h⟩)<|fun K21=>AP<|.a 1<|.p (Ol (k:=.i64) (u:=f) (v:=16) rfl)<|.aW<|Ae h (fun h=>BG<|.a 4<|.nil<|K21 _ ⟨({ I with Via:=dQ.Via }),Ad 64 120 [(0,true),(1,true),(2,true)],h⟩) fun h=>AO.skip<|K21 _ ⟨I,Ad 64 120 [(0,true),(1,true),(2,true)],h⟩)<|fun K23=>AP<|.a 1<|.p (Ol (k:=.i64) (u:=f) (v:=4) rfl)<|.aW<|Ae h (fun h=>BG<|.a 4<|.nil<|K23 _ ⟨({ z with Target:=dQ.Target }),Ad 64 120 [(0,true),(1,true),(2,true)],h⟩) fun h=>AO.skip<|K23 _ ⟨z,Ad 64 120 [(0,true),(1,true),(2,true)],h⟩)<|fun K25=>AP<|.a 1<|.p (Ol (k:=.i64) (u:=f) (v:=2) rfl)<|.aW<|Ae h (fun h=>BG<|.a 4<|.nil<|K25 _ ⟨({ Dq with N:=dQ.N }),Ad 64 120 [(0,true),(1,true),(2,true)],h⟩) fun h=>AO.skip<|K25 _ ⟨Dq,Ad 64 120 [(0,true),(1,true),(2,true)],h⟩
def aBN (f:AU):Option AU:=(lC f.Kind f.Content).bind fun j=>some ({ f with Content:=j })
def aqt (aO r) (h:aBN aO=some r):BF 53 [Di aO] [] (Di r) []:=Am.aH Tryz.func53 rfl<|AX<|AQ h fun f j h=>AP<|.a 4<|.ca (aLR aO.Kind aO.Content f j)<|aaH
def ZR (f:Ec) (j:Int):Option Ec:=(KO f.b_ j).bind fun m=>some ({ f with b_:=m })
def aho (Kz qh r) (h:ZR Kz qh=some r):BF 263 [.ptr 0 0,AV qh] [.box (Ag (Fq Kz))] (.eF []) [.box (Ag (Fq r))]:=Am.aH Tryz.func263 rfl<|AQ h fun j f h=>BG<|.a 6<|.ca (UQ Kz.b_ qh j f).view<|.a 3<|.nil<|VZ
def aHW (f:AZ) (q:(Int→Ec→Option Ec)):Int→Ec→Option Ec:=fun j m=>(bif decide (j<(f.length:Int))then(BJ f j).bind fun s=>(ZR m s).bind fun u=>q (BI (j+1)) u else some m)
def abV (f:AZ):Int→Ec→Option Ec:=aX (aHW f) BA
def Ql (f:Ec) (j:AZ):Option Ec:=abV j 0 f
def nU (qK dh r) (h:Ql qK dh=some r):BF 262 [.fn (.func 263) [.ptr 0 0] [],Bz dh] [.box (Ag (Fq qK))] (.eF []) [.box (Ag (Fq r))]:=Am.aH Tryz.func262 rfl<|AP<|.a 1<|.p (BP AY dh Bl rfl)<|.aW<|AO.block<|Dy (fun s f=>⟨BM 16 [(0,.fn (.func 263) [.ptr 0 0] []),(6,Bz dh),(7,AV (dh.length:Int)),(8,AV s)],[.box (Ag (Fq f))],1⟩) _ _ _ _ (Ad 16 449 [(0,true)]) h<|fun I J j s f h=>AX<|Aa<|Ae h (fun h=>AO.skip<|Aa<|AO.block<|AQ h fun u m h=>AP<|.p (BN AY m Bl D6 rfl)<|.aW<|AQ h fun z q h=>BG<|.a 2<|.e (x:=.eF []) [.box (Ag (Fq z))] (Xk [.ent 0] [.ptr 0 0] [] [AV u] (aho f u z q) rfl)<|.nil<|BG<|.a 2<|xY) fun h=>AO.exit<|VZ
def aZ (f:Ec) (j:ByteArray):Option Ec:=(Oa f.b_ j).bind fun m=>some ({ f with b_:=m })
def afX (Kz iM r) (h:aZ Kz iM=some r):BF 265 [.ptr 0 0,D7 iM] [.box (Ag (Fq Kz))] (.eF []) [.box (Ag (Fq r))]:=Am.aH Tryz.func265 rfl<|AQ h fun j f h=>BG<|.a 6<|.ca (sK Kz.b_ iM j f).view<|.a 3<|.nil<|VZ
def aEX (f:FM) (q:(Int→Ec→Option Ec)):Int→Ec→Option Ec:=fun j m=>(bif decide (j<(f.length:Int))then(BJ f j).bind fun s=>(aZ m s).bind fun u=>q (BI (j+1)) u else some m)
def aK3 (f:FM):Int→Ec→Option Ec:=aX (aEX f) BA
def V3 (f:Ec) (j:FM):Option Ec:=aK3 j 0 f
def aBJ (qK dh r) (h:V3 qK dh=some r):BF 264 [.fn (.func 265) [.ptr 0 0] [],Gh dh] [.box (Ag (Fq qK))] (.eF []) [.box (Ag (Fq r))]:=Am.aH Tryz.func264 rfl<|AP<|.a 1<|.p (BP CQ dh F9 rfl)<|.aW<|AO.block<|Dy (fun s f=>⟨BM 16 [(0,.fn (.func 265) [.ptr 0 0] []),(6,Gh dh),(7,AV (dh.length:Int)),(8,AV s)],[.box (Ag (Fq f))],1⟩) _ _ _ _ (Ad 16 449 [(0,true)]) h<|fun I J j s f h=>AX<|Aa<|Ae h (fun h=>AO.skip<|Aa<|AO.block<|AQ h fun u m h=>AP<|.p (BN CQ m F9 J3 rfl)<|.aW<|AQ h fun z q h=>BG<|.a 2<|.e (x:=.eF []) [.box (Ag (Fq z))] (Xk [.ent 0] [.ptr 0 0] [] [D7 u] (afX f u z q) rfl)<|.nil<|BG<|.a 2<|xY) fun h=>AO.exit<|VZ
def qg (f:Ec) (j:Bool):Option Ec:=(UO f.b_ j).bind fun m=>some ({ f with b_:=m })
def apv (Kz JJ r) (h:qg Kz JJ=some r):BF 267 [.ptr 0 0,Ah JJ] [.box (Ag (Fq Kz))] (.eF []) [.box (Ag (Fq r))]:=Am.aH Tryz.func267 rfl<|AQ h fun j f h=>BG<|.a 6<|.ca (aaM Kz.b_ JJ j f).view<|.a 3<|.nil<|VZ
def aCc (f:(List Bool)) (q:(Int→Ec→Option Ec)):Int→Ec→Option Ec:=fun j m=>(bif decide (j<(f.length:Int))then(BJ f j).bind fun s=>(qg m s).bind fun u=>q (BI (j+1)) u else some m)
def acs (f:(List Bool)):Int→Ec→Option Ec:=aX (aCc f) BA
def oV (f:Ec) (j:(List Bool)):Option Ec:=acs j 0 f
def alg (qK dh r) (h:oV qK dh=some r):BF 266 [.fn (.func 267) [.ptr 0 0] [],.d ((Ai Cj) dh)] [.box (Ag (Fq qK))] (.eF []) [.box (Ag (Fq r))]:=Am.aH Tryz.func266 rfl<|AP<|.a 1<|.p (BP Cj dh aL2 rfl)<|.aW<|AO.block<|Dy (fun s f=>⟨BM 16 [(0,.fn (.func 267) [.ptr 0 0] []),(6,.d ((Ai Cj) dh)),(7,AV (dh.length:Int)),(8,AV s)],[.box (Ag (Fq f))],1⟩) _ _ _ _ (Ad 16 449 [(0,true)]) h<|fun I J j s f h=>AX<|Aa<|Ae h (fun h=>AO.skip<|Aa<|AO.block<|AQ h fun u m h=>AP<|.p (BN Cj m aL2 ac8 rfl)<|.aW<|AQ h fun z q h=>BG<|.a 2<|.e (x:=.eF []) [.box (Ag (Fq z))] (Xk [.ent 0] [.ptr 0 0] [] [Ah u] (apv f u z q) rfl)<|.nil<|BG<|.a 2<|xY) fun h=>AO.exit<|VZ
def aFX (f:AZ) (q:(AZ→Int→Option AZ)):AZ→Int→Option AZ:=fun m j=>(bif decide (j<(f.length:Int))then(BJ f j).bind fun s=>(Wh m s).bind fun u=>q u (BI (j+1))else some m)
def abS (f:AZ):AZ→Int→Option AZ:=aX (aFX f) BA
def wY (j:AZ) (f:AZ):Option AZ:=(Wh j (f.length:Int)).bind fun m=>abS f m 0
def anZ (fE dh r) (h:wY fE dh=some r):BF 384 [.aS 0,Bz dh,.d (.fn (.func 335) [] [])] [(BU fE)] (.aS 1) [.dead,(BU r)]:=Am.aH Tryz.func384 rfl<|AP<|.e [(BU fE),(BU [])] (Cc 5 1 rfl)<|.aY<|AQ h fun u f h=>AP<|.a 2<|.p (BP AY dh Bl rfl)<|.e (x:=.aS 2) [.dead,(BU []),(BU u)] (Df [.ent 0] [.aS 0,AV (dh.length:Int)] (iT fE (dh.length:Int) u f) rfl)<|.aW<|Aa<|AP<|.a 1<|.p (BP AY dh Bl rfl)<|.aW<|AO.block<|Dy (fun j z=>⟨BM 25 [(0,.aS 1),(2,.d (.fn (.func 335) [] [])),(13,Bz dh),(14,AV (dh.length:Int)),(15,AV z)],[.dead,(BU j)],1⟩) _ _ _ _ (Ad 25 57349 [(0,false),(2,true)]) h<|fun L M m j z h=>AX<|Aa<|Ae h (fun h=>AO.skip<|Aa<|AO.block<|AQ h fun I q h=>AP<|.p (BN AY q Bl D6 rfl)<|.aW<|AQ h fun J s h=>BG<|.a 3<|.e (x:=.aS 2) [.dead,.dead,(BU J)] (aMb [.ent 1] [] [] [.aS 1,AV I] (iT j I J s) rfl)<|.a 1<|.nil<|BG<|.a 2<|.nil<|m _ _ _ (Ad 25 57349 [(0,false),(2,true)]) h) fun h=>AO.exit<|AX<|aBx
def Wv (j:AZ) (f:AZ):Option AZ:=(WS j (BI ((BI (2*(f.length:Int)))+10))).bind fun m=>(wY m f).bind fun q=>some q
def amG (fE dh r) (h:Wv fE dh=some r):BF 338 [GH fE,Bz dh] [] (.aS 0) [(BU r)]:=Am.aH Tryz.func338 rfl<|AP<|.e [(BU [])] (Cc 5 1 rfl)<|.aY<|C9 h fun f j q m h=>AP<|.a 2<|.p (BP AY dh Bl rfl)<|.a 2<|.e (x:=.aS 1) [(BU []),(BU f)] (Nq [GH fE,AV (BI ((BI (2*(dh.length:Int)))+10))] (ni fE (BI ((BI (2*(dh.length:Int)))+10)) f j) rfl)<|.a 1<|.e (x:=.aS 2) [(BU []),.dead,(BU q)] (Df [.ent 1] [.aS 1,Bz dh,.d (.fn (.func 335) [] [])] (anZ f dh q m) rfl)<|.aW<|L6
def dc (f:Ec) (j:AZ):Option Ec:=(Wv f.b_ j).bind fun m=>some ({ f with b_:=m })
def ajh (Kz dh r) (h:dc Kz dh=some r):BF 269 [.ptr 0 0,Bz dh] [.box (Ag (Fq Kz))] (.eF []) [.box (Ag (Fq r))]:=Am.aH Tryz.func269 rfl<|AQ h fun j f h=>BG<|.a 6<|.ca (amG Kz.b_ dh j f).view<|.a 3<|.nil<|VZ
abbrev aCt:=List (List Int)
def aGk (f:aCt) (q:(Int→Ec→Option Ec)):Int→Ec→Option Ec:=fun j m=>(bif decide (j<(f.length:Int))then(BJ f j).bind fun s=>(dc m s).bind fun u=>q (BI (j+1)) u else some m)
def acn (f:aCt):Int→Ec→Option Ec:=aX (aGk f) BA
def lD (f:Ec) (j:aCt):Option Ec:=acn j 0 f
def aqf (qK dh r) (h:lD qK dh=some r):BF 268 [.fn (.func 269) [.ptr 0 0] [],.d ((Ai (Ai AY)) dh)] [.box (Ag (Fq qK))] (.eF []) [.box (Ag (Fq r))]:=Am.aH Tryz.func268 rfl<|AP<|.a 1<|.p (BP (Ai AY) dh aMm rfl)<|.aW<|AO.block<|Dy (fun s f=>⟨BM 16 [(0,.fn (.func 269) [.ptr 0 0] []),(6,.d ((Ai (Ai AY)) dh)),(7,AV (dh.length:Int)),(8,AV s)],[.box (Ag (Fq f))],1⟩) _ _ _ _ (Ad 16 449 [(0,true)]) h<|fun I J j s f h=>AX<|Aa<|Ae h (fun h=>AO.skip<|Aa<|AO.block<|AQ h fun u m h=>AP<|.p (BN (Ai AY) m aMm aeB rfl)<|.aW<|AQ h fun z q h=>BG<|.a 2<|.e (x:=.eF []) [.box (Ag (Fq z))] (Xk [.ent 0] [.ptr 0 0] [] [Bz u] (ajh f u z q) rfl)<|.nil<|BG<|.a 2<|xY) fun h=>AO.exit<|VZ
def pK (f:AU):Option AZ:=(Ql aA2 [f.Id]).bind fun s=>(V3 s [f.Room,f.bC]).bind fun u=>(Ql u [f.Kind]).bind fun z=>(oV z [f.State]).bind fun I=>(V3 I [f.Key]).bind fun J=>(Ql J [f.Time,f.Depth]).bind fun L=>(lD L [f.bD,f.bJ]).bind fun M=>(Yh f.Content).bind fun O=>(V3 M [OE O]).bind fun U=>(Ql U [f.Hash]).bind fun j=>(V3 j [f.nV.Server]).bind fun m=>(Ql m [f.nV.Sum]).bind fun q=>some q.b_
def ajG (aO r) (h:pK aO=some r):BF 206 [Di aO] [] (GH r) []:=Am.aH Tryz.func206 rfl<|AX<|AX<|AQ h fun I J h=>AP<|.a 1<|.p (x:=.fn (.func 263) [.ptr 1 0] []) (OJ (fi:=[.ptr 1 0]) (ca:=[]) rfl rfl rfl)<|.a 2<|.p (EG EU zero3 [AY aO.Id] rfl)<|.e (x:=.eF []) [.box (Ag (Aq aO)),.box (Ag (Fq I))] (Df [.ent 1] [.fn (.func 263) [.ptr 1 0] [],Bz [aO.Id]] (nU aA2 [aO.Id] I J) rfl (ha:=⟨⟨_,_,rfl,⟨⟨0,rfl,rfl⟩,trivial⟩,trivial⟩,.inl rfl,trivial⟩))<|.aY<|AQ h fun L M h=>AP<|.a 1<|.p (x:=.fn (.func 265) [.ptr 1 0] []) (OJ (fi:=[.ptr 1 0]) (ca:=[]) rfl rfl rfl)<|.a 4<|.p (EG MR zero9 [CQ aO.Room,CQ aO.bC] rfl)<|.e (x:=.eF []) [.box (Ag (Aq aO)),.box (Ag (Fq L))] (Df [.ent 1] [.fn (.func 265) [.ptr 1 0] [],Gh [aO.Room,aO.bC]] (aBJ I [aO.Room,aO.bC] L M) rfl (ha:=⟨⟨_,_,rfl,⟨⟨0,rfl,rfl⟩,trivial⟩,trivial⟩,.inl rfl,trivial⟩))<|.aY<|AQ h fun O U h=>AP<|.a 1<|.p (x:=.fn (.func 263) [.ptr 1 0] []) (OJ (fi:=[.ptr 1 0]) (ca:=[]) rfl rfl rfl)<|.a 2<|.p (EG EU zero3 [AY aO.Kind] rfl)<|.e (x:=.eF []) [.box (Ag (Aq aO)),.box (Ag (Fq O))] (Df [.ent 1] [.fn (.func 263) [.ptr 1 0] [],Bz [aO.Kind]] (nU L [aO.Kind] O U) rfl (ha:=⟨⟨_,_,rfl,⟨⟨0,rfl,rfl⟩,trivial⟩,trivial⟩,.inl rfl,trivial⟩))<|.aY<|AQ h fun Y Z h=>AP<|.a 1<|.p (x:=.fn (.func 267) [.ptr 1 0] []) (OJ (fi:=[.ptr 1 0]) (ca:=[]) rfl rfl rfl)<|.a 2<|.p (EG ahD pG [Cj aO.State] rfl)<|.e (x:=.eF []) [.box (Ag (Aq aO)),.box (Ag (Fq Y))] (Df [.ent 1] [.fn (.func 267) [.ptr 1 0] [],.d ((Ai Cj) [aO.State])] (alg O [aO.State] Y Z) rfl (ha:=⟨⟨_,_,rfl,⟨⟨0,rfl,rfl⟩,trivial⟩,trivial⟩,.inl rfl,trivial⟩))<|.aY<|AQ h fun x5 hx5 h=>AP<|.a 1<|.p (x:=.fn (.func 265) [.ptr 1 0] []) (OJ (fi:=[.ptr 1 0]) (ca:=[]) rfl rfl rfl)<|.a 2<|.p (EG MR zero9 [CQ aO.Key] rfl)<|.e (x:=.eF []) [.box (Ag (Aq aO)),.box (Ag (Fq x5))] (Df [.ent 1] [.fn (.func 265) [.ptr 1 0] [],Gh [aO.Key]] (aBJ Y [aO.Key] x5 hx5) rfl (ha:=⟨⟨_,_,rfl,⟨⟨0,rfl,rfl⟩,trivial⟩,trivial⟩,.inl rfl,trivial⟩))<|.aY<|AQ h fun x6 hx6 h=>AP<|.a 1<|.p (x:=.fn (.func 263) [.ptr 1 0] []) (OJ (fi:=[.ptr 1 0]) (ca:=[]) rfl rfl rfl)<|.a 4<|.p (EG EU zero3 [AY aO.Time,AY aO.Depth] rfl)<|.e (x:=.eF []) [.box (Ag (Aq aO)),.box (Ag (Fq x6))] (Df [.ent 1] [.fn (.func 263) [.ptr 1 0] [],Bz [aO.Time,aO.Depth]] (nU x5 [aO.Time,aO.Depth] x6 hx6) rfl (ha:=⟨⟨_,_,rfl,⟨⟨0,rfl,rfl⟩,trivial⟩,trivial⟩,.inl rfl,trivial⟩))<|.aY<|AQ h fun x7 hx7 h=>AP<|.a 1<|.p (x:=.fn (.func 269) [.ptr 1 0] []) (OJ (fi:=[.ptr 1 0]) (ca:=[]) rfl rfl rfl)<|.a 4<|.p (EG alI zero24 [(Ai AY) aO.bD,(Ai AY) aO.bJ] rfl)<|.e (x:=.eF []) [.box (Ag (Aq aO)),.box (Ag (Fq x7))] (Df [.ent 1] [.fn (.func 269) [.ptr 1 0] [],.d ((Ai (Ai AY)) [aO.bD,aO.bJ])] (aqf x6 [aO.bD,aO.bJ] x7 hx7) rfl (ha:=⟨⟨_,_,rfl,⟨⟨0,rfl,rfl⟩,trivial⟩,trivial⟩,.inl rfl,trivial⟩))<|.aY<|C9 h fun m yj x9 CG h=>AP<|.a 1<|.p (x:=.fn (.func 265) [.ptr 1 0] []) (OJ (fi:=[.ptr 1 0]) (ca:=[]) rfl rfl rfl)<|.a 2<|.ca (aK1 aO.Content m yj)<|.p (aaD (l:=m) Ul zI FU rfl)<|.p (EG MR zero9 [CQ (OE m)] rfl)<|.e (x:=.eF []) [.box (Ag (Aq aO)),.box (Ag (Fq x9))] (Df [.ent 1] [.fn (.func 265) [.ptr 1 0] [],Gh [OE m]] (aBJ x7 [OE m] x9 CG) rfl (ha:=⟨⟨_,_,rfl,⟨⟨0,rfl,rfl⟩,trivial⟩,trivial⟩,.inl rfl,trivial⟩))<|.aY<|AQ h fun f q h=>AP<|.a 1<|.p (x:=.fn (.func 263) [.ptr 1 0] []) (OJ (fi:=[.ptr 1 0]) (ca:=[]) rfl rfl rfl)<|.a 2<|.p (EG EU zero3 [AY aO.Hash] rfl)<|.e (x:=.eF []) [.box (Ag (Aq aO)),.box (Ag (Fq f))] (Df [.ent 1] [.fn (.func 263) [.ptr 1 0] [],Bz [aO.Hash]] (nU x9 [aO.Hash] f q) rfl (ha:=⟨⟨_,_,rfl,⟨⟨0,rfl,rfl⟩,trivial⟩,trivial⟩,.inl rfl,trivial⟩))<|.aY<|AQ h fun j s h=>AP<|.a 1<|.p (x:=.fn (.func 265) [.ptr 1 0] []) (OJ (fi:=[.ptr 1 0]) (ca:=[]) rfl rfl rfl)<|.a 3<|.p (EG MR zero9 [CQ aO.nV.Server] rfl)<|.e (x:=.eF []) [.box (Ag (Aq aO)),.box (Ag (Fq j))] (Df [.ent 1] [.fn (.func 265) [.ptr 1 0] [],Gh [aO.nV.Server]] (aBJ f [aO.nV.Server] j s) rfl (ha:=⟨⟨_,_,rfl,⟨⟨0,rfl,rfl⟩,trivial⟩,trivial⟩,.inl rfl,trivial⟩))<|.aY<|AQ h fun u z h=>AP<|.a 1<|.p (x:=.fn (.func 263) [.ptr 1 0] []) (OJ (fi:=[.ptr 1 0]) (ca:=[]) rfl rfl rfl)<|.a 3<|.p (EG EU zero3 [AY aO.nV.Sum] rfl)<|.e (x:=.eF []) [.box (Ag (Aq aO)),.box (Ag (Fq u))] (Df [.ent 1] [.fn (.func 263) [.ptr 1 0] [],Bz [aO.nV.Sum]] (nU j [aO.nV.Sum] u z) rfl (ha:=⟨⟨_,_,rfl,⟨⟨0,rfl,rfl⟩,trivial⟩,trivial⟩,.inl rfl,trivial⟩))<|.aY<|AX<|CS
def jq (f:AU):Option Int:=(aBN f).bind fun j=>(pK ({ { j with Id:=0 }with nV:=Z8 })).bind fun m=>(Xu m).bind fun q=>some q
def aMk (aO r) (h:jq aO=some r):BF 150 [Di aO] [] (AV r) []:=Am.aH Tryz.func150 rfl<|AX<|AQ h fun s f h=>AP<|.a 1<|.ca (aqt aO s f)<|.aW<|AX<|C9 h fun q j u m h=>AP<|.a 1<|.ca (ajG _ q j)<|.ca (adL q u m)<|.aW<|CS
def uI (j:AU) (f:ByteArray):Option AU:=(bW j).bind fun m=>(jq ({ j with Hash:=m })).bind fun q=>some ({ { { j with Hash:=m }with Id:=q }with nV:=(⟨f,({ { j with Hash:=m }with Id:=q }).Id⟩:Lp) })
def aFE (aO WW r) (h:uI aO WW=some r):BF 105 [Di aO,D7 WW] [] (Di r) []:=Am.aH Tryz.func105 rfl<|AX<|AQ h fun f m h=>AP<|.a 1<|.ca (aMu aO f m)<|.aW<|AQ h fun j q h=>AP<|.a 1<|.ca (aMk _ j q)<|.aW<|AX<|AX<|AO.ret<|by rw[←CU h];exact⟨[Di ({ { { aO with Hash:=f }with Id:=j }with nV:=(⟨WW,({ { aO with Hash:=f }with Id:=j }).Id⟩:Lp) })],[],⟨⟨1,Ag (Aq ({ { { aO with Hash:=f }with Id:=j }with nV:=(⟨WW,({ { aO with Hash:=f }with Id:=j }).Id⟩:Lp) })),true,29,A8,A8,A8,DZ,Ee A8,(by intro s;cases s),A8⟩,trivial⟩,A8,A8,A8⟩
def aEW (f:Au) (j:(AU→Option Bool)) (k2:(Int→Option Int)):Int→Option Int:=fun m=>(bif decide (m<(f.length:Int))then(BJ f m).bind fun q=>(j q).bind fun s=>(bif s then some m else k2 (BI (m+1)))else some (-1))
def ac7 (f:Au) (j:(AU→Option Bool)):Int→Option Int:=bn (aEW f j) BA
def aF (f:Au) (j:(AU→Option Bool)):Option Int:=ac7 f j 0
def aCg (j:(List AU)) (m:(AU→Option Bool)) (f:D) (q:RY Tryz.prog Aq Cj f m) (r:Int) (h:aF j m=some r):BF 136 [BQ j,.d f] [] (AV r) []:=Am.aH Tryz.func136 rfl<|AX<|Aa<|AP<|.a 1<|.p (BP Aq j Cx rfl)<|.aW<|AO.block<|Du (fun I=>⟨BM 19 [(0,BQ j),(1,.d f),(7,AV (j.length:Int)),(8,AV I)],[],0⟩) _ _ _ (Ad 19 387 []) h<|fun J k2 s I h=>AX<|Aa<|Ae h (fun h=>AO.skip<|Aa<|AO.block<|AX<|C9 h fun L u M z h=>AP<|.a 3<|.p (BN Aq u Cx DZ rfl)<|.a 1<|.p (nS (d:=f) (q:RY Tryz.prog Aq Cj f m) z rfl)<|.aY<|Ae h Bd fun h=>AO.skip<|BG<|.a 2<|.nil<|s _ _ (Ad 19 387 []) h) fun h=>Ey
def qj (f:AU) (j:Int):Option Bool:=some (f.Id==j)
def ahx (aO c0 r) (h:qj aO c0=some r):BF 137 [Di aO,.d (.ref (AY c0).cells 0)] [] (Ah r) []:=Am.aH Tryz.func137 rfl<|Xa
def Zx (j:Au) (f:Int):Option Int:=(aF j (fun a0=>qj a0 f)).bind fun m=>some m
def abf (aB eU r) (h:Zx aB eU=some r):BF 95 [BQ aB,AV eU] [] (AV r) []:=Am.aH Tryz.func95 rfl<|AX<|AQ h fun j f h=>AP<|.a 1<|.conv _ (TN (cs:=Ag (AY eU)) 0 A8 A8)<|.p (x:=.d (.fn (.func 137) [] [(.ref (AY eU).cells 0)])) (VH [(.ref (AY eU).cells 0)] rfl rfl)<|.ca (aCg aB (fun a0=>qj a0 eU) (.fn (.func 137) [] [(.ref (AY eU).cells 0)]) ⟨137,[(.ref (AY eU).cells 0)],rfl,ao6,fun a0 b m=>ahx a0 eU b m⟩ j f)<|.aW<|CS
def mJ (f:Au):Option Au:=(DU 376 [] f).bind fun j=>some j
def aiJ (dR r) (h:mJ dR=some r):BF 96 [BQ dR] [] (.aS 0) [(Dh r)]:=by
 refine Am.aH Tryz.func96 rfl ?_;unfold mJ at h;refine AP<|.e [(Dh [])] (Cc 55 29 rfl)<|.aY<|Aa<|jm (x:=.tmp 3) (t':=22) (d:=4) (es:=List.map Aq dR) 1 rfl (.a 1<|.nil _) A8 A8 A8 Cx A8 ?_;intro b f;cases b
 ·clear f;refine MJ A8<|AO.skip ?_;obtain⟨m,j,h⟩:=DN h;refine AP<|.e [(Dh []),(Dh [])] (KC N9 RF [] rfl)<|.a 1<|.e [(Dh []),.dead,(Dh m)] (ED (k:=1) Aq j N9 A8 (fun _=>rfl) BX rfl)<|.aM 1 ?_;rw[←CU h];exact .ret (EK [(2,true)])
 replace f:=kU f;replace h:some []=some r:=pF
 refine PN A8<|AP<|.e [(Dh []),(Dh [])] (Cc 55 29 rfl)<|.aY ?_;rw[←CU h];exact .ret (EK [(1,true)])
def Oj (f:AU):Option Bool:=(bW f).bind fun j=>some (j==f.Hash)
def xA (aO r) (h:Oj aO=some r):BF 97 [Di aO] [] (Ah r) []:=Am.aH Tryz.func97 rfl<|AX<|AQ h fun j f h=>GK A8 A8 A8 (.a 1<|.ca (aMu aO j f)<|.a 4<|.nil _)<|CS
def sO (f:List AU) (j:Int) (m:List AU):Option Au:=tK f j m
def ajt (f:List AU) (j:Int) (m r:List AU) (h:sO f j m=some r):BF 98 [.aS 0,AV j,.aS 1] [(Dh f),(Dh m)] (.aS 2) [.dead,.dead,(Dh r)]:=
 amq (fun _=>rfl) f j m r h
def xB (f:Au):Option (Au×Int):=some (f,0)
def kM (m:(Int→Option (Au×Int))) (f:Int) (q:Au) (j:AU) (s:Bool):Option (Au×Int):=(bif s then m (BI (f+1))else(sO q f [j]).bind fun u=>some (u,0))
def aFh (m:Au) (q:Au) (f:AU) (s:(Int→Option (Au×Int))):Int→Option (Au×Int):=fun j=>(bif decide (j<(m.length:Int))then(BJ m j).bind fun u=>kM s j q f (decide (u.Id<f.Id))else kM s j q f false)
def aCs (f:Au) (m:Au) (j:AU):Int→Option (Au×Int):=bn (aFh f m j) BA
def aI2 (f:Au) (j:AU) (k2:(Int→Option (Au×Int))):Int→Option (Au×Int):=fun s=>(bif decide (s<(f.length:Int))then(BJ f s).bind fun L=>(bif (!(L.Room.toList==j.Room.toList))then some ([],13)else k2 (BI (s+1)))else(Zx f j.Id).bind fun q=>(bif decide (q<0)then some (decide ((f.length:Int)≥2000))else some false).bind fun M=>(bif M then some ([],29)else(mJ f).bind fun m=>(bif decide (q≥0)then(Oj j).bind fun u=>(bif u then(BJ f q).bind fun z=>(Oj z).bind fun I=>some (!I)else some false).bind fun J=>(bif J then(BJ m q).bind fun O=>xB (m.set (q).toNat j)else xB m)else aCs f m j 0)))
def aMO (f:Au) (j:AU):Int→Option (Au×Int):=bn (aI2 f j) BA
def Qn (f:Au) (j:AU):Option (Au×Int):=aMO f j 0
def xR (aB fJ r) (h:Qn aB fJ=some r):BF 52 [BQ aB,Di fJ] [] (.eF [.aS 0,AV r.2]) [(Dh r.1)]:=Am.aH Tryz.func52 rfl<|AP<|.a 1<|.e [.box (Ag (Aq fJ)),(Dh [])] (Cc 55 29 rfl)<|.aW<|Aa<|AP<|.a 1<|.p (BP Aq aB Cx rfl)<|.aW<|AO.block<|Du (fun v1=>⟨BM 73 [(0,BQ aB),(3,.ptr 0 0),(10,BQ aB),(11,AV (aB.length:Int)),(12,AV v1)],[.box (Ag (Aq fJ))],0⟩) _ _ _ (Ad 73 7177 [(0,true)]) h<|fun J30 k2 hk2 v1 h=>AX<|Aa<|Ae h (fun h=>AO.skip<|Aa<|AO.block<|AQ h fun x4 hx4 h=>AP<|.p (BN Aq hx4 Cx DZ rfl)<|.aW<|AX<|Ae h (fun h=>AP<|.e [.box (Ag (Aq fJ)),.box (Ag (Aq x4)),(Dh [])] (Cc 55 29 rfl)<|.aW<|L6) fun h=>AO.skip<|BG<|.a 2<|.nil<|hk2 _ _ (Ad 73 7177 [(0,true)]) h) fun h=>AO.exit<|AQ h fun x6 hx6 h=>AP<|.a 3<|.ca (abf aB fJ.Id x6 hx6)<|.aW<|Aa<|AP<|.a 2<|AQ h fun x7 hx7 h=>.mg 28 4 (Ah x7) (.bi hx7 (fun h=>.a 1<|.p (BP Aq aB Cx rfl)<|.aW<|CM))<|.aY<|Ae h (fun h=>AP<|.e [.box (Ag (Aq fJ)),(Dh [])] (Cc 55 29 rfl)<|.aW<|PS) fun h=>AO.skip<|AQ h fun f I h=>AP<|.a 1<|.e (x:=.aS 1) [.box (Ag (Aq fJ)),(Dh f)] (Nq [BQ aB] (aiJ aB f I) rfl)<|.aW<|Aa<|AX<|Ae h (fun h=>DJ (fun s=>∃(u:(List AU)),CJ s ⟨BM 73 [(9,.aS 0)],[(Dh u)],0⟩∧xB u=some r) (by rintro s ⟨u,hs,h⟩;exact CZ hs<|AX<|OB)<|fun J=>AQ h fun x14 L h=>AP<|.a 1<|.ca (xA fJ x14 L)<|.a 1<|AQ h fun x15 M h=>.mg 40 6 (Ah x15) (CY M (fun e i=>by subst e;have h:=i;exact C9 h fun x17 O x18 U h=>.a 2<|.p (BN Aq O Cx DZ rfl)<|.a 1<|.ca (xA x17 x18 U)<|.aW<|CM))<|.aY<|Ae h (fun h=>AQ h fun Jk q h=>BG<|.a 3<|.p (LX (e':=55) (kd:=.i64) Aq q (k:=1) A8 Cx DZ rfl)<|.e [.box (Ag (Aq fJ)),(Dh (f.set (x6).toNat fJ))] (ZU (e:=55) (size:=29) (v:=(Di fJ)) (k:=1) (i:=(x6).toNat) (off:=0) (a':=fJ) Aq A8 (IV q).2 A8 (DZ).size A8 (Ee A8) A8 (fun _=>rfl) rfl)<|.nil<|J _ ⟨(f.set (x6).toNat fJ),Ad 73 512 [(1,true)],h⟩) fun h=>AO.skip<|J _ ⟨f,Ad 73 512 [(1,true)],h⟩) fun h=>AO.skip<|AX<|Aa<|AO.block<|Du (fun j=>⟨BM 73 [(0,BQ aB),(3,.ptr 0 0),(8,AV j),(9,.aS 1)],[.box (Ag (Aq fJ)),(Dh f)],0⟩) _ _ _ (Ad 73 777 [(0,true),(1,true)]) h<|fun J29 k22 Y j h=>Aa<|DJ (fun s=>∃(z:Bool),CJ s ⟨BM 73 [(0,BQ aB),(3,.ptr 0 0),(8,AV j),(9,.aS 1),(65,Ah z)],[.box (Ag (Aq fJ)),(Dh f)],0⟩∧kM k22 j f fJ z=some r) (by rintro s ⟨z,hs,h⟩;exact CZ hs<|Ae h (fun h=>AO.skip<|AO.block<|BG<|.a 3<|.nil<|Y _ _ (Ad 73 777 [(0,true),(1,true)]) h) fun h=>AO.exit<|AQ h fun Z hx25 h=>AP<|.a 3<|.e [.box (Ag (Aq fJ)),(Dh f),(Dh [fJ])] (KC N9 RF [Aq fJ] rfl)<|.e (x:=.aS 3) [.box (Ag (Aq fJ)),.dead,.dead,(Dh Z)] (Df [.ent 1,.ent 2] [.aS 1,AV j,.aS 2] (ajt f j [fJ] Z hx25) rfl (hE:=(Jv A8<|Jv A8<|trivial)))<|.aW<|xJ)<|fun K26=>FD h (fun m h=>AQ h fun x28 hx28 h=>AO.draw A8 A8 A8 (.a 2<|.p (BP Aq aB Cx rfl)<|.a 1<|.c (BR some m)<|.a 2<|.p (BN Aq hx28 Cx DZ rfl)<|.a 6<|.nil _)<|K26 _ ⟨(decide (x28.Id<fJ.Id)),Ad 73 36893488147419104009 [(0,true),(1,true)],h⟩) fun m h=>AO.draw A8 A8 A8 (.a 2<|.p (BP Aq aB Cx rfl)<|.a 1<|.c (BR some m)<|.a 9<|.nil _)<|K26 _ ⟨false,Ad 73 36893488147419104009 [(0,true),(1,true)],h⟩
def aa1 :AU:={ G6 with Room:=aCk,bC:=oN,Kind:=1,State:=true,Time:=1,Depth:=1 }
def aKO  :Option Au:=(uI aa1 uU).bind fun f=>(uI ({ G6 with Room:=aCk,bC:=oN,Kind:=2,State:=true,Key:=oN,Time:=2,Depth:=2,bD:=[f.Id],bJ:=[f.Id],Content:={ Dq with N:=3 } }) uU).bind fun j=>(uI ({ G6 with Room:=aCk,bC:=aqy,Kind:=11,Time:=3,Depth:=3,bD:=[j.Id],bJ:=[f.Id],Content:={ Dq with Text:=apm } }) aJr).bind fun m=>(Qn [] f).bind fun q=>(Qn q.1 j).bind fun s=>(Qn s.1 m).bind fun u=>some u.1
def aqb  (r:(List AU)) (h:aKO=some r):BF 70 [] [] (BQ r) []:=Am.aH Tryz.func70 rfl<|AX<|AQ h fun f I h=>AP<|.a 1<|.ca (aFE aa1 uU f I)<|.aW<|AQ h fun j J h=>AP<|.a 2<|.p (EG EU zero3 [AY f.Id] rfl)<|.a 2<|.p (EG EU zero3 [AY f.Id] rfl)<|.a 2<|.ca (aFE _ uU j J)<|.aW<|AQ h fun m L h=>AP<|.a 2<|.p (EG EU zero3 [AY j.Id] rfl)<|.a 2<|.p (EG EU zero3 [AY f.Id] rfl)<|.a 2<|.ca (aFE _ aJr m L)<|.aW<|AQ h fun q M h=>AP<|.a 1<|.e (x:=.eF [.aS 3,AV q.2]) [.box (Ag (Aq f)),.box (Ag (Aq j)),.box (Ag (Aq m)),(Dh q.1)] (Df [] [.d (.lit (.slice none 0 0)),Di f] (xR [] f q M) rfl)<|.a 2<|.conv _ (LH (e:=55) (s:=29) 3 (xs:=List.map Aq q.1) A8)<|.aW<|AQ h fun u O h=>AP<|.a 2<|.e (x:=.eF [.aS 4,AV u.2]) [.box (Ag (Aq f)),.box (Ag (Aq j)),.box (Ag (Aq m)),.dead,(Dh u.1)] (Df [] [BQ q.1,Di j] (xR q.1 j u O) rfl)<|.a 2<|.conv _ (LH (e:=55) (s:=29) 4 (xs:=List.map Aq u.1) A8)<|.aW<|AQ h fun z U h=>AP<|.a 2<|.e (x:=.eF [.aS 5,AV z.2]) [.box (Ag (Aq f)),.box (Ag (Aq j)),.box (Ag (Aq m)),.dead,.dead,(Dh z.1)] (Df [] [BQ u.1,Di m] (xR u.1 m z U) rfl)<|.a 2<|.conv _ (LH (e:=55) (s:=29) 5 (xs:=List.map Aq z.1) A8)<|.aW<|AX<|CS
def Xy (f:Int):Option Bool:=(bif decide (f≥1)then some (decide (f≤10))else some false).bind fun j=>some j
def dw (dF r) (h:Xy dF=some r):BF 182 [AV dF] [] (Ah r) []:=Am.aH Tryz.func182 rfl<|AX<|AP<|.a 2<|AQ h fun j f h=>.mg 5 3 (Ah j) (.bi f)<|.aW<|CS
def aF1 (f:ByteArray) (j:ByteArray):Option (ByteArray×ByteArray×Bool):=(xC f j).bind fun m=>(bif decide (m≥0)then(Lj f 0 m).bind fun q=>(Lj f (BI (m+(j.size:Int))) ((f).size)).bind fun s=>some (q,s,true)else some (f,BZ,false))
def arj (dR UZ r) (h:aF1 dR UZ=some r):BF 235 [D7 dR,D7 UZ] [] (.eF [D7 r.1,D7 r.2.1,Ah r.2.2]) []:=Am.aH Tryz.func235 rfl<|AX<|Aa<|AQ h fun s f h=>AP<|.a 2<|.ca (ai6 dR UZ s f)<|.aW<|AX<|Ae h (fun h=>C9 h fun u j z m h=>GK A8 A8 A8 (.a 2<|.p (dS j (fun _=>rfl) (by intro q;cases q) FU rfl)<|.a 5<|.p (dS m (by intro q;cases q) (fun _=>rfl) FU rfl)<|.a 3<|.nil _)<|CS) fun h=>ND
def strings_Cut (j:ByteArray) (f:ByteArray):Option (ByteArray×ByteArray×Bool):=(aF1 j f).bind fun m=>some (m.1,m.2.1,m.2.2)
def aja (dR UZ r) (h:strings_Cut dR UZ=some r):BF 172 [D7 dR,D7 UZ] [] (.eF [D7 r.1,D7 r.2.1,Ah r.2.2]) []:=Am.aH Tryz.func172 rfl<|AX<|AQ h fun j f h=>AP<|.a 2<|.ca (arj dR UZ j f)<|.aW<|CS
def lM (f:Int):Option Bool:=(bif (f==95)then some true else some (f==46)).bind fun j=>(bif j then some true else some (f==45)).bind fun m=>(bif m then some true else some (f==61)).bind fun q=>some q
def ajJ (dH r) (h:lM dH=some r):BF 237 [.d (CV dH)] [] (Ah r) []:=Am.aH Tryz.func237 rfl<|AX<|AP<|.a 2<|AQ h fun q f h=>.mg 5 3 (Ah q) (.bi f)<|.a 1<|AQ h fun s j h=>.mg 10 2 (Ah s) (CY j)<|.a 1<|AQ h fun u m h=>.mg 14 2 (Ah u) (CY m)<|.aW<|CS
def fO (f:Int):Option Bool:=(bif decide (f≥97)then some (decide (f≤122))else some false).bind fun j=>(bif j then some true else(bif decide (f≥48)then some (decide (f≤57))else some false).bind fun m=>some m).bind fun q=>some q
def aEK (dH r) (h:fO dH=some r):BF 239 [.d (CV dH)] [] (Ah r) []:=Am.aH Tryz.func239 rfl<|AX<|AP<|.a 2<|AQ h fun q f h=>.mg 5 3 (Ah q) (.bi f)<|.a 1<|AQ h fun s j h=>.mg 10 6 (Ah s) (CY j (k2:=fun e i=>aLS))<|.aW<|CS
def aEc (j:ByteArray) (f:(Int→Option Bool)) (u:(Int→Option Bool)):Int→Option Bool:=fun m=>(bif decide (m<(j.size:Int))then(GI j m).bind fun z=>(fO z).bind fun I=>(bif (!I)then(GI j m).bind fun q=>(f q).bind fun s=>some (!s)else some false).bind fun J=>(bif J then some false else u (BI (m+1)))else some true)
def aGh (j:ByteArray) (f:(Int→Option Bool)):Int→Option Bool:=bn (aEc j f) BA
def Yu (j:ByteArray) (f:(Int→Option Bool)):Option Bool:=(bif decide ((j.size:Int)<1)then some true else some (decide ((j.size:Int)>32))).bind fun m=>(bif m then some false else aGh j f 0)
def aaJ (q:ByteArray) (j:(Int→Option Bool)) (f:D) (m:RY Tryz.prog CV Cj f j) (r:Bool) (h:Yu q j=some r):BF 236 [D7 q,.d f] [] (Ah r) []:=Am.aH Tryz.func236 rfl<|AX<|Aa<|AP<|.a 3<|AQ h fun U z h=>.mg 9 4 (Ah U) (.bi z)<|.aY<|Ae h Bd fun h=>AO.skip<|Aa<|AX<|AO.block<|Du (fun O=>⟨BM 33 [(0,D7 q),(1,.d f),(15,AV (q.size:Int)),(16,AV O)],[],0⟩) _ _ _ (Ad 33 98307 []) h<|fun Y k5 I O h=>AX<|Aa<|Ae h (fun h=>AO.skip<|Aa<|AO.block<|AX<|C9 h fun Z J x8 L h=>AP<|.a 2<|.p (IB (k:=.i64) J FU rfl)<|.ca (aEK Z x8 L)<|.a 1<|AQ h fun x9 M h=>.mg 24 7 (Ah x9) (.bi M (fun h=>C9 h fun x11 s x12 u h=>.a 3<|.p (IB (k:=.i64) s FU rfl)<|.p (nS (d:=f) (m:RY Tryz.prog CV Cj f j) u rfl)<|.aW<|CM))<|.aY<|Ae h Bd fun h=>AO.skip<|BG<|.a 2<|.nil<|I _ _ (Ad 33 98307 []) h) fun h=>Ey
def zH (f:ByteArray):Option Bool:=(Yu f (fun a0=>lM a0)).bind fun j=>some j
def aek (dR r) (h:zH dR=some r):BF 173 [D7 dR] [] (Ah r) []:=Am.aH Tryz.func173 rfl<|AX<|AQ h fun j f h=>AP<|.a 1<|.ca (aaJ dR (fun a0=>lM a0) (.fn (.func 237) [] []) ⟨237,[],rfl,an2,fun a0 b m=>ajJ a0 b m⟩ j f)<|.aW<|CS
def qH (f:Int):Option Bool:=(bif (f==46)then some true else some (f==45)).bind fun j=>some j
def aq9 (dH r) (h:qH dH=some r):BF 238 [.d (CV dH)] [] (Ah r) []:=Am.aH Tryz.func238 rfl<|AX<|AP<|.a 2<|AQ h fun j f h=>.mg 5 3 (Ah j) (.bi f)<|.aW<|CS
def aAv (f:ByteArray):Option Bool:=(Yu f (fun a0=>qH a0)).bind fun j=>(bif j then(GI f 0).bind fun m=>(fO m).bind fun q=>some q else some false).bind fun s=>(bif s then(GI f (BI ((f.size:Int)-1))).bind fun u=>(fO u).bind fun z=>some z else some false).bind fun I=>some I
def ajd (dR r) (h:aAv dR=some r):BF 174 [D7 dR] [] (Ah r) []:=Am.aH Tryz.func174 rfl<|AX<|AQ h fun I f h=>AP<|.a 1<|.ca (aaJ dR (fun a0=>qH a0) (.fn (.func 238) [] []) ⟨238,[],rfl,as9,fun a0 b J=>aq9 a0 b J⟩ I f)<|.a 1<|AQ h fun L j h=>.mg 6 3 (Ah L) (CY j (fun e i=>by subst e;have h:=i;exact C9 h fun M m O q h=>.a 1<|.p (IB (k:=.i64) m FU rfl)<|.ca (aEK M O q)<|.aW<|CM))<|.a 1<|AQ h fun U s h=>.mg 11 6 (Ah U) (CY s (fun e i=>by subst e;have h:=i;exact C9 h fun Y u Z z h=>.a 4<|.p (IB (k:=.i64) u FU rfl)<|.ca (aEK Y Z z)<|.aW<|CM))<|.aW<|CS
def eG (f:ByteArray) (j:ByteArray):Option (ByteArray×ByteArray×Bool):=(bif (f.toList==BZ.toList)then some true else(GI f 0).bind fun z=>(strings_IndexByte j z).bind fun I=>some (decide (I<0))).bind fun J=>(bif J then some (BZ,BZ,false)else(Lj f 1 ((f).size)).bind fun L=>(strings_Cut L dN).bind fun m=>(bif (!m.2.2)then some true else(zH m.1).bind fun q=>some (!q)).bind fun M=>(bif M then some true else(aAv m.2.1).bind fun s=>some (!s)).bind fun u=>(bif u then some (BZ,BZ,false)else some (m.1,m.2.1,true)))
def aLG (zL ae6 r) (h:eG zL ae6=some r):BF 121 [D7 zL,D7 ae6] [] (.eF [D7 r.1,D7 r.2.1,Ah r.2.2]) []:=Am.aH Tryz.func121 rfl<|AX<|Aa<|AP<|.a 2<|AQ h fun Y q h=>.mg 12 6 (Ah Y) (.bi q (k2:=fun h=>C9 h fun Z s x4 u h=>.a 2<|.p (IB (k:=.i64) s FU rfl)<|.ca (aj8 ae6 Z x4 u)<|.aW<|CM))<|.aY<|Ae h Bd fun h=>AO.skip<|C9 h fun x6 z I J h=>AP<|.a 1<|.p (dS z TU (fun _=>rfl) FU rfl)<|.ca (aja x6 dN I J)<|.aW<|Aa<|AP<|.a 2<|AQ h fun x8 L h=>.mg 28 4 (Ah x8) (.bi L (k2:=fun h=>AQ h fun M f h=>.a 1<|.ca (aek I.1 M f)<|.aW<|CM))<|.a 1<|AQ h fun O j h=>.mg 34 3 (Ah O) (CY j (k2:=fun e i=>by subst e;have h:=i;exact AQ h fun U m h=>.a 1<|.ca (ajd I.2.1 U m)<|.aW<|CM))<|SA
def jO (j:ByteArray) (f:ByteArray):Option Int:=(eG j f).bind fun m=>(bif (!m.2.2)then some 3 else some 0)
def ab6 (dR Ug r) (h:jO dR Ug=some r):BF 386 [D7 dR,D7 Ug] [] (AV r) []:=Am.aH Tryz.func386 rfl<|AX<|Aa<|AQ h fun j f h=>AP<|.a 2<|.ca (aLG dR Ug j f)<|.aW<|xw
def o9 (f:ByteArray):Option Int:=(jO f o8).bind fun j=>some j
def aMj (dR r) (h:o9 dR=some r):BF 354 [D7 dR] [] (AV r) []:=Am.aH Tryz.func354 rfl<|AX<|AQ h fun j f h=>AP<|.a 1<|.ca (ab6 dR o8 j f)<|.aW<|CS
def Xb (f:ByteArray):Option Int:=(jO f lX).bind fun j=>some j
def yJ (dR r) (h:Xb dR=some r):BF 355 [D7 dR] [] (AV r) []:=Am.aH Tryz.func355 rfl<|AX<|AQ h fun j f h=>AP<|.a 1<|.ca (ab6 dR lX j f)<|.aW<|CS
def aDc (f:ByteArray) (k2:(Int→Option Bool)):Int→Option Bool:=fun j=>(bif decide (j<(f.size:Int))then(GI f j).bind fun m=>(bif decide (m<33)then some true else(GI f j).bind fun q=>some (decide (q>126))).bind fun s=>(bif s then some false else k2 (BI (j+1)))else(bif decide ((f.size:Int)≥1)then some (decide ((f.size:Int)≤32))else some false).bind fun u=>some u)
def abL (f:ByteArray):Int→Option Bool:=bn (aDc f) BA
def zV (f:ByteArray):Option Bool:=abL f 0
def arf (agu r) (h:zV agu=some r):BF 356 [D7 agu] [] (Ah r) []:=Am.aH Tryz.func356 rfl<|AX<|Aa<|AX<|AO.block<|Du (fun u=>⟨BM 28 [(0,D7 agu),(5,AV (agu.size:Int)),(6,AV u)],[],0⟩) _ _ _ (Ad 28 97 []) h<|fun z k2 f u h=>AX<|Aa<|Ae h (fun h=>AO.skip<|Aa<|AO.block<|AX<|AQ h fun L j h=>AP<|.a 2<|.p (IB (k:=.i64) j FU rfl)<|.a 1<|AQ h fun I m h=>.mg 13 5 (Ah I) (.bi m (k2:=fun h=>AQ h fun M q h=>.a 2<|.p (IB (k:=.i64) q FU rfl)<|.aW<|CM))<|.aY<|Ae h Bd fun h=>AO.skip<|BG<|.a 2<|.nil<|f _ _ (Ad 28 97 []) h) fun h=>AO.exit<|AP<|.a 3<|AQ h fun J s h=>.mg 23 4 (Ah J) (.bi s)<|.aW<|CS
def aAJ (f:AU):Option Bool:=(o9 f.Room).bind fun j=>(bif (j != 0)then some true else(Xb f.bC).bind fun m=>some (m != 0)).bind fun q=>(bif q then some false else(bif (f.Kind==2)then(Xb f.Key).bind fun s=>some (s==0)else(bif (f.Kind==9)then(zV f.Key).bind fun u=>some u else some true)))
def aln (aO r) (h:aAJ aO=some r):BF 290 [Di aO] [] (Ah r) []:=Am.aH Tryz.func290 rfl<|AX<|Aa<|AQ h fun u f h=>AP<|.a 2<|.ca (aMj aO.Room u f)<|.a 1<|AQ h fun z j h=>.mg 7 5 (Ah z) (.bi j (k2:=fun h=>AQ h fun I m h=>.a 2<|.ca (yJ aO.bC I m)<|.aW<|CM))<|.aY<|Ae h Bd fun h=>AO.skip<|Aa<|AX<|AO.block<|AX<|Ae h (fun h=>AQ h fun J q h=>AP<|.a 2<|.ca (yJ aO.Key J q)<|.aW<|CS) fun h=>AX<|Ae h (fun h=>AQ h fun L s h=>AP<|.a 2<|.ca (arf aO.Key L s)<|.aW<|CS) fun h=>ND
def aDJ (f:AZ) (k2:(Int→Option Bool)):Int→Option Bool:=fun j=>(bif decide (j<(f.length:Int))then(BJ f j).bind fun m=>(bif decide (m<0)then some true else(bif decide (j>0)then(BJ f (BI (j-1))).bind fun q=>some (decide (q≥m))else some false).bind fun s=>some s).bind fun u=>(bif u then some false else k2 (BI (j+1)))else some true)
def aJ5 (f:AZ):Int→Option Bool:=bn (aDJ f) BA
def l9 (f:AZ):Option Bool:=aJ5 f 0
def aLW (aB r) (h:l9 aB=some r):BF 291 [Bz aB] [] (Ah r) []:=Am.aH Tryz.func291 rfl<|AX<|Aa<|AP<|.a 1<|.p (BP AY aB Bl rfl)<|.aW<|AO.block<|Du (fun u=>⟨BM 28 [(0,Bz aB),(5,Bz aB),(6,AV (aB.length:Int)),(7,AV u)],[],0⟩) _ _ _ (Ad 28 225 []) h<|fun z k2 f u h=>AX<|Aa<|Ae h (fun h=>AO.skip<|Aa<|AO.block<|AQ h fun L j h=>AP<|.a 1<|.p (BN AY j Bl D6 rfl)<|.aW<|AP<|.a 2<|AQ h fun I m h=>.mg 14 12 (Ah I) (.bi m (k2:=fun h=>.a 2<|AQ h fun J q h=>.mg 17 8 (Ah J) (.bi q (fun h=>AQ h fun M s h=>.a 3<|.p (BN AY s Bl D6 rfl)<|.aW<|CM))<|.aW<|CM))<|.aY<|Ae h Bd fun h=>AO.skip<|BG<|.a 2<|.nil<|f _ _ (Ad 28 225 []) h) fun h=>Ey
def pX (f:Int):Option Bool:=(bif decide (f≥1)then some (decide (f≤14))else some false).bind fun j=>some j
def aKk (dF r) (h:pX dF=some r):BF 357 [AV dF] [] (Ah r) []:=Am.aH Tryz.func357 rfl<|AX<|AP<|.a 2<|AQ h fun j f h=>.mg 5 3 (Ah j) (.bi f)<|.aW<|CS
def aBC (f:D8):Option Bool:=(bif ((f.Users.length:Int)==0)then some ((f.Kinds.length:Int)==0)else some false).bind fun s=>(bif s then some (f.User==0)else some false).bind fun u=>(bif u then some (f.Message==0)else some false).bind fun z=>(bif z then some (f.State==0)else some false).bind fun I=>(bif I then some (f.fV==0)else some false).bind fun J=>(bif J then some (f.jH==0)else some false).bind fun j=>(bif j then some (f.nD==0)else some false).bind fun m=>(bif m then some (f.gQ==0)else some false).bind fun q=>some q
def aqC (aB r) (h:aBC aB=some r):BF 387 [Ji aB] [] (Ah r) []:=Am.aH Tryz.func387 rfl<|AX<|AP<|.a 2<|.p (BP ER aB.Users FY rfl)<|.a 1<|AQ h fun O q h=>.mg 7 5 (Ah O) (.bi q (fun h=>.a 2<|.p (BP EX aB.Kinds FW rfl)<|.aW<|CM))<|.a 1<|AQ h fun U s h=>.mg 14 3 (Ah U) (CY s)<|.a 1<|AQ h fun Y u h=>.mg 19 3 (Ah Y) (CY u)<|.a 1<|AQ h fun Z z h=>.mg 24 3 (Ah Z) (CY z)<|.a 1<|AQ h fun x9 I h=>.mg 29 3 (Ah x9) (CY I)<|.a 1<|AQ h fun J f h=>.mg 34 3 (Ah J) (CY f)<|.a 1<|AQ h fun L j h=>.mg 39 3 (Ah L) (CY j)<|.a 1<|AQ h fun M m h=>.mg 44 3 (Ah M) (CY m)<|.aW<|CS
def aB3 (f:Int):Option Int:=some f
def uX (f:Bq) (m:Int):Option Int:=(aBC f.Levels).bind fun j=>(bif (!j)then aB3 (E5 .or .i64 m 128)else aB3 m)
def Rep (f:Bq) (j:Int):Option Int:=(bif decide ((f.gB.length:Int)>0)then uX f (E5 .or .i64 j 64)else uX f j)
def aAj (f:Bq) (j:Int):Option Int:=(bif decide ((f.Allow.length:Int)>0)then Rep f (E5 .or .i64 j 32)else Rep f j)
def aBG (f:Bq) (j:Int):Option Int:=(bif (!(f.Via.toList==BZ.toList))then aAj f (E5 .or .i64 j 16)else aAj f j)
def aA1 (f:Bq) (j:Int):Option Int:=(bif f.Thread then aBG f (E5 .or .i64 j 8)else aBG f j)
def yB (f:Bq) (j:Int):Option Int:=(bif (f.Target != 0)then aA1 f (E5 .or .i64 j 4)else aA1 f j)
def zZ (f:Bq) (j:Int):Option Int:=(bif (f.N != 0)then yB f (E5 .or .i64 j 2)else yB f j)
def jD (f:Bq):Option Int:=(bif (!(f.Text.toList==BZ.toList))then zZ f (E5 .or .i64 0 1)else zZ f 0)
def ad7 (dH r) (h:jD dH=some r):BF 358 [G5 dH] [] (AV r) []:=Am.aH Tryz.func358 rfl<|AX<|AX<|DJ (fun s=>∃(j:Int),CJ s ⟨BM 47 [(1,.ptr 0 0),(3,AV j)],[.box (Ag (EI dH))],0⟩∧zZ dH j=some r) (by rintro s ⟨j,f,h⟩;exact CZ f<|DJ (fun s=>∃(m:Int),CJ s ⟨BM 47 [(1,.ptr 0 0),(3,AV m)],[.box (Ag (EI dH))],0⟩∧yB dH m=some r) (by rintro s ⟨m,f,h⟩;exact CZ f<|DJ (fun s=>∃(q:Int),CJ s ⟨BM 47 [(1,.ptr 0 0),(3,AV q)],[.box (Ag (EI dH))],0⟩∧aA1 dH q=some r) (by rintro s ⟨q,f,h⟩;exact CZ f<|DJ (fun s=>∃(z:Int),CJ s ⟨BM 47 [(1,.ptr 0 0),(3,AV z)],[.box (Ag (EI dH))],0⟩∧aBG dH z=some r) (by rintro s ⟨z,f,h⟩;exact CZ f<|DJ (fun s=>∃(I:Int),CJ s ⟨BM 47 [(1,.ptr 0 0),(3,AV I)],[.box (Ag (EI dH))],0⟩∧aAj dH I=some r) (by rintro s ⟨I,f,h⟩;exact CZ f<|DJ (fun s=>∃(J:Int),CJ s ⟨BM 47 [(1,.ptr 0 0),(3,AV J)],[.box (Ag (EI dH))],0⟩∧Rep dH J=some r) (by rintro s ⟨J,f,h⟩;exact CZ f<|DJ (fun s=>∃(L:Int),CJ s ⟨BM 47 [(1,.ptr 0 0),(3,AV L)],[.box (Ag (EI dH))],0⟩∧uX dH L=some r) (by rintro s ⟨L,f,h⟩;exact CZ f<|DJ (fun s=>∃(v8:Int),CJ s ⟨BM 47 [(3,AV v8)],[],0⟩∧aB3 v8=some r) (by rintro s ⟨v8,f,h⟩;exact CZ f<|AX<|CS)<|fun K9=>AQ h fun x10 M h=>AP<|.a 2<|.ca (aqC dH.Levels x10 M)<|.aW<|Ae h (fun h=>BG<|.a 1<|.p (V5 (k:=.i64) (u:=L) (v:=128) rfl)<|.a 1<|.nil<|K9 _ ⟨(E5 .or .i64 L 128),Ad 47 8 [],h⟩) fun h=>AO.skip<|K9 _ ⟨L,Ad 47 8 [],h⟩)<|fun O=>AP<|.a 2<|.p (BP CQ dH.gB F9 rfl)<|.aW<|Ae h (fun h=>BG<|.a 1<|.p (V5 (k:=.i64) (u:=J) (v:=64) rfl)<|.a 1<|.nil<|O _ ⟨(E5 .or .i64 J 64),Ad 47 10 [(0,true)],h⟩) fun h=>AO.skip<|O _ ⟨J,Ad 47 10 [(0,true)],h⟩)<|fun U=>AP<|.a 2<|.p (BP CQ dH.Allow F9 rfl)<|.aW<|Ae h (fun h=>BG<|.a 1<|.p (V5 (k:=.i64) (u:=I) (v:=32) rfl)<|.a 1<|.nil<|U _ ⟨(E5 .or .i64 I 32),Ad 47 10 [(0,true)],h⟩) fun h=>AO.skip<|U _ ⟨I,Ad 47 10 [(0,true)],h⟩)<|fun Y=>AX<|Ae h (fun h=>BG<|.a 1<|.p (V5 (k:=.i64) (u:=z) (v:=16) rfl)<|.a 1<|.nil<|Y _ ⟨(E5 .or .i64 z 16),Ad 47 10 [(0,true)],h⟩) fun h=>AO.skip<|Y _ ⟨z,Ad 47 10 [(0,true)],h⟩)<|fun Z=>AX<|Ae h (fun h=>BG<|.a 1<|.p (V5 (k:=.i64) (u:=q) (v:=8) rfl)<|.a 1<|.nil<|Z _ ⟨(E5 .or .i64 q 8),Ad 47 10 [(0,true)],h⟩) fun h=>AO.skip<|Z _ ⟨q,Ad 47 10 [(0,true)],h⟩)<|fun K20=>AX<|Ae h (fun h=>BG<|.a 1<|.p (V5 (k:=.i64) (u:=m) (v:=4) rfl)<|.a 1<|.nil<|K20 _ ⟨(E5 .or .i64 m 4),Ad 47 10 [(0,true)],h⟩) fun h=>AO.skip<|K20 _ ⟨m,Ad 47 10 [(0,true)],h⟩)<|fun K22=>AX<|Ae h (fun h=>BG<|.a 1<|.p (V5 (k:=.i64) (u:=j) (v:=2) rfl)<|.a 1<|.nil<|K22 _ ⟨(E5 .or .i64 j 2),Ad 47 10 [(0,true)],h⟩) fun h=>AO.skip<|K22 _ ⟨j,Ad 47 10 [(0,true)],h⟩)<|fun K24=>AX<|Ae h (fun h=>BG<|.a 1<|.p (V5 (k:=.i64) (u:=0) (v:=1) rfl)<|.a 1<|.nil<|K24 _ ⟨(E5 .or .i64 0 1),Ad 47 10 [(0,true)],h⟩) fun h=>AO.skip<|K24 _ ⟨0,Ad 47 10 [(0,true)],h⟩
def aEf (f:ByteArray) (m:(Int→Option Int)):Int→Option Int:=fun j=>(bif decide (j<(f.size:Int))then(GI f j).bind fun q=>(bif decide (q<33)then some true else(GI f j).bind fun s=>some (decide (s>126))).bind fun u=>(bif u then some 3 else m (BI (j+1)))else some 0)
def aFw (f:ByteArray):Int→Option Int:=bn (aEf f) BA
def lN (f:ByteArray):Option Int:=(bif (f.toList==BZ.toList)then some 9 else(bif decide ((f.size:Int)>64)then some 7 else aFw f 0))
def aJ9 (OU r) (h:lN OU=some r):BF 388 [D7 OU] [] (AV r) []:=Am.aH Tryz.func388 rfl<|AX<|Aa<|AO.block<|AX<|Ae h Bd fun h=>AX<|Ae h Bd fun h=>AO.skip<|Aa<|AX<|AO.block<|Du (fun s=>⟨BM 27 [(0,D7 OU),(12,AV (OU.size:Int)),(13,AV s)],[],0⟩) _ _ _ (Ad 27 12289 []) h<|fun u I f s h=>AX<|Aa<|Ae h (fun h=>AO.skip<|Aa<|AO.block<|AX<|AQ h fun J j h=>AP<|.a 2<|.p (IB (k:=.i64) j FU rfl)<|.a 1<|AQ h fun z m h=>.mg 20 5 (Ah z) (.bi m (k2:=fun h=>AQ h fun L q h=>.a 2<|.p (IB (k:=.i64) q FU rfl)<|.aW<|CM))<|.aY<|Ae h Bd fun h=>AO.skip<|BG<|.a 2<|.nil<|f _ _ (Ad 27 12289 []) h) fun h=>Ey
def aGt (f:FM) (q:(Int→Option Int)):Int→Option Int:=fun j=>(bif decide (j<(f.length:Int))then(BJ f j).bind fun s=>(lN s).bind fun m=>(bif (m != 0)then some m else q (BI (j+1)))else some 0)
def ae9 (f:FM):Int→Option Int:=bn (aGt f) BA
def Tz (f:FM):Option Int:=(bif decide ((f.length:Int)>100)then some 7 else ae9 f 0)
def adO (aB r) (h:Tz aB=some r):BF 365 [Gh aB] [] (AV r) []:=Am.aH Tryz.func365 rfl<|AX<|Aa<|AP<|.a 1<|.p (BP CQ aB F9 rfl)<|.aW<|Ae h Bd fun h=>AO.skip<|Aa<|AP<|.a 1<|.p (BP CQ aB F9 rfl)<|.aW<|AO.block<|Du (fun q=>⟨BM 21 [(9,Gh aB),(10,AV (aB.length:Int)),(11,AV q)],[],0⟩) _ _ _ (Ad 21 3584 []) h<|fun z I f q h=>AX<|Aa<|Ae h (fun h=>AO.skip<|Aa<|AO.block<|AQ h fun s j h=>AP<|.p (BN CQ j F9 J3 rfl)<|.aW<|AQ h fun u m h=>AP<|.a 1<|.ca (aJ9 s u m)<|.aW<|AX<|Ae h Bd fun h=>AO.skip<|BG<|.a 2<|.nil<|f _ _ (Ad 21 3584 []) h) fun h=>Ey
def aU (f:Int):Option Bool:=(bif decide (f<(-1000))then some true else some (decide (f>1000))).bind fun j=>some j
def aEF (ab2 r) (h:aU ab2=some r):BF 391 [AV ab2] [] (Ah r) []:=Am.aH Tryz.func391 rfl<|AX<|AP<|.a 2<|AQ h fun j f h=>.mg 5 3 (Ah j) (.bi f)<|.aW<|CS
def uJ (j:Gi) (m:(Int→Option Int)) (q:Int) (s:Bool):Option Int:=(bif s then some 8 else(aU j.N).bind fun f=>(bif f then some 2 else m (BI (q+1))))
abbrev KG:=List Gi
def aGU (f:KG) (s:(Int→Option Int)):Int→Option Int:=fun j=>(bif decide (j<(f.length:Int))then(BJ f j).bind fun m=>(Xb m.User).bind fun u=>(bif (u != 0)then some 3 else(bif decide (j>0)then(BJ f (BI (j-1))).bind fun q=>uJ m s j (Op.bytesLess (m.User.toList) (q.User.toList)||m.User.toList==q.User.toList)else uJ m s j false))else some 0)
def aJa (f:KG):Int→Option Int:=bn (aGU f) BA
def aC5 (f:KG):Option Int:=(bif decide ((f.length:Int)>100)then some 7 else aJa f 0)
def arp (aB r) (h:aC5 aB=some r):BF 389 [MB aB] [] (AV r) []:=Am.aH Tryz.func389 rfl<|AX<|Aa<|AP<|.a 1<|.p (BP ER aB FY rfl)<|.aW<|Ae h Bd fun h=>AO.skip<|Aa<|AP<|.a 1<|.p (BP ER aB FY rfl)<|.aW<|AO.block<|Du (fun I=>⟨BM 39 [(0,MB aB),(8,MB aB),(9,AV (aB.length:Int)),(10,AV I)],[],0⟩) _ _ _ (Ad 39 1793 []) h<|fun Y Z J I h=>AX<|Aa<|Ae h (fun h=>AO.skip<|Aa<|AO.block<|AQ h fun j L h=>AP<|.a 1<|.p (BN ER L FY JQ rfl)<|.aW<|AO.block<|AQ h fun x6 M h=>AP<|.a 2<|.ca (yJ j.User x6 M)<|.aW<|Ae h Bd fun h=>DJ (fun s=>∃(O:Bool),CJ s ⟨BM 39 [(0,MB aB),(4,.ptr 0 0),(8,MB aB),(9,AV (aB.length:Int)),(10,AV I),(20,Ah O)],[.box (Ag (ER j))],0⟩∧uJ j Z I O=some r) (by rintro s ⟨O,hs,h⟩;exact CZ hs<|Ae h Bd fun h=>AQ h fun U m h=>AP<|.a 2<|.ca (aEF j.N U m)<|.aW<|Ae h Bd fun h=>AO.skip<|BG<|.a 2<|.nil<|J _ _ (Ad 39 1793 []) h)<|fun q=>FD h (fun f h=>AQ h fun u z h=>AO.draw A8 A8 A8 (.a 2<|.c (BR some f)<|.a 5<|.p (BN ER z FY JQ rfl)<|.a 5<|.nil _)<|q _ ⟨(Op.bytesLess (j.User.toList) (u.User.toList)||j.User.toList==u.User.toList),Ad 39 1050385 [(0,true)],h⟩) fun f h=>AO.draw A8 A8 A8 (.a 2<|.c (BR some f)<|.a 11<|.nil _)<|q _ ⟨false,Ad 39 1050385 [(0,true)],h⟩) fun h=>Ey
def wH (j:Hu) (m:(Int→Option Int)) (q:Int) (s:Bool):Option Int:=(bif s then some 8 else(aU j.N).bind fun f=>(bif f then some 2 else m (BI (q+1))))
abbrev KL:=List Hu
def aDD (f:KL) (s:(Int→Option Int)):Int→Option Int:=fun j=>(bif decide (j<(f.length:Int))then(BJ f j).bind fun m=>(pX m.Kind).bind fun u=>(bif (!u)then some 1 else(bif decide (j>0)then(BJ f (BI (j-1))).bind fun q=>wH m s j (decide (m.Kind≤q.Kind))else wH m s j false))else some 0)
def aJj (f:KL):Int→Option Int:=bn (aDD f) BA
def wo (f:KL):Option Int:=(bif decide ((f.length:Int)>100)then some 7 else aJj f 0)
def aha (aB r) (h:wo aB=some r):BF 390 [MX aB] [] (AV r) []:=Am.aH Tryz.func390 rfl<|AX<|Aa<|AP<|.a 1<|.p (BP EX aB FW rfl)<|.aW<|Ae h Bd fun h=>AO.skip<|Aa<|AP<|.a 1<|.p (BP EX aB FW rfl)<|.aW<|AO.block<|Du (fun z=>⟨BM 39 [(0,MX aB),(8,MX aB),(9,AV (aB.length:Int)),(10,AV z)],[],0⟩) _ _ _ (Ad 39 1793 []) h<|fun Y Z I z h=>AX<|Aa<|Ae h (fun h=>AO.skip<|Aa<|AO.block<|AQ h fun j J h=>AP<|.a 1<|.p (BN EX J FW JY rfl)<|.aW<|AO.block<|AQ h fun x6 L h=>AP<|.a 2<|.ca (aKk j.Kind x6 L)<|.aW<|Ae h Bd fun h=>DJ (fun s=>∃(M:Bool),CJ s ⟨BM 39 [(0,MX aB),(4,.ptr 0 0),(8,MX aB),(9,AV (aB.length:Int)),(10,AV z),(20,Ah M)],[.box (Ag (EX j))],0⟩∧wH j Z z M=some r) (by rintro s ⟨M,hs,h⟩;exact CZ hs<|Ae h Bd fun h=>AQ h fun O m h=>AP<|.a 2<|.ca (aEF j.N O m)<|.aW<|Ae h Bd fun h=>AO.skip<|BG<|.a 2<|.nil<|I _ _ (Ad 39 1793 []) h)<|fun q=>FD h (fun f h=>AQ h fun U u h=>AO.draw A8 A8 A8 (.a 2<|.c (BR some f)<|.a 5<|.p (BN EX u FW JY rfl)<|.a 5<|.nil _)<|q _ ⟨(decide (j.Kind≤U.Kind)),Ad 39 1050385 [(0,true)],h⟩) fun f h=>AO.draw A8 A8 A8 (.a 2<|.c (BR some f)<|.a 11<|.nil _)<|q _ ⟨false,Ad 39 1050385 [(0,true)],h⟩) fun h=>Ey
def aaL (f:D8) (m:(Int→Option Int)):Int→Option Int:=fun j=>(bif decide (j<7)then(BJ ([f.User,f.Message,f.State,f.fV,f.jH,f.nD,f.gQ]:AZ) j).bind fun q=>(aU q).bind fun s=>(bif s then some 2 else m (BI (j+1)))else some 0)
def aF2 (f:D8):Int→Option Int:=bn (aaL f) BA
def YX (f:D8):Option Int:=(aC5 f.Users).bind fun j=>(bif (j != 0)then some j else(wo f.Kinds).bind fun m=>(bif (m != 0)then some m else aF2 f 0))
def alz (aB r) (h:YX aB=some r):BF 366 [Ji aB] [] (AV r) []:=Am.aH Tryz.func366 rfl<|AX<|Aa<|AQ h fun z f h=>AP<|.a 2<|.ca (arp aB.Users z f)<|.aW<|AX<|Ae h Bd fun h=>AO.skip<|Aa<|AQ h fun I j h=>AP<|.a 2<|.ca (aha aB.Kinds I j)<|.aW<|AX<|Ae h Bd fun h=>AO.skip<|Aa<|AX<|AO.block<|Du (fun u=>⟨BM 40 [(33,.d ((KE AY) ([aB.User,aB.Message,aB.State,aB.fV,aB.jH,aB.nD,aB.gQ]:(List Int)))),(34,AV u)],[],0⟩) _ _ _ (Ad 40 25769803776 []) h<|fun J O m u h=>AX<|Aa<|Ae h (fun h=>AO.skip<|Aa<|AO.block<|AQ h fun L q h=>AP<|.p (aAA (k:=.i64) AY q uq D6 A8 rfl)<|.aW<|AQ h fun M s h=>AP<|.a 1<|.ca (aEF L M s)<|.aY<|Ae h Bd fun h=>AO.skip<|BG<|.a 2<|.nil<|m _ _ (Ad 40 25769803776 []) h) fun h=>Ey
def vP (f:Bool):Option Int:=(bif f then some 7 else some 0)
def Oc (j:Int) (f:Bq):Option Int:=(bif (j==9)then some (!(f.Text.toList==BZ.toList))else some false).bind fun q=>(bif q then(lN f.Text).bind fun s=>some s else(bif (j==12)then some (f.Text.toList==BZ.toList)else some false).bind fun u=>(bif u then some 9 else(bif (j==12)then some (decide ((f.Text.size:Int)>32))else some false).bind fun m=>(bif m then vP m else vP (decide ((f.Text.size:Int)>400)))))
def amB (dF dQ r) (h:Oc dF dQ=some r):BF 359 [AV dF,G5 dQ] [] (AV r) []:=Am.aH Tryz.func359 rfl<|AX<|Aa<|AO.block<|AP<|.a 2<|AQ h fun I m h=>.mg 8 4 (Ah I) (.bi m)<|.aW<|Ae h (fun h=>AQ h fun J q h=>AP<|.a 2<|.ca (aJ9 dQ.Text J q)<|.aW<|CS) fun h=>AP<|.a 2<|AQ h fun L u h=>.mg 19 4 (Ah L) (.bi u)<|.aW<|Ae h Bd fun h=>DJ (fun s=>∃(z:Bool),CJ s ⟨BM 37 [(24,Ah z)],[],0⟩∧vP z=some r) (by rintro s ⟨z,M,h⟩;exact CZ M<|Ae h Bd fun h=>ND)<|fun K10=>AP<|.a 2<|AQ h fun f j h=>.mg 27 5 (Ah f) (.bi j)<|.aW<|Ae h (fun h=>AO.skip<|K10 _ ⟨f,Ad 37 16777216 [],h⟩) fun h=>BG<|.a 5<|.nil<|K10 _ ⟨(decide ((dQ.Text.size:Int)>400)),Ad 37 16777216 [],h⟩
def nT (f:Bq) (j:Int) (m:Int):Option Int:=(bif decide (f.N<j)then some true else some (decide (f.N>m))).bind fun q=>(bif q then some 2 else some 0)
def MG (j:Int) (f:Bq):Option Int:=(bif (j==2)then nT f 0 4 else(bif (j==8)then nT f 0 1000000000 else(bif (j==10)then nT f 1 10000 else(bif (j==9)then(bif (f.N==1)then some true else some (f.N==2)).bind fun m=>(bif m then some true else some (f.N==6)).bind fun q=>(bif q then some 0 else some 2)else nT f 0 3))))
def akp (dF dQ r) (h:MG dF dQ=some r):BF 360 [AV dF,G5 dQ] [] (AV r) []:=Am.aH Tryz.func360 rfl<|AX<|AX<|DJ (fun s=>∃(m:Int) (q:Int),CJ s ⟨BM 39 [(3,.ptr 0 0),(5,AV m),(6,AV q)],[.box (Ag (EI dQ))],0⟩∧nT dQ m q=some r) (by rintro s ⟨m,q,J,h⟩;exact CZ J<|Aa<|AP<|.a 4<|AQ h fun L u h=>.mg 33 5 (Ah L) (.bi u)<|SA)<|fun K6=>AX<|AO.block<|AX<|Ae h (fun h=>BG<|.a 1<|.nil<|K6 _ ⟨0,4,Ad 39 104 [(0,true)],h⟩) fun h=>AX<|Ae h (fun h=>BG<|.a 1<|.nil<|K6 _ ⟨0,1000000000,Ad 39 104 [(0,true)],h⟩) fun h=>AX<|Ae h (fun h=>BG<|.a 2<|.nil<|K6 _ ⟨1,10000,Ad 39 104 [(0,true)],h⟩) fun h=>AX<|Ae h (fun h=>Aa<|AX<|AP<|.a 2<|AQ h fun z f h=>.mg 21 3 (Ah z) (.bi f)<|.a 1<|AQ h fun I j h=>.mg 26 2 (Ah I) (CY j)<|SA) fun h=>AO.skip<|K6 _ ⟨0,3,Ad 39 104 [(0,true)],h⟩
def Q9 (j:Int) (f:Bq):Option Int:=(bif decide (f.Target<0)then some true else(bif (f.Target==0)then some (j != 11)else some false).bind fun m=>some m).bind fun q=>(bif q then some 2 else some 0)
def am0 (dF dQ r) (h:Q9 dF dQ=some r):BF 361 [AV dF,G5 dQ] [] (AV r) []:=Am.aH Tryz.func361 rfl<|AX<|Aa<|AP<|.a 3<|AQ h fun m f h=>.mg 8 8 (Ah m) (.bi f (k2:=fun h=>.a 3<|AQ h fun q j h=>.mg 12 3 (Ah q) (.bi j)<|.aW<|CM))<|SA
def YT (j:Int) (f:Bq):Option Int:=(bif f.Thread then some (f.Target==0)else some false).bind fun m=>(bif m then some 1 else some 0)
def aor (dF dQ r) (h:YT dF dQ=some r):BF 362 [AV dF,G5 dQ] [] (AV r) []:=Am.aH Tryz.func362 rfl<|AX<|Aa<|AP<|.a 2<|AQ h fun j f h=>.mg 7 4 (Ah j) (.bi f)<|SA
def YG (j:Int) (f:Bq):Option Int:=(bif (f.Via.toList==BZ.toList)then some 0 else(bif (f.N != 3)then some 1 else(Xb f.Via).bind fun m=>some m))
def afu (dF dQ r) (h:YG dF dQ=some r):BF 363 [AV dF,G5 dQ] [] (AV r) []:=Am.aH Tryz.func363 rfl<|AX<|Aa<|AO.block<|AX<|Ae h Bd fun h=>AX<|Ae h Bd fun h=>AO.skip<|AQ h fun j f h=>AP<|.a 2<|.ca (yJ dQ.Via j f)<|.aW<|CS
def aER (f:Bq) (z:(Int→Option Int)):Int→Option Int:=fun m=>(bif decide (m<(f.Allow.length:Int))then(BJ f.Allow m).bind fun j=>(o9 j).bind fun s=>(bif (s != 0)then some 3 else(bif decide (m>0)then(BJ f.Allow (BI (m-1))).bind fun q=>some (Op.bytesLess (j.toList) (q.toList)||j.toList==q.toList)else some false).bind fun u=>(bif u then some 8 else z (BI (m+1))))else some 0)
def aaF (f:Bq):Int→Option Int:=bn (aER f) BA
def UR (j:Int) (f:Bq):Option Int:=(bif (j==6)then(Tz f.Allow).bind fun m=>some m else(bif decide ((f.Allow.length:Int)>0)then some (f.N != 3)else some false).bind fun q=>(bif q then some 1 else(bif decide ((f.Allow.length:Int)>100)then some 7 else aaF f 0)))
def aft (dF dQ r) (h:UR dF dQ=some r):BF 364 [AV dF,G5 dQ] [] (AV r) []:=Am.aH Tryz.func364 rfl<|AX<|Aa<|AO.block<|AX<|Ae h (fun h=>AQ h fun O s h=>AP<|.a 2<|.ca (adO dQ.Allow O s)<|.aW<|CS) fun h=>AP<|.a 2<|.p (BP CQ dQ.Allow F9 rfl)<|.a 1<|AQ h fun U u h=>.mg 18 4 (Ah U) (.bi u)<|.aW<|Ae h Bd fun h=>AP<|.a 2<|.p (BP CQ dQ.Allow F9 rfl)<|.aW<|Ae h Bd fun h=>AO.skip<|Aa<|AP<|.a 2<|.p (BP CQ dQ.Allow F9 rfl)<|.aW<|AO.block<|Du (fun M=>⟨BM 52 [(3,.ptr 0 0),(29,Gh dQ.Allow),(30,AV (dQ.Allow.length:Int)),(31,AV M)],[.box (Ag (EI dQ))],0⟩) _ _ _ (Ad 52 3758096392 [(0,true)]) h<|fun Y k8 z M h=>AX<|Aa<|Ae h (fun h=>AO.skip<|Aa<|AO.block<|AQ h fun I f h=>AP<|.a 1<|.p (BN CQ f F9 J3 rfl)<|.aW<|Aa<|AQ h fun J j h=>AP<|.a 1<|.ca (aMj I J j)<|.aW<|Ae h Bd fun h=>AO.skip<|AP<|.a 2<|AQ h fun L m h=>.mg 41 9 (Ah L) (.bi m (fun h=>AQ h fun Z q h=>.a 5<|.p (BN CQ q F9 J3 rfl)<|.aW<|CM))<|.aY<|Ae h Bd fun h=>AO.skip<|BG<|.a 2<|.nil<|z _ _ (Ad 52 3758096392 [(0,true)]) h) fun h=>Ey
def wP (n:Nat) (a0:Int) (f:Bq):Option Int:=bif n==359 then Oc a0 f else bif n==360 then MG a0 f else bif n==361 then Q9 a0 f else bif n==362 then YT a0 f else bif n==363 then YG a0 f else bif n==364 then UR a0 f else none
def aoJ (n a0 f r) (h:wP n a0 f=some r):WB Tryz.prog AY EI AY (aLs n) (wP n):=by
 by_cases m:n=359
 ·subst m;exact⟨359,[],rfl,alK,fun a0 f c j=>amB a0 f c j⟩
 by_cases q:n=360
 ·subst q;exact⟨360,[],rfl,aiF,fun a0 f c j=>akp a0 f c j⟩
 by_cases s:n=361
 ·subst s;exact⟨361,[],rfl,afv,fun a0 f c j=>am0 a0 f c j⟩
 by_cases u:n=362
 ·subst u;exact⟨362,[],rfl,apa,fun a0 f c j=>aor a0 f c j⟩
 by_cases z:n=363
 ·subst z;exact⟨363,[],rfl,aio,fun a0 f c j=>afu a0 f c j⟩
 by_cases I:n=364
 ·subst I;exact⟨364,[],rfl,apj,fun a0 f c j=>aft a0 f c j⟩
 rw[wP,bT m,bT q,bT s,bT u,bT z,bT I]at h;have h:(none:Option Int)=some r:=h;cases h
def Yf :(List MK):=[(⟨1,359⟩:MK),(⟨2,360⟩:MK),(⟨4,361⟩:MK),(⟨8,362⟩:MK),(⟨16,363⟩:MK),(⟨32,364⟩:MK)]
def aEV (f:(Int→Bq→Option Int)) (j:Int) (m:Bq):Option Int:=f (BI (j+1)) m
def Vd (z:Int) (m:Int) (q:(Int→Bq→Option Int)):Int→Bq→Option Int:=fun j f=>(bif decide (j<(Yf.length:Int))then(BJ Yf j).bind fun s=>(bif ((E5 .and .i64 z s.arY)==0)then aEV q j f else(wP s.akR m f).bind fun u=>(bif (u != 0)then some u else aEV q j f))else(bif ((E5 .and .i64 z 64) != 0)then(Tz f.gB).bind fun I=>some I else(bif ((E5 .and .i64 z 128) != 0)then(YX f.Levels).bind fun J=>some J else some 0)))
def Js (j:Int) (f:Int):Int→Bq→Option Int:=aX (Vd j f) BA
def JU (f:Int) (j:Bq):Option Int:=(ZO f).bind fun q=>(pX f).bind fun s=>(bif (!s)then some true else(jD j).bind fun u=>some ((E5 .andNot .i64 u q) != 0)).bind fun z=>(bif z then some 1 else(jD j).bind fun I=>(bif (I==0)then(gJ f).bind fun m=>some (m==0)else some false).bind fun J=>(bif J then some 0 else Js q f 0 j))
def ank (dF dQ r) (h:JU dF dQ=some r):BF 292 [AV dF,G5 dQ] [] (AV r) []:=Am.aH Tryz.func292 rfl<|AX<|AQ h fun q Y h=>AP<|.a 1<|.ca (abB dF q Y)<|.aW<|Aa<|AQ h fun x2 Z h=>AP<|.a 1<|.ca (aKk dF x2 Z)<|.a 1<|AQ h fun x3 hx3 h=>.mg 15 6 (Ah x3) (.bi hx3 (k2:=fun h=>AQ h fun x5 hx5 h=>.a 1<|.ca (ad7 dQ x5 hx5)<|.a 1<|.p (am2 (k:=.i64) (u:=x5) (v:=q) rfl)<|.aW<|CM))<|.aY<|Ae h Bd fun h=>AO.skip<|Aa<|AQ h fun x7 hx7 h=>AP<|.a 1<|.ca (ad7 dQ x7 hx7)<|.a 1<|AQ h fun x8 yj h=>.mg 25 4 (Ah x8) (.bi yj (fun h=>AQ h fun x10 z h=>.a 1<|.ca (aap dF x10 z)<|.aW<|CM))<|.aY<|Ae h Bd fun h=>AO.skip<|AP<|.a 6<|.p (EG ap1 aF0 [Ry (⟨1,359⟩:MK),Ry (⟨2,360⟩:MK),Ry (⟨4,361⟩:MK),Ry (⟨8,362⟩:MK),Ry (⟨16,363⟩:MK),Ry (⟨32,364⟩:MK)] rfl)<|.aW<|Aa<|AP<|.a 1<|.p (BP Ry Yf aKQ rfl)<|.aW<|AO.block<|Dy (fun j f=>⟨BM 69 [(0,AV dF),(3,.ptr 0 0),(5,AV q),(37,.d ((Ai Ry) Yf)),(38,AV (Yf.length:Int)),(39,AV j)],[.box (Ag (EI f))],0⟩) _ _ _ _ (Ad 69 962072674345 [(0,true)]) h<|fun J25 k14 I j f h=>AX<|Aa<|Ae h (fun h=>AO.skip<|DJ (fun s=>CJ s ⟨BM 69 [(0,AV dF),(3,.ptr 0 0),(5,AV q),(37,.d ((Ai Ry) Yf)),(38,AV (Yf.length:Int)),(39,AV j)],[.box (Ag (EI f))],0⟩∧aEV k14 j f=some r) (by rintro s ⟨hs,h⟩;exact CZ hs<|BG<|.a 2<|.nil<|I _ _ _ (Ad 69 962072674345 [(0,true)]) h)<|fun J=>AO.block<|AQ h fun L M h=>AP<|.p (BN Ry M aKQ aLX rfl)<|.aW<|Aa<|AP<|.a 3<|.p (Ol (k:=.i64) (u:=q) (v:=L.arY) rfl)<|.aW<|Ae h (fun h=>AO.exit<|J _ ⟨Ad 69 962072674345 [(0,true)],h⟩) fun h=>AO.skip<|AQ h fun x19 m h=>AP<|.a 4<|.p (ZG (aoJ L.akR dF f x19 m) m rfl)<|.aW<|AX<|Ae h Bd fun h=>AO.skip<|J _ ⟨Ad 69 962072674345 [(0,true)],h⟩) fun h=>AO.exit<|Aa<|AP<|.a 1<|.p (Ol (k:=.i64) (u:=q) (v:=64) rfl)<|.aW<|Ae h (fun h=>AQ h fun ML O h=>AP<|.a 2<|.ca (adO f.gB ML O)<|.aW<|CS) fun h=>AO.skip<|Aa<|AP<|.a 1<|.p (Ol (k:=.i64) (u:=q) (v:=128) rfl)<|.aW<|Ae h (fun h=>AQ h fun x24 U h=>AP<|.a 2<|.ca (alz f.Levels x24 U)<|.aW<|CS) fun h=>ND
def WI (f:AU) (L:Bool):Option Int:=(bif L then some 1 else(aAJ f).bind fun M=>(bif (!M)then some 3 else(bif decide (f.Time<0)then some true else some (decide (f.Time>1000000000))).bind fun O=>(bif O then some true else some (decide (f.Depth<1))).bind fun U=>(bif U then some true else some (decide (f.Depth>100000))).bind fun j=>(bif j then some 2 else(bif decide ((f.bD.length:Int)>10)then some true else some (decide ((f.bJ.length:Int)>8))).bind fun m=>(bif m then some 7 else(l9 f.bD).bind fun q=>(bif (!q)then some true else(l9 f.bJ).bind fun s=>some (!s)).bind fun u=>(bif u then some 8 else(bif ((f.bD.length:Int)==0)then some (f.Kind != 1)else some false).bind fun z=>(bif z then some 9 else(bif (f.Kind==1)then some (decide ((BI ((f.bD.length:Int)+(f.bJ.length:Int)))>0))else some false).bind fun I=>(bif I then some 6 else(JU f.Kind f.Content).bind fun J=>some J)))))))
def aBb (f:AU):Option Int:=(bif (f.Kind==2)then some true else some (f.Kind==9)).bind fun m=>(bif decide (f.Kind<1)then WI f true else(bif decide (f.Kind>14)then WI f true else(Xy f.Kind).bind fun j=>(bif (!(f.State==j))then WI f true else(bif (!(f.Key.toList==BZ.toList))then WI f (!m)else WI f false))))
def agU (aO r) (h:aBb aO=some r):BF 221 [Di aO] [] (AV r) []:=Am.aH Tryz.func221 rfl<|AX<|AP<|.a 3<|AQ h fun x1 hx1 h=>.mg 7 4 (Ah x1) (.bi hx1)<|.aW<|Aa<|AO.block<|DJ (fun s=>∃(v3:Bool),CJ s ⟨BM 112 [(1,.ptr 0 0),(12,Ah v3)],[.box (Ag (Aq aO))],0⟩∧WI aO v3=some r) (by rintro s ⟨v3,hs,h⟩;exact CZ hs<|Ae h Bd fun h=>AQ h fun x5 hx5 h=>AP<|.a 1<|.ca (aln aO x5 hx5)<|.aW<|Ae h Bd fun h=>AP<|.a 3<|AQ h fun x7 hx7 h=>.mg 46 4 (Ah x7) (.bi hx7)<|.a 1<|AQ h fun x9 CG h=>.mg 52 3 (Ah x9) (CY CG)<|.a 1<|AQ h fun x11 J h=>.mg 57 3 (Ah x11) (CY J)<|.aW<|Ae h Bd fun h=>AP<|.a 2<|.p (BP AY aO.bD Bl rfl)<|.a 1<|AQ h fun x14 L h=>.mg 66 5 (Ah x14) (.bi L (k2:=fun h=>.a 2<|.p (BP AY aO.bJ Bl rfl)<|.aW<|CM))<|.aW<|Ae h Bd fun h=>AQ h fun x17 M h=>AP<|.a 2<|.ca (aLW aO.bD x17 M)<|.a 1<|AQ h fun x18 O h=>.mg 77 5 (Ah x18) (.bi O (k2:=fun h=>AQ h fun Jk U h=>.a 2<|.ca (aLW aO.bJ Jk U)<|.aW<|CM))<|.aW<|Ae h Bd fun h=>AP<|.a 2<|.p (BP AY aO.bD Bl rfl)<|.a 1<|AQ h fun ML Y h=>.mg 88 4 (Ah ML) (.bi Y)<|.aW<|Ae h Bd fun h=>AP<|.a 3<|AQ h fun x25 Z h=>.mg 97 9 (Ah x25) (.bi Z (fun h=>.a 2<|.p (BP AY aO.bD Bl rfl)<|.a 2<|.p (BP AY aO.bJ Bl rfl)<|.aW<|CM))<|.aW<|Ae h Bd fun h=>AO.skip<|AQ h fun x28 hx28 h=>AP<|.a 4<|.ca (ank aO.Kind aO.Content x28 hx28)<|.aW<|CS)<|fun q=>FD h (fun f h=>AO.draw A8 A8 A8 (.a 3<|.c (BR some f)<|.a 22<|.nil _)<|q _ ⟨true,Ad 112 4098 [(0,true)],h⟩) fun f h=>FD h (fun j h=>AO.draw A8 A8 A8 (.a 3<|.c (BR some f)<|.a 4<|.c (BR some j)<|.a 17<|.nil _)<|q _ ⟨true,Ad 112 4098 [(0,true)],h⟩) fun j h=>AQ h fun I u h=>FD h (fun m h=>AO.draw A8 A8 A8 (.a 3<|.c (BR some f)<|.a 4<|.c (BR some j)<|.a 4<|.ca (dw aO.Kind I u)<|.a 2<|.c (BR some m)<|.a 9<|.nil _)<|q _ ⟨true,Ad 112 4098 [(0,true)],h⟩) fun m h=>FD h (fun z h=>AO.draw A8 A8 A8 (.a 3<|.c (BR some f)<|.a 4<|.c (BR some j)<|.a 4<|.ca (dw aO.Kind I u)<|.a 2<|.c (BR some m)<|.a 3<|.c (BR some z)<|.a 5<|.nil _)<|q _ ⟨(!x1),Ad 112 4098 [(0,true)],h⟩) fun z h=>AO.draw A8 A8 A8 (.a 3<|.c (BR some f)<|.a 4<|.c (BR some j)<|.a 4<|.ca (dw aO.Kind I u)<|.a 2<|.c (BR some m)<|.a 3<|.c (BR some z)<|.a 5<|.nil _)<|q _ ⟨false,Ad 112 4098 [(0,true)],h⟩
def aHF (f:FM) (j:FM) (q:(Int→Option Bool)):Int→Option Bool:=fun m=>(bif decide (m<(f.length:Int))then(BJ f m).bind fun s=>(BJ j m).bind fun u=>(bif (!(s.toList==u.toList))then some false else q (BI (m+1)))else some true)
def aa4 (f:FM) (j:FM):Int→Option Bool:=bn (aHF f j) BA
def lF (f:FM) (j:FM):Option Bool:=(bif ((f.length:Int) != (j.length:Int))then some false else aa4 f j 0)
def aJt (fG fF r) (h:lF fG fF=some r):BF 293 [Gh fG,Gh fF] [] (Ah r) []:=Am.aH Tryz.func293 rfl<|AX<|Aa<|AP<|.a 1<|.p (BP CQ fG F9 rfl)<|.a 1<|.p (BP CQ fF F9 rfl)<|.aW<|Ae h Bd fun h=>AO.skip<|Aa<|AP<|.a 1<|.p (BP CQ fG F9 rfl)<|.aW<|AO.block<|Du (fun q=>⟨BM 26 [(0,Gh fG),(1,Gh fF),(12,AV (fG.length:Int)),(13,AV q)],[],0⟩) _ _ _ (Ad 26 12291 []) h<|fun s u f q h=>AX<|Aa<|Ae h (fun h=>AO.skip<|Aa<|AO.block<|AX<|C9 h fun z j I m h=>GK A8 A8 A8 (.a 2<|.p (BN CQ j F9 J3 rfl)<|.a 3<|.p (BN CQ m F9 J3 rfl)<|.a 2<|.nil _)<|Ae h Bd fun h=>AO.skip<|BG<|.a 2<|.nil<|f _ _ (Ad 26 12291 []) h) fun h=>Ey
def aCZ (f:KG) (j:KG) (q:(Int→Option Bool)):Int→Option Bool:=fun m=>(bif decide (m<(f.length:Int))then(BJ f m).bind fun s=>(BJ j m).bind fun u=>(bif (!aCC s u)then some false else q (BI (m+1)))else some true)
def aLO (f:KG) (j:KG):Int→Option Bool:=bn (aCZ f j) BA
def uN (f:KG) (j:KG):Option Bool:=(bif ((f.length:Int) != (j.length:Int))then some false else aLO f j 0)
def amW (fG fF r) (h:uN fG fF=some r):BF 294 [MB fG,MB fF] [] (Ah r) []:=Am.aH Tryz.func294 rfl<|AX<|Aa<|AP<|.a 1<|.p (BP ER fG FY rfl)<|.a 1<|.p (BP ER fF FY rfl)<|.aW<|Ae h Bd fun h=>AO.skip<|Aa<|AP<|.a 1<|.p (BP ER fG FY rfl)<|.aW<|AO.block<|Du (fun u=>⟨BM 26 [(0,MB fG),(1,MB fF),(12,AV (fG.length:Int)),(13,AV u)],[],0⟩) _ _ _ (Ad 26 12291 []) h<|fun z I m u h=>AX<|Aa<|Ae h (fun h=>AO.skip<|Aa<|AO.block<|AX<|C9 h fun f q j s h=>GK A8 A8 A8 (.a 2<|.p (BN ER q FY JQ rfl)<|.a 3<|.p (BN ER s FY JQ rfl)<|.a 1<|.p (x:=(Ah (!aCC f j))) (aEs [.string f.User,.int .i64 f.N] [.string j.User,.int .i64 j.N] (alV f j) BX anU rfl)<|.nil _)<|Ae h Bd fun h=>AO.skip<|BG<|.a 2<|.nil<|m _ _ (Ad 26 12291 []) h) fun h=>Ey
def aHh (f:KL) (j:KL) (q:(Int→Option Bool)):Int→Option Bool:=fun m=>(bif decide (m<(f.length:Int))then(BJ f m).bind fun s=>(BJ j m).bind fun u=>(bif (!aAV s u)then some false else q (BI (m+1)))else some true)
def acZ (f:KL) (j:KL):Int→Option Bool:=bn (aHh f j) BA
def aAG (f:KL) (j:KL):Option Bool:=(bif ((f.length:Int) != (j.length:Int))then some false else acZ f j 0)
def air (fG fF r) (h:aAG fG fF=some r):BF 295 [MX fG,MX fF] [] (Ah r) []:=Am.aH Tryz.func295 rfl<|AX<|Aa<|AP<|.a 1<|.p (BP EX fG FW rfl)<|.a 1<|.p (BP EX fF FW rfl)<|.aW<|Ae h Bd fun h=>AO.skip<|Aa<|AP<|.a 1<|.p (BP EX fG FW rfl)<|.aW<|AO.block<|Du (fun u=>⟨BM 26 [(0,MX fG),(1,MX fF),(12,AV (fG.length:Int)),(13,AV u)],[],0⟩) _ _ _ (Ad 26 12291 []) h<|fun z I m u h=>AX<|Aa<|Ae h (fun h=>AO.skip<|Aa<|AO.block<|AX<|C9 h fun f q j s h=>GK A8 A8 A8 (.a 2<|.p (BN EX q FW JY rfl)<|.a 3<|.p (BN EX s FW JY rfl)<|.a 1<|.p (x:=(Ah (!aAV f j))) (aEs [.int .i64 f.Kind,.int .i64 f.N] [.int .i64 j.Kind,.int .i64 j.N] (ape f j) BX am6 rfl)<|.nil _)<|Ae h Bd fun h=>AO.skip<|BG<|.a 2<|.nil<|m _ _ (Ad 26 12291 []) h) fun h=>Ey
def vU (f:Bq) (j:Bq):Option Bool:=(bif (!(f.Text.toList==j.Text.toList))then some true else some (f.N != j.N)).bind fun x1=>(bif x1 then some true else some (f.Target != j.Target)).bind fun x3=>(bif x3 then some true else some (!(f.Thread==j.Thread))).bind fun x5=>(bif x5 then some true else some (!(f.Via.toList==j.Via.toList))).bind fun x7=>(bif x7 then some true else(lF f.Allow j.Allow).bind fun m=>some (!m)).bind fun x9=>(bif x9 then some true else(lF f.gB j.gB).bind fun q=>some (!q)).bind fun s=>(bif s then some false else(uN f.Levels.Users j.Levels.Users).bind fun u=>(bif u then(aAG f.Levels.Kinds j.Levels.Kinds).bind fun z=>some z else some false).bind fun I=>(bif I then some (f.Levels.User==j.Levels.User)else some false).bind fun J=>(bif J then some (f.Levels.Message==j.Levels.Message)else some false).bind fun L=>(bif L then some (f.Levels.State==j.Levels.State)else some false).bind fun M=>(bif M then some (f.Levels.fV==j.Levels.fV)else some false).bind fun O=>(bif O then some (f.Levels.jH==j.Levels.jH)else some false).bind fun U=>(bif U then some (f.Levels.nD==j.Levels.nD)else some false).bind fun Y=>(bif Y then some (f.Levels.gQ==j.Levels.gQ)else some false).bind fun Z=>some Z)
def afj (fG fF r) (h:vU fG fF=some r):BF 222 [G5 fG,G5 fF] [] (Ah r) []:=Am.aH Tryz.func222 rfl<|AX<|AO.akQ [] 108 0x68383206638310641830062182f064302e062302d05c082c05a082b060102a05e1029060302805c182805e302705a182705c202605a28250580024056002305818220500822056182104e0821058202004c0820056281f04a081f054301e050101e052301d04e101d050201c04c181c04e281b04a181b04c281a04a201a048181904400190461818042001804820170400017046281603e0016044101503c0815042101403a0814044201304018130380813042281203e18120360812040281103e2011034081103c2010038101003a280f036100f038280e036200e034180e032100d02a000d030100c028000c032200b02e180b026000b030280a02c180a024000a02e280902c2009022000902a2008026100802008080282807024100701e080702628060242006022180601c0806020280501e200501c100501a2004016100401000040182803014100300e000301628020142002012180200c0002010280100e200100c100100a08010082800006200000410000020000 [51,52] ⟨BM 121 [(2,.ptr 0 0),(3,.ptr 1 0),(5,.ptr 2 0),(6,.ptr 3 0)],[.box (Ag (EI fG)),.box (Ag (EI fF)),.box (Ag (EY fG.Levels)),.box (Ag (EY fF.Levels))],0⟩ ⟨Zf (Ad 121 108 [(0,true),(1,true),(2,true),(3,true)]),Zf (Ad 121 108 [(0,true),(1,true),(3,true),(2,true)]),trivial⟩<|Aa<|AP<|.a 5<|AQ h fun x1 Y h=>.mg 16 6 (Ah x1) (.bi Y)<|.a 1<|AQ h fun x3 Z h=>.mg 24 5 (Ah x3) (CY Z)<|.a 1<|AQ h fun x5 hx5 h=>.mg 31 5 (Ah x5) (CY hx5)<|.a 1<|AQ h fun x7 hx7 h=>.mg 38 5 (Ah x7) (CY hx7)<|.a 1<|AQ h fun x9 CG h=>.mg 45 6 (Ah x9) (CY CG (k2:=fun e i=>by subst e;have h:=i;exact AQ h fun x11 f h=>.a 4<|.ca (aJt fG.Allow fF.Allow x11 f)<|.aW<|CM))<|.a 1<|AQ h fun x12 j h=>.mg 53 6 (Ah x12) (CY j (k2:=fun e i=>by subst e;have h:=i;exact AQ h fun x14 m h=>.a 4<|.ca (aJt fG.gB fF.gB x14 m)<|.aW<|CM))<|.aY<|Ae h Bd fun h=>AO.skip<|AQ h fun x16 q h=>AP<|.a 4<|.ca (amW fG.Levels.Users fF.Levels.Users x16 q)<|.a 1<|AQ h fun x17 s h=>.mg 66 5 (Ah x17) (CY s (fun e i=>by subst e;have h:=i;exact AQ h fun x19 u h=>.a 4<|.ca (air fG.Levels.Kinds fF.Levels.Kinds x19 u)<|.aW<|CM))<|.a 1<|AQ h fun Jk z h=>.mg 73 5 (Ah Jk) (CY z)<|.a 1<|AQ h fun ML I h=>.mg 80 5 (Ah ML) (CY I)<|.a 1<|AQ h fun x24 J h=>.mg 87 5 (Ah x24) (CY J)<|.a 1<|AQ h fun Ed L h=>.mg 94 5 (Ah Ed) (CY L)<|.a 1<|AQ h fun x28 M h=>.mg 101 5 (Ah x28) (CY M)<|.a 1<|AQ h fun x30 O h=>.mg 108 5 (Ah x30) (CY O)<|.a 1<|AQ h fun x32 U h=>.mg 115 5 (Ah x32) (CY U)<|.aW<|CS
def ZY (f:ByteArray):Option ByteArray:=(eG f oO).bind fun j=>some j.2.1
def aHY (zL r) (h:ZY zL=some r):BF 85 [D7 zL] [] (D7 r) []:=Am.aH Tryz.func85 rfl<|AX<|AQ h fun j f h=>AP<|.a 1<|.ca (aLG zL oO j f)<|.aW<|AX<|CS
def Yr (f:AU) (j:Bool):Option Int:=(bif j then some 6 else(jq f).bind fun m=>(bif (m != f.Id)then some 11 else(ZY f.bC).bind fun q=>(bif (!aBm f.nV (⟨q,f.Id⟩:Lp))then some 12 else some 0)))
def uD (f:AU):Option Int:=(aBb f).bind fun s=>(bif (s != 0)then some s else(Oj f).bind fun j=>(bif (!j)then(lC f.Kind f.Content).bind fun m=>(vU f.Content m).bind fun q=>Yr f (!q)else Yr f false))
def afb (aO r) (h:uD aO=some r):BF 159 [Di aO] [] (AV r) []:=Am.aH Tryz.func159 rfl<|AX<|Aa<|AQ h fun Y L h=>AP<|.a 1<|.ca (agU aO Y L)<|.aW<|AX<|Ae h Bd fun h=>AO.skip<|Aa<|AO.block<|DJ (fun s=>∃(M:Bool),CJ s ⟨BM 40 [(1,.ptr 0 0),(9,Ah M)],[.box (Ag (Aq aO))],0⟩∧Yr aO M=some r) (by rintro s ⟨M,Z,h⟩;exact CZ Z<|Ae h Bd fun h=>AQ h fun x5 O h=>GK A8 A8 A8 (.a 1<|.ca (aMk aO x5 O)<|.a 4<|.nil _)<|Ae h Bd fun h=>AQ h fun m U h=>GK A8 A8 A8 (.a 4<|.ca (aHY aO.bC m U)<|.a 3<|.p (x:=(Ah (!aBm aO.nV (⟨m,aO.Id⟩:Lp)))) (aEs [.string aO.nV.Server,.int .i64 aO.nV.Sum] [.string ((⟨m,aO.Id⟩:Lp).Server),.int .i64 ((⟨m,aO.Id⟩:Lp).Sum)] (akb aO.nV (⟨m,aO.Id⟩:Lp)) BX asL rfl)<|.a 1<|.nil _)<|Ae h Bd fun h=>ND)<|fun K9=>AQ h fun q j h=>FD h (fun f h=>C9 h fun u z I J h=>AO.draw A8 A8 A8 (.a 1<|.ca (xA aO q j)<|.a 1<|.c (BR some f)<|.a 6<|.ca (aLR aO.Kind aO.Content u z)<|.ca (afj aO.Content u I J)<|.a 3<|.nil _)<|K9 _ ⟨(!I),Ad 40 514 [(0,true)],h⟩) fun f h=>AO.draw A8 A8 A8 (.a 1<|.ca (xA aO q j)<|.a 1<|.c (BR some f)<|.a 11<|.nil _)<|K9 _ ⟨false,Ad 40 514 [(0,true)],h⟩
def aBZ (f:Au) (m:(Int→Option Int)):Int→Option Int:=fun j=>(bif decide (j<(f.length:Int))then(BJ f j).bind fun q=>(BJ f (BI (j-1))).bind fun s=>(bif decide (q.Id≤s.Id)then some 8 else m (BI (j+1)))else some 0)
def wL (f:Au):Int→Option Int:=bn (aBZ f) BA
def XI (f:Au) (s:(Int→Option Int)):Int→Option Int:=fun j=>(bif decide (j<(f.length:Int))then(BJ f j).bind fun m=>(BJ f 0).bind fun q=>(bif (!(m.Room.toList==q.Room.toList))then some 13 else s (BI (j+1)))else wL f 1)
def qV (f:Au):Int→Option Int:=bn (XI f) BA
def jh (f:Au) (q:(Int→Option Int)):Int→Option Int:=fun j=>(bif decide (j<(f.length:Int))then(BJ f j).bind fun s=>(uD s).bind fun m=>(bif (m != 0)then some m else q (BI (j+1)))else qV f 0)
def aCH (f:Au):Int→Option Int:=bn (jh f) BA
def NC (f:Au):Option Int:=(bif decide ((f.length:Int)>2000)then some 7 else aCH f 0)
def aiV (aB r) (h:NC aB=some r):BF 111 [BQ aB] [] (AV r) []:=Am.aH Tryz.func111 rfl<|AX<|Aa<|AP<|.a 1<|.p (BP Aq aB Cx rfl)<|.aW<|Ae h Bd fun h=>AO.skip<|Aa<|AP<|.a 1<|.p (BP Aq aB Cx rfl)<|.aW<|AO.block<|Du (fun M=>⟨BM 56 [(0,BQ aB),(12,BQ aB),(13,AV (aB.length:Int)),(14,AV M)],[],0⟩) _ _ _ (Ad 56 28673 []) h<|fun U k3 z M h=>AX<|Aa<|Ae h (fun h=>AO.skip<|Aa<|AO.block<|AQ h fun Y I h=>AP<|.p (BN Aq I Cx DZ rfl)<|.aW<|AQ h fun Z J h=>AP<|.a 1<|.ca (afb Y Z J)<|.aW<|AX<|Ae h Bd fun h=>AO.skip<|BG<|.a 2<|.nil<|z _ _ (Ad 56 28673 []) h) fun h=>AO.exit<|Aa<|AP<|.a 1<|.p (BP Aq aB Cx rfl)<|.aW<|AO.block<|Du (fun O=>⟨BM 56 [(0,BQ aB),(24,BQ aB),(25,AV (aB.length:Int)),(26,AV O)],[],0⟩) _ _ _ (Ad 56 117440513 []) h<|fun J21 k9 L O h=>AX<|Aa<|Ae h (fun h=>AO.skip<|Aa<|AO.block<|AQ h fun x11 f h=>AP<|.p (BN Aq f Cx DZ rfl)<|.aW<|AQ h fun x12 j h=>GK A8 A8 A8 (.a 3<|.p (BN Aq j Cx DZ rfl)<|.a 3<|.nil _)<|Ae h Bd fun h=>AO.skip<|BG<|.a 2<|.nil<|L _ _ (Ad 56 117440513 []) h) fun h=>AO.exit<|Aa<|AX<|AO.block<|Du (fun m=>⟨BM 56 [(0,BQ aB),(8,AV m)],[],0⟩) _ _ _ (Ad 56 257 []) h<|fun J20 k15 q m h=>Aa<|AP<|.a 2<|.p (BP Aq aB Cx rfl)<|.aW<|Ae h (fun h=>AO.skip<|Aa<|AO.block<|C9 h fun x17 s x18 u h=>GK A8 A8 A8 (.a 2<|.p (BN Aq s Cx DZ rfl)<|.a 5<|.p (BN Aq u Cx DZ rfl)<|.a 3<|.nil _)<|Ae h Bd fun h=>AO.skip<|BG<|.a 3<|.nil<|q _ _ (Ad 56 257 []) h) fun h=>Ey
def aKu (f:Au) (q:(Int→(List (Int×Int))→Option (List (Int×Int)))):Int→(List (Int×Int))→Option (List (Int×Int)):=fun j m=>(bif decide (j≥0)then(BJ f j).bind fun s=>q (BI (j-1)) (DK m s.Id j)else some m)
def adq (f:Au):Int→(List (Int×Int))→Option (List (Int×Int)):=aX (aKu f) BA
def XC (f:Au):Option (List (Int×Int)):=adq f (BI ((f.length:Int)-1)) []
def oM (aB r) (h:XC aB=some r):BF 117 [BQ aB] [] (.mp 0) [.map (List.map (Aj Aw AY) r)]:=Am.aH Tryz.func117 rfl<|AX<|AP<|.a 1<|.p (BP Aq aB Cx rfl)<|.e (x:=.mp 0) [.map (List.map (Aj Aw AY) [])] (apR (kd:=.i64) (n:=(aB.length:Int)) Oz rfl)<|.aW<|Aa<|AP<|.a 1<|.p (BP Aq aB Cx rfl)<|.aW<|AO.block<|Dy (fun f j=>⟨BM 23 [(0,BQ aB),(3,.mp 0),(4,AV f)],[.map (List.map (Aj Aw AY) j)],0⟩) _ _ _ _ (Ad 23 25 [(0,true)]) h<|fun z I q f j h=>Aa<|AX<|Ae h (fun h=>AO.skip<|Aa<|AO.block<|AQ h fun u s h=>BG<|.a 3<|.p (BN Aq s Cx DZ rfl)<|.a 3<|.e [.map (List.map (Aj Aw AY) (DK j u.Id f))] (qP (k:=0) (key:=u.Id) (val:=f) (m:=j) AY Oz Gg A8 rfl)<|.nil<|BG<|.a 3<|.nil<|q _ _ _ (Ad 23 25 [(0,true)]) h) fun h=>OL
def aCS (f:AZ) (j:(List (Int×Int))) (k2:(Int→Option Bool)):Int→Option Bool:=fun m=>(bif decide (m<(f.length:Int))then(BJ f m).bind fun q=>(bif (!((Bv j q).isSome))then some false else k2 (BI (m+1)))else some true)
def aIf (f:AZ) (j:(List (Int×Int))):Int→Option Bool:=bn (aCS f j) BA
def ku (f:AZ) (j:(List (Int×Int))):Option Bool:=aIf f j 0
def aL0 (Y0 aah r) (h:ku Y0 aah=some r):BF 223 [Bz Y0,.ptr 0 0] [.box [.mp 1],.map (List.map (Aj Aw AY) aah)] (Ah r) [.box [.mp 1],.map (List.map (Aj Aw AY) aah)]:=Am.aH Tryz.func223 rfl<|AX<|Aa<|AP<|.a 1<|.p (BP AY Y0 Bl rfl)<|.aW<|AO.block<|Du (fun s=>⟨BM 23 [(1,.ptr 0 0),(8,Bz Y0),(9,AV (Y0.length:Int)),(10,AV s)],[.box [.mp 1],.map (List.map (Aj Aw AY) aah)],2⟩) _ _ _ (Ad 23 1794 [(0,true),(1,true)]) h<|fun u k2 f s h=>AX<|Aa<|Ae h (fun h=>AO.skip<|Aa<|AO.block<|AQ h fun j q h=>AP<|.p (BN AY q Bl D6 rfl)<|.aW<|AP<|.a 2<|.p (x:=.eF [AV ((Bv aah j).getD 0),Ah ((Bv aah j).isSome)]) (aAR (k:=1) (key:=j) (m:=aah) AY 0 Oz Gg zero3 A8 A8 A8 rfl)<|.aW<|AX<|Ae h (fun h=>AX<|aIh) fun h=>AO.skip<|BG<|.a 2<|.nil<|f _ _ (Ad 23 1794 [(0,true),(1,true)]) h) fun h=>AO.exit<|AX<|aIh
def aHI (f:Au) (u:(Int→(List (Int×Int))→Option Bool)):Int→(List (Int×Int))→Option Bool:=fun j m=>(bif decide (j<(f.length:Int))then(BJ f j).bind fun z=>(ku z.bD m).bind fun I=>(bif (!I)then some true else(BJ f j).bind fun q=>(ku q.bJ m).bind fun s=>some (!s)).bind fun J=>(bif J then some false else u (BI (j+1)) m)else some true)
def aLl (f:Au):Int→(List (Int×Int))→Option Bool:=aX (aHI f) BA
def yM (f:Au):Option Bool:=(XC f).bind fun j=>aLl f 0 j
def ai0 (aB r) (h:yM aB=some r):BF 160 [BQ aB] [] (Ah r) []:=Am.aH Tryz.func160 rfl<|AX<|AQ h fun M u h=>AP<|.a 1<|.e (x:=.mp 0) [.map (List.map (Aj Aw AY) M)] (Df [] [BQ aB] (oM aB M u) rfl)<|.aW<|AP<|.p (x:=.fn (.func 223) [] [.ptr 1 0]) (OJ (fi:=[]) (ca:=[.ptr 1 0]) rfl rfl rfl)<|.aW<|Aa<|AP<|.a 1<|.p (BP Aq aB Cx rfl)<|.aW<|AO.block<|Dy (fun O f=>⟨BM 33 [(0,BQ aB),(4,.fn (.func 223) [] [.ptr 0 0]),(10,AV (aB.length:Int)),(11,AV O)],[.box [.mp 1],.map (List.map (Aj Aw AY) f)],0⟩) _ _ _ _ (Ad 33 3089 [(1,true),(0,true)]) h<|fun Z k4 z O f h=>AX<|Aa<|Ae h (fun h=>AO.skip<|Aa<|AO.block<|AX<|C9 h fun U I Y J h=>AP<|.a 3<|.p (BN Aq I Cx DZ rfl)<|.a 2<|.e (x:=(Ah Y)) [.box [.mp 1],.map (List.map (Aj Aw AY) f)] (Xk [.ent 0,.ent 1] [] [.ptr 0 0] [Bz U.bD] (aL0 U.bD f Y J) rfl (hE:=(Jv A8<|Jv A8<|trivial)))<|.a 1<|AQ h fun x8 L h=>.mg 22 9 (Ah x8) (.bi L (k2:=fun h=>C9 h fun j m q s h=>.a 3<|.p (BN Aq m Cx DZ rfl)<|.a 2<|.e (x:=(Ah q)) [.box [.mp 1],.map (List.map (Aj Aw AY) f)] (Xk [.ent 0,.ent 1] [] [.ptr 0 0] [Bz j.bJ] (aL0 j.bJ f q s) rfl (hE:=(Jv A8<|Jv A8<|trivial)))<|.aW<|CM))<|.aY<|Ae h Bd fun h=>AO.skip<|BG<|.a 2<|.nil<|z _ _ _ (Ad 33 3089 [(0,true),(1,true)]) h) fun h=>Ey
def aH9 (f:AU) (s:Au) (j:(List (Int×Int))) (u:(Int→Int→Option (Bool×(List (Int×Int))))):Int→Int→Option (Bool×(List (Int×Int))):=fun m q=>(bif decide (q<(f.bD.length:Int))then(BJ f.bD q).bind fun z=>(BJ s ((Bv j z).getD 0)).bind fun I=>u (Uu m I.Depth) (BI (q+1))else(bif decide (f.Depth>m)then some ((BI (f.Depth-m))==1)else some false).bind fun J=>some (J,j))
def aec (j:AU) (m:Au) (f:(List (Int×Int))):Int→Int→Option (Bool×(List (Int×Int))):=aX (aH9 j m f) BA
def aIZ (f:AU) (m:Au) (j:(List (Int×Int))) (k2:(Int→Option (Bool×(List (Int×Int))))):Int→Option (Bool×(List (Int×Int))):=fun q=>(bif decide (q<(f.bJ.length:Int))then(BJ f.bJ q).bind fun s=>(BJ m ((Bv j s).getD 0)).bind fun u=>(bif decide (u.Depth≥f.Depth)then some (false,j)else k2 (BI (q+1)))else(bif ((f.bD.length:Int)==0)then some ((f.Depth==1),j)else(BJ f.bD 0).bind fun z=>(BJ m ((Bv j z).getD 0)).bind fun I=>aec f m j I.Depth 0))
def aMG (j:AU) (m:Au) (f:(List (Int×Int))):Int→Option (Bool×(List (Int×Int))):=bn (aIZ j m f) BA
def aC3 (j:Au) (f:(List (Int×Int))) (m:AU):Option (Bool×(List (Int×Int))):=aMG m j f 0
def anI (aB PW eP r) (h:aC3 aB PW eP=some r):BF 161 [BQ aB,.mp 0,Di eP] [.map (List.map (Aj Aw AY) PW)] (Ah r.1) [.map (List.map (Aj Aw AY) r.2)]:=Am.aH Tryz.func161 rfl<|AX<|Aa<|AP<|.a 2<|.p (BP AY eP.bJ Bl rfl)<|.aW<|AO.block<|Du (fun v1=>⟨BM 75 [(0,BQ aB),(1,.mp 0),(5,.ptr 1 0),(13,Bz eP.bJ),(14,AV (eP.bJ.length:Int)),(15,AV v1)],[.map (List.map (Aj Aw AY) PW),.box (Ag (Aq eP))],1⟩) _ _ _ (Ad 75 57379 [(0,true),(1,true)]) h<|fun J19 k2 J v1 h=>AX<|Aa<|Ae h (fun h=>AO.skip<|Aa<|AO.block<|AQ h fun x4 L h=>AP<|.p (BN AY L Bl D6 rfl)<|.aW<|AQ h fun x5 M h=>GK A8 A8 A8 (.a 3<|.p (x:=(AV ((Bv PW x4).getD 0))) (Yc (k:=0) (key:=x4) (m:=PW) AY 0 Oz Gg zero3 A8 A8 A8 rfl)<|.p (BN Aq M Cx DZ rfl)<|.a 5<|.nil _)<|Ae h (fun h=>AX<|OB) fun h=>AO.skip<|BG<|.a 2<|.nil<|J _ _ (Ad 75 57379 [(0,true),(1,true)]) h) fun h=>AO.exit<|Aa<|AP<|.a 2<|.p (BP AY eP.bD Bl rfl)<|.aW<|Ae h (fun h=>AX<|OB) fun h=>AO.skip<|C9 h fun x8 O x9 U h=>AP<|.a 4<|.p (BN AY O Bl D6 rfl)<|.a 1<|.p (x:=(AV ((Bv PW x8).getD 0))) (Yc (k:=0) (key:=x8) (m:=PW) AY 0 Oz Gg zero3 A8 A8 A8 rfl)<|.p (BN Aq U Cx DZ rfl)<|.aW<|Aa<|AP<|.a 2<|.p (BP AY eP.bD Bl rfl)<|.aW<|AO.block<|Dy (fun f j=>⟨BM 75 [(0,BQ aB),(1,.mp 0),(5,.ptr 1 0),(9,AV f),(48,Bz eP.bD),(49,AV (eP.bD.length:Int)),(50,AV j)],[.map (List.map (Aj Aw AY) PW),.box (Ag (Aq eP))],1⟩) _ _ _ _ (Ad 75 1970324836975139 [(0,true),(1,true)]) h<|fun J18 k12 q f j h=>AX<|Aa<|Ae h (fun h=>AO.skip<|Aa<|AO.block<|AQ h fun s u h=>AP<|.p (BN AY u Bl D6 rfl)<|.aW<|AQ h fun Y z h=>BG<|.a 4<|.p (x:=(AV ((Bv PW s).getD 0))) (Yc (k:=0) (key:=s) (m:=PW) AY 0 Oz Gg zero3 A8 A8 A8 rfl)<|.p (BN Aq z Cx DZ rfl)<|.a 2<|.p (x:=(AV (Uu f Y.Depth))) (akW rfl)<|.a 1<|.nil<|BG<|.a 2<|.nil<|q _ _ _ (Ad 75 1970324836975139 [(0,true),(1,true)]) h) fun h=>AO.exit<|AP<|.a 4<|AQ h fun Z I h=>.mg 68 6 (Ah Z) (.bi I)<|.aW<|OB
def aGN (f:Au) (q:(Int→(List (Int×Int))→Option Int)):Int→(List (Int×Int))→Option Int:=fun j s=>(bif decide (j<(f.length:Int))then(BJ f j).bind fun u=>(aC3 f s u).bind fun m=>(bif (!m.1)then some 15 else q (BI (j+1)) m.2)else some 0)
def aJg (f:Au):Int→(List (Int×Int))→Option Int:=aX (aGN f) BA
def zU (f:Au):Option Int:=(yM f).bind fun j=>(bif (!j)then some 14 else(XC f).bind fun m=>aJg f 0 m)
def amD (aB r) (h:zU aB=some r):BF 112 [BQ aB] [] (AV r) []:=Am.aH Tryz.func112 rfl<|AX<|Aa<|AQ h fun M f h=>AP<|.a 1<|.ca (ai0 aB M f)<|.aW<|Ae h Bd fun h=>AO.skip<|AQ h fun I j h=>AP<|.a 1<|.e (x:=.mp 0) [.map (List.map (Aj Aw AY) I)] (Df [] [BQ aB] (oM aB I j) rfl)<|.aW<|Aa<|AP<|.a 1<|.p (BP Aq aB Cx rfl)<|.aW<|AO.block<|Dy (fun J m=>⟨BM 24 [(0,BQ aB),(3,.mp 0),(11,AV (aB.length:Int)),(12,AV J)],[.map (List.map (Aj Aw AY) m)],0⟩) _ _ _ _ (Ad 24 6153 [(0,true)]) h<|fun O U q J m h=>AX<|Aa<|Ae h (fun h=>AO.skip<|Aa<|AO.block<|AX<|C9 h fun L s u z h=>AP<|.a 4<|.p (BN Aq s Cx DZ rfl)<|.a 1<|.e (x:=(Ah u.1)) [.map (List.map (Aj Aw AY) u.2)] (Df [.ent 0] [BQ aB,.mp 0,Di L] (anI aB m L u z) rfl)<|.aW<|Ae h Bd fun h=>AO.skip<|BG<|.a 2<|.nil<|q _ _ _ (Ad 24 6153 [(0,true)]) h) fun h=>Ey
end Go.Proofs.YtolgdkhlelfpoaaGreat
end
